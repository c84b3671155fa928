/- What the code of some functions says, as the core reads it; each reading is checked by the kernel. -/
import Derived.Test.YtccmlfekmmeloaaBrSeat
set_option linter.unusedVariables false
set_option maxRecDepth 100000
namespace Go.Br
open Go Go.Proofs

/-- (*brougham/spans.Set).Gaps -/
def N83 (s : Option Addr) (fromv : Int) (tov : Int) (w : World) (Q : Value → World → Prop) : Prop :=
 NILC s fun a11 =>
 RDL PG (loadVar 144 (Addr.add a11 1)) w fun x13 x13N x13C =>
 ∃ I : Nat → Int → Option Addr → Nat → Nat → Int → World → Prop,
 (∃ m, I m fromv none 0 0 (0 : Int) w) ∧
 (∀ m1 (fromv1 : Int) (out : Option Addr) (outN outC : Nat) (x15 : Int) (w1 : World), I m1 fromv1 out outN outC x15 w1 → (IFB (decide (x15 < (x13N : Int)))
 (IDX x13 x13N x15 fun a17 =>
 RD PG (loadVar 148 (Addr.add a17 (Int.toNat x15 * 2))) w1 fun v =>
 ∃ x18 : Int, ∃ x18v1 : Int, v = (.agg #[(.int .u64 x18), (.int .u64 x18v1)]) ∧
 (RUNA PG (Instr.alloc 148 true (.tuple #[])) w1 fun a9 w2 =>
 RUNU PG (storeVar 148 a9 (.agg #[(.int .u64 x18), (.int .u64 x18v1)])) w2 fun w3 =>
 RDI PG (loadVar 42 (Addr.add a9 1)) .u64 w3 fun x20 =>
 IFB (decide (x20 ≤ fromv1))
 (∃ m2, m2 < m1 ∧ I m2 fromv1 out outN outC (IntKind.i64.wrap (x15 + (1 : Int))) w3)
 (RDI PG (loadVar 42 (Addr.add a9 0)) .u64 w3 fun x25 =>
 IFB (decide (x25 ≥ tov))
 (∃ m3, m3 < m1 ∧ I m3 fromv1 out outN outC (IntKind.i64.wrap (x15 + (1 : Int))) w3)
 (RDI PG (loadVar 42 (Addr.add a9 0)) .u64 w3 fun x30 =>
 IFB (decide (x30 > fromv1))
 (RDI PG (loadVar 42 (Addr.add a9 0)) .u64 w3 fun x36 =>
 RD PG (Instr.build 148 #[(0, (.int .u64 fromv1)), (1, (.int .u64 x36))]) w3 fun v1 =>
 ∃ x37 : Int, ∃ x37v1 : Int, v1 = (.agg #[(.int .u64 x37), (.int .u64 x37v1)]) ∧
 (RUNL PG (Instr.buildSlice 144 1 #[(0, (.agg #[(.int .u64 x37), (.int .u64 x37v1)]))]) w3 fun x38 x38N x38C w4 =>
 RUNL PG (Builtin.append_ #[144, 144] 144 #[(.slice out outN outC), (.slice x38 x38N x38C)]) w4 fun x39 x39N x39C w5 =>
 RDI PG (loadVar 42 (Addr.add a9 1)) .u64 w5 fun x41 =>
 LETI x41 fun fromv2 =>
 ∃ m4, m4 < m1 ∧ I m4 fromv2 x39 x39N x39C (IntKind.i64.wrap (x15 + (1 : Int))) w5))
 (RDI PG (loadVar 42 (Addr.add a9 1)) .u64 w3 fun x41v1 =>
 LETI x41v1 fun fromv3 =>
 ∃ m5, m5 < m1 ∧ I m5 fromv3 out outN outC (IntKind.i64.wrap (x15 + (1 : Int))) w3)))))
 (IFB (decide (fromv1 < tov))
 (RD PG (Instr.build 148 #[(0, (.int .u64 fromv1)), (1, (.int .u64 tov))]) w1 fun v2 =>
 ∃ x49 : Int, ∃ x49v1 : Int, v2 = (.agg #[(.int .u64 x49), (.int .u64 x49v1)]) ∧
 (RUNL PG (Instr.buildSlice 144 1 #[(0, (.agg #[(.int .u64 x49), (.int .u64 x49v1)]))]) w1 fun x50 x50N x50C w6 =>
 RUNL PG (Builtin.append_ #[144, 144] 144 #[(.slice out outN outC), (.slice x50 x50N x50C)]) w6 fun x51 x51N x51C w7 =>
 Q (.slice x51 x51N x51C) w7))
 (Q (.slice out outN outC) w1))))
theorem eq83 : ∀ (s : Option Addr) (fromv : Int) (tov : Int) (w : World) (Q : Value → World → Prop), vcF PG TB Try.f83 (.s .nil (.s .nil (.s (.s .nil (.u (.loop [(1, 42), (7, 144), (15, 3)] .nil))) .nil))) [(.pointer s), (.int .u64 fromv), (.int .u64 tov)] w Q = N83 s fromv tov w Q := by intros; kernel_rfl
theorem call83 {s : Option Addr} {fromv : Int} {tov : Int} {w : World} {Q : Value → World → Prop} (hN : N83 s fromv tov w Q) : CALL PG 83 [(.pointer s), (.int .u64 fromv), (.int .u64 tov)] w Q := calls_vc tabOk Try.func83 (by rw [eq83]; exact hN)

/-- (*brougham/spans.Set).Add -/
def N84 (s : Option Addr) (fromv : Int) (tov : Int) (w : World) (Q : Value → World → Prop) : Prop :=
 IFB (decide (fromv ≥ tov))
 (Q (.bool true) w)
 (CALL PG 118 [(.pointer s), (.int .u64 fromv)] w fun v w1 =>
 ∃ x14 : Int, v = (.int .i64 x14) ∧
 (LETI x14 fun i =>
 LETI i fun k =>
 ∃ R : Int → Int → Int → World → Prop,
 (∃ I : Nat → Int → Int → Int → World → Prop,
 (∃ m, I m fromv tov k w1) ∧
 (∀ m1 (fromv1 : Int) (tov1 : Int) (k1 : Int) (w2 : World), I m1 fromv1 tov1 k1 w2 → (NILC s fun a18 =>
 RDL PG (loadVar 144 (Addr.add a18 1)) w2 fun x20 x20N x20C =>
 IFB (decide (k1 < (x20N : Int)))
 (NILC s fun a25 =>
 RDL PG (loadVar 144 (Addr.add a25 1)) w2 fun x27 x27N x27C =>
 IDX x27 x27N k1 fun a29 =>
 RDI PG (loadVar 42 (Addr.add (Addr.add a29 (Int.toNat k1 * 2)) 0)) .u64 w2 fun x31 =>
 IFB (decide (x31 ≤ tov1))
 (NILC s fun a37 =>
 RDL PG (loadVar 144 (Addr.add a37 1)) w2 fun x39 x39N x39C =>
 IDX x39 x39N k1 fun a41 =>
 RDI PG (loadVar 42 (Addr.add (Addr.add a41 (Int.toNat k1 * 2)) 0)) .u64 w2 fun x43 =>
 LETI (minN fromv1 x43) fun fromv2 =>
 NILC s fun a47 =>
 RDL PG (loadVar 144 (Addr.add a47 1)) w2 fun x49 x49N x49C =>
 IDX x49 x49N k1 fun a51 =>
 RDI PG (loadVar 42 (Addr.add (Addr.add a51 (Int.toNat k1 * 2)) 1)) .u64 w2 fun x53 =>
 LETI (maxN tov1 x53) fun tov2 =>
 LETI (IntKind.i64.wrap (k1 + (1 : Int))) fun k2 =>
 ∃ m2, m2 < m1 ∧ I m2 fromv2 tov2 k2 w2)
 (R fromv1 tov1 k1 w2))
 (R fromv1 tov1 k1 w2)))) ∧
 (∀ (fromv3 : Int) (tov3 : Int) (k3 : Int) (w3 : World), R fromv3 tov3 k3 w3 → (∃ R1 : World → Prop,
 (IFB (k3 == i)
 (NILC s fun a62 =>
 RDL PG (loadVar 144 (Addr.add a62 1)) (w3.drew) fun x64 x64N x64C =>
 NILC s fun a67 =>
 RDI PG (loadVar 3 (Addr.add a67 0)) .i64 (w3.drew) fun x69 =>
 IFB ((x64N : Int) == x69)
 (Q (.bool false) (w3.drew))
 (R1 (w3.drew)))
 (R1 (w3.drew))) ∧
 (∀  (w4 : World), R1 w4 → (NILC s fun a74 =>
 RDL PG (loadVar 144 (Addr.add a74 1)) w4 fun x76 x76N x76C =>
 RD PG (Instr.build 148 #[(0, (.int .u64 fromv3)), (1, (.int .u64 tov3))]) w4 fun v1 =>
 ∃ x81 : Int, ∃ x81v1 : Int, v1 = (.agg #[(.int .u64 x81), (.int .u64 x81v1)]) ∧
 (RUNL PG (Instr.buildSlice 144 1 #[(0, (.agg #[(.int .u64 x81), (.int .u64 x81v1)]))]) w4 fun x82 x82N x82C w5 =>
 CALL PG 119 [(.slice x76 x76N x76C), (.int .i64 i), (.int .i64 k3), (.slice x82 x82N x82C)] w5 fun v2 w6 =>
 ∃ (x83 : Option Addr) (x83N x83C : Nat), v2 = (.slice x83 x83N x83C) ∧
 (NILC s fun a84 =>
 RUNU PG (storeVar 144 (Addr.add a84 1) (.slice x83 x83N x83C)) w6 fun w7 =>
 Q (.bool true) w7))))))))
theorem eq84 : ∀ (s : Option Addr) (fromv : Int) (tov : Int) (w : World) (Q : Value → World → Prop), vcF PG TB Try.f84 (.s .nil (.s .nil (.s .nil (.s .nil (.cut [(1, 42), (2, 42), (8, 3)] (.u (.loop [(1, 42), (2, 42), (8, 3)] .nil)) (.cut [] .nil .nil)))))) [(.pointer s), (.int .u64 fromv), (.int .u64 tov)] w Q = N84 s fromv tov w Q := by intros; kernel_rfl
theorem call84 {s : Option Addr} {fromv : Int} {tov : Int} {w : World} {Q : Value → World → Prop} (hN : N84 s fromv tov w Q) : CALL PG 84 [(.pointer s), (.int .u64 fromv), (.int .u64 tov)] w Q := calls_vc tabOk Try.func84 (by rw [eq84]; exact hN)

/-- (*brougham/spans.Set).Cut -/
def N88 (s : Option Addr) (below : Int) (w : World) (Q : Value → World → Prop) : Prop :=
 ∃ R : Int → World → Prop,
 (∃ I : Nat → Int → World → Prop,
 (∃ m, I m (0 : Int) w) ∧
 (∀ m1 (i : Int) (w1 : World), I m1 i w1 → (NILC s fun a7 =>
 RDL PG (loadVar 144 (Addr.add a7 1)) w1 fun x9 x9N x9C =>
 IFB (decide (i < (x9N : Int)))
 (NILC s fun a14 =>
 RDL PG (loadVar 144 (Addr.add a14 1)) w1 fun x16 x16N x16C =>
 IDX x16 x16N i fun a18 =>
 RDI PG (loadVar 42 (Addr.add (Addr.add a18 (Int.toNat i * 2)) 1)) .u64 w1 fun x20 =>
 IFB (decide (x20 ≤ below))
 (LETI (IntKind.i64.wrap (i + (1 : Int))) fun i1 =>
 ∃ m2, m2 < m1 ∧ I m2 i1 w1)
 (R i w1))
 (R i w1)))) ∧
 (∀ (i2 : Int) (w2 : World), R i2 w2 → (NILC s fun a28 =>
 RDL PG (loadVar 144 (Addr.add a28 1)) w2 fun x30 x30N x30C =>
 NEED (0 ≤ i2 ∧ i2 ≤ ((x30N : Nat) : Int) ∧ ((x30N : Nat) : Int) ≤ ((x30C : Nat) : Int))
 (CALL PG 122 [(.slice (cutA x30 x30C 2 i2) (Int.toNat ((x30N : Nat) : Int) - Int.toNat i2) (x30C - Int.toNat i2))] w2 fun v w3 =>
 ∃ (x33 : Option Addr) (x33N x33C : Nat), v = (.slice x33 x33N x33C) ∧
 (NILC s fun a34 =>
 RUNU PG (storeVar 144 (Addr.add a34 1) (.slice x33 x33N x33C)) w3 fun w4 =>
 NILC s fun a37 =>
 RDL PG (loadVar 144 (Addr.add a37 1)) w4 fun x39 x39N x39C =>
 IFB (decide ((x39N : Int) > (0 : Int)))
 (NILC s fun a43 =>
 RDL PG (loadVar 144 (Addr.add a43 1)) (w4.drew) fun x45 x45N x45C =>
 NILC s fun a47 =>
 RDL PG (loadVar 144 (Addr.add a47 1)) (w4.drew) fun x49 x49N x49C =>
 IDX x49 x49N (0 : Int) fun a50 =>
 RDI PG (loadVar 42 (Addr.add (Addr.add a50 (Int.toNat (0 : Int) * 2)) 0)) .u64 (w4.drew) fun x52 =>
 IDX x45 x45N (0 : Int) fun a55 =>
 RUNU PG (storeVar 42 (Addr.add (Addr.add a55 (Int.toNat (0 : Int) * 2)) 0) (.int .u64 (maxN x52 below))) (w4.drew) fun w5 =>
 Q (.tuple #[]) w5)
 (Q (.tuple #[]) w4)))))
theorem eq88 : ∀ (s : Option Addr) (below : Int) (w : World) (Q : Value → World → Prop), vcF PG TB Try.f88 (.s .nil (.cut [(4, 3)] (.u (.loop [(4, 3)] .nil)) .nil)) [(.pointer s), (.int .u64 below)] w Q = N88 s below w Q := by intros; kernel_rfl
theorem call88 {s : Option Addr} {below : Int} {w : World} {Q : Value → World → Prop} (hN : N88 s below w Q) : CALL PG 88 [(.pointer s), (.int .u64 below)] w Q := calls_vc tabOk Try.func88 (by rw [eq88]; exact hN)

/-- (*brougham/spans.Set).List -/
def N91 (s : Option Addr) (w : World) (Q : Value → World → Prop) : Prop :=
 NILC s fun a4 =>
 RDL PG (loadVar 144 (Addr.add a4 1)) w fun x6 x6N x6C =>
 CALL PG 122 [(.slice x6 x6N x6C)] w fun v w1 =>
 ∃ (x7 : Option Addr) (x7N x7C : Nat), v = (.slice x7 x7N x7C) ∧
 (Q (.slice x7 x7N x7C) w1)
theorem eq91 : ∀ (s : Option Addr) (w : World) (Q : Value → World → Prop), vcF PG TB Try.f91 .nil [(.pointer s)] w Q = N91 s w Q := by intros; kernel_rfl
theorem call91 {s : Option Addr} {w : World} {Q : Value → World → Prop} (hN : N91 s w Q) : CALL PG 91 [(.pointer s)] w Q := calls_vc tabOk Try.func91 (by rw [eq91]; exact hN)

/-- slices.Clone[[]brougham/spans.Span,brougham/spans.Span] -/
def N122 (s : Option Addr) (sN sC : Nat) (w : World) (Q : Value → World → Prop) : Prop :=
 IFB (s.isNone)
 (Q (.slice none 0 0) w)
 (RUNL PG (Instr.buildSlice 144 0 #[]) w fun x5 x5N x5C w1 =>
 RUNL PG (Builtin.append_ #[144, 144] 144 #[(.slice x5 x5N x5C), (.slice s sN sC)]) w1 fun x7 x7N x7C w2 =>
 Q (.slice x7 x7N x7C) w2)
theorem eq122 : ∀ (s : Option Addr) (sN sC : Nat) (w : World) (Q : Value → World → Prop), vcF PG TB Try.f122 .nil [(.slice s sN sC)] w Q = N122 s sN sC w Q := by intros; kernel_rfl
theorem call122 {s : Option Addr} {sN sC : Nat} {w : World} {Q : Value → World → Prop} (hN : N122 s sN sC w Q) : CALL PG 122 [(.slice s sN sC)] w Q := calls_vc tabOk Try.func122 (by rw [eq122]; exact hN)

end Go.Br
