/- What the code of some functions says, as the core reads it; each reading is checked by the kernel. -/
import Derived.Test.YtccmlfekmmeloaaDoorBrSeat
set_option linter.unusedVariables false
set_option maxRecDepth 100000
namespace Go.Br
open Go Go.Proofs

/-- brougham/report.Table -/
def N12 (rows : Option Addr) (rowsN rowsC : Nat) (w : World) (Q : Value → World → Prop) : Prop :=
 ∃ I : Nat → Option Addr → Nat → Nat → Int → World → Prop,
 (∃ m, I m none 0 0 (0 : Int) w) ∧
 (∀ m1 (wide : Option Addr) (wideN wideC : Nat) (x16 : Int) (w1 : World), I m1 wide wideN wideC x16 w1 → (IFB (decide (x16 < (rowsN : Int)))
 (IDX rows rowsN x16 fun a18 =>
 RDL PG (loadVar 34 (Addr.add a18 (Int.toNat x16 * 1))) w1 fun x19 x19N x19C =>
 ∃ I1 : Nat → Option Addr → Nat → Nat → Int → World → Prop,
 (∃ m2, I1 m2 wide wideN wideC (0 : Int) w1) ∧
 (∀ m3 (wide1 : Option Addr) (wideN1 wideC1 : Nat) (x22 : Int) (w2 : World), I1 m3 wide1 wideN1 wideC1 x22 w2 → (IFB (decide (x22 < (x19N : Int)))
 (IDX x19 x19N x22 fun a25 =>
 RDT PG (loadVar 9 (Addr.add a25 (Int.toNat x22 * 1))) w2 fun x26 =>
 LETI x22 fun i =>
 LETS x26 fun s =>
 IFB (i == (wideN1 : Int))
 (RUNL PG (Instr.buildSlice 22 1 #[(0, (.int .i64 (0 : Int)))]) w2 fun x32 x32N x32C w3 =>
 RUNL PG (Builtin.append_ #[22, 22] 22 #[(.slice wide1 wideN1 wideC1), (.slice x32 x32N x32C)]) w3 fun x33 x33N x33C w4 =>
 IDX x33 x33N i fun a38 =>
 RDI PG (loadVar 3 (Addr.add a38 (Int.toNat i * 1))) .i64 w4 fun x39 =>
 IDX x33 x33N i fun a43 =>
 RUNU PG (storeVar 3 (Addr.add a43 (Int.toNat i * 1)) (.int .i64 (maxN x39 ((s.size : Nat) : Int)))) w4 fun w5 =>
 ∃ m4, m4 < m3 ∧ I1 m4 x33 x33N x33C (IntKind.i64.wrap (x22 + (1 : Int))) w5)
 (IDX wide1 wideN1 i fun a38v1 =>
 RDI PG (loadVar 3 (Addr.add a38v1 (Int.toNat i * 1))) .i64 w2 fun x39v1 =>
 IDX wide1 wideN1 i fun a43v1 =>
 RUNU PG (storeVar 3 (Addr.add a43v1 (Int.toNat i * 1)) (.int .i64 (maxN x39v1 ((s.size : Nat) : Int)))) w2 fun w6 =>
 ∃ m5, m5 < m3 ∧ I1 m5 wide1 wideN1 wideC1 (IntKind.i64.wrap (x22 + (1 : Int))) w6))
 (∃ m6, m6 < m1 ∧ I m6 wide1 wideN1 wideC1 (IntKind.i64.wrap (x16 + (1 : Int))) w2))))
 (∃ I2 : Nat → ByteArray → Int → World → Prop,
 (∃ m7, I2 m7 (ByteArray.mk #[]) (0 : Int) w1) ∧
 (∀ m8 (out : ByteArray) (x48 : Int) (w7 : World), I2 m8 out x48 w7 → (IFB (decide (x48 < (rowsN : Int)))
 (IDX rows rowsN x48 fun a50 =>
 RDL PG (loadVar 34 (Addr.add a50 (Int.toNat x48 * 1))) w7 fun x51 x51N x51C =>
 ∃ I3 : Nat → ByteArray → Int → World → Prop,
 (∃ m9, I3 m9 (ByteArray.mk #[]) (0 : Int) w7) ∧
 (∀ m10 (line : ByteArray) (x54 : Int) (w8 : World), I3 m10 line x54 w8 → (IFB (decide (x54 < (x51N : Int)))
 (IDX x51 x51N x54 fun a57 =>
 RDT PG (loadVar 9 (Addr.add a57 (Int.toNat x54 * 1))) w8 fun x58 =>
 LETI x54 fun i1 =>
 LETS x58 fun s1 =>
 NEED (((line.size + s1.size : Nat) : Int) ≤ IntKind.i64.max)
 (LETS (line ++ s1) fun line1 =>
 IFB (decide (i1 < (IntKind.i64.wrap ((x51N : Int) - (1 : Int)))))
 (IDX wide wideN i1 fun a70 =>
 RDI PG (loadVar 3 (Addr.add a70 (Int.toNat i1 * 1))) .i64 w8 fun x71 =>
 CALL PG 19 [(.string (ByteArray.mk #[32])), (.int .i64 (IntKind.i64.wrap ((IntKind.i64.wrap (x71 - ((s1.size : Nat) : Int))) + (2 : Int))))] w8 fun v w9 =>
 ∃ x76 : ByteArray, v = (.string x76) ∧
 (NEED (((line1.size + x76.size : Nat) : Int) ≤ IntKind.i64.max)
 (LETS (line1 ++ x76) fun line2 =>
 ∃ m11, m11 < m10 ∧ I3 m11 line2 (IntKind.i64.wrap (x54 + (1 : Int))) w9)))
 (∃ m12, m12 < m10 ∧ I3 m12 line1 (IntKind.i64.wrap (x54 + (1 : Int))) w8)))
 (CALL PG 20 [(.string line), (.string (ByteArray.mk #[32]))] w8 fun v1 w10 =>
 ∃ x81 : ByteArray, v1 = (.string x81) ∧
 (NEED (((x81.size + (ByteArray.mk #[10]).size : Nat) : Int) ≤ IntKind.i64.max)
 (NEED (((out.size + (x81 ++ (ByteArray.mk #[10])).size : Nat) : Int) ≤ IntKind.i64.max)
 (LETS (out ++ (x81 ++ (ByteArray.mk #[10]))) fun out1 =>
 ∃ m13, m13 < m8 ∧ I2 m13 out1 (IntKind.i64.wrap (x48 + (1 : Int))) w10)))))))
 (LETS out fun x2 =>
 Q (.string x2) w7))))))
theorem eq12 : ∀ (rows : Option Addr) (rowsN rowsC : Nat) (w : World) (Q : Value → World → Prop), vcF PG TB Tryd.f12 (.s .nil (.s .nil (.s (.s .nil (.u (.loop [(3, 22), (16, 3)] (.s .nil (.s .nil (.s (.u (.s .nil (.s .nil (.u (.loop [(3, 22), (22, 3)] .nil))))) .nil)))))) (.s .nil (.s (.s .nil (.u (.loop [(8, 9), (48, 3)] (.s .nil (.s .nil (.s (.u (.s .nil (.s .nil (.s (.s .nil (.u (.loop [(11, 9), (54, 3)] .nil))) .nil)))) .nil)))))) .nil))))) [(.slice rows rowsN rowsC)] w Q = N12 rows rowsN rowsC w Q := by intros; kernel_rfl
theorem call12 {rows : Option Addr} {rowsN rowsC : Nat} {w : World} {Q : Value → World → Prop} (hN : N12 rows rowsN rowsC w Q) : CALL PG 12 [(.slice rows rowsN rowsC)] w Q := calls_vc tabOk Tryd.func12 (by rw [eq12]; exact hN)

/-- brougham/broughamref37.Table -/
def N13 (rows : Option Addr) (rowsN rowsC : Nat) (w : World) (Q : Value → World → Prop) : Prop :=
 ∃ I : Nat → ByteArray → Int → World → Prop,
 (∃ m, I m (ByteArray.mk #[]) (0 : Int) w) ∧
 (∀ m1 (out : ByteArray) (i : Int) (w1 : World), I m1 out i w1 → (IFB (decide (i < (rowsN : Int)))
 (∃ I1 : Nat → ByteArray → Int → World → Prop,
 (∃ m2, I1 m2 (ByteArray.mk #[]) (0 : Int) w1) ∧
 (∀ m3 (line : ByteArray) (k : Int) (w2 : World), I1 m3 line k w2 → (IDX rows rowsN i fun a17 =>
 RDL PG (loadVar 34 (Addr.add a17 (Int.toNat i * 1))) w2 fun x18 x18N x18C =>
 IFB (decide (k < (x18N : Int)))
 (IDX rows rowsN i fun a26 =>
 RDL PG (loadVar 34 (Addr.add a26 (Int.toNat i * 1))) w2 fun x27 x27N x27C =>
 IDX x27 x27N k fun a29 =>
 RDT PG (loadVar 9 (Addr.add a29 (Int.toNat k * 1))) w2 fun x30 =>
 NEED (((line.size + x30.size : Nat) : Int) ≤ IntKind.i64.max)
 (LETS (line ++ x30) fun line1 =>
 IDX rows rowsN i fun a34 =>
 RDL PG (loadVar 34 (Addr.add a34 (Int.toNat i * 1))) w2 fun x35 x35N x35C =>
 IDX x35 x35N k fun a37 =>
 RDT PG (loadVar 9 (Addr.add a37 (Int.toNat k * 1))) w2 fun x38 =>
 LETI ((x38.size : Nat) : Int) fun n =>
 ∃ I2 : Nat → ByteArray → Int → World → Prop,
 (∃ m4, I2 m4 line1 n w2) ∧
 (∀ m5 (line2 : ByteArray) (n1 : Int) (w3 : World), I2 m5 line2 n1 w3 → (CALL PG 21 [(.slice rows rowsN rowsC), (.int .i64 k)] w3 fun v w4 =>
 ∃ x43 : Int, v = (.int .i64 x43) ∧
 (IFB (decide (n1 < (IntKind.i64.wrap (x43 + (2 : Int)))))
 (IDX rows rowsN i fun a50 =>
 RDL PG (loadVar 34 (Addr.add a50 (Int.toNat i * 1))) w4 fun x51 x51N x51C =>
 IFB (decide (k < (IntKind.i64.wrap ((x51N : Int) - (1 : Int)))))
 (NEED (((line2.size + (ByteArray.mk #[32]).size : Nat) : Int) ≤ IntKind.i64.max)
 (LETS (line2 ++ (ByteArray.mk #[32])) fun line3 =>
 LETI (IntKind.i64.wrap (n1 + (1 : Int))) fun n2 =>
 ∃ m6, m6 < m5 ∧ I2 m6 line3 n2 w4))
 (LETI (IntKind.i64.wrap (k + (1 : Int))) fun k1 =>
 ∃ m7, m7 < m3 ∧ I1 m7 line2 k1 w4))
 (LETI (IntKind.i64.wrap (k + (1 : Int))) fun k2 =>
 ∃ m8, m8 < m3 ∧ I1 m8 line2 k2 w4))))))
 (∃ I3 : Nat → ByteArray → World → Prop,
 (∃ m9, I3 m9 line w2) ∧
 (∀ m10 (line4 : ByteArray) (w5 : World), I3 m10 line4 w5 → (IFB (decide (((line4.size : Nat) : Int) > (0 : Int)))
 (NEED (0 ≤ (IntKind.i64.wrap (((line4.size : Nat) : Int) - (1 : Int))) ∧ (IntKind.i64.wrap (((line4.size : Nat) : Int) - (1 : Int))) < line4.size)
 (IFB ((sbyte line4 (IntKind.i64.wrap (((line4.size : Nat) : Int) - (1 : Int)))) == (32 : Int))
 (NEED (0 ≤ (0 : Int) ∧ (0 : Int) ≤ (IntKind.i64.wrap (((line4.size : Nat) : Int) - (1 : Int))) ∧ (IntKind.i64.wrap (((line4.size : Nat) : Int) - (1 : Int))) ≤ line4.size)
 (LETS (cutS line4 (0 : Int) (IntKind.i64.wrap (((line4.size : Nat) : Int) - (1 : Int)))) fun line5 =>
 ∃ m11, m11 < m10 ∧ I3 m11 line5 w5))
 (NEED (((line4.size + (ByteArray.mk #[10]).size : Nat) : Int) ≤ IntKind.i64.max)
 (NEED (((out.size + (line4 ++ (ByteArray.mk #[10])).size : Nat) : Int) ≤ IntKind.i64.max)
 (LETS (out ++ (line4 ++ (ByteArray.mk #[10]))) fun out1 =>
 LETI (IntKind.i64.wrap (i + (1 : Int))) fun i1 =>
 ∃ m12, m12 < m1 ∧ I m12 out1 i1 w5)))))
 (NEED (((line4.size + (ByteArray.mk #[10]).size : Nat) : Int) ≤ IntKind.i64.max)
 (NEED (((out.size + (line4 ++ (ByteArray.mk #[10])).size : Nat) : Int) ≤ IntKind.i64.max)
 (LETS (out ++ (line4 ++ (ByteArray.mk #[10]))) fun out2 =>
 LETI (IntKind.i64.wrap (i + (1 : Int))) fun i2 =>
 ∃ m13, m13 < m1 ∧ I m13 out2 i2 w5)))))))))
 (LETS out fun x2 =>
 Q (.string x2) w1)))
theorem eq13 : ∀ (rows : Option Addr) (rowsN rowsC : Nat) (w : World) (Q : Value → World → Prop), vcF PG TB Tryd.f13 (.s .nil (.s .nil (.s (.s .nil (.u (.loop [(3, 9), (4, 3)] (.s .nil (.s (.u (.s .nil (.s (.s .nil (.u (.loop [(5, 9), (6, 3)] (.s .nil (.s (.u (.s .nil (.s .nil (.u (.loop [(5, 9), (7, 3)] .nil))))) .nil))))) (.s (.u (.loop [(5, 9)] .nil)) .nil)))) .nil))))) .nil))) [(.slice rows rowsN rowsC)] w Q = N13 rows rowsN rowsC w Q := by intros; kernel_rfl
theorem call13 {rows : Option Addr} {rowsN rowsC : Nat} {w : World} {Q : Value → World → Prop} (hN : N13 rows rowsN rowsC w Q) : CALL PG 13 [(.slice rows rowsN rowsC)] w Q := calls_vc tabOk Tryd.func13 (by rw [eq13]; exact hN)

/-- brougham/broughamref37.widest -/
def N21 (rows : Option Addr) (rowsN rowsC : Nat) (col : Int) (w : World) (Q : Value → World → Prop) : Prop :=
 ∃ I : Nat → Int → Int → World → Prop,
 (∃ m, I m (0 : Int) (0 : Int) w) ∧
 (∀ m1 (n : Int) (i : Int) (w1 : World), I m1 n i w1 → (IFB (decide (i < (rowsN : Int)))
 (IDX rows rowsN i fun a16 =>
 RDL PG (loadVar 34 (Addr.add a16 (Int.toNat i * 1))) w1 fun x17 x17N x17C =>
 IFB (decide (col < (x17N : Int)))
 (IDX rows rowsN i fun a23 =>
 RDL PG (loadVar 34 (Addr.add a23 (Int.toNat i * 1))) w1 fun x24 x24N x24C =>
 IDX x24 x24N col fun a26 =>
 RDT PG (loadVar 9 (Addr.add a26 (Int.toNat col * 1))) w1 fun x27 =>
 IFB (decide (((x27.size : Nat) : Int) > n))
 (IDX rows rowsN i fun a34 =>
 RDL PG (loadVar 34 (Addr.add a34 (Int.toNat i * 1))) w1 fun x35 x35N x35C =>
 IDX x35 x35N col fun a37 =>
 RDT PG (loadVar 9 (Addr.add a37 (Int.toNat col * 1))) w1 fun x38 =>
 LETI ((x38.size : Nat) : Int) fun n1 =>
 LETI (IntKind.i64.wrap (i + (1 : Int))) fun i1 =>
 ∃ m2, m2 < m1 ∧ I m2 n1 i1 w1)
 (LETI (IntKind.i64.wrap (i + (1 : Int))) fun i2 =>
 ∃ m3, m3 < m1 ∧ I m3 n i2 w1))
 (LETI (IntKind.i64.wrap (i + (1 : Int))) fun i3 =>
 ∃ m4, m4 < m1 ∧ I m4 n i3 w1))
 (LETI n fun x4 =>
 Q (.int .i64 x4) w1)))
theorem eq21 : ∀ (rows : Option Addr) (rowsN rowsC : Nat) (col : Int) (w : World) (Q : Value → World → Prop), vcF PG TB Tryd.f21 (.s .nil (.s .nil (.s (.s .nil (.u (.loop [(5, 3), (6, 3)] .nil))) .nil))) [(.slice rows rowsN rowsC), (.int .i64 col)] w Q = N21 rows rowsN rowsC col w Q := by intros; kernel_rfl
theorem call21 {rows : Option Addr} {rowsN rowsC : Nat} {col : Int} {w : World} {Q : Value → World → Prop} (hN : N21 rows rowsN rowsC col w Q) : CALL PG 21 [(.slice rows rowsN rowsC), (.int .i64 col)] w Q := calls_vc tabOk Tryd.func21 (by rw [eq21]; exact hN)

end Go.Br
