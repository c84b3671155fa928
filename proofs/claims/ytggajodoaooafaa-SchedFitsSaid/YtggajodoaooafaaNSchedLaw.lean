/- What the code of some functions says, as the core reads it; each reading is checked by the kernel. -/
import Derived.Test.YtggajodoaooafaaBrSeat
set_option linter.unusedVariables false
set_option maxRecDepth 100000
namespace Go.Br
open Go Go.Proofs

/-- brougham/broughamlaw19.SchedOrders -/
def N8 (x : Int) (x1 : Int) (x2 : Int) (l : Option Addr) (lN lC : Nat) (w : World) (Q : Value → World → Prop) : Prop :=
 RUNA PG (Instr.box 92 (.agg #[(.int .i64 x), (.int .i64 x1), (.int .i64 x2)])) w fun a2 w1 =>
 IFB (decide ((lN : Int) > (100 : Int)))
 (Q (.bool true) w1)
 (∃ S : World → Prop, S (w1.drew) ∧
 (RDSI PG (loadVar 90 (Addr.add a2 0)) .i64 S fun x9 =>
 RDSI PG (loadVar 3 (Addr.add a2 1)) .i64 S fun x11 =>
 RDSI PG (loadVar 3 (Addr.add a2 2)) .i64 S fun x13 =>
 RDSI PG (loadVar 90 (Addr.add a2 0)) .i64 S fun x17 =>
 RDSI PG (loadVar 3 (Addr.add a2 1)) .i64 S fun x19 =>
 RDSI PG (loadVar 3 (Addr.add a2 2)) .i64 S fun x21 =>
 CALL PG 43 [(.int .i64 x9), (.int .i64 x11), (.int .i64 x13), (.slice l lN lC)] (w1.drew) fun v w2 =>
 ∃ (x15 : Option Addr) (x15N x15C : Nat), v = (.slice x15 x15N x15C) ∧
 (∃ S1 : World → Prop, (∀ x, S1 x → S x) ∧ S1 w2 ∧
 (CALL PG 45 [(.slice l lN lC)] w2 fun v1 w3 =>
 ∃ (x23 : Option Addr) (x23N x23C : Nat), v1 = (.slice x23 x23N x23C) ∧
 (∃ S2 : World → Prop, (∀ x, S2 x → S1 x) ∧ S2 w3 ∧
 (CALL PG 44 [(.int .i64 x17), (.int .i64 x19), (.int .i64 x21), (.slice x23 x23N x23C)] w3 fun v2 w4 =>
 ∃ (x24 : Option Addr) (x24N x24C : Nat), v2 = (.slice x24 x24N x24C) ∧
 (CALL PG 42 [(.slice x15 x15N x15C), (.slice x24 x24N x24C)] w4 fun v3 w5 =>
 ∃ x25 : Bool, v3 = (.bool x25) ∧
 (IFB x25
 (CALL PG 46 [] w5 fun v4 w6 =>
 ∃ x27 : Bool, v4 = (.bool x27) ∧
 (LETB x27 fun x4 =>
 Q (.bool x4) w6))
 (LETB false fun x4v1 =>
 Q (.bool x4v1) w5)))))))))
theorem eq8 : ∀ (x : Int) (x1 : Int) (x2 : Int) (l : Option Addr) (lN lC : Nat) (w : World) (Q : Value → World → Prop), vcF PG TB Try.f8 .nil [(.agg #[(.int .i64 x), (.int .i64 x1), (.int .i64 x2)]), (.slice l lN lC)] w Q = N8 x x1 x2 l lN lC w Q := by intros; kernel_rfl
theorem call8 {x : Int} {x1 : Int} {x2 : Int} {l : Option Addr} {lN lC : Nat} {w : World} {Q : Value → World → Prop} (hN : N8 x x1 x2 l lN lC w Q) : CALL PG 8 [(.agg #[(.int .i64 x), (.int .i64 x1), (.int .i64 x2)]), (.slice l lN lC)] w Q := calls_vc tabOk Try.func8 (by rw [eq8]; exact hN)

/-- brougham/broughamlaw19.SchedChooses -/
def N9 (x : Int) (x1 : Int) (x2 : Int) (l : Option Addr) (lN lC : Nat) (w : World) (Q : Value → World → Prop) : Prop :=
 RUNA PG (Instr.box 92 (.agg #[(.int .i64 x), (.int .i64 x1), (.int .i64 x2)])) w fun a2 w1 =>
 IFB (decide ((lN : Int) > (60 : Int)))
 (Q (.bool true) w1)
 (CALL PG 47 [(.slice l lN lC)] w1 fun v w2 =>
 ∃ x10 : Bool, v = (.bool x10) ∧
 (IFB (!x10)
 (Q (.bool true) w2)
 (∃ S : World → Prop, S (w2.drew) ∧
 (RDSI PG (loadVar 90 (Addr.add a2 0)) .i64 S fun x14 =>
 RDSI PG (loadVar 3 (Addr.add a2 1)) .i64 S fun x16 =>
 RDSI PG (loadVar 3 (Addr.add a2 2)) .i64 S fun x18 =>
 RDSI PG (loadVar 90 (Addr.add a2 0)) .i64 S fun x22 =>
 RDSI PG (loadVar 3 (Addr.add a2 1)) .i64 S fun x24 =>
 RDSI PG (loadVar 3 (Addr.add a2 2)) .i64 S fun x26 =>
 CALL PG 48 [(.int .i64 x14), (.int .i64 x16), (.int .i64 x18), (.slice l lN lC)] (w2.drew) fun v1 w3 =>
 ∃ (x20 : Option Addr) (x20N x20C : Nat), v1 = (.slice x20 x20N x20C) ∧
 (∃ S1 : World → Prop, (∀ x, S1 x → S x) ∧ S1 w3 ∧
 (CALL PG 45 [(.slice l lN lC)] w3 fun v2 w4 =>
 ∃ (x28 : Option Addr) (x28N x28C : Nat), v2 = (.slice x28 x28N x28C) ∧
 (∃ S2 : World → Prop, (∀ x, S2 x → S1 x) ∧ S2 w4 ∧
 (CALL PG 49 [(.int .i64 x22), (.int .i64 x24), (.int .i64 x26), (.slice x28 x28N x28C)] w4 fun v3 w5 =>
 ∃ (x29 : Option Addr) (x29N x29C : Nat), v3 = (.slice x29 x29N x29C) ∧
 (CALL PG 42 [(.slice x20 x20N x20C), (.slice x29 x29N x29C)] w5 fun v4 w6 =>
 ∃ x30 : Bool, v4 = (.bool x30) ∧
 (IFB x30
 (CALL PG 46 [] w6 fun v5 w7 =>
 ∃ x32 : Bool, v5 = (.bool x32) ∧
 (LETB x32 fun x4 =>
 Q (.bool x4) w7))
 (LETB false fun x4v1 =>
 Q (.bool x4v1) w6)))))))))))
theorem eq9 : ∀ (x : Int) (x1 : Int) (x2 : Int) (l : Option Addr) (lN lC : Nat) (w : World) (Q : Value → World → Prop), vcF PG TB Try.f9 .nil [(.agg #[(.int .i64 x), (.int .i64 x1), (.int .i64 x2)]), (.slice l lN lC)] w Q = N9 x x1 x2 l lN lC w Q := by intros; kernel_rfl
theorem call9 {x : Int} {x1 : Int} {x2 : Int} {l : Option Addr} {lN lC : Nat} {w : World} {Q : Value → World → Prop} (hN : N9 x x1 x2 l lN lC w Q) : CALL PG 9 [(.agg #[(.int .i64 x), (.int .i64 x1), (.int .i64 x2)]), (.slice l lN lC)] w Q := calls_vc tabOk Try.func9 (by rw [eq9]; exact hN)

/-- brougham/broughamlaw19.SchedFits -/
def N10 (x : Int) (x1 : Int) (x2 : Int) (l : Option Addr) (lN lC : Nat) (w : World) (Q : Value → World → Prop) : Prop :=
 RUNA PG (Instr.box 92 (.agg #[(.int .i64 x), (.int .i64 x1), (.int .i64 x2)])) w fun a2 w1 =>
 IFB (decide ((lN : Int) > (60 : Int)))
 (Q (.bool true) w1)
 (CALL PG 47 [(.slice l lN lC)] w1 fun v w2 =>
 ∃ x17 : Bool, v = (.bool x17) ∧
 (IFB (!x17)
 (Q (.bool true) w2)
 (RDI PG (loadVar 90 (Addr.add a2 0)) .i64 w2 fun x21 =>
 RDI PG (loadVar 3 (Addr.add a2 1)) .i64 w2 fun x23 =>
 RDI PG (loadVar 3 (Addr.add a2 2)) .i64 w2 fun x25 =>
 CALL PG 48 [(.int .i64 x21), (.int .i64 x23), (.int .i64 x25), (.slice l lN lC)] w2 fun v1 w3 =>
 ∃ (x27 : Option Addr) (x27N x27C : Nat), v1 = (.slice x27 x27N x27C) ∧
 (∃ I : Nat → Int → Int → Int → World → Prop,
 (∃ m, I m (0 : Int) (0 : Int) (0 : Int) w3) ∧
 (∀ m1 (fits : Int) (good : Int) (i : Int) (w4 : World), I m1 fits good i w4 → (IFB (decide (i < (lN : Int)))
 (∃ R : Bool → World → Prop,
 (IDX l lN i fun a36 =>
 RDB PG (loadVar 4 (Addr.add (Addr.add a36 (Int.toNat i * 7)) 1)) (w4.drew) fun x38 =>
 IFB x38
 (IDX l lN i fun a42 =>
 RDI PG (loadVar 3 (Addr.add (Addr.add a42 (Int.toNat i * 7)) 4)) .i64 (w4.drew) fun x44 =>
 RDI PG (loadVar 3 (Addr.add a2 2)) .i64 (w4.drew) fun x46 =>
 IFB (decide (x44 ≥ x46))
 (R true (w4.drew))
 (IDX l lN i fun a51 =>
 RDI PG (loadVar 3 (Addr.add (Addr.add a51 (Int.toNat i * 7)) 5)) .i64 (w4.drew) fun x53 =>
 R (x53 == (0 : Int)) (w4.drew)))
 (R false (w4.drew))) ∧
 (∀ (x56 : Bool) (w5 : World), R x56 w5 → (IFB x56
 (LETI (IntKind.i64.wrap (fits + (1 : Int))) fun fits1 =>
 IDX l lN i fun a61 =>
 RDB PG (loadVar 4 (Addr.add (Addr.add a61 (Int.toNat i * 7)) 2)) w5 fun x63 =>
 IFB (!x63)
 (IDX l lN i fun a68 =>
 RDB PG (loadVar 4 (Addr.add (Addr.add a68 (Int.toNat i * 7)) 3)) w5 fun x70 =>
 IFB (!x70)
 (LETI (IntKind.i64.wrap (good + (1 : Int))) fun good1 =>
 LETI (IntKind.i64.wrap (i + (1 : Int))) fun i1 =>
 ∃ m2, m2 < m1 ∧ I m2 fits1 good1 i1 w5)
 (LETI (IntKind.i64.wrap (i + (1 : Int))) fun i2 =>
 ∃ m3, m3 < m1 ∧ I m3 fits1 good i2 w5))
 (LETI (IntKind.i64.wrap (i + (1 : Int))) fun i3 =>
 ∃ m4, m4 < m1 ∧ I m4 fits1 good i3 w5))
 (LETI (IntKind.i64.wrap (i + (1 : Int))) fun i4 =>
 ∃ m5, m5 < m1 ∧ I m5 fits good i4 w5))))
 (∃ I1 : Nat → Int → World → Prop,
 (∃ m6, I1 m6 (0 : Int) w4) ∧
 (∀ m7 (i5 : Int) (w6 : World), I1 m7 i5 w6 → (IFB (decide (i5 < (x27N : Int)))
 (∃ I2 : Nat → Bool → Int → World → Prop,
 (∃ m8, I2 m8 false (0 : Int) w6) ∧
 (∀ m9 (found : Bool) (k : Int) (w7 : World), I2 m9 found k w7 → (IFB (decide (k < (lN : Int)))
 (IDX l lN k fun a89 =>
 RDI PG (loadVar 3 (Addr.add (Addr.add a89 (Int.toNat k * 7)) 0)) .i64 (w7.drew) fun x91 =>
 IDX x27 x27N i5 fun a94 =>
 RDI PG (loadVar 3 (Addr.add a94 (Int.toNat i5 * 1))) .i64 (w7.drew) fun x95 =>
 IFB (x91 == x95)
 (IDX l lN k fun a99 =>
 RDB PG (loadVar 4 (Addr.add (Addr.add a99 (Int.toNat k * 7)) 1)) ((w7.drew).drew) fun x101 =>
 IFB x101
 (IDX l lN k fun a105 =>
 RDI PG (loadVar 3 (Addr.add (Addr.add a105 (Int.toNat k * 7)) 4)) .i64 ((w7.drew).drew) fun x107 =>
 RDI PG (loadVar 3 (Addr.add a2 2)) .i64 ((w7.drew).drew) fun x109 =>
 IFB (decide (x107 ≥ x109))
 (IFB (good == (0 : Int))
 (LETB true fun found1 =>
 LETI (IntKind.i64.wrap (k + (1 : Int))) fun k1 =>
 ∃ m10, m10 < m9 ∧ I2 m10 found1 k1 ((w7.drew).drew))
 (IDX l lN k fun a126 =>
 RDB PG (loadVar 4 (Addr.add (Addr.add a126 (Int.toNat k * 7)) 2)) ((w7.drew).drew) fun x128 =>
 IFB (!x128)
 (IDX l lN k fun a133 =>
 RDB PG (loadVar 4 (Addr.add (Addr.add a133 (Int.toNat k * 7)) 3)) ((w7.drew).drew) fun x135 =>
 LETB (!x135) fun found2 =>
 LETI (IntKind.i64.wrap (k + (1 : Int))) fun k2 =>
 ∃ m11, m11 < m9 ∧ I2 m11 found2 k2 ((w7.drew).drew))
 (LETB false fun found3 =>
 LETI (IntKind.i64.wrap (k + (1 : Int))) fun k3 =>
 ∃ m12, m12 < m9 ∧ I2 m12 found3 k3 ((w7.drew).drew))))
 (IDX l lN k fun a114 =>
 RDI PG (loadVar 3 (Addr.add (Addr.add a114 (Int.toNat k * 7)) 5)) .i64 ((w7.drew).drew) fun x116 =>
 IFB (x116 == (0 : Int))
 (IFB (good == (0 : Int))
 (LETB true fun found4 =>
 LETI (IntKind.i64.wrap (k + (1 : Int))) fun k4 =>
 ∃ m13, m13 < m9 ∧ I2 m13 found4 k4 ((w7.drew).drew))
 (IDX l lN k fun a126v1 =>
 RDB PG (loadVar 4 (Addr.add (Addr.add a126v1 (Int.toNat k * 7)) 2)) ((w7.drew).drew) fun x128v1 =>
 IFB (!x128v1)
 (IDX l lN k fun a133v1 =>
 RDB PG (loadVar 4 (Addr.add (Addr.add a133v1 (Int.toNat k * 7)) 3)) ((w7.drew).drew) fun x135v1 =>
 LETB (!x135v1) fun found5 =>
 LETI (IntKind.i64.wrap (k + (1 : Int))) fun k5 =>
 ∃ m14, m14 < m9 ∧ I2 m14 found5 k5 ((w7.drew).drew))
 (LETB false fun found6 =>
 LETI (IntKind.i64.wrap (k + (1 : Int))) fun k6 =>
 ∃ m15, m15 < m9 ∧ I2 m15 found6 k6 ((w7.drew).drew))))
 (LETB false fun found7 =>
 LETI (IntKind.i64.wrap (k + (1 : Int))) fun k7 =>
 ∃ m16, m16 < m9 ∧ I2 m16 found7 k7 ((w7.drew).drew))))
 (LETB false fun found8 =>
 LETI (IntKind.i64.wrap (k + (1 : Int))) fun k8 =>
 ∃ m17, m17 < m9 ∧ I2 m17 found8 k8 ((w7.drew).drew)))
 (LETI (IntKind.i64.wrap (k + (1 : Int))) fun k9 =>
 ∃ m18, m18 < m9 ∧ I2 m18 found k9 (w7.drew)))
 (IFB (!found)
 (Q (.bool false) w7)
 (LETI (IntKind.i64.wrap (i5 + (1 : Int))) fun i6 =>
 ∃ m19, m19 < m7 ∧ I1 m19 i6 w7)))))
 (IFB ((decide ((x27N : Int) > (0 : Int))) == (decide (fits > (0 : Int))))
 (CALL PG 46 [] w6 fun v2 w8 =>
 ∃ x149 : Bool, v2 = (.bool x149) ∧
 (LETB x149 fun x4 =>
 Q (.bool x4) w8))
 (LETB false fun x4v1 =>
 Q (.bool x4v1) w6)))))))))))
theorem eq10 : ∀ (x : Int) (x1 : Int) (x2 : Int) (l : Option Addr) (lN lC : Nat) (w : World) (Q : Value → World → Prop), vcF PG TB Try.f10 (.s .nil (.s .nil (.s .nil (.s .nil (.s (.s .nil (.u (.loop [(6, 3), (7, 3), (8, 3)] (.s .nil (.s (.u (.cut [(56, 4)] .nil .nil)) .nil))))) (.s (.s .nil (.u (.loop [(9, 3)] (.s .nil (.s (.u (.s .nil (.s (.s .nil (.u (.loop [(10, 4), (11, 3)] .nil))) .nil))) .nil))))) .nil)))))) [(.agg #[(.int .i64 x), (.int .i64 x1), (.int .i64 x2)]), (.slice l lN lC)] w Q = N10 x x1 x2 l lN lC w Q := by intros; kernel_rfl
theorem call10 {x : Int} {x1 : Int} {x2 : Int} {l : Option Addr} {lN lC : Nat} {w : World} {Q : Value → World → Prop} (hN : N10 x x1 x2 l lN lC w Q) : CALL PG 10 [(.agg #[(.int .i64 x), (.int .i64 x1), (.int .i64 x2)]), (.slice l lN lC)] w Q := calls_vc tabOk Try.func10 (by rw [eq10]; exact hN)

/-- brougham/broughamlaw19.alive -/
def N46  (w : World) (Q : Value → World → Prop) : Prop :=
 RD PG (Instr.build 103 #[(0, (.int .i64 (1 : Int))), (1, (.bool true)), (4, (.int .i64 (5 : Int))), (6, (.int .i64 (9 : Int)))]) w fun v =>
 ∃ x2 : Int, ∃ x2v1 : Bool, ∃ x2v2 : Bool, ∃ x2v3 : Bool, ∃ x2v4 : Int, ∃ x2v5 : Int, ∃ x2v6 : Int, v = (.agg #[(.int .i64 x2), (.bool x2v1), (.bool x2v2), (.bool x2v3), (.int .i64 x2v4), (.int .i64 x2v5), (.int .i64 x2v6)]) ∧
 (RD PG (Instr.build 103 #[(0, (.int .i64 (2 : Int))), (1, (.bool true)), (2, (.bool true)), (4, (.int .i64 (5 : Int))), (6, (.int .i64 (4 : Int)))]) w fun v1 =>
 ∃ x3 : Int, ∃ x3v1 : Bool, ∃ x3v2 : Bool, ∃ x3v3 : Bool, ∃ x3v4 : Int, ∃ x3v5 : Int, ∃ x3v6 : Int, v1 = (.agg #[(.int .i64 x3), (.bool x3v1), (.bool x3v2), (.bool x3v3), (.int .i64 x3v4), (.int .i64 x3v5), (.int .i64 x3v6)]) ∧
 (RUNL PG (Instr.buildSlice 93 2 #[(0, (.agg #[(.int .i64 x2), (.bool x2v1), (.bool x2v2), (.bool x2v3), (.int .i64 x2v4), (.int .i64 x2v5), (.int .i64 x2v6)])), (1, (.agg #[(.int .i64 x3), (.bool x3v1), (.bool x3v2), (.bool x3v3), (.int .i64 x3v4), (.int .i64 x3v5), (.int .i64 x3v6)]))]) w fun x4 x4N x4C w1 =>
 CALL PG 48 [(.int .i64 (1 : Int)), (.int .i64 (0 : Int)), (.int .i64 (1 : Int)), (.slice x4 x4N x4C)] w1 fun v2 w2 =>
 ∃ (x5 : Option Addr) (x5N x5C : Nat), v2 = (.slice x5 x5N x5C) ∧
 (IFB ((x5N : Int) == (1 : Int))
 (IDX x5 x5N (0 : Int) fun a11 =>
 RDI PG (loadVar 3 (Addr.add a11 (Int.toNat (0 : Int) * 1))) .i64 w2 fun x12 =>
 LETB (x12 == (1 : Int)) fun x0 =>
 Q (.bool x0) w2)
 (LETB false fun x0v1 =>
 Q (.bool x0v1) w2))))
theorem eq46 : ∀  (w : World) (Q : Value → World → Prop), vcF PG TB Try.f46 .nil [] w Q = N46  w Q := by intros; kernel_rfl
theorem call46  {w : World} {Q : Value → World → Prop} (hN : N46  w Q) : CALL PG 46 [] w Q := calls_vc tabOk Try.func46 (by rw [eq46]; exact hN)

end Go.Br
