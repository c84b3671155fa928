/- What the code of some functions says, as the core reads it; each reading is checked by the kernel. -/
import Derived.Test.YtggajodoaooafaaBrSeat
set_option linter.unusedVariables false
set_option maxRecDepth 100000
namespace Go.Br
open Go Go.Proofs

/-- brougham/broughamlaw38.PlanBounds -/
def N12 (wv : Int) (most : Int) (l : Option Addr) (lN lC : Nat) (w : World) (Q : Value → World → Prop) : Prop :=
 IFB (decide ((lN : Int) > (60 : Int)))
 (Q (.bool true) w)
 (IFB (decide (most < (0 : Int)))
 (Q (.bool true) w)
 (IFB (decide (most > (4 : Int)))
 (Q (.bool true) w)
 (∃ I : Nat → Int → Int → Int → World → Prop,
 (∃ m, I m (0 : Int) (0 : Int) (0 : Int) w) ∧
 (∀ m1 (used : Int) (good : Int) (i : Int) (w1 : World), I m1 used good i w1 → (IFB (decide (i < (lN : Int)))
 (∃ I1 : Nat → Int → World → Prop,
 (∃ m2, I1 m2 (0 : Int) w1) ∧
 (∀ m3 (k : Int) (w2 : World), I1 m3 k w2 → (IFB (decide (k < i))
 (IDX l lN k fun a41 =>
 RDI PG (loadVar 3 (Addr.add (Addr.add a41 (Int.toNat k * 7)) 0)) .i64 (w2.drew) fun x43 =>
 IDX l lN i fun a46 =>
 RDI PG (loadVar 3 (Addr.add (Addr.add a46 (Int.toNat i * 7)) 0)) .i64 (w2.drew) fun x48 =>
 IFB (x43 == x48)
 (Q (.bool true) (w2.drew))
 (LETI (IntKind.i64.wrap (k + (1 : Int))) fun k1 =>
 ∃ m4, m4 < m3 ∧ I1 m4 k1 (w2.drew)))
 (IDX l lN i fun a52 =>
 RDB PG (loadVar 4 (Addr.add (Addr.add a52 (Int.toNat i * 7)) 2)) w2 fun x54 =>
 IFB x54
 (IDX l lN i fun a58 =>
 RDB PG (loadVar 4 (Addr.add (Addr.add a58 (Int.toNat i * 7)) 1)) w2 fun x60 =>
 IFB x60
 (LETI (IntKind.i64.wrap (used + (1 : Int))) fun used1 =>
 IDX l lN i fun a66 =>
 RDB PG (loadVar 4 (Addr.add (Addr.add a66 (Int.toNat i * 7)) 4)) w2 fun x68 =>
 IFB (!x68)
 (LETI (IntKind.i64.wrap (good + (1 : Int))) fun good1 =>
 LETI (IntKind.i64.wrap (i + (1 : Int))) fun i1 =>
 ∃ m5, m5 < m1 ∧ I m5 used1 good1 i1 w2)
 (LETI (IntKind.i64.wrap (i + (1 : Int))) fun i2 =>
 ∃ m6, m6 < m1 ∧ I m6 used1 good i2 w2))
 (LETI (IntKind.i64.wrap (i + (1 : Int))) fun i3 =>
 ∃ m7, m7 < m1 ∧ I m7 used good i3 w2))
 (LETI (IntKind.i64.wrap (i + (1 : Int))) fun i4 =>
 ∃ m8, m8 < m1 ∧ I m8 used good i4 w2)))))
 (CALL PG 50 [(.int .i64 wv), (.int .i64 most), (.slice l lN lC)] w1 fun v w3 =>
 ∃ (x75 : Option Addr) (x75N x75C : Nat), ∃ (x75v1 : Option Addr) (x75N1 x75C1 : Nat), ∃ (x75v2 : Option Addr) (x75N2 x75C2 : Nat), v = (.agg #[(.slice x75 x75N x75C), (.slice x75v1 x75N1 x75C1), (.slice x75v2 x75N2 x75C2)]) ∧
 (RUNA PG (Instr.alloc 110 true (.tuple #[])) w3 fun a11 w4 =>
 RUNU PG (storeVar 110 a11 (.agg #[(.slice x75 x75N x75C), (.slice x75v1 x75N1 x75C1), (.slice x75v2 x75N2 x75C2)])) w4 fun w5 =>
 ∃ I2 : Nat → Int → World → Prop,
 (∃ m9, I2 m9 (0 : Int) w5) ∧
 (∀ m10 (i5 : Int) (w6 : World), I2 m10 i5 w6 → (RDL PG (loadVar 95 (Addr.add a11 0)) w6 fun x78 x78N x78C =>
 IFB (decide (i5 < (x78N : Int)))
 (∃ I3 : Nat → Bool → Int → World → Prop,
 (∃ m11, I3 m11 false (0 : Int) w6) ∧
 (∀ m12 (okv : Bool) (k2 : Int) (w7 : World), I3 m12 okv k2 w7 → (IFB (decide (k2 < (lN : Int)))
 (IFB okv
 (LETB true fun okv1 =>
 LETI (IntKind.i64.wrap (k2 + (1 : Int))) fun k3 =>
 ∃ m13, m13 < m12 ∧ I3 m13 okv1 k3 (w7.drew))
 (IDX l lN k2 fun a93 =>
 RDI PG (loadVar 3 (Addr.add (Addr.add a93 (Int.toNat k2 * 7)) 0)) .i64 (w7.drew) fun x95 =>
 RDL PG (loadVar 95 (Addr.add a11 0)) (w7.drew) fun x97 x97N x97C =>
 IDX x97 x97N i5 fun a99 =>
 RDI PG (loadVar 3 (Addr.add a99 (Int.toNat i5 * 1))) .i64 (w7.drew) fun x100 =>
 IFB (x95 == x100)
 (IDX l lN k2 fun a105 =>
 RDB PG (loadVar 4 (Addr.add (Addr.add a105 (Int.toNat k2 * 7)) 1)) (w7.drew) fun x107 =>
 IFB x107
 (IDX l lN k2 fun a112 =>
 RDB PG (loadVar 4 (Addr.add (Addr.add a112 (Int.toNat k2 * 7)) 2)) (w7.drew) fun x114 =>
 IFB (!x114)
 (IDX l lN k2 fun a120 =>
 RDI PG (loadVar 3 (Addr.add (Addr.add a120 (Int.toNat k2 * 7)) 6)) .i64 (w7.drew) fun x122 =>
 LETB (decide (x122 < (4 : Int))) fun okv2 =>
 LETI (IntKind.i64.wrap (k2 + (1 : Int))) fun k4 =>
 ∃ m14, m14 < m12 ∧ I3 m14 okv2 k4 (w7.drew))
 (LETB false fun okv3 =>
 LETI (IntKind.i64.wrap (k2 + (1 : Int))) fun k5 =>
 ∃ m15, m15 < m12 ∧ I3 m15 okv3 k5 (w7.drew)))
 (LETB false fun okv4 =>
 LETI (IntKind.i64.wrap (k2 + (1 : Int))) fun k6 =>
 ∃ m16, m16 < m12 ∧ I3 m16 okv4 k6 (w7.drew)))
 (LETB false fun okv5 =>
 LETI (IntKind.i64.wrap (k2 + (1 : Int))) fun k7 =>
 ∃ m17, m17 < m12 ∧ I3 m17 okv5 k7 (w7.drew))))
 (IFB (!okv)
 (Q (.bool false) w7)
 (LETI (IntKind.i64.wrap (i5 + (1 : Int))) fun i6 =>
 ∃ m18, m18 < m10 ∧ I2 m18 i6 w7)))))
 (∃ R : World → Prop,
 (RDL PG (loadVar 95 (Addr.add a11 0)) w6 fun x129 x129N x129C =>
 IFB (decide ((x129N : Int) > (0 : Int)))
 (RDL PG (loadVar 95 (Addr.add a11 0)) w6 fun x135 x135N x135C =>
 IFB (decide ((IntKind.i64.wrap (used + (x135N : Int))) > most))
 (Q (.bool false) w6)
 (R w6))
 (R w6)) ∧
 (∀  (w8 : World), R w8 → (∃ R1 : Bool → World → Prop,
 (IFB (wv == (3 : Int))
 (R1 (decide (good > (0 : Int))) w8)
 (R1 false w8)) ∧
 (∀ (x146 : Bool) (w9 : World), R1 x146 w9 → (IFB x146
 (∃ I4 : Nat → Int → Int → World → Prop,
 (∃ m19, I4 m19 (0 : Int) (0 : Int) w9) ∧
 (∀ m20 (gone : Int) (i7 : Int) (w10 : World), I4 m20 gone i7 w10 → (IFB (decide (i7 < (lN : Int)))
 (IDX l lN i7 fun a155 =>
 RDB PG (loadVar 4 (Addr.add (Addr.add a155 (Int.toNat i7 * 7)) 2)) w10 fun x157 =>
 IFB x157
 (IDX l lN i7 fun a161 =>
 RDB PG (loadVar 4 (Addr.add (Addr.add a161 (Int.toNat i7 * 7)) 1)) w10 fun x163 =>
 IFB (!x163)
 (LETI (IntKind.i64.wrap (gone + (1 : Int))) fun gone1 =>
 LETI (IntKind.i64.wrap (i7 + (1 : Int))) fun i8 =>
 ∃ m21, m21 < m20 ∧ I4 m21 gone1 i8 w10)
 (LETI (IntKind.i64.wrap (i7 + (1 : Int))) fun i9 =>
 ∃ m22, m22 < m20 ∧ I4 m22 gone i9 w10))
 (LETI (IntKind.i64.wrap (i7 + (1 : Int))) fun i10 =>
 ∃ m23, m23 < m20 ∧ I4 m23 gone i10 w10))
 (RDL PG (loadVar 95 (Addr.add a11 0)) w10 fun x169 x169N x169C =>
 IFB ((x169N : Int) == (0 : Int))
 (RDL PG (loadVar 95 (Addr.add a11 1)) w10 fun x174 x174N x174C =>
 IFB ((x174N : Int) == (IntKind.i64.wrap ((IntKind.i64.wrap (gone + used)) - (1 : Int))))
 (CALL PG 51 [] w10 fun v1 w11 =>
 ∃ x183 : Bool, v1 = (.bool x183) ∧
 (LETB x183 fun x6 =>
 Q (.bool x6) w11))
 (LETB false fun x6v1 =>
 Q (.bool x6v1) w10))
 (LETB false fun x6v2 =>
 Q (.bool x6v2) w10)))))
 (CALL PG 51 [] w9 fun v2 w12 =>
 ∃ x185 : Bool, v2 = (.bool x185) ∧
 (LETB x185 fun x6v3 =>
 Q (.bool x6v3) w12))))))))))))))))
theorem eq12 : ∀ (wv : Int) (most : Int) (l : Option Addr) (lN lC : Nat) (w : World) (Q : Value → World → Prop), vcF PG TB Try.f12 (.s .nil (.s .nil (.s .nil (.s (.s .nil (.u (.loop [(7, 3), (8, 3), (9, 3)] (.s .nil (.s (.u (.s (.s .nil (.u (.loop [(10, 3)] .nil))) .nil)) .nil))))) (.s .nil (.s (.s .nil (.u (.loop [(12, 3)] (.s .nil (.s (.u (.s .nil (.s (.s .nil (.u (.loop [(13, 4), (14, 3)] .nil))) .nil))) .nil))))) (.cut [] .nil (.s (.cut [(146, 4)] .nil (.c (.s .nil (.s (.s .nil (.u (.loop [(15, 3), (16, 3)] .nil))) .nil)) .nil)) .nil)))))))) [(.int .i64 wv), (.int .i64 most), (.slice l lN lC)] w Q = N12 wv most l lN lC w Q := by intros; kernel_rfl
theorem call12 {wv : Int} {most : Int} {l : Option Addr} {lN lC : Nat} {w : World} {Q : Value → World → Prop} (hN : N12 wv most l lN lC w Q) : CALL PG 12 [(.int .i64 wv), (.int .i64 most), (.slice l lN lC)] w Q := calls_vc tabOk Try.func12 (by rw [eq12]; exact hN)

end Go.Br
