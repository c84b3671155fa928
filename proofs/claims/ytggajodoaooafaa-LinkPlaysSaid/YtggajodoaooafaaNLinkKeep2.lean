/- What the code of some functions says, as the core reads it; each reading is checked by the kernel. -/
import Derived.Test.YtggajodoaooafaaBrSeat
set_option linter.unusedVariables false
set_option maxRecDepth 100000
namespace Go.Br
open Go Go.Proofs

/-- brougham/broughamlaw32.LinkKeeps -/
def N7 (m : Int) (m1 : Int) (m2 : Int) (m3 : Int) (m4 : Int) (m5 : Int) (seed : Int) (l : Option Addr) (lN lC : Nat) (w : World) (Q : Value → World → Prop) : Prop :=
 RUNA PG (Instr.box 64 (.agg #[(.int .i64 m), (.int .i64 m1), (.int .i64 m2), (.int .i64 m3), (.int .i64 m4), (.int .i64 m5)])) w fun a3 w1 =>
 IFB (decide ((lN : Int) > (100 : Int)))
 (Q (.bool true) w1)
 (RD PG (loadVar 64 a3) w1 fun v =>
 ∃ x20 : Int, ∃ x20v1 : Int, ∃ x20v2 : Int, ∃ x20v3 : Int, ∃ x20v4 : Int, ∃ x20v5 : Int, v = (.agg #[(.int .i64 x20), (.int .i64 x20v1), (.int .i64 x20v2), (.int .i64 x20v3), (.int .i64 x20v4), (.int .i64 x20v5)]) ∧
 (CALL PG 32 [(.agg #[(.int .i64 x20), (.int .i64 x20v1), (.int .i64 x20v2), (.int .i64 x20v3), (.int .i64 x20v4), (.int .i64 x20v5)])] w1 fun v1 w2 =>
 ∃ x21 : Int, ∃ x21v1 : Int, ∃ x21v2 : Int, ∃ x21v3 : Int, ∃ x21v4 : Int, ∃ x21v5 : Int, v1 = (.agg #[(.int .i64 x21), (.int .i64 x21v1), (.int .i64 x21v2), (.int .i64 x21v3), (.int .i64 x21v4), (.int .i64 x21v5)]) ∧
 (CALL PG 31 [(.agg #[(.int .i64 x21), (.int .i64 x21v1), (.int .i64 x21v2), (.int .i64 x21v3), (.int .i64 x21v4), (.int .i64 x21v5)])] w2 fun v2 w3 =>
 ∃ x22 : Bool, v2 = (.bool x22) ∧
 (IFB (!x22)
 (Q (.bool true) w3)
 (RD PG (loadVar 64 a3) w3 fun v3 =>
 ∃ x26 : Int, ∃ x26v1 : Int, ∃ x26v2 : Int, ∃ x26v3 : Int, ∃ x26v4 : Int, ∃ x26v5 : Int, v3 = (.agg #[(.int .i64 x26), (.int .i64 x26v1), (.int .i64 x26v2), (.int .i64 x26v3), (.int .i64 x26v4), (.int .i64 x26v5)]) ∧
 (CALL PG 30 [(.agg #[(.int .i64 x26), (.int .i64 x26v1), (.int .i64 x26v2), (.int .i64 x26v3), (.int .i64 x26v4), (.int .i64 x26v5)]), (.int .u64 seed)] w3 fun v4 w4 =>
 ∃ x28 : Option Addr, ∃ x28v1 : Int, v4 = (.tuple #[(.pointer x28), (.int .i64 x28v1)]) ∧
 (LETI x28v1 fun e =>
 IFB (e != (0 : Int))
 (Q (.bool false) w4)
 (IFB (x28.isNone)
 (Q (.bool false) w4)
 (∃ R : Bool → World → Prop,
 (RDI PG (loadVar 3 (Addr.add a3 2)) .i64 w4 fun x38 =>
 IFB (x38 == (0 : Int))
 (RDI PG (loadVar 3 (Addr.add a3 3)) .i64 w4 fun x42 =>
 IFB (x42 == (0 : Int))
 (RDI PG (loadVar 3 (Addr.add a3 1)) .i64 w4 fun x47 =>
 IFB (x47 == (0 : Int))
 (RDI PG (loadVar 3 (Addr.add a3 4)) .i64 w4 fun x52 =>
 IFB (decide (x52 ≥ (100 : Int)))
 (RDI PG (loadVar 3 (Addr.add a3 5)) .i64 w4 fun x57 =>
 LETB (decide (x57 ≥ (100 : Int))) fun calm =>
 R calm w4)
 (LETB false fun calm1 =>
 R calm1 w4))
 (LETB false fun calm2 =>
 R calm2 w4))
 (LETB false fun calm3 =>
 R calm3 w4))
 (LETB false fun calm4 =>
 R calm4 w4)) ∧
 (∀ (calm5 : Bool) (w5 : World), R calm5 w5 → (∃ I : Nat → Option Addr → Nat → Nat → Int → Int → World → Prop,
 (∃ m6, I m6 none 0 0 (0 : Int) (0 : Int) w5) ∧
 (∀ m7 (sent : Option Addr) (sentN sentC : Nat) (came : Int) (i : Int) (w6 : World), I m7 sent sentN sentC came i w6 → (RDI PG (loadVar 3 (Addr.add a3 0)) .i64 w6 fun x64 =>
 IFB (decide (i < (IntKind.i64.wrap ((IntKind.i64.wrap ((lN : Int) + x64)) + (1 : Int)))))
 (∃ R1 : Option Addr → Nat → Nat → World → Prop,
 (IFB (decide (i < (lN : Int)))
 (IDX l lN i fun a76 =>
 RDL PG (loadVar 30 (Addr.add a76 (Int.toNat i * 1))) w6 fun x77 x77N x77C =>
 IFB (decide ((x77N : Int) > (100 : Int)))
 (Q (.bool true) w6)
 (IDX l lN i fun a83 =>
 RDL PG (loadVar 30 (Addr.add a83 (Int.toNat i * 1))) w6 fun x84 x84N x84C =>
 CALL PG 38 [(.pointer x28), (.slice x84 x84N x84C)] w6 fun v5 w7 =>
 v5 = (.tuple #[]) ∧
 (IDX l lN i fun a89 =>
 RDL PG (loadVar 30 (Addr.add a89 (Int.toNat i * 1))) w7 fun x90 x90N x90C =>
 RDT PG (convert 30 9 (.slice x90 x90N x90C)) w7 fun x91 =>
 RUNL PG (Instr.buildSlice 78 1 #[(0, (.string x91))]) w7 fun x92 x92N x92C w8 =>
 RUNL PG (Builtin.append_ #[78, 78] 78 #[(.slice sent sentN sentC), (.slice x92 x92N x92C)]) w8 fun x93 x93N x93C w9 =>
 R1 x93 x93N x93C w9)))
 (R1 sent sentN sentC w6)) ∧
 (∀ (sent1 : Option Addr) (sentN1 sentC1 : Nat) (w10 : World), R1 sent1 sentN1 sentC1 w10 → (CALL PG 37 [(.pointer x28)] w10 fun v6 w11 =>
 ∃ (x95 : Option Addr) (x95N x95C : Nat), v6 = (.slice x95 x95N x95C) ∧
 (∃ I1 : Nat → Int → Int → World → Prop,
 (∃ m8, I1 m8 came (0 : Int) w11) ∧
 (∀ m9 (came1 : Int) (k : Int) (w12 : World), I1 m9 came1 k w12 → (IFB (decide (k < (x95N : Int)))
 (IFB calm5
 (IFB (decide (came1 ≥ (sentN1 : Int)))
 (Q (.bool false) (w12.drew))
 (IDX x95 x95N k fun a111 =>
 RDL PG (loadVar 30 (Addr.add a111 (Int.toNat k * 1))) (w12.drew) fun x112 x112N x112C =>
 RDT PG (convert 30 9 (.slice x112 x112N x112C)) (w12.drew) fun x113 =>
 IDX sent1 sentN1 came1 fun a116 =>
 RDT PG (loadVar 9 (Addr.add a116 (Int.toNat came1 * 1))) (w12.drew) fun x117 =>
 IFB (!(x113.toList == x117.toList))
 (Q (.bool false) (w12.drew))
 (RDI PG (loadVar 3 (Addr.add a3 0)) .i64 (w12.drew) fun x123 =>
 IFB ((IntKind.i64.wrap (came1 + x123)) != i)
 (Q (.bool false) (w12.drew))
 (LETI (IntKind.i64.wrap (came1 + (1 : Int))) fun came2 =>
 LETI (IntKind.i64.wrap (k + (1 : Int))) fun k1 =>
 ∃ m10, m10 < m9 ∧ I1 m10 came2 k1 (w12.drew)))))
 (LETI (IntKind.i64.wrap (came1 + (1 : Int))) fun came3 =>
 LETI (IntKind.i64.wrap (k + (1 : Int))) fun k2 =>
 ∃ m11, m11 < m9 ∧ I1 m11 came3 k2 (w12.drew)))
 (CALL PG 41 [(.pointer x28)] w12 fun v7 w13 =>
 ∃ x132 : Int, ∃ x132v1 : Int, ∃ x132v2 : Int, ∃ x132v3 : Int, ∃ x132v4 : Int, v7 = (.agg #[(.int .i64 x132), (.int .i64 x132v1), (.int .i64 x132v2), (.int .i64 x132v3), (.int .i64 x132v4)]) ∧
 (RUNA PG (Instr.alloc 87 true (.tuple #[])) w13 fun a15 w14 =>
 RUNU PG (storeVar 87 a15 (.agg #[(.int .i64 x132), (.int .i64 x132v1), (.int .i64 x132v2), (.int .i64 x132v3), (.int .i64 x132v4)])) w14 fun w15 =>
 ∃ S : World → Prop, S (w15.drew) ∧
 (RDSI PG (loadVar 3 (Addr.add a15 0)) .i64 S fun x134 =>
 RDSI PG (loadVar 3 (Addr.add a15 3)) .i64 S fun x136 =>
 RDSI PG (loadVar 3 (Addr.add a15 1)) .i64 S fun x139 =>
 RDSI PG (loadVar 3 (Addr.add a15 2)) .i64 S fun x141 =>
 RDSI PG (loadVar 3 (Addr.add a15 4)) .i64 S fun x144 =>
 CALL PG 40 [(.pointer x28)] (w15.drew) fun v8 w16 =>
 ∃ x147 : Int, v8 = (.int .i64 x147) ∧
 (∃ S1 : World → Prop, (∀ x, S1 x → S x) ∧ S1 w16 ∧
 (IFB ((IntKind.i64.wrap (x134 + x136)) != (IntKind.i64.wrap ((IntKind.i64.wrap ((IntKind.i64.wrap (x139 + x141)) + x144)) + x147)))
 (Q (.bool false) w16)
 (RDSI PG (loadVar 3 (Addr.add a15 4)) .i64 S1 fun x152 =>
 IFB (x152 != came1)
 (Q (.bool false) w16)
 (RDSI PG (loadVar 3 (Addr.add a3 4)) .i64 S1 fun x160 =>
 CALL PG 40 [(.pointer x28)] w16 fun v9 w17 =>
 ∃ x158 : Int, v9 = (.int .i64 x158) ∧
 (∃ S2 : World → Prop, (∀ x, S2 x → S1 x) ∧ S2 w17 ∧
 (IFB (decide (x158 > x160))
 (Q (.bool false) w17)
 (LETI (IntKind.i64.wrap (i + (1 : Int))) fun i1 =>
 ∃ m12, m12 < m7 ∧ I m12 sent1 sentN1 sentC1 came1 i1 w17))))))))))))))))
 (IFB (!calm5)
 (CALL PG 29 [] w6 fun v10 w18 =>
 ∃ x172 : Bool, v10 = (.bool x172) ∧
 (LETB x172 fun x6 =>
 Q (.bool x6) w18))
 (IFB (came == (lN : Int))
 (CALL PG 29 [] w6 fun v11 w19 =>
 ∃ x172v1 : Bool, v11 = (.bool x172v1) ∧
 (LETB x172v1 fun x6v1 =>
 Q (.bool x6v1) w19))
 (LETB false fun x6v2 =>
 Q (.bool x6v2) w6))))))))))))))))
theorem eq7 : ∀ (m : Int) (m1 : Int) (m2 : Int) (m3 : Int) (m4 : Int) (m5 : Int) (seed : Int) (l : Option Addr) (lN lC : Nat) (w : World) (Q : Value → World → Prop), vcF PG TB Try.f7 (.s .nil (.s .nil (.s .nil (.s .nil (.cut [(9, 4)] .nil (.s .nil (.s .nil (.s (.s .nil (.u (.loop [(10, 78), (11, 3), (12, 3)] (.s .nil (.s (.u (.cut [(10, 78)] .nil (.s .nil (.s (.s .nil (.u (.loop [(11, 3), (14, 3)] .nil))) .nil)))) .nil))))) .nil)))))))) [(.agg #[(.int .i64 m), (.int .i64 m1), (.int .i64 m2), (.int .i64 m3), (.int .i64 m4), (.int .i64 m5)]), (.int .u64 seed), (.slice l lN lC)] w Q = N7 m m1 m2 m3 m4 m5 seed l lN lC w Q := by intros; kernel_rfl
theorem call7 {m : Int} {m1 : Int} {m2 : Int} {m3 : Int} {m4 : Int} {m5 : Int} {seed : Int} {l : Option Addr} {lN lC : Nat} {w : World} {Q : Value → World → Prop} (hN : N7 m m1 m2 m3 m4 m5 seed l lN lC w Q) : CALL PG 7 [(.agg #[(.int .i64 m), (.int .i64 m1), (.int .i64 m2), (.int .i64 m3), (.int .i64 m4), (.int .i64 m5)]), (.int .u64 seed), (.slice l lN lC)] w Q := calls_vc tabOk Try.func7 (by rw [eq7]; exact hN)

/-- brougham/broughamref32.Right -/
def N31 (m : Int) (m1 : Int) (m2 : Int) (m3 : Int) (m4 : Int) (m5 : Int) (w : World) (Q : Value → World → Prop) : Prop :=
 RUNA PG (Instr.box 71 (.agg #[(.int .i64 m), (.int .i64 m1), (.int .i64 m2), (.int .i64 m3), (.int .i64 m4), (.int .i64 m5)])) w fun a1 w1 =>
 RDI PG (loadVar 3 (Addr.add a1 0)) .i64 w1 fun x4 =>
 IFB (decide (x4 ≥ (0 : Int)))
 (RDI PG (loadVar 3 (Addr.add a1 0)) .i64 w1 fun x8 =>
 IFB (decide (x8 ≤ (256 : Int)))
 (RDI PG (loadVar 3 (Addr.add a1 1)) .i64 w1 fun x13 =>
 IFB (decide (x13 ≥ (0 : Int)))
 (RDI PG (loadVar 3 (Addr.add a1 1)) .i64 w1 fun x18 =>
 IFB (decide (x18 ≤ (256 : Int)))
 (RDI PG (loadVar 3 (Addr.add a1 2)) .i64 w1 fun x23 =>
 IFB (decide (x23 ≥ (0 : Int)))
 (RDI PG (loadVar 3 (Addr.add a1 2)) .i64 w1 fun x28 =>
 IFB (decide (x28 ≤ (1000 : Int)))
 (RDI PG (loadVar 3 (Addr.add a1 3)) .i64 w1 fun x33 =>
 IFB (decide (x33 ≥ (0 : Int)))
 (RDI PG (loadVar 3 (Addr.add a1 3)) .i64 w1 fun x38 =>
 IFB (decide (x38 ≤ (1000 : Int)))
 (RDI PG (loadVar 3 (Addr.add a1 4)) .i64 w1 fun x43 =>
 IFB (decide (x43 ≥ (0 : Int)))
 (RDI PG (loadVar 3 (Addr.add a1 4)) .i64 w1 fun x48 =>
 IFB (decide (x48 ≤ (256 : Int)))
 (RDI PG (loadVar 3 (Addr.add a1 5)) .i64 w1 fun x53 =>
 IFB (decide (x53 ≥ (1 : Int)))
 (RDI PG (loadVar 3 (Addr.add a1 5)) .i64 w1 fun x58 =>
 LETB (decide (x58 ≤ (256 : Int))) fun x2 =>
 Q (.bool x2) w1)
 (LETB false fun x2v1 =>
 Q (.bool x2v1) w1))
 (LETB false fun x2v2 =>
 Q (.bool x2v2) w1))
 (LETB false fun x2v3 =>
 Q (.bool x2v3) w1))
 (LETB false fun x2v4 =>
 Q (.bool x2v4) w1))
 (LETB false fun x2v5 =>
 Q (.bool x2v5) w1))
 (LETB false fun x2v6 =>
 Q (.bool x2v6) w1))
 (LETB false fun x2v7 =>
 Q (.bool x2v7) w1))
 (LETB false fun x2v8 =>
 Q (.bool x2v8) w1))
 (LETB false fun x2v9 =>
 Q (.bool x2v9) w1))
 (LETB false fun x2v10 =>
 Q (.bool x2v10) w1))
 (LETB false fun x2v11 =>
 Q (.bool x2v11) w1)
theorem eq31 : ∀ (m : Int) (m1 : Int) (m2 : Int) (m3 : Int) (m4 : Int) (m5 : Int) (w : World) (Q : Value → World → Prop), vcF PG TB Try.f31 .nil [(.agg #[(.int .i64 m), (.int .i64 m1), (.int .i64 m2), (.int .i64 m3), (.int .i64 m4), (.int .i64 m5)])] w Q = N31 m m1 m2 m3 m4 m5 w Q := by intros; kernel_rfl
theorem call31 {m : Int} {m1 : Int} {m2 : Int} {m3 : Int} {m4 : Int} {m5 : Int} {w : World} {Q : Value → World → Prop} (hN : N31 m m1 m2 m3 m4 m5 w Q) : CALL PG 31 [(.agg #[(.int .i64 m), (.int .i64 m1), (.int .i64 m2), (.int .i64 m3), (.int .i64 m4), (.int .i64 m5)])] w Q := calls_vc tabOk Try.func31 (by rw [eq31]; exact hN)

/-- brougham/broughamlaw32.plain -/
def N32 (m : Int) (m1 : Int) (m2 : Int) (m3 : Int) (m4 : Int) (m5 : Int) (w : World) (Q : Value → World → Prop) : Prop :=
 RUNA PG (Instr.box 64 (.agg #[(.int .i64 m), (.int .i64 m1), (.int .i64 m2), (.int .i64 m3), (.int .i64 m4), (.int .i64 m5)])) w fun a1 w1 =>
 RUNA PG (Instr.alloc 71 true (.tuple #[])) w1 fun a2 w2 =>
 RDI PG (loadVar 3 (Addr.add a1 0)) .i64 w2 fun x4 =>
 RDI PG (loadVar 3 (Addr.add a1 1)) .i64 w2 fun x6 =>
 RDI PG (loadVar 3 (Addr.add a1 2)) .i64 w2 fun x8 =>
 RDI PG (loadVar 3 (Addr.add a1 3)) .i64 w2 fun x10 =>
 RDI PG (loadVar 3 (Addr.add a1 4)) .i64 w2 fun x12 =>
 RDI PG (loadVar 3 (Addr.add a1 5)) .i64 w2 fun x14 =>
 RD PG (Instr.build 71 #[(0, (.int .i64 x4)), (1, (.int .i64 x6)), (2, (.int .i64 x8)), (3, (.int .i64 x10)), (4, (.int .i64 x12)), (5, (.int .i64 x14))]) w2 fun v =>
 ∃ x15 : Int, ∃ x15v1 : Int, ∃ x15v2 : Int, ∃ x15v3 : Int, ∃ x15v4 : Int, ∃ x15v5 : Int, v = (.agg #[(.int .i64 x15), (.int .i64 x15v1), (.int .i64 x15v2), (.int .i64 x15v3), (.int .i64 x15v4), (.int .i64 x15v5)]) ∧
 (RUNU PG (storeVar 71 a2 (.agg #[(.int .i64 x15), (.int .i64 x15v1), (.int .i64 x15v2), (.int .i64 x15v3), (.int .i64 x15v4), (.int .i64 x15v5)])) w2 fun w3 =>
 RD PG (loadVar 71 a2) w3 fun v2 =>
 ∃ r : Int, ∃ r1 : Int, ∃ r2 : Int, ∃ r3 : Int, ∃ r4 : Int, ∃ r5 : Int, v2 = (.agg #[(.int .i64 r), (.int .i64 r1), (.int .i64 r2), (.int .i64 r3), (.int .i64 r4), (.int .i64 r5)]) ∧
 (Q (.agg #[(.int .i64 r), (.int .i64 r1), (.int .i64 r2), (.int .i64 r3), (.int .i64 r4), (.int .i64 r5)]) w3))
theorem eq32 : ∀ (m : Int) (m1 : Int) (m2 : Int) (m3 : Int) (m4 : Int) (m5 : Int) (w : World) (Q : Value → World → Prop), vcF PG TB Try.f32 .nil [(.agg #[(.int .i64 m), (.int .i64 m1), (.int .i64 m2), (.int .i64 m3), (.int .i64 m4), (.int .i64 m5)])] w Q = N32 m m1 m2 m3 m4 m5 w Q := by intros; kernel_rfl
theorem call32 {m : Int} {m1 : Int} {m2 : Int} {m3 : Int} {m4 : Int} {m5 : Int} {w : World} {Q : Value → World → Prop} (hN : N32 m m1 m2 m3 m4 m5 w Q) : CALL PG 32 [(.agg #[(.int .i64 m), (.int .i64 m1), (.int .i64 m2), (.int .i64 m3), (.int .i64 m4), (.int .i64 m5)])] w Q := calls_vc tabOk Try.func32 (by rw [eq32]; exact hN)

end Go.Br
