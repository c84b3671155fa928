/- What the code of some functions says, as the core reads it; each reading is checked by the kernel. -/
import Derived.Test.YtegocoicdcpgaaaBrSeat
set_option linter.unusedVariables false
set_option maxRecDepth 100000
namespace Go.Br
open Go Go.Proofs

/-- brougham/broughamlaw44.HistPlays -/
def N7 (l : Option Addr) (lN lC : Nat) (m : Option Addr) (mN mC : Nat) (part : Int) (w : World) (Q : Value → World → Prop) : Prop :=
 IFB (decide ((lN : Int) > (40 : Int)))
 (Q (.bool true) w)
 (IFB (decide ((mN : Int) > (40 : Int)))
 (Q (.bool true) w)
 (RD PG (Instr.build 56 #[]) w fun v =>
 ∃ x19 : Value, v = x19 ∧
 (RD PG (Instr.build 56 #[]) w fun v1 =>
 ∃ x20 : Value, v1 = x20 ∧
 (RUN PG (Instr.alloc 56 true (.tuple #[])) w fun v2 w1 =>
 ∃ a7 : Addr, v2 = (.pointer (some a7)) ∧
 (RUN PG (Instr.alloc 56 true (.tuple #[])) w1 fun v3 w2 =>
 ∃ a8 : Addr, v3 = (.pointer (some a8)) ∧
 (RUNU PG (storeVar 56 a7 x19) w2 fun w3 =>
 RUNU PG (storeVar 56 a8 x20) w3 fun w4 =>
 ∃ I : Nat → Int → World → Prop,
 (∃ m1, I m1 (0 : Int) w4) ∧
 (∀ m2 (i : Int) (w5 : World), I m2 i w5 → (IFB (decide (i < (lN : Int)))
 (IDX l lN i fun a29 =>
 RD PG (loadVar 3 (Addr.add (Addr.add a29 (Int.toNat i * 2)) 0)) (w5.drew) fun v4 =>
 ∃ x31 : Int, v4 = (.int .i64 x31) ∧
 (IDX l lN i fun a34 =>
 RD PG (loadVar 3 (Addr.add (Addr.add a34 (Int.toNat i * 2)) 1)) (w5.drew) fun v5 =>
 ∃ x36 : Int, v5 = (.int .i64 x36) ∧
 (CALL PG 37 [(.pointer (some a7)), (.int .i64 x31), (.int .i64 x36)] (w5.drew) fun v6 w6 =>
 v6 = (.tuple #[]) ∧
 (LETI (IntKind.i64.wrap (i + (1 : Int))) fun i1 =>
 ∃ m3, m3 < m2 ∧ I m3 i1 w6))))
 (∃ I1 : Nat → Int → World → Prop,
 (∃ m4, I1 m4 (0 : Int) w5) ∧
 (∀ m5 (i2 : Int) (w7 : World), I1 m5 i2 w7 → (IFB (decide (i2 < (mN : Int)))
 (IDX m mN i2 fun a46 =>
 RD PG (loadVar 3 (Addr.add (Addr.add a46 (Int.toNat i2 * 2)) 0)) (w7.drew) fun v7 =>
 ∃ x48 : Int, v7 = (.int .i64 x48) ∧
 (IDX m mN i2 fun a51 =>
 RD PG (loadVar 3 (Addr.add (Addr.add a51 (Int.toNat i2 * 2)) 1)) (w7.drew) fun v8 =>
 ∃ x53 : Int, v8 = (.int .i64 x53) ∧
 (CALL PG 37 [(.pointer (some a8)), (.int .i64 x48), (.int .i64 x53)] (w7.drew) fun v9 w8 =>
 v9 = (.tuple #[]) ∧
 (LETI (IntKind.i64.wrap (i2 + (1 : Int))) fun i3 =>
 ∃ m6, m6 < m5 ∧ I1 m6 i3 w8))))
 (CALL PG 38 [(.pointer (some a7)), (.slice l lN lC), (.int .i64 part)] w7 fun v10 w9 =>
 ∃ x57 : Bool, v10 = (.bool x57) ∧
 (IFB (!x57)
 (Q (.bool false) w9)
 (CALL PG 38 [(.pointer (some a8)), (.slice m mN mC), (.int .i64 part)] w9 fun v11 w10 =>
 ∃ x62 : Bool, v11 = (.bool x62) ∧
 (IFB (!x62)
 (Q (.bool false) w10)
 (CALL PG 39 [(.pointer (some a7)), (.pointer (some a8))] w10 fun v12 w11 =>
 v12 = (.tuple #[]) ∧
 (CALL PG 39 [(.pointer (some a7)), (.pointer none)] w11 fun v13 w12 =>
 v13 = (.tuple #[]) ∧
 (RUN PG (Instr.buildSlice 53 0 #[]) w12 fun v14 w13 =>
 ∃ (x67 : Option Addr) (x67N x67C : Nat), v14 = (.slice x67 x67N x67C) ∧
 (RUN PG (Builtin.append_ #[53, 53] 53 #[(.slice x67 x67N x67C), (.slice l lN lC)]) w13 fun v15 w14 =>
 ∃ (x69 : Option Addr) (x69N x69C : Nat), v15 = (.slice x69 x69N x69C) ∧
 (RUN PG (Builtin.append_ #[53, 53] 53 #[(.slice x69 x69N x69C), (.slice m mN mC)]) w14 fun v16 w15 =>
 ∃ (x71 : Option Addr) (x71N x71C : Nat), v16 = (.slice x71 x71N x71C) ∧
 (CALL PG 38 [(.pointer (some a7)), (.slice x71 x71N x71C), (.int .i64 part)] w15 fun v17 w16 =>
 ∃ x73 : Bool, v17 = (.bool x73) ∧
 (IFB x73
 (CALL PG 38 [(.pointer (some a8)), (.slice m mN mC), (.int .i64 part)] w16 fun v18 w17 =>
 ∃ x77 : Bool, v18 = (.bool x77) ∧
 (IFB x77
 (CALL PG 29 [] w17 fun v19 w18 =>
 ∃ x80 : Bool, v19 = (.bool x80) ∧
 (LETB x80 fun x6 =>
 Q (.bool x6) w18))
 (LETB false fun x6v1 =>
 Q (.bool x6v1) w17)))
 (LETB false fun x6v2 =>
 Q (.bool x6v2) w16)))))))))))))))))))))))
theorem eq7 : ∀ (l : Option Addr) (lN lC : Nat) (m : Option Addr) (mN mC : Nat) (part : Int) (w : World) (Q : Value → World → Prop), vcF PG TB Try.f7 (.s .nil (.s .nil (.s .nil (.s (.s .nil (.u (.loop [(9, 3)] .nil))) (.s (.s .nil (.u (.loop [(10, 3)] .nil))) .nil))))) [(.slice l lN lC), (.slice m mN mC), (.int .i64 part)] w Q = N7 l lN lC m mN mC part w Q := by intros; kernel_rfl
theorem call7 {l : Option Addr} {lN lC : Nat} {m : Option Addr} {mN mC : Nat} {part : Int} {w : World} {Q : Value → World → Prop} (hN : N7 l lN lC m mN mC part w Q) : CALL PG 7 [(.slice l lN lC), (.slice m mN mC), (.int .i64 part)] w Q := calls_vc tabOk Try.func7 (by rw [eq7]; exact hN)

/-- brougham/broughamlaw44.same -/
def N38 (h : Option Addr) (l : Option Addr) (lN lC : Nat) (part : Int) (w : World) (Q : Value → World → Prop) : Prop :=
 CALL PG 93 [(.slice l lN lC)] w fun v w1 =>
 ∃ x14 : Int, ∃ x14v1 : Int, v = (.tuple #[(.int .i64 x14), (.int .i64 x14v1)]) ∧
 (LETI x14 fun many =>
 LETI x14v1 fun sum =>
 ∃ R : Int → World → Prop,
 (IFB (decide (many > (0 : Int)))
 (NEED (many ≠ 0)
 (LETI (IntKind.i64.wrap (Int.tdiv sum many)) fun mean =>
 R mean w1))
 (R (0 : Int) w1)) ∧
 (∀ (mean1 : Int) (w2 : World), R mean1 w2 → (∃ I : Nat → Int → World → Prop,
 (∃ m, I m (0 : Int) w2) ∧
 (∀ m1 (i : Int) (w3 : World), I m1 i w3 → (IFB (decide (i < (lN : Int)))
 (IDX l lN i fun a30 =>
 RD PG (loadVar 3 (Addr.add (Addr.add a30 (Int.toNat i * 2)) 0)) w3 fun v1 =>
 ∃ x32 : Int, v1 = (.int .i64 x32) ∧
 (CALL PG 26 [(.int .i64 x32)] w3 fun v2 w4 =>
 ∃ x33 : Int, v2 = (.int .i64 x33) ∧
 (LETI x33 fun r =>
 CALL PG 94 [(.pointer h), (.int .i64 r)] w4 fun v3 w5 =>
 ∃ x36 : Int, v3 = (.int .i64 x36) ∧
 (CALL PG 95 [(.slice l lN lC), (.int .i64 r)] w5 fun v4 w6 =>
 ∃ x39 : Int, v4 = (.int .i64 x39) ∧
 (IFB (x36 != x39)
 (Q (.bool false) w6)
 (LETI (IntKind.i64.wrap (i + (1 : Int))) fun i1 =>
 ∃ m2, m2 < m1 ∧ I m2 i1 w6))))))
 (CALL PG 89 [(.pointer h)] w3 fun v5 w7 =>
 ∃ x42 : Int, v5 = (.int .i64 x42) ∧
 (IFB (x42 == many)
 (CALL PG 90 [(.pointer h)] w7 fun v6 w8 =>
 ∃ x47 : Int, v6 = (.int .i64 x47) ∧
 (IFB (x47 == mean1)
 (CALL PG 96 [(.pointer h), (.int .i64 part)] w8 fun v7 w9 =>
 ∃ x54 : Int, v7 = (.int .i64 x54) ∧
 (CALL PG 97 [(.slice l lN lC), (.int .i64 part)] w9 fun v8 w10 =>
 ∃ x57 : Int, v8 = (.int .i64 x57) ∧
 (IFB (x54 == x57)
 (CALL PG 94 [(.pointer h), (.int .i64 (-1 : Int))] w10 fun v9 w11 =>
 ∃ x62 : Int, v9 = (.int .i64 x62) ∧
 (IFB (x62 == (0 : Int))
 (CALL PG 94 [(.pointer h), (.int .i64 (120 : Int))] w11 fun v10 w12 =>
 ∃ x67 : Int, v10 = (.int .i64 x67) ∧
 (LETB (x67 == (0 : Int)) fun x6 =>
 Q (.bool x6) w12))
 (LETB false fun x6v1 =>
 Q (.bool x6v1) w11)))
 (LETB false fun x6v2 =>
 Q (.bool x6v2) w10))))
 (LETB false fun x6v3 =>
 Q (.bool x6v3) w8)))
 (LETB false fun x6v4 =>
 Q (.bool x6v4) w7))))))))
theorem eq38 : ∀ (h : Option Addr) (l : Option Addr) (lN lC : Nat) (part : Int) (w : World) (Q : Value → World → Prop), vcF PG TB Try.f38 (.s .nil (.s .nil (.s .nil (.cut [(9, 3)] .nil (.s (.s .nil (.u (.loop [(10, 3)] .nil))) .nil))))) [(.pointer h), (.slice l lN lC), (.int .i64 part)] w Q = N38 h l lN lC part w Q := by intros; kernel_rfl
theorem call38 {h : Option Addr} {l : Option Addr} {lN lC : Nat} {part : Int} {w : World} {Q : Value → World → Prop} (hN : N38 h l lN lC part w Q) : CALL PG 38 [(.pointer h), (.slice l lN lC), (.int .i64 part)] w Q := calls_vc tabOk Try.func38 (by rw [eq38]; exact hN)

/-- brougham/broughamref44.Below -/
def N97 (l : Option Addr) (lN lC : Nat) (part : Int) (w : World) (Q : Value → World → Prop) : Prop :=
 ∃ R : Int → World → Prop,
 (IFB (decide (part < (0 : Int)))
 (R (0 : Int) w)
 (R part w)) ∧
 (∀ (part1 : Int) (w1 : World), R part1 w1 → (∃ R1 : Int → World → Prop,
 (IFB (decide (part1 > (1000 : Int)))
 (R1 (1000 : Int) w1)
 (R1 part1 w1)) ∧
 (∀ (part2 : Int) (w2 : World), R1 part2 w2 → (CALL PG 93 [(.slice l lN lC)] w2 fun v w3 =>
 ∃ x19 : Int, ∃ x19v1 : Int, v = (.tuple #[(.int .i64 x19), (.int .i64 x19v1)]) ∧
 (LETI x19 fun many =>
 LETI x19v1 fun x =>
 ∃ I : Nat → Option Addr → Nat → Nat → Int → World → Prop,
 (∃ m, I m none 0 0 (0 : Int) w3) ∧
 (∀ m1 (rows : Option Addr) (rowsN rowsC : Nat) (i : Int) (w4 : World), I m1 rows rowsN rowsC i w4 → (IFB (decide (i < (lN : Int)))
 (IDX l lN i fun a31 =>
 RD PG (loadVar 3 (Addr.add (Addr.add a31 (Int.toNat i * 2)) 0)) w4 fun v1 =>
 ∃ x33 : Int, v1 = (.int .i64 x33) ∧
 (CALL PG 26 [(.int .i64 x33)] w4 fun v2 w5 =>
 ∃ x34 : Int, v2 = (.int .i64 x34) ∧
 (RUN PG (Instr.buildSlice 23 1 #[(0, (.int .i64 x34))]) w5 fun v3 w6 =>
 ∃ (x35 : Option Addr) (x35N x35C : Nat), v3 = (.slice x35 x35N x35C) ∧
 (RUN PG (Builtin.append_ #[23, 23] 23 #[(.slice rows rowsN rowsC), (.slice x35 x35N x35C)]) w6 fun v4 w7 =>
 ∃ (x36 : Option Addr) (x36N x36C : Nat), v4 = (.slice x36 x36N x36C) ∧
 (LETI (IntKind.i64.wrap (i + (1 : Int))) fun i1 =>
 ∃ m2, m2 < m1 ∧ I m2 x36 x36N x36C i1 w7)))))
 (∃ I1 : Nat → Int → Int → World → Prop,
 (∃ m3, I1 m3 (0 : Int) (0 : Int) w4) ∧
 (∀ m4 (n : Int) (r : Int) (w8 : World), I1 m4 n r w8 → (IFB (decide (r < (120 : Int)))
 (∃ I2 : Nat → Int → Int → World → Prop,
 (∃ m5, I2 m5 (0 : Int) (0 : Int) w8) ∧
 (∀ m6 (c : Int) (i2 : Int) (w9 : World), I2 m6 c i2 w9 → (IFB (decide (i2 < (lN : Int)))
 (IDX rows rowsN i2 fun a49 =>
 RD PG (loadVar 3 (Addr.add a49 (Int.toNat i2 * 1))) w9 fun v5 =>
 ∃ x50 : Int, v5 = (.int .i64 x50) ∧
 (IFB (x50 == r)
 (IDX l lN i2 fun a56 =>
 RD PG (loadVar 3 (Addr.add (Addr.add a56 (Int.toNat i2 * 2)) 1)) w9 fun v6 =>
 ∃ x58 : Int, v6 = (.int .i64 x58) ∧
 (CALL PG 119 [(.int .i64 x58)] w9 fun v7 w10 =>
 ∃ x59 : Int, v7 = (.int .i64 x59) ∧
 (LETI (IntKind.i64.wrap (c + x59)) fun c1 =>
 LETI (IntKind.i64.wrap (i2 + (1 : Int))) fun i3 =>
 ∃ m7, m7 < m6 ∧ I2 m7 c1 i3 w10)))
 (LETI (IntKind.i64.wrap (i2 + (1 : Int))) fun i4 =>
 ∃ m8, m8 < m6 ∧ I2 m8 c i4 w9)))
 (LETI (IntKind.i64.wrap (n + c)) fun n1 =>
 IFB (decide (c > (0 : Int)))
 (IFB (decide ((IntKind.i64.wrap (n1 * (1000 : Int))) ≥ (IntKind.i64.wrap (many * part2))))
 (CALL PG 28 [(.int .i64 r)] w9 fun v8 w11 =>
 ∃ x75 : Int, v8 = (.int .i64 x75) ∧
 (LETI x75 fun x4 =>
 Q (.int .i64 x4) w11))
 (LETI (IntKind.i64.wrap (r + (1 : Int))) fun r1 =>
 ∃ m9, m9 < m4 ∧ I1 m9 n1 r1 w9))
 (LETI (IntKind.i64.wrap (r + (1 : Int))) fun r2 =>
 ∃ m10, m10 < m4 ∧ I1 m10 n1 r2 w9)))))
 (Q (.int .i64 (0 : Int)) w8)))))))))))
theorem eq97 : ∀ (l : Option Addr) (lN lC : Nat) (part : Int) (w : World) (Q : Value → World → Prop), vcF PG TB Try.f97 (.s .nil (.cut [(1, 3)] .nil (.cut [(1, 3)] .nil (.s .nil (.s .nil (.s (.s .nil (.u (.loop [(7, 23), (8, 3)] .nil))) (.s .nil (.s (.s .nil (.u (.loop [(9, 3), (10, 3)] (.s .nil (.s (.u (.s .nil (.s (.s .nil (.u (.loop [(11, 3), (12, 3)] .nil))) .nil))) .nil))))) .nil)))))))) [(.slice l lN lC), (.int .i64 part)] w Q = N97 l lN lC part w Q := by intros; kernel_rfl
theorem call97 {l : Option Addr} {lN lC : Nat} {part : Int} {w : World} {Q : Value → World → Prop} (hN : N97 l lN lC part w Q) : CALL PG 97 [(.slice l lN lC), (.int .i64 part)] w Q := calls_vc tabOk Try.func97 (by rw [eq97]; exact hN)

end Go.Br
