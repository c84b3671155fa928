/- What the code of some functions says, as the core reads it; each reading is checked by the kernel. -/
import Derived.Test.YtggajodoaooafaaBrSeat
set_option linter.unusedVariables false
set_option maxRecDepth 100000
namespace Go.Br
open Go Go.Proofs

/-- brougham/broughamlaw19.SchedTurns -/
def N11 (ids : Option Addr) (idsN idsC : Nat) (last : Int) (w : World) (Q : Value → World → Prop) : Prop :=
 IFB (decide ((idsN : Int) > (40 : Int)))
 (Q (.bool true) w)
 (∃ I : Nat → Option Addr → Nat → Nat → Int → World → Prop,
 (∃ m, I m none 0 0 (0 : Int) w) ∧
 (∀ m1 (l : Option Addr) (lN lC : Nat) (i : Int) (w1 : World), I m1 l lN lC i w1 → (IFB (decide (i < (idsN : Int)))
 (∃ I1 : Nat → Int → World → Prop,
 (∃ m2, I1 m2 (0 : Int) w1) ∧
 (∀ m3 (k : Int) (w2 : World), I1 m3 k w2 → (IFB (decide (k < i))
 (IDX ids idsN k fun a28 =>
 RDI PG (loadVar 3 (Addr.add a28 (Int.toNat k * 1))) .i64 (w2.drew) fun x29 =>
 IDX ids idsN i fun a32 =>
 RDI PG (loadVar 3 (Addr.add a32 (Int.toNat i * 1))) .i64 (w2.drew) fun x33 =>
 IFB (x29 == x33)
 (Q (.bool true) (w2.drew))
 (LETI (IntKind.i64.wrap (k + (1 : Int))) fun k1 =>
 ∃ m4, m4 < m3 ∧ I1 m4 k1 (w2.drew)))
 (IDX ids idsN i fun a38 =>
 RDI PG (loadVar 3 (Addr.add a38 (Int.toNat i * 1))) .i64 w2 fun x39 =>
 RD PG (Instr.build 103 #[(0, (.int .i64 x39)), (1, (.bool true)), (6, (.int .i64 i))]) w2 fun v =>
 ∃ x41 : Int, ∃ x41v1 : Bool, ∃ x41v2 : Bool, ∃ x41v3 : Bool, ∃ x41v4 : Int, ∃ x41v5 : Int, ∃ x41v6 : Int, v = (.agg #[(.int .i64 x41), (.bool x41v1), (.bool x41v2), (.bool x41v3), (.int .i64 x41v4), (.int .i64 x41v5), (.int .i64 x41v6)]) ∧
 (RUNL PG (Instr.buildSlice 93 1 #[(0, (.agg #[(.int .i64 x41), (.bool x41v1), (.bool x41v2), (.bool x41v3), (.int .i64 x41v4), (.int .i64 x41v5), (.int .i64 x41v6)]))]) w2 fun x42 x42N x42C w3 =>
 RUNL PG (Builtin.append_ #[93, 93] 93 #[(.slice l lN lC), (.slice x42 x42N x42C)]) w3 fun x43 x43N x43C w4 =>
 LETI (IntKind.i64.wrap (i + (1 : Int))) fun i1 =>
 ∃ m5, m5 < m1 ∧ I m5 x43 x43N x43C i1 w4)))))
 (∃ I2 : Nat → Int → Option Addr → Nat → Nat → Int → World → Prop,
 (∃ m6, I2 m6 last none 0 0 (0 : Int) w1) ∧
 (∀ m7 (last1 : Int) (chosen : Option Addr) (chosenN chosenC : Nat) (i2 : Int) (w5 : World), I2 m7 last1 chosen chosenN chosenC i2 w5 → (IFB (decide (i2 < (lN : Int)))
 (CALL PG 48 [(.int .i64 (2 : Int)), (.int .i64 last1), (.int .i64 (5 : Int)), (.slice l lN lC)] w5 fun v1 w6 =>
 ∃ (x52 : Option Addr) (x52N x52C : Nat), v1 = (.slice x52 x52N x52C) ∧
 (IFB ((x52N : Int) != (1 : Int))
 (Q (.bool false) w6)
 (∃ I3 : Nat → Int → World → Prop,
 (∃ m8, I3 m8 (0 : Int) w6) ∧
 (∀ m9 (k2 : Int) (w7 : World), I3 m9 k2 w7 → (IFB (decide (k2 < (chosenN : Int)))
 (IDX chosen chosenN k2 fun a64 =>
 RDI PG (loadVar 3 (Addr.add a64 (Int.toNat k2 * 1))) .i64 (w7.drew) fun x65 =>
 IDX x52 x52N (0 : Int) fun a67 =>
 RDI PG (loadVar 3 (Addr.add a67 (Int.toNat (0 : Int) * 1))) .i64 (w7.drew) fun x68 =>
 IFB (x65 == x68)
 (Q (.bool false) (w7.drew))
 (LETI (IntKind.i64.wrap (k2 + (1 : Int))) fun k3 =>
 ∃ m10, m10 < m9 ∧ I3 m10 k3 (w7.drew)))
 (IDX x52 x52N (0 : Int) fun a72 =>
 RDI PG (loadVar 3 (Addr.add a72 (Int.toNat (0 : Int) * 1))) .i64 w7 fun x73 =>
 RUNL PG (Instr.buildSlice 95 1 #[(0, (.int .i64 x73))]) w7 fun x74 x74N x74C w8 =>
 RUNL PG (Builtin.append_ #[95, 95] 95 #[(.slice chosen chosenN chosenC), (.slice x74 x74N x74C)]) w8 fun x75 x75N x75C w9 =>
 IDX x52 x52N (0 : Int) fun a77 =>
 RDI PG (loadVar 3 (Addr.add a77 (Int.toNat (0 : Int) * 1))) .i64 w9 fun x78 =>
 LETI x78 fun last2 =>
 LETI (IntKind.i64.wrap (i2 + (1 : Int))) fun i3 =>
 ∃ m11, m11 < m7 ∧ I2 m11 last2 x75 x75N x75C i3 w9))))))
 (CALL PG 48 [(.int .i64 (2 : Int)), (.int .i64 last1), (.int .i64 (5 : Int)), (.slice none 0 0)] w5 fun v2 w10 =>
 ∃ (x80 : Option Addr) (x80N x80C : Nat), v2 = (.slice x80 x80N x80C) ∧
 (IFB ((x80N : Int) == (0 : Int))
 (CALL PG 46 [] w10 fun v3 w11 =>
 ∃ x84 : Bool, v3 = (.bool x84) ∧
 (LETB x84 fun x4 =>
 Q (.bool x4) w11))
 (LETB false fun x4v1 =>
 Q (.bool x4v1) w10)))))))))
theorem eq11 : ∀ (ids : Option Addr) (idsN idsC : Nat) (last : Int) (w : World) (Q : Value → World → Prop), vcF PG TB Try.f11 (.s .nil (.s .nil (.s .nil (.s (.s .nil (.u (.loop [(5, 93), (6, 3)] (.s .nil (.s (.u (.s (.s .nil (.u (.loop [(7, 3)] .nil))) .nil)) .nil))))) (.s .nil (.s (.s .nil (.u (.loop [(1, 3), (8, 95), (9, 3)] (.s .nil (.s (.u (.s .nil (.s .nil (.s (.s .nil (.u (.loop [(11, 3)] .nil))) .nil)))) .nil))))) .nil)))))) [(.slice ids idsN idsC), (.int .i64 last)] w Q = N11 ids idsN idsC last w Q := by intros; kernel_rfl
theorem call11 {ids : Option Addr} {idsN idsC : Nat} {last : Int} {w : World} {Q : Value → World → Prop} (hN : N11 ids idsN idsC last w Q) : CALL PG 11 [(.slice ids idsN idsC), (.int .i64 last)] w Q := calls_vc tabOk Try.func11 (by rw [eq11]; exact hN)

end Go.Br
