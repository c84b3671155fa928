/- What the code of some functions says, as the core reads it; each reading is checked by the kernel. -/
import Derived.Test.YtccmlfekmmeloaaBrSeat
set_option linter.unusedVariables false
set_option maxRecDepth 100000
namespace Go.Br
open Go Go.Proofs

/-- brougham/broughamlaw29.WheelOnce -/
def N7 (l : Option Addr) (lN lC : Nat) (w : World) (Q : Value → World → Prop) : Prop :=
 IFB (decide ((lN : Int) > (20 : Int)))
 (Q (.bool true) w)
 (CALL PG 38 [(.int .i64 (64 : Int))] w fun v w1 =>
 ∃ x13 : Option Addr, v = (.pointer x13) ∧
 (IFB (x13.isNone)
 (Q (.bool false) w1)
 (∃ I : Nat → Int → Int → World → Prop,
 (∃ m, I m (0 : Int) (0 : Int) w1) ∧
 (∀ m1 (last : Int) (i : Int) (w2 : World), I m1 last i w2 → (IFB (decide (i < (lN : Int)))
 (IDX l lN i fun a24 =>
 RDI PG (loadVar 3 (Addr.add (Addr.add a24 (Int.toNat i * 3)) 2)) .i64 w2 fun x26 =>
 IFB (decide (x26 < (1 : Int)))
 (Q (.bool true) w2)
 (IDX l lN i fun a31 =>
 RDI PG (loadVar 3 (Addr.add (Addr.add a31 (Int.toNat i * 3)) 2)) .i64 w2 fun x33 =>
 IFB (decide (x33 > (5000 : Int)))
 (Q (.bool true) w2)
 (IDX l lN i fun a40 =>
 RDI PG (loadVar 3 (Addr.add (Addr.add a40 (Int.toNat i * 3)) 2)) .i64 w2 fun x42 =>
 CALL PG 39 [(.pointer x13), (.int .i64 i), (.int .i64 x42)] w2 fun v1 w3 =>
 ∃ x43 : Bool, v1 = (.bool x43) ∧
 (IFB (!x43)
 (Q (.bool false) w3)
 (IDX l lN i fun a47 =>
 RDI PG (loadVar 3 (Addr.add (Addr.add a47 (Int.toNat i * 3)) 2)) .i64 w3 fun x49 =>
 IFB (decide (x49 > last))
 (IDX l lN i fun a54 =>
 RDI PG (loadVar 3 (Addr.add (Addr.add a54 (Int.toNat i * 3)) 2)) .i64 w3 fun x56 =>
 LETI x56 fun last1 =>
 LETI (IntKind.i64.wrap (i + (1 : Int))) fun i1 =>
 ∃ m2, m2 < m1 ∧ I m2 last1 i1 w3)
 (LETI (IntKind.i64.wrap (i + (1 : Int))) fun i2 =>
 ∃ m3, m3 < m1 ∧ I m3 last i2 w3))))))
 (∃ I1 : Nat → Int → Int → World → Prop,
 (∃ m4, I1 m4 (0 : Int) (1 : Int) w2) ∧
 (∀ m5 (came : Int) (t : Int) (w4 : World), I1 m5 came t w4 → (IFB (decide (t ≤ last))
 (CALL PG 40 [(.pointer x13)] w4 fun v2 w5 =>
 ∃ (x63 : Option Addr) (x63N x63C : Nat), v2 = (.slice x63 x63N x63C) ∧
 (∃ I2 : Nat → Int → Int → World → Prop,
 (∃ m6, I2 m6 came (0 : Int) w5) ∧
 (∀ m7 (came1 : Int) (i3 : Int) (w6 : World), I2 m7 came1 i3 w6 → (IFB (decide (i3 < (x63N : Int)))
 (IDX x63 x63N i3 fun a72 =>
 RDI PG (loadVar 3 (Addr.add a72 (Int.toNat i3 * 1))) .i64 (w6.drew) fun x73 =>
 IFB (decide (x73 < (0 : Int)))
 (Q (.bool false) (w6.drew))
 (IDX x63 x63N i3 fun a78 =>
 RDI PG (loadVar 3 (Addr.add a78 (Int.toNat i3 * 1))) .i64 (w6.drew) fun x79 =>
 IFB (decide (x79 ≥ (lN : Int)))
 (Q (.bool false) (w6.drew))
 (IDX x63 x63N i3 fun a88 =>
 RDI PG (loadVar 3 (Addr.add a88 (Int.toNat i3 * 1))) .i64 (w6.drew) fun x89 =>
 IDX l lN x89 fun a90 =>
 RDI PG (loadVar 3 (Addr.add (Addr.add a90 (Int.toNat x89 * 3)) 2)) .i64 (w6.drew) fun x92 =>
 IFB (x92 != t)
 (Q (.bool false) (w6.drew))
 (IFB (decide (i3 > (0 : Int)))
 (IDX x63 x63N i3 fun a102 =>
 RDI PG (loadVar 3 (Addr.add a102 (Int.toNat i3 * 1))) .i64 (w6.drew) fun x103 =>
 IDX x63 x63N (IntKind.i64.wrap (i3 - (1 : Int))) fun a107 =>
 RDI PG (loadVar 3 (Addr.add a107 (Int.toNat (IntKind.i64.wrap (i3 - (1 : Int))) * 1))) .i64 (w6.drew) fun x108 =>
 IFB (decide (x103 ≤ x108))
 (Q (.bool false) (w6.drew))
 (LETI (IntKind.i64.wrap (came1 + (1 : Int))) fun came2 =>
 LETI (IntKind.i64.wrap (i3 + (1 : Int))) fun i4 =>
 ∃ m8, m8 < m7 ∧ I2 m8 came2 i4 (w6.drew)))
 (LETI (IntKind.i64.wrap (came1 + (1 : Int))) fun came3 =>
 LETI (IntKind.i64.wrap (i3 + (1 : Int))) fun i5 =>
 ∃ m9, m9 < m7 ∧ I2 m9 came3 i5 (w6.drew))))))
 (LETI (IntKind.i64.wrap (t + (1 : Int))) fun t1 =>
 ∃ m10, m10 < m5 ∧ I1 m10 came1 t1 w6)))))
 (IFB (came == (lN : Int))
 (CALL PG 41 [(.pointer x13)] w4 fun v3 w7 =>
 ∃ x120 : Int, v3 = (.int .i64 x120) ∧
 (IFB (x120 == (0 : Int))
 (CALL PG 42 [] w7 fun v4 w8 =>
 ∃ x124 : Bool, v4 = (.bool x124) ∧
 (LETB x124 fun x2 =>
 Q (.bool x2) w8))
 (LETB false fun x2v1 =>
 Q (.bool x2v1) w7)))
 (LETB false fun x2v2 =>
 Q (.bool x2v2) w4))))))))))
theorem eq7 : ∀ (l : Option Addr) (lN lC : Nat) (w : World) (Q : Value → World → Prop), vcF PG TB Try.f7 (.s .nil (.s .nil (.s .nil (.s .nil (.s .nil (.s (.s .nil (.u (.loop [(4, 3), (5, 3)] .nil))) (.s .nil (.s (.s .nil (.u (.loop [(6, 3), (7, 3)] (.s .nil (.s (.u (.s .nil (.s .nil (.u (.loop [(6, 3), (9, 3)] .nil))))) .nil))))) .nil)))))))) [(.slice l lN lC)] w Q = N7 l lN lC w Q := by intros; kernel_rfl
theorem call7 {l : Option Addr} {lN lC : Nat} {w : World} {Q : Value → World → Prop} (hN : N7 l lN lC w Q) : CALL PG 7 [(.slice l lN lC)] w Q := calls_vc tabOk Try.func7 (by rw [eq7]; exact hN)

/-- (*brougham/wheel.Wheel).Add -/
def N39 (wv : Option Addr) (id : Int) (ticks : Int) (w : World) (Q : Value → World → Prop) : Prop :=
 IFB (decide (ticks < (1 : Int)))
 (Q (.bool false) w)
 (IFB (decide (ticks > (65535 : Int)))
 (Q (.bool false) w)
 (NILC wv fun a17 =>
 RDI PG (loadVar 3 (Addr.add a17 0)) .i64 w fun x19 =>
 IFB (decide (x19 > (2147483648 : Int)))
 (Q (.bool false) w)
 (∃ R : World → Prop,
 (NILC wv fun a24 =>
 RD PG (loadVar 158 (Addr.add a24 67)) w fun v =>
 ∃ x26 : Value, v = x26 ∧
 (RD PG (Instr.lookup 158 x26 (.int .i64 id) true) w fun v1 =>
 ∃ x28 : Int, ∃ x28v1 : Bool, v1 = (.tuple #[(.int .i64 x28), (.bool x28v1)]) ∧
 (LETI x28 fun x =>
 LETB x28v1 fun there =>
 IFB there
 (CALL PG 47 [(.pointer wv), (.int .i64 id)] w fun v2 w1 =>
 ∃ x34 : Bool, v2 = (.bool x34) ∧
 (R w1))
 (R w)))) ∧
 (∀  (w2 : World), R w2 → (NILC wv fun a36 =>
 RDI PG (loadVar 3 (Addr.add a36 2)) .i64 (w2.drew) fun x38 =>
 NILC wv fun a40 =>
 RDI PG (loadVar 3 (Addr.add a40 1)) .i64 (w2.drew) fun x42 =>
 IFB (decide (x38 ≥ x42))
 (Q (.bool false) (w2.drew))
 (NILC wv fun a45 =>
 RDI PG (loadVar 3 (Addr.add a45 2)) .i64 (w2.drew) fun x47 =>
 NILC wv fun a49 =>
 RUNU PG (storeVar 3 (Addr.add a49 2) (.int .i64 (IntKind.i64.wrap (x47 + (1 : Int))))) (w2.drew) fun w3 =>
 NILC wv fun a52 =>
 RD PG (loadVar 158 (Addr.add a52 67)) (w3.drew) fun v3 =>
 ∃ x54 : Value, v3 = x54 ∧
 (NILC wv fun a57 =>
 RDI PG (loadVar 3 (Addr.add a57 0)) .i64 (w3.drew) fun x59 =>
 RUNU PG (Instr.mapUpdate 158 x54 (.int .i64 id) (.int .i64 (IntKind.i64.wrap (x59 + ticks)))) (w3.drew) fun w4 =>
 NILC wv fun a65 =>
 RDI PG (loadVar 3 (Addr.add a65 0)) .i64 w4 fun x67 =>
 RD PG (Instr.build 167 #[(0, (.int .i64 id)), (1, (.int .i64 (IntKind.i64.wrap (x67 + ticks))))]) w4 fun v4 =>
 ∃ x70 : Int, ∃ x70v1 : Int, v4 = (.agg #[(.int .i64 x70), (.int .i64 x70v1)]) ∧
 (CALL PG 96 [(.pointer wv), (.agg #[(.int .i64 x70), (.int .i64 x70v1)])] w4 fun v5 w5 =>
 v5 = (.tuple #[]) ∧
 (Q (.bool true) w5)))))))))
theorem eq39 : ∀ (wv : Option Addr) (id : Int) (ticks : Int) (w : World) (Q : Value → World → Prop), vcF PG TB Try.f39 (.s .nil (.s .nil (.cut [] .nil .nil))) [(.pointer wv), (.int .i64 id), (.int .i64 ticks)] w Q = N39 wv id ticks w Q := by intros; kernel_rfl
theorem call39 {wv : Option Addr} {id : Int} {ticks : Int} {w : World} {Q : Value → World → Prop} (hN : N39 wv id ticks w Q) : CALL PG 39 [(.pointer wv), (.int .i64 id), (.int .i64 ticks)] w Q := calls_vc tabOk Try.func39 (by rw [eq39]; exact hN)

/-- brougham/broughamlaw29.alive -/
def N42  (w : World) (Q : Value → World → Prop) : Prop :=
 CALL PG 38 [(.int .i64 (4 : Int))] w fun v w1 =>
 ∃ x5 : Option Addr, v = (.pointer x5) ∧
 (IFB (x5.isNone)
 (Q (.bool false) w1)
 (CALL PG 39 [(.pointer x5), (.int .i64 (7 : Int)), (.int .i64 (2 : Int))] w1 fun v1 w2 =>
 ∃ x9 : Bool, v1 = (.bool x9) ∧
 (LETB x9 fun okv =>
 CALL PG 40 [(.pointer x5)] w2 fun v2 w3 =>
 ∃ (x11 : Option Addr) (x11N x11C : Nat), v2 = (.slice x11 x11N x11C) ∧
 (CALL PG 40 [(.pointer x5)] w3 fun v3 w4 =>
 ∃ (x13 : Option Addr) (x13N x13C : Nat), v3 = (.slice x13 x13N x13C) ∧
 (IFB okv
 (IFB ((x11N : Int) == (0 : Int))
 (IFB ((x13N : Int) == (1 : Int))
 (IDX x13 x13N (0 : Int) fun a27 =>
 RDI PG (loadVar 3 (Addr.add a27 (Int.toNat (0 : Int) * 1))) .i64 w4 fun x28 =>
 IFB (x28 == (7 : Int))
 (CALL PG 54 [(.pointer x5)] w4 fun v4 w5 =>
 ∃ x33 : Int, v4 = (.int .i64 x33) ∧
 (IFB (x33 == (2 : Int))
 (CALL PG 41 [(.pointer x5)] w5 fun v5 w6 =>
 ∃ x38 : Int, v5 = (.int .i64 x38) ∧
 (IFB (x38 == (0 : Int))
 (LETB true fun x0 =>
 Q (.bool x0) w6)
 (LETB false fun x0v1 =>
 Q (.bool x0v1) w6)))
 (LETB false fun x0v2 =>
 Q (.bool x0v2) w5)))
 (LETB false fun x0v3 =>
 Q (.bool x0v3) w4))
 (LETB false fun x0v4 =>
 Q (.bool x0v4) w4))
 (LETB false fun x0v5 =>
 Q (.bool x0v5) w4))
 (LETB false fun x0v6 =>
 Q (.bool x0v6) w4))))))
theorem eq42 : ∀  (w : World) (Q : Value → World → Prop), vcF PG TB Try.f42 .nil [] w Q = N42  w Q := by intros; kernel_rfl
theorem call42  {w : World} {Q : Value → World → Prop} (hN : N42  w Q) : CALL PG 42 [] w Q := calls_vc tabOk Try.func42 (by rw [eq42]; exact hN)

end Go.Br
