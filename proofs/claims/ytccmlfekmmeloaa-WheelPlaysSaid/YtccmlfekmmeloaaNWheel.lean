/- What the code of some functions says, as the core reads it; each reading is checked by the kernel. -/
import Derived.Test.YtccmlfekmmeloaaBrSeat
set_option linter.unusedVariables false
set_option maxRecDepth 100000
namespace Go.Br
open Go Go.Proofs

/-- (*brougham/wheel.Wheel).put -/
def N96 (wv : Option Addr) (t : Int) (t1 : Int) (w : World) (Q : Value → World → Prop) : Prop :=
 RUNA PG (Instr.box 167 (.agg #[(.int .i64 t), (.int .i64 t1)])) w fun a3 w1 =>
 RDI PG (loadVar 3 (Addr.add a3 1)) .i64 w1 fun x7 =>
 CALL PG 129 [(.pointer wv), (.int .i64 x7)] w1 fun v w2 =>
 ∃ x8 : Int, ∃ x8v1 : Int, v = (.agg #[(.int .i64 x8), (.int .i64 x8v1)]) ∧
 (RUNA PG (Instr.alloc 174 true (.tuple #[])) w2 fun a4 w3 =>
 RUNU PG (storeVar 174 a4 (.agg #[(.int .i64 x8), (.int .i64 x8v1)])) w3 fun w4 =>
 ∃ S : World → Prop, S (w4.drew) ∧
 (RDSI PG (loadVar 3 (Addr.add a4 0)) .i64 S fun x11 =>
 RDSI PG (loadVar 3 (Addr.add a4 1)) .i64 S fun x13 =>
 RDSI PG (loadVar 3 (Addr.add a4 0)) .i64 S fun x16 =>
 RDSI PG (loadVar 3 (Addr.add a4 1)) .i64 S fun x18 =>
 NILC wv fun a19 =>
 NEED (0 ≤ x16 ∧ x16 < ((4 : Nat) : Int))
 (NEED (0 ≤ x18 ∧ x18 < ((16 : Nat) : Int))
 (RDSL PG (loadVar 160 (Addr.add (Addr.add (Addr.add a19 3) (Int.toNat x16 * 16)) (Int.toNat x18 * 1))) S fun x23 x23N x23C =>
 RDS PG (loadVar 167 a3) S fun v1 =>
 ∃ x24 : Int, ∃ x24v1 : Int, v1 = (.agg #[(.int .i64 x24), (.int .i64 x24v1)]) ∧
 (NILC wv fun a27 =>
 NEED (0 ≤ x11 ∧ x11 < ((4 : Nat) : Int))
 (RUNL PG (Instr.buildSlice 160 1 #[(0, (.agg #[(.int .i64 x24), (.int .i64 x24v1)]))]) (w4.drew) fun x25 x25N x25C w5 =>
 ∃ S1 : World → Prop, (∀ x, S1 x → S x) ∧ S1 w5 ∧
 (RUNL PG (Builtin.append_ #[160, 160] 160 #[(.slice x23 x23N x23C), (.slice x25 x25N x25C)]) w5 fun x26 x26N x26C w6 =>
 ∃ S2 : World → Prop, (∀ x, S2 x → S1 x) ∧ S2 w6 ∧
 (NEED (0 ≤ x13 ∧ x13 < ((16 : Nat) : Int))
 (RUNU PG (storeVar 160 (Addr.add (Addr.add (Addr.add a27 3) (Int.toNat x11 * 16)) (Int.toNat x13 * 1)) (.slice x26 x26N x26C)) w6 fun w7 =>
 NILC wv fun a32 =>
 RD PG (loadVar 159 (Addr.add a32 68)) (w7.drew) fun v2 =>
 ∃ x34 : Value, v2 = x34 ∧
 (RDI PG (loadVar 3 (Addr.add a3 0)) .i64 (w7.drew) fun x36 =>
 RD PG (loadVar 174 a4) (w7.drew) fun v3 =>
 ∃ x37 : Int, ∃ x37v1 : Int, v3 = (.agg #[(.int .i64 x37), (.int .i64 x37v1)]) ∧
 (RUNU PG (Instr.mapUpdate 159 x34 (.int .i64 x36) (.agg #[(.int .i64 x37), (.int .i64 x37v1)])) (w7.drew) fun w8 =>
 Q (.tuple #[]) w8)))))))))))
theorem eq96 : ∀ (wv : Option Addr) (t : Int) (t1 : Int) (w : World) (Q : Value → World → Prop), vcF PG TB Try.f96 .nil [(.pointer wv), (.agg #[(.int .i64 t), (.int .i64 t1)])] w Q = N96 wv t t1 w Q := by intros; kernel_rfl
theorem call96 {wv : Option Addr} {t : Int} {t1 : Int} {w : World} {Q : Value → World → Prop} (hN : N96 wv t t1 w Q) : CALL PG 96 [(.pointer wv), (.agg #[(.int .i64 t), (.int .i64 t1)])] w Q := calls_vc tabOk Try.func96 (by rw [eq96]; exact hN)

/-- (*brougham/wheel.Wheel).where -/
def N129 (wv : Option Addr) (atv : Int) (w : World) (Q : Value → World → Prop) : Prop :=
 RUNA PG (Instr.alloc 174 true (.tuple #[])) w fun a4 w1 =>
 ∃ I : Nat → Int → Int → World → Prop,
 (∃ m, I m (0 : Int) (1 : Int) w1) ∧
 (∀ m1 (r : Int) (unit : Int) (w2 : World), I m1 r unit w2 → (IFB (decide (r < (3 : Int)))
 (NEED ((IntKind.i64.wrap (unit * (16 : Int))) ≠ 0)
 (NILC wv fun a15 =>
 RDI PG (loadVar 3 (Addr.add a15 0)) .i64 (w2.drew) fun x17 =>
 NEED ((IntKind.i64.wrap (unit * (16 : Int))) ≠ 0)
 (IFB ((IntKind.i64.wrap (Int.tdiv atv (IntKind.i64.wrap (unit * (16 : Int))))) != (IntKind.i64.wrap (Int.tdiv x17 (IntKind.i64.wrap (unit * (16 : Int))))))
 (LETI (IntKind.i64.wrap (r + (1 : Int))) fun r1 =>
 LETI (IntKind.i64.wrap (unit * (16 : Int))) fun unit1 =>
 ∃ m2, m2 < m1 ∧ I m2 r1 unit1 (w2.drew))
 (NEED (unit ≠ 0)
 (NEED ((16 : Int) ≠ 0)
 (RD PG (Instr.build 174 #[(0, (.int .i64 r)), (1, (.int .i64 (Int.tmod (IntKind.i64.wrap (Int.tdiv atv unit)) (16 : Int))))]) (w2.drew) fun v =>
 ∃ x32 : Int, ∃ x32v1 : Int, v = (.agg #[(.int .i64 x32), (.int .i64 x32v1)]) ∧
 (RUNU PG (storeVar 174 a4 (.agg #[(.int .i64 x32), (.int .i64 x32v1)])) (w2.drew) fun w3 =>
 RD PG (loadVar 174 a4) w3 fun v2 =>
 ∃ r2 : Int, ∃ r3 : Int, v2 = (.agg #[(.int .i64 r2), (.int .i64 r3)]) ∧
 (Q (.agg #[(.int .i64 r2), (.int .i64 r3)]) w3))))))))
 (NEED (unit ≠ 0)
 (NEED ((16 : Int) ≠ 0)
 (RD PG (Instr.build 174 #[(0, (.int .i64 r)), (1, (.int .i64 (Int.tmod (IntKind.i64.wrap (Int.tdiv atv unit)) (16 : Int))))]) (w2.drew) fun v3 =>
 ∃ x32v2 : Int, ∃ x32v3 : Int, v3 = (.agg #[(.int .i64 x32v2), (.int .i64 x32v3)]) ∧
 (RUNU PG (storeVar 174 a4 (.agg #[(.int .i64 x32v2), (.int .i64 x32v3)])) (w2.drew) fun w4 =>
 RD PG (loadVar 174 a4) w4 fun v5 =>
 ∃ r4 : Int, ∃ r5 : Int, v5 = (.agg #[(.int .i64 r4), (.int .i64 r5)]) ∧
 (Q (.agg #[(.int .i64 r4), (.int .i64 r5)]) w4)))))))
theorem eq129 : ∀ (wv : Option Addr) (atv : Int) (w : World) (Q : Value → World → Prop), vcF PG TB Try.f129 (.s .nil (.s .nil (.s (.u (.loop [(5, 3), (6, 3)] .nil)) .nil))) [(.pointer wv), (.int .i64 atv)] w Q = N129 wv atv w Q := by intros; kernel_rfl
theorem call129 {wv : Option Addr} {atv : Int} {w : World} {Q : Value → World → Prop} (hN : N129 wv atv w Q) : CALL PG 129 [(.pointer wv), (.int .i64 atv)] w Q := calls_vc tabOk Try.func129 (by rw [eq129]; exact hN)

end Go.Br
