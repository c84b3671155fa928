/- What the code of some functions says, as the core reads it; each reading is checked by the kernel. -/
import Derived.Test.YtccmlfekmmeloaaBrSeat
set_option linter.unusedVariables false
set_option maxRecDepth 100000
namespace Go.Br
open Go Go.Proofs

/-- brougham/wheel.New -/
def N38 (most : Int) (w : World) (Q : Value → World → Prop) : Prop :=
 RUN PG (Instr.makeMap 158 none) w fun v w1 =>
 ∃ x6 : Value, v = x6 ∧
 (RUN PG (Instr.makeMap 159 none) w1 fun v1 w2 =>
 ∃ x7 : Value, v1 = x7 ∧
 (RD PG (Instr.build 164 #[(1, (.int .i64 (minN (maxN most (0 : Int)) (4096 : Int)))), (4, x6), (5, x7)]) w2 fun v2 =>
 ∃ x8 : Value, v2 = x8 ∧
 (RUNA PG (Instr.box 164 x8) w2 fun a9 w3 =>
 Q (.pointer (some a9)) w3)))
theorem eq38 : ∀ (most : Int) (w : World) (Q : Value → World → Prop), vcF PG TB Try.f38 .nil [(.int .i64 most)] w Q = N38 most w Q := by intros; kernel_rfl
theorem call38 {most : Int} {w : World} {Q : Value → World → Prop} (hN : N38 most w Q) : CALL PG 38 [(.int .i64 most)] w Q := calls_vc tabOk Try.func38 (by rw [eq38]; exact hN)

/-- (*brougham/wheel.Wheel).Tick -/
def N40 (wv : Option Addr) (w : World) (Q : Value → World → Prop) : Prop :=
 NILC wv fun a10 =>
 RDI PG (loadVar 3 (Addr.add a10 0)) .i64 w fun x12 =>
 NILC wv fun a14 =>
 RUNU PG (storeVar 3 (Addr.add a14 0) (.int .i64 (IntKind.i64.wrap (x12 + (1 : Int))))) w fun w1 =>
 ∃ R : World → Prop,
 (∃ I : Nat → Int → Int → World → Prop,
 (∃ m, I m (1 : Int) (1 : Int) w1) ∧
 (∀ m1 (unit : Int) (r : Int) (w2 : World), I m1 unit r w2 → (IFB (decide (r < (4 : Int)))
 (LETI (IntKind.i64.wrap (unit * (16 : Int))) fun unit1 =>
 NILC wv fun a23 =>
 RDI PG (loadVar 3 (Addr.add a23 0)) .i64 w2 fun x25 =>
 NEED (unit1 ≠ 0)
 (IFB ((Int.tmod x25 unit1) != (0 : Int))
 (R w2)
 (NILC wv fun a32 =>
 RDI PG (loadVar 3 (Addr.add a32 0)) .i64 w2 fun x34 =>
 NEED (unit1 ≠ 0)
 (NEED ((16 : Int) ≠ 0)
 (CALL PG 97 [(.pointer wv), (.int .i64 r), (.int .i64 (Int.tmod (IntKind.i64.wrap (Int.tdiv x34 unit1)) (16 : Int)))] w2 fun v w3 =>
 v = (.tuple #[]) ∧
 (LETI (IntKind.i64.wrap (r + (1 : Int))) fun r1 =>
 ∃ m2, m2 < m1 ∧ I m2 unit1 r1 w3))))))
 (R w2)))) ∧
 (∀  (w4 : World), R w4 → (NILC wv fun a41 =>
 RDI PG (loadVar 3 (Addr.add a41 0)) .i64 (w4.drew) fun x43 =>
 NEED ((16 : Int) ≠ 0)
 (NILC wv fun a45 =>
 NEED (0 ≤ (0 : Int) ∧ (0 : Int) < ((4 : Nat) : Int))
 (NEED (0 ≤ (Int.tmod x43 (16 : Int)) ∧ (Int.tmod x43 (16 : Int)) < ((16 : Nat) : Int))
 (RDL PG (loadVar 160 (Addr.add (Addr.add (Addr.add a45 3) (Int.toNat (0 : Int) * 16)) (Int.toNat (Int.tmod x43 (16 : Int)) * 1))) (w4.drew) fun x49 x49N x49C =>
 NILC wv fun a52 =>
 RDI PG (loadVar 3 (Addr.add a52 0)) .i64 ((w4.drew).drew) fun x54 =>
 NEED ((16 : Int) ≠ 0)
 (NILC wv fun a56 =>
 NEED (0 ≤ (0 : Int) ∧ (0 : Int) < ((4 : Nat) : Int))
 (NEED (0 ≤ (Int.tmod x54 (16 : Int)) ∧ (Int.tmod x54 (16 : Int)) < ((16 : Nat) : Int))
 (RUNU PG (storeVar 160 (Addr.add (Addr.add (Addr.add a56 3) (Int.toNat (0 : Int) * 16)) (Int.toNat (Int.tmod x54 (16 : Int)) * 1)) (.slice none 0 0)) ((w4.drew).drew) fun w5 =>
 ∃ I1 : Nat → Option Addr → Nat → Nat → Int → World → Prop,
 (∃ m3, I1 m3 none 0 0 (0 : Int) w5) ∧
 (∀ m4 (out : Option Addr) (outN outC : Nat) (x62 : Int) (w6 : World), I1 m4 out outN outC x62 w6 → (IFB (decide (x62 < (x49N : Int)))
 (IDX x49 x49N x62 fun a64 =>
 RD PG (loadVar 167 (Addr.add a64 (Int.toNat x62 * 2))) w6 fun v1 =>
 ∃ x65 : Int, ∃ x65v1 : Int, v1 = (.agg #[(.int .i64 x65), (.int .i64 x65v1)]) ∧
 (RUNA PG (Instr.alloc 167 true (.tuple #[])) w6 fun a8 w7 =>
 RUNU PG (storeVar 167 a8 (.agg #[(.int .i64 x65), (.int .i64 x65v1)])) w7 fun w8 =>
 RDI PG (loadVar 3 (Addr.add a8 0)) .i64 w8 fun x68 =>
 RUNL PG (Instr.buildSlice 89 1 #[(0, (.int .i64 x68))]) w8 fun x69 x69N x69C w9 =>
 RUNL PG (Builtin.append_ #[89, 89] 89 #[(.slice out outN outC), (.slice x69 x69N x69C)]) w9 fun x70 x70N x70C w10 =>
 NILC wv fun a72 =>
 RD PG (loadVar 159 (Addr.add a72 68)) (w10.drew) fun v2 =>
 ∃ x74 : Value, v2 = x74 ∧
 (RDI PG (loadVar 3 (Addr.add a8 0)) .i64 (w10.drew) fun x76 =>
 RUN PG (Builtin.delete_ #[159, 3] 0 #[x74, (.int .i64 x76)]) (w10.drew) fun v3 w11 =>
 v3 = (.tuple #[]) ∧
 (NILC wv fun a78 =>
 RD PG (loadVar 158 (Addr.add a78 67)) (w11.drew) fun v4 =>
 ∃ x80 : Value, v4 = x80 ∧
 (RDI PG (loadVar 3 (Addr.add a8 0)) .i64 (w11.drew) fun x82 =>
 RUN PG (Builtin.delete_ #[158, 3] 0 #[x80, (.int .i64 x82)]) (w11.drew) fun v5 w12 =>
 v5 = (.tuple #[]) ∧
 (NILC wv fun a84 =>
 RDI PG (loadVar 3 (Addr.add a84 2)) .i64 w12 fun x86 =>
 NILC wv fun a88 =>
 RUNU PG (storeVar 3 (Addr.add a88 2) (.int .i64 (IntKind.i64.wrap (x86 - (1 : Int))))) w12 fun w13 =>
 ∃ m5, m5 < m4 ∧ I1 m5 x70 x70N x70C (IntKind.i64.wrap (x62 + (1 : Int))) w13))))))
 (CALL PG 98 [(.slice out outN outC)] w6 fun v6 w14 =>
 v6 = (.tuple #[]) ∧
 (Q (.slice out outN outC) w14))))))))))))
theorem eq40 : ∀ (wv : Option Addr) (w : World) (Q : Value → World → Prop), vcF PG TB Try.f40 (.s .nil (.s .nil (.s .nil (.cut [] (.s .nil (.u (.loop [(3, 3), (4, 3)] .nil))) (.s .nil (.s .nil (.s .nil (.s (.s .nil (.u (.loop [(6, 89), (62, 3)] .nil))) .nil)))))))) [(.pointer wv)] w Q = N40 wv w Q := by intros; kernel_rfl
theorem call40 {wv : Option Addr} {w : World} {Q : Value → World → Prop} (hN : N40 wv w Q) : CALL PG 40 [(.pointer wv)] w Q := calls_vc tabOk Try.func40 (by rw [eq40]; exact hN)

/-- (*brougham/wheel.Wheel).Len -/
def N41 (wv : Option Addr) (w : World) (Q : Value → World → Prop) : Prop :=
 NILC wv fun a4 =>
 RDI PG (loadVar 3 (Addr.add a4 2)) .i64 w fun x6 =>
 LETI x6 fun x2 =>
 Q (.int .i64 x2) w
theorem eq41 : ∀ (wv : Option Addr) (w : World) (Q : Value → World → Prop), vcF PG TB Try.f41 .nil [(.pointer wv)] w Q = N41 wv w Q := by intros; kernel_rfl
theorem call41 {wv : Option Addr} {w : World} {Q : Value → World → Prop} (hN : N41 wv w Q) : CALL PG 41 [(.pointer wv)] w Q := calls_vc tabOk Try.func41 (by rw [eq41]; exact hN)

/-- (*brougham/wheel.Wheel).Now -/
def N54 (wv : Option Addr) (w : World) (Q : Value → World → Prop) : Prop :=
 NILC wv fun a4 =>
 RDI PG (loadVar 3 (Addr.add a4 0)) .i64 w fun x6 =>
 LETI x6 fun x2 =>
 Q (.int .i64 x2) w
theorem eq54 : ∀ (wv : Option Addr) (w : World) (Q : Value → World → Prop), vcF PG TB Try.f54 .nil [(.pointer wv)] w Q = N54 wv w Q := by intros; kernel_rfl
theorem call54 {wv : Option Addr} {w : World} {Q : Value → World → Prop} (hN : N54 wv w Q) : CALL PG 54 [(.pointer wv)] w Q := calls_vc tabOk Try.func54 (by rw [eq54]; exact hN)

end Go.Br
