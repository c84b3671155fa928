/- What the code of some functions says, as the core reads it; each reading is checked by the kernel. -/
import Derived.Test.YtccmlfekmmeloaaBrSeat
set_option linter.unusedVariables false
set_option maxRecDepth 100000
namespace Go.Br
open Go Go.Proofs

/-- slices.breakPatternsOrdered[int] -/
def N149 (data : Option Addr) (dataN dataC : Nat) (a : Int) (b : Int) (w : World) (Q : Value → World → Prop) : Prop :=
 LETI (IntKind.i64.wrap (b - a)) fun length =>
 IFB (decide (length ≥ (8 : Int)))
 (RUNA PG (Instr.alloc 303 true (.tuple #[])) w fun a7 w1 =>
 RUNU PG (storeVar 303 a7 (.int .u64 (IntKind.u64.wrap length))) w1 fun w2 =>
 CALL PG 177 [(.int .i64 length)] w2 fun v w3 =>
 ∃ x19 : Int, v = (.int .u64 x19) ∧
 (LETI x19 fun modulus =>
 NEED ((4 : Int) ≠ 0)
 (LETI (IntKind.i64.wrap ((IntKind.i64.wrap (a + (IntKind.i64.wrap ((IntKind.i64.wrap (Int.tdiv length (4 : Int))) * (2 : Int))))) - (1 : Int))) fun idx =>
 ∃ I : Nat → Int → World → Prop,
 (∃ m, I m idx w3) ∧
 (∀ m1 (idx1 : Int) (w4 : World), I m1 idx1 w4 → (NEED ((4 : Int) ≠ 0)
 (IFB (decide (idx1 ≤ (IntKind.i64.wrap ((IntKind.i64.wrap (a + (IntKind.i64.wrap ((IntKind.i64.wrap (Int.tdiv length (4 : Int))) * (2 : Int))))) + (1 : Int)))))
 (CALL PG 178 [(.pointer (some a7))] w4 fun v1 w5 =>
 ∃ x36 : Int, v1 = (.int .u64 x36) ∧
 (LETI (IntKind.i64.wrap (IntKind.u64.wrap (BitVec.ofInt (IntKind.u64.bits) x36 &&& BitVec.ofInt (IntKind.u64.bits) (IntKind.u64.wrap (modulus - (1 : Int)))).toNat)) fun other =>
 ∃ R : Int → World → Prop,
 (IFB (decide (other ≥ length))
 (LETI (IntKind.i64.wrap (other - length)) fun other1 =>
 R other1 w5)
 (R other w5)) ∧
 (∀ (other2 : Int) (w6 : World), R other2 w6 → (IDX data dataN (IntKind.i64.wrap (a + other2)) fun a57 =>
 RDI PG (loadVar 3 (Addr.add a57 (Int.toNat (IntKind.i64.wrap (a + other2)) * 1))) .i64 (w6.drew) fun x58 =>
 IDX data dataN idx1 fun a61 =>
 RDI PG (loadVar 3 (Addr.add a61 (Int.toNat idx1 * 1))) .i64 (w6.drew) fun x62 =>
 IDX data dataN idx1 fun a63 =>
 RUNU PG (storeVar 3 (Addr.add a63 (Int.toNat idx1 * 1)) (.int .i64 x58)) (w6.drew) fun w7 =>
 IDX data dataN (IntKind.i64.wrap (a + other2)) fun a64 =>
 RUNU PG (storeVar 3 (Addr.add a64 (Int.toNat (IntKind.i64.wrap (a + other2)) * 1)) (.int .i64 x62)) w7 fun w8 =>
 LETI (IntKind.i64.wrap (idx1 + (1 : Int))) fun idx2 =>
 ∃ m2, m2 < m1 ∧ I m2 idx2 w8))))
 (Q (.tuple #[]) w4)))))))
 (Q (.tuple #[]) w)
theorem eq149 : ∀ (data : Option Addr) (dataN dataC : Nat) (a : Int) (b : Int) (w : World) (Q : Value → World → Prop), vcF PG TB Try.f149 (.s .nil (.s .nil (.c (.s .nil (.s .nil (.s .nil (.u (.loop [(9, 3)] (.s .nil (.s (.u (.s .nil (.cut [(10, 3)] .nil .nil))) .nil))))))) .nil))) [(.slice data dataN dataC), (.int .i64 a), (.int .i64 b)] w Q = N149 data dataN dataC a b w Q := by intros; kernel_rfl
theorem call149 {data : Option Addr} {dataN dataC : Nat} {a : Int} {b : Int} {w : World} {Q : Value → World → Prop} (hN : N149 data dataN dataC a b w Q) : CALL PG 149 [(.slice data dataN dataC), (.int .i64 a), (.int .i64 b)] w Q := calls_vc tabOk Try.func149 (by rw [eq149]; exact hN)

/-- slices.nextPowerOfTwo -/
def N177 (length : Int) (w : World) (Q : Value → World → Prop) : Prop :=
 CALL PG 131 [(.int .u64 (IntKind.u64.wrap length))] w fun v w1 =>
 ∃ x5 : Int, v = (.int .i64 x5) ∧
 (NEED (0 ≤ x5)
 (LETI (shlN .u64 (1 : Int) x5) fun x2 =>
 Q (.int .u64 x2) w1))
theorem eq177 : ∀ (length : Int) (w : World) (Q : Value → World → Prop), vcF PG TB Try.f177 .nil [(.int .i64 length)] w Q = N177 length w Q := by intros; kernel_rfl
theorem call177 {length : Int} {w : World} {Q : Value → World → Prop} (hN : N177 length w Q) : CALL PG 177 [(.int .i64 length)] w Q := calls_vc tabOk Try.func177 (by rw [eq177]; exact hN)

end Go.Br
