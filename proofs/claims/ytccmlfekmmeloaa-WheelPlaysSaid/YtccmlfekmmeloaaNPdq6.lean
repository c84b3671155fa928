/- What the code of some functions says, as the core reads it; each reading is checked by the kernel. -/
import Derived.Test.YtccmlfekmmeloaaBrSeat
set_option linter.unusedVariables false
set_option maxRecDepth 100000
namespace Go.Br
open Go Go.Proofs

/-- (*slices.xorshift).Next -/
def N178 (r : Option Addr) (w : World) (Q : Value → World → Prop) : Prop :=
 NILC r fun a4 =>
 RDI PG (loadVar 303 a4) .u64 (w.drew) fun x5 =>
 NILC r fun a7 =>
 RDI PG (loadVar 303 a7) .u64 (w.drew) fun x8 =>
 NEED (0 ≤ (13 : Int))
 (NILC r fun a11 =>
 RUNU PG (storeVar 303 a11 (.int .u64 (IntKind.u64.wrap (BitVec.ofInt (IntKind.u64.bits) x5 ^^^ BitVec.ofInt (IntKind.u64.bits) (shlN .u64 x8 (13 : Int))).toNat))) (w.drew) fun w1 =>
 NILC r fun a13 =>
 RDI PG (loadVar 303 a13) .u64 (w1.drew) fun x14 =>
 NILC r fun a16 =>
 RDI PG (loadVar 303 a16) .u64 (w1.drew) fun x17 =>
 NEED (0 ≤ (7 : Int))
 (NILC r fun a20 =>
 RUNU PG (storeVar 303 a20 (.int .u64 (IntKind.u64.wrap (BitVec.ofInt (IntKind.u64.bits) x14 ^^^ BitVec.ofInt (IntKind.u64.bits) (shrN .u64 x17 (7 : Int))).toNat))) (w1.drew) fun w2 =>
 NILC r fun a22 =>
 RDI PG (loadVar 303 a22) .u64 (w2.drew) fun x23 =>
 NILC r fun a25 =>
 RDI PG (loadVar 303 a25) .u64 (w2.drew) fun x26 =>
 NEED (0 ≤ (17 : Int))
 (NILC r fun a29 =>
 RUNU PG (storeVar 303 a29 (.int .u64 (IntKind.u64.wrap (BitVec.ofInt (IntKind.u64.bits) x23 ^^^ BitVec.ofInt (IntKind.u64.bits) (shlN .u64 x26 (17 : Int))).toNat))) (w2.drew) fun w3 =>
 NILC r fun a31 =>
 RDI PG (loadVar 303 a31) .u64 w3 fun x32 =>
 LETI x32 fun x2 =>
 Q (.int .u64 x2) w3)))
theorem eq178 : ∀ (r : Option Addr) (w : World) (Q : Value → World → Prop), vcF PG TB Try.f178 .nil [(.pointer r)] w Q = N178 r w Q := by intros; kernel_rfl
theorem call178 {r : Option Addr} {w : World} {Q : Value → World → Prop} (hN : N178 r w Q) : CALL PG 178 [(.pointer r)] w Q := calls_vc tabOk Try.func178 (by rw [eq178]; exact hN)

end Go.Br
