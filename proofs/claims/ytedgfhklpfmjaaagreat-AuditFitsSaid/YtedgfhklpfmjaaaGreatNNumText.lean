/- What the code of some functions says, as the core reads it; each reading is checked by the kernel. -/
import Derived.Test.YtedgfhklpfmjaaaGreatBrSeat
set_option linter.unusedVariables false
set_option maxRecDepth 100000
namespace Go.Br
open Go Go.Proofs

/-- brougham/num.Text -/
def N20 (n : Int) (w : World) (Q : Value → World → Prop) : Prop :=
 RUNA PG (Instr.alloc 94 true (.tuple #[])) w fun a3 w1 =>
 LETI (maxN n (0 : Int)) fun n1 =>
 ∃ I : Nat → Int → Int → World → Prop,
 (∃ m, I m n1 (20 : Int) w1) ∧
 (∀ m1 (n2 : Int) (atv : Int) (w2 : World), I m1 n2 atv w2 → (LETI (IntKind.i64.wrap (atv - (1 : Int))) fun atv1 =>
 NEED ((10 : Int) ≠ 0)
 (NEED (0 ≤ atv1 ∧ atv1 < ((20 : Nat) : Int))
 (RUNU PG (storeVar 5 (Addr.add a3 (Int.toNat atv1 * 1)) (.int .u8 (IntKind.u8.wrap (IntKind.i64.wrap ((48 : Int) + (Int.tmod n2 (10 : Int))))))) w2 fun w3 =>
 IFB (decide (n2 < (10 : Int)))
 (RDL PG (Instr.sliceAt 94 (.pointer (some a3)) (some (.int .i64 atv1)) none none) w3 fun x20 x20N x20C =>
 RDT PG (convert 95 9 (.slice x20 x20N x20C)) w3 fun x21 =>
 LETS x21 fun x2 =>
 Q (.string x2) w3)
 (NEED ((10 : Int) ≠ 0)
 (LETI (IntKind.i64.wrap (Int.tdiv n2 (10 : Int))) fun n3 =>
 ∃ m2, m2 < m1 ∧ I m2 n3 atv1 w3))))))
theorem eq20 : ∀ (n : Int) (w : World) (Q : Value → World → Prop), vcF PG TB Tryz.f20 (.s .nil (.s .nil (.s .nil (.s .nil (.u (.loop [(0, 3), (4, 3)] .nil)))))) [(.int .i64 n)] w Q = N20 n w Q := by intros; kernel_rfl
theorem call20 {n : Int} {w : World} {Q : Value → World → Prop} (hN : N20 n w Q) : CALL PG 20 [(.int .i64 n)] w Q := calls_vc tabOk Tryz.func20 (by rw [eq20]; exact hN)

end Go.Br
