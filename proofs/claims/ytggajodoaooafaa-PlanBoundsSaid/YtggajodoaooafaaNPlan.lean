/- What the code of some functions says, as the core reads it; each reading is checked by the kernel. -/
import Derived.Test.YtggajodoaooafaaBrSeat
set_option linter.unusedVariables false
set_option maxRecDepth 100000
namespace Go.Br
open Go Go.Proofs

/-- brougham/plan.fresh -/
def N97 (l : Option Addr) (lN lC : Nat) (w : World) (Q : Value → World → Prop) : Prop :=
 ∃ I : Nat → Option Addr → Nat → Nat → Int → World → Prop,
 (∃ m, I m none 0 0 (0 : Int) w) ∧
 (∀ m1 (out : Option Addr) (outN outC : Nat) (x8 : Int) (w1 : World), I m1 out outN outC x8 w1 → (IFB (decide (x8 < (lN : Int)))
 (IDX l lN x8 fun a10 =>
 RD PG (loadVar 108 (Addr.add a10 (Int.toNat x8 * 7))) w1 fun v =>
 ∃ x11 : Int, ∃ x11v1 : Bool, ∃ x11v2 : Bool, ∃ x11v3 : Bool, ∃ x11v4 : Bool, ∃ x11v5 : Int, ∃ x11v6 : Int, v = (.agg #[(.int .i64 x11), (.bool x11v1), (.bool x11v2), (.bool x11v3), (.bool x11v4), (.int .i64 x11v5), (.int .i64 x11v6)]) ∧
 (RUNA PG (Instr.alloc 108 true (.tuple #[])) w1 fun a5 w2 =>
 RUNU PG (storeVar 108 a5 (.agg #[(.int .i64 x11), (.bool x11v1), (.bool x11v2), (.bool x11v3), (.bool x11v4), (.int .i64 x11v5), (.int .i64 x11v6)])) w2 fun w3 =>
 RDB PG (loadVar 4 (Addr.add a5 1)) w3 fun x13 =>
 IFB x13
 (RDB PG (loadVar 4 (Addr.add a5 2)) w3 fun x16 =>
 IFB (!x16)
 (RDI PG (loadVar 3 (Addr.add a5 6)) .i64 w3 fun x21 =>
 IFB (decide (x21 < (4 : Int)))
 (RD PG (loadVar 108 a5) w3 fun v1 =>
 ∃ x25 : Int, ∃ x25v1 : Bool, ∃ x25v2 : Bool, ∃ x25v3 : Bool, ∃ x25v4 : Bool, ∃ x25v5 : Int, ∃ x25v6 : Int, v1 = (.agg #[(.int .i64 x25), (.bool x25v1), (.bool x25v2), (.bool x25v3), (.bool x25v4), (.int .i64 x25v5), (.int .i64 x25v6)]) ∧
 (RUNL PG (Instr.buildSlice 106 1 #[(0, (.agg #[(.int .i64 x25), (.bool x25v1), (.bool x25v2), (.bool x25v3), (.bool x25v4), (.int .i64 x25v5), (.int .i64 x25v6)]))]) w3 fun x26 x26N x26C w4 =>
 RUNL PG (Builtin.append_ #[106, 106] 106 #[(.slice out outN outC), (.slice x26 x26N x26C)]) w4 fun x27 x27N x27C w5 =>
 ∃ m2, m2 < m1 ∧ I m2 x27 x27N x27C (IntKind.i64.wrap (x8 + (1 : Int))) w5))
 (∃ m3, m3 < m1 ∧ I m3 out outN outC (IntKind.i64.wrap (x8 + (1 : Int))) w3))
 (∃ m4, m4 < m1 ∧ I m4 out outN outC (IntKind.i64.wrap (x8 + (1 : Int))) w3))
 (∃ m5, m5 < m1 ∧ I m5 out outN outC (IntKind.i64.wrap (x8 + (1 : Int))) w3)))
 (CALL PG 125 [(.slice out outN outC), (.func (.func 126) #[] #[])] w1 fun v2 w6 =>
 v2 = (.tuple #[]) ∧
 (Q (.slice out outN outC) w6))))
theorem eq97 : ∀ (l : Option Addr) (lN lC : Nat) (w : World) (Q : Value → World → Prop), vcF PG TB Try.f97 (.s .nil (.s .nil (.s (.s .nil (.u (.loop [(3, 106), (8, 3)] .nil))) .nil))) [(.slice l lN lC)] w Q = N97 l lN lC w Q := by intros; kernel_rfl
theorem call97 {l : Option Addr} {lN lC : Nat} {w : World} {Q : Value → World → Prop} (hN : N97 l lN lC w Q) : CALL PG 97 [(.slice l lN lC)] w Q := calls_vc tabOk Try.func97 (by rw [eq97]; exact hN)

/-- brougham/plan.fresh$1 -/
def N126 (a : Int) (a1 : Bool) (a2 : Bool) (a3 : Bool) (a4 : Bool) (a5 : Int) (a6 : Int) (b : Int) (b1 : Bool) (b2 : Bool) (b3 : Bool) (b4 : Bool) (b5 : Int) (b6 : Int) (w : World) (Q : Value → World → Prop) : Prop :=
 RUNA PG (Instr.box 108 (.agg #[(.int .i64 a), (.bool a1), (.bool a2), (.bool a3), (.bool a4), (.int .i64 a5), (.int .i64 a6)])) w fun a2v1 w1 =>
 RUNA PG (Instr.box 108 (.agg #[(.int .i64 b), (.bool b1), (.bool b2), (.bool b3), (.bool b4), (.int .i64 b5), (.int .i64 b6)])) w1 fun a3v1 w2 =>
 ∃ S : World → Prop, S (w2.drew) ∧
 (RDSI PG (loadVar 3 (Addr.add a2v1 6)) .i64 S fun x6 =>
 RDSI PG (loadVar 3 (Addr.add a3v1 6)) .i64 S fun x8 =>
 RDSI PG (loadVar 3 (Addr.add a2v1 5)) .i64 S fun x11 =>
 RDSI PG (loadVar 3 (Addr.add a3v1 5)) .i64 S fun x13 =>
 RDSI PG (loadVar 3 (Addr.add a2v1 0)) .i64 S fun x16 =>
 RDSI PG (loadVar 3 (Addr.add a3v1 0)) .i64 S fun x18 =>
 CALL PG 90 [(.int .i64 x6), (.int .i64 x8)] (w2.drew) fun v w3 =>
 ∃ x9 : Int, v = (.int .i64 x9) ∧
 (∃ S1 : World → Prop, (∀ x, S1 x → S x) ∧ S1 w3 ∧
 (CALL PG 90 [(.int .i64 x11), (.int .i64 x13)] w3 fun v1 w4 =>
 ∃ x14 : Int, v1 = (.int .i64 x14) ∧
 (∃ S2 : World → Prop, (∀ x, S2 x → S1 x) ∧ S2 w4 ∧
 (CALL PG 90 [(.int .i64 x16), (.int .i64 x18)] w4 fun v2 w5 =>
 ∃ x19 : Int, v2 = (.int .i64 x19) ∧
 (RUNL PG (Instr.buildSlice 95 3 #[(0, (.int .i64 x9)), (1, (.int .i64 x14)), (2, (.int .i64 x19))]) w5 fun x20 x20N x20C w6 =>
 CALL PG 92 [(.slice x20 x20N x20C)] w6 fun v3 w7 =>
 ∃ x21 : Int, v3 = (.int .i64 x21) ∧
 (LETI x21 fun x4 =>
 Q (.int .i64 x4) w7)))))))
theorem eq126 : ∀ (a : Int) (a1 : Bool) (a2 : Bool) (a3 : Bool) (a4 : Bool) (a5 : Int) (a6 : Int) (b : Int) (b1 : Bool) (b2 : Bool) (b3 : Bool) (b4 : Bool) (b5 : Int) (b6 : Int) (w : World) (Q : Value → World → Prop), vcF PG TB Try.f126 .nil [(.agg #[(.int .i64 a), (.bool a1), (.bool a2), (.bool a3), (.bool a4), (.int .i64 a5), (.int .i64 a6)]), (.agg #[(.int .i64 b), (.bool b1), (.bool b2), (.bool b3), (.bool b4), (.int .i64 b5), (.int .i64 b6)])] w Q = N126 a a1 a2 a3 a4 a5 a6 b b1 b2 b3 b4 b5 b6 w Q := by intros; kernel_rfl
theorem call126 {a : Int} {a1 : Bool} {a2 : Bool} {a3 : Bool} {a4 : Bool} {a5 : Int} {a6 : Int} {b : Int} {b1 : Bool} {b2 : Bool} {b3 : Bool} {b4 : Bool} {b5 : Int} {b6 : Int} {w : World} {Q : Value → World → Prop} (hN : N126 a a1 a2 a3 a4 a5 a6 b b1 b2 b3 b4 b5 b6 w Q) : CALL PG 126 [(.agg #[(.int .i64 a), (.bool a1), (.bool a2), (.bool a3), (.bool a4), (.int .i64 a5), (.int .i64 a6)]), (.agg #[(.int .i64 b), (.bool b1), (.bool b2), (.bool b3), (.bool b4), (.int .i64 b5), (.int .i64 b6)])] w Q := calls_vc tabOk Try.func126 (by rw [eq126]; exact hN)

/-- brougham/plan.best$1 -/
def N143 (a : Int) (a1 : Bool) (a2 : Bool) (a3 : Bool) (a4 : Bool) (a5 : Int) (a6 : Int) (b : Int) (b1 : Bool) (b2 : Bool) (b3 : Bool) (b4 : Bool) (b5 : Int) (b6 : Int) (w : World) (Q : Value → World → Prop) : Prop :=
 RUNA PG (Instr.box 108 (.agg #[(.int .i64 a), (.bool a1), (.bool a2), (.bool a3), (.bool a4), (.int .i64 a5), (.int .i64 a6)])) w fun a2v1 w1 =>
 RUNA PG (Instr.box 108 (.agg #[(.int .i64 b), (.bool b1), (.bool b2), (.bool b3), (.bool b4), (.int .i64 b5), (.int .i64 b6)])) w1 fun a3v1 w2 =>
 RDB PG (loadVar 4 (Addr.add a2v1 4)) w2 fun x6 =>
 RDB PG (loadVar 4 (Addr.add a3v1 4)) w2 fun x8 =>
 IFB (!(x6 == x8))
 (RDB PG (loadVar 4 (Addr.add a2v1 4)) w2 fun x11 =>
 IFB x11
 (Q (.int .i64 (1 : Int)) w2)
 (Q (.int .i64 (-1 : Int)) w2))
 (∃ S : World → Prop, S (w2.drew) ∧
 (RDSI PG (loadVar 3 (Addr.add a2v1 5)) .i64 S fun x13 =>
 RDSI PG (loadVar 3 (Addr.add a3v1 5)) .i64 S fun x15 =>
 RDSI PG (loadVar 3 (Addr.add a2v1 0)) .i64 S fun x18 =>
 RDSI PG (loadVar 3 (Addr.add a3v1 0)) .i64 S fun x20 =>
 CALL PG 90 [(.int .i64 x13), (.int .i64 x15)] (w2.drew) fun v w3 =>
 ∃ x16 : Int, v = (.int .i64 x16) ∧
 (∃ S1 : World → Prop, (∀ x, S1 x → S x) ∧ S1 w3 ∧
 (CALL PG 90 [(.int .i64 x18), (.int .i64 x20)] w3 fun v1 w4 =>
 ∃ x21 : Int, v1 = (.int .i64 x21) ∧
 (RUNL PG (Instr.buildSlice 95 2 #[(0, (.int .i64 x16)), (1, (.int .i64 x21))]) w4 fun x22 x22N x22C w5 =>
 CALL PG 92 [(.slice x22 x22N x22C)] w5 fun v2 w6 =>
 ∃ x23 : Int, v2 = (.int .i64 x23) ∧
 (LETI x23 fun x4 =>
 Q (.int .i64 x4) w6))))))
theorem eq143 : ∀ (a : Int) (a1 : Bool) (a2 : Bool) (a3 : Bool) (a4 : Bool) (a5 : Int) (a6 : Int) (b : Int) (b1 : Bool) (b2 : Bool) (b3 : Bool) (b4 : Bool) (b5 : Int) (b6 : Int) (w : World) (Q : Value → World → Prop), vcF PG TB Try.f143 .nil [(.agg #[(.int .i64 a), (.bool a1), (.bool a2), (.bool a3), (.bool a4), (.int .i64 a5), (.int .i64 a6)]), (.agg #[(.int .i64 b), (.bool b1), (.bool b2), (.bool b3), (.bool b4), (.int .i64 b5), (.int .i64 b6)])] w Q = N143 a a1 a2 a3 a4 a5 a6 b b1 b2 b3 b4 b5 b6 w Q := by intros; kernel_rfl
theorem call143 {a : Int} {a1 : Bool} {a2 : Bool} {a3 : Bool} {a4 : Bool} {a5 : Int} {a6 : Int} {b : Int} {b1 : Bool} {b2 : Bool} {b3 : Bool} {b4 : Bool} {b5 : Int} {b6 : Int} {w : World} {Q : Value → World → Prop} (hN : N143 a a1 a2 a3 a4 a5 a6 b b1 b2 b3 b4 b5 b6 w Q) : CALL PG 143 [(.agg #[(.int .i64 a), (.bool a1), (.bool a2), (.bool a3), (.bool a4), (.int .i64 a5), (.int .i64 a6)]), (.agg #[(.int .i64 b), (.bool b1), (.bool b2), (.bool b3), (.bool b4), (.int .i64 b5), (.int .i64 b6)])] w Q := calls_vc tabOk Try.func143 (by rw [eq143]; exact hN)

end Go.Br
