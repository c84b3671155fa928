/- What the code of some functions says, as the core reads it; each reading is checked by the kernel. -/
import Derived.Test.YtccmlfekmmeloaaBrSeat
set_option linter.unusedVariables false
set_option maxRecDepth 100000
namespace Go.Br
open Go Go.Proofs

/-- brougham/inlet.New -/
def N25 (sizev : Int) (pieces : Int) (w : World) (Q : Value → World → Prop) : Prop :=
 CALL PG 80 [(.int .i64 sizev)] w fun v w1 =>
 ∃ x10 : Option Addr, ∃ x10v1 : Int, v = (.tuple #[(.pointer x10), (.int .i64 x10v1)]) ∧
 (LETI x10v1 fun e =>
 IFB (e != (0 : Int))
 (LETI e fun x5 =>
 Q (.tuple #[(.pointer none), (.int .i64 x5)]) w1)
 (CALL PG 81 [(.int .i64 pieces)] w1 fun v1 w2 =>
 ∃ x18 : Option Addr, v1 = (.pointer x18) ∧
 (RD PG (Instr.build 67 #[(0, (.pointer x10)), (1, (.pointer x18))]) w2 fun v2 =>
 ∃ x19 : Option Addr, ∃ x19v1 : Option Addr, ∃ x19v2 : Int, ∃ x19v3 : Int, ∃ x19v4 : Bool, v2 = (.agg #[(.pointer x19), (.pointer x19v1), (.int .u64 x19v2), (.int .u64 x19v3), (.bool x19v4)]) ∧
 (RUNA PG (Instr.box 67 (.agg #[(.pointer x19), (.pointer x19v1), (.int .u64 x19v2), (.int .u64 x19v3), (.bool x19v4)])) w2 fun a20 w3 =>
 Q (.tuple #[(.pointer (some a20)), (.int .i64 (0 : Int))]) w3))))
theorem eq25 : ∀ (sizev : Int) (pieces : Int) (w : World) (Q : Value → World → Prop), vcF PG TB Try.f25 .nil [(.int .i64 sizev), (.int .i64 pieces)] w Q = N25 sizev pieces w Q := by intros; kernel_rfl
theorem call25 {sizev : Int} {pieces : Int} {w : World} {Q : Value → World → Prop} (hN : N25 sizev pieces w Q) : CALL PG 25 [(.int .i64 sizev), (.int .i64 pieces)] w Q := calls_vc tabOk Try.func25 (by rw [eq25]; exact hN)

/-- (*brougham/inlet.Inlet).Take -/
def N27 (x : Option Addr) (many : Int) (w : World) (Q : Value → World → Prop) : Prop :=
 IFB (decide (many < (1 : Int)))
 (Q (.tuple #[(.slice none 0 0), (.int .i64 (0 : Int))]) w)
 (NILC x fun a10 =>
 RDP PG (loadVar 64 (Addr.add a10 0)) w fun x12 =>
 CALL PG 89 [(.pointer x12), (.int .i64 many)] w fun v w1 =>
 ∃ (x14 : Option Addr) (x14N x14C : Nat), v = (.slice x14 x14N x14C) ∧
 (NILC x fun a16 =>
 RDI PG (loadVar 42 (Addr.add a16 2)) .u64 w1 fun x18 =>
 NILC x fun a23 =>
 RUNU PG (storeVar 42 (Addr.add a23 2) (.int .u64 (IntKind.u64.wrap (x18 + (IntKind.u64.wrap (x14N : Int)))))) w1 fun w2 =>
 LETB (decide ((x14N : Int) > (0 : Int))) fun x25 =>
 IFB x25
 (Q (.tuple #[(.slice x14 x14N x14C), (.int .i64 (0 : Int))]) w2)
 (CALL PG 30 [(.pointer x)] w2 fun v1 w3 =>
 ∃ x32 : Bool, v1 = (.bool x32) ∧
 (LETB x32 fun x30 =>
 IFB x30
 (Q (.tuple #[(.slice none 0 0), (.int .i64 (211 : Int))]) w3)
 (Q (.tuple #[(.slice none 0 0), (.int .i64 (210 : Int))]) w3)))))
theorem eq27 : ∀ (x : Option Addr) (many : Int) (w : World) (Q : Value → World → Prop), vcF PG TB Try.f27 .nil [(.pointer x), (.int .i64 many)] w Q = N27 x many w Q := by intros; kernel_rfl
theorem call27 {x : Option Addr} {many : Int} {w : World} {Q : Value → World → Prop} (hN : N27 x many w Q) : CALL PG 27 [(.pointer x), (.int .i64 many)] w Q := calls_vc tabOk Try.func27 (by rw [eq27]; exact hN)

/-- (*brougham/inlet.Inlet).Next -/
def N28 (x : Option Addr) (w : World) (Q : Value → World → Prop) : Prop :=
 ∃ S : World → Prop, S (w.drew) ∧
 (NILC x fun a4 =>
 RDSI PG (loadVar 42 (Addr.add a4 2)) .u64 S fun x6 =>
 NILC x fun a8 =>
 RDSP PG (loadVar 64 (Addr.add a8 0)) S fun x10 =>
 CALL PG 90 [(.pointer x10)] (w.drew) fun v w1 =>
 ∃ x11 : Int, v = (.int .i64 x11) ∧
 (∃ S1 : World → Prop, (∀ x, S1 x → S x) ∧ S1 w1 ∧
 (LETI (IntKind.u64.wrap (x6 + (IntKind.u64.wrap x11))) fun x2 =>
 Q (.int .u64 x2) w1)))
theorem eq28 : ∀ (x : Option Addr) (w : World) (Q : Value → World → Prop), vcF PG TB Try.f28 .nil [(.pointer x)] w Q = N28 x w Q := by intros; kernel_rfl
theorem call28 {x : Option Addr} {w : World} {Q : Value → World → Prop} (hN : N28 x w Q) : CALL PG 28 [(.pointer x)] w Q := calls_vc tabOk Try.func28 (by rw [eq28]; exact hN)

/-- (*brougham/inlet.Inlet).Fin -/
def N29 (x : Option Addr) (endv : Int) (w : World) (Q : Value → World → Prop) : Prop :=
 NILC x fun a8 =>
 RDB PG (loadVar 4 (Addr.add a8 4)) w fun x10 =>
 IFB x10
 (NILC x fun a12 =>
 RDI PG (loadVar 42 (Addr.add a12 3)) .u64 w fun x14 =>
 LETB (x14 == endv) fun x4 =>
 Q (.bool x4) w)
 (CALL PG 28 [(.pointer x)] w fun v w1 =>
 ∃ x19 : Int, v = (.int .u64 x19) ∧
 (IFB (decide (endv < x19))
 (Q (.bool false) w1)
 (NILC x fun a22 =>
 RDP PG (loadVar 65 (Addr.add a22 1)) w1 fun x24 =>
 CALL PG 91 [(.pointer x24)] w1 fun v1 w2 =>
 ∃ (x25 : Option Addr) (x25N x25C : Nat), v1 = (.slice x25 x25N x25C) ∧
 (∃ I : Nat → Int → World → Prop,
 (∃ m, I m (0 : Int) w2) ∧
 (∀ m1 (x27 : Int) (w3 : World), I m1 x27 w3 → (IFB (decide (x27 < (x25N : Int)))
 (IDX x25 x25N x27 fun a29 =>
 RD PG (loadVar 148 (Addr.add a29 (Int.toNat x27 * 2))) w3 fun v2 =>
 ∃ x30 : Int, ∃ x30v1 : Int, v2 = (.agg #[(.int .u64 x30), (.int .u64 x30v1)]) ∧
 (RUNA PG (Instr.alloc 148 true (.tuple #[])) w3 fun a6 w4 =>
 RUNU PG (storeVar 148 a6 (.agg #[(.int .u64 x30), (.int .u64 x30v1)])) w4 fun w5 =>
 RDI PG (loadVar 42 (Addr.add a6 1)) .u64 w5 fun x32 =>
 IFB (decide (x32 > endv))
 (Q (.bool false) w5)
 (∃ m2, m2 < m1 ∧ I m2 (IntKind.i64.wrap (x27 + (1 : Int))) w5)))
 (NILC x fun a39 =>
 RUNU PG (storeVar 42 (Addr.add a39 3) (.int .u64 endv)) w3 fun w6 =>
 NILC x fun a41 =>
 RUNU PG (storeVar 4 (Addr.add a41 4) (.bool true)) w6 fun w7 =>
 Q (.bool true) w7)))))))
theorem eq29 : ∀ (x : Option Addr) (endv : Int) (w : World) (Q : Value → World → Prop), vcF PG TB Try.f29 (.s .nil (.s .nil (.s .nil (.s (.s .nil (.u (.loop [(27, 3)] .nil))) .nil)))) [(.pointer x), (.int .u64 endv)] w Q = N29 x endv w Q := by intros; kernel_rfl
theorem call29 {x : Option Addr} {endv : Int} {w : World} {Q : Value → World → Prop} (hN : N29 x endv w Q) : CALL PG 29 [(.pointer x), (.int .u64 endv)] w Q := calls_vc tabOk Try.func29 (by rw [eq29]; exact hN)

/-- (*brougham/inlet.Inlet).Ended -/
def N30 (x : Option Addr) (w : World) (Q : Value → World → Prop) : Prop :=
 ∃ S : World → Prop, S (w.drew) ∧
 (NILC x fun a4 =>
 RDSB PG (loadVar 4 (Addr.add a4 4)) S fun x6 =>
 IFB x6
 (NILC x fun a11 =>
 RDSI PG (loadVar 42 (Addr.add a11 3)) .u64 S fun x13 =>
 CALL PG 28 [(.pointer x)] (w.drew) fun v w1 =>
 ∃ x9 : Int, v = (.int .u64 x9) ∧
 (∃ S1 : World → Prop, (∀ x, S1 x → S x) ∧ S1 w1 ∧
 (LETB (x9 == x13) fun x2 =>
 Q (.bool x2) w1)))
 (LETB false fun x2v1 =>
 Q (.bool x2v1) (w.drew)))
theorem eq30 : ∀ (x : Option Addr) (w : World) (Q : Value → World → Prop), vcF PG TB Try.f30 .nil [(.pointer x)] w Q = N30 x w Q := by intros; kernel_rfl
theorem call30 {x : Option Addr} {w : World} {Q : Value → World → Prop} (hN : N30 x w Q) : CALL PG 30 [(.pointer x)] w Q := calls_vc tabOk Try.func30 (by rw [eq30]; exact hN)

/-- (*brougham/inlet.Inlet).Base -/
def N34 (x : Option Addr) (w : World) (Q : Value → World → Prop) : Prop :=
 NILC x fun a4 =>
 RDI PG (loadVar 42 (Addr.add a4 2)) .u64 w fun x6 =>
 LETI x6 fun x2 =>
 Q (.int .u64 x2) w
theorem eq34 : ∀ (x : Option Addr) (w : World) (Q : Value → World → Prop), vcF PG TB Try.f34 .nil [(.pointer x)] w Q = N34 x w Q := by intros; kernel_rfl
theorem call34 {x : Option Addr} {w : World} {Q : Value → World → Prop} (hN : N34 x w Q) : CALL PG 34 [(.pointer x)] w Q := calls_vc tabOk Try.func34 (by rw [eq34]; exact hN)

/-- (*brougham/inlet.Inlet).Edge -/
def N37 (x : Option Addr) (w : World) (Q : Value → World → Prop) : Prop :=
 ∃ S : World → Prop, S (w.drew) ∧
 (NILC x fun a4 =>
 RDSI PG (loadVar 42 (Addr.add a4 2)) .u64 S fun x6 =>
 NILC x fun a8 =>
 RDSP PG (loadVar 64 (Addr.add a8 0)) S fun x10 =>
 CALL PG 95 [(.pointer x10)] (w.drew) fun v w1 =>
 ∃ x11 : Int, v = (.int .i64 x11) ∧
 (∃ S1 : World → Prop, (∀ x, S1 x → S x) ∧ S1 w1 ∧
 (LETI (IntKind.u64.wrap (x6 + (IntKind.u64.wrap x11))) fun x2 =>
 Q (.int .u64 x2) w1)))
theorem eq37 : ∀ (x : Option Addr) (w : World) (Q : Value → World → Prop), vcF PG TB Try.f37 .nil [(.pointer x)] w Q = N37 x w Q := by intros; kernel_rfl
theorem call37 {x : Option Addr} {w : World} {Q : Value → World → Prop} (hN : N37 x w Q) : CALL PG 37 [(.pointer x)] w Q := calls_vc tabOk Try.func37 (by rw [eq37]; exact hN)

/-- (*brougham/inlet.Inlet).top -/
def N82 (x : Option Addr) (w : World) (Q : Value → World → Prop) : Prop :=
 NILC x fun a4 =>
 RDB PG (loadVar 4 (Addr.add a4 4)) w fun x6 =>
 IFB x6
 (∃ S : World → Prop, S (w.drew) ∧
 (NILC x fun a8 =>
 RDSI PG (loadVar 42 (Addr.add a8 3)) .u64 S fun x10 =>
 CALL PG 37 [(.pointer x)] (w.drew) fun v w1 =>
 ∃ x12 : Int, v = (.int .u64 x12) ∧
 (∃ S1 : World → Prop, (∀ x, S1 x → S x) ∧ S1 w1 ∧
 (LETI (minN x10 x12) fun x2 =>
 Q (.int .u64 x2) w1))))
 (CALL PG 37 [(.pointer x)] w fun v1 w2 =>
 ∃ x15 : Int, v1 = (.int .u64 x15) ∧
 (LETI x15 fun x2v1 =>
 Q (.int .u64 x2v1) w2))
theorem eq82 : ∀ (x : Option Addr) (w : World) (Q : Value → World → Prop), vcF PG TB Try.f82 .nil [(.pointer x)] w Q = N82 x w Q := by intros; kernel_rfl
theorem call82 {x : Option Addr} {w : World} {Q : Value → World → Prop} (hN : N82 x w Q) : CALL PG 82 [(.pointer x)] w Q := calls_vc tabOk Try.func82 (by rw [eq82]; exact hN)

/-- (*brougham/ring.Ring).Size -/
def N95 (r : Option Addr) (w : World) (Q : Value → World → Prop) : Prop :=
 NILC r fun a4 =>
 RDL PG (loadVar 58 (Addr.add a4 0)) w fun x6 x6N x6C =>
 LETI (x6N : Int) fun x2 =>
 Q (.int .i64 x2) w
theorem eq95 : ∀ (r : Option Addr) (w : World) (Q : Value → World → Prop), vcF PG TB Try.f95 .nil [(.pointer r)] w Q = N95 r w Q := by intros; kernel_rfl
theorem call95 {r : Option Addr} {w : World} {Q : Value → World → Prop} (hN : N95 r w Q) : CALL PG 95 [(.pointer r)] w Q := calls_vc tabOk Try.func95 (by rw [eq95]; exact hN)

end Go.Br
