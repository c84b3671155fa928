/- What the code of some functions says, as the core reads it; each reading is checked by the kernel. -/
import Derived.Test.YtggajodoaooafaaBrSeat
set_option linter.unusedVariables false
set_option maxRecDepth 100000
namespace Go.Br
open Go Go.Proofs

/-- brougham/link.Seeded -/
def N25 (seed : Int) (w : World) (Q : Value → World → Prop) : Prop :=
 IFB (seed == (0 : Int))
 (RD PG (Instr.build 163 #[(0, (.int .u64 (1 : Int)))]) w fun v =>
 ∃ x6 : Int, v = (.agg #[(.int .u64 x6)]) ∧
 (RUNA PG (Instr.box 163 (.agg #[(.int .u64 x6)])) w fun a7 w1 =>
 Q (.pointer (some a7)) w1))
 (RD PG (Instr.build 163 #[(0, (.int .u64 seed))]) w fun v1 =>
 ∃ x6v1 : Int, v1 = (.agg #[(.int .u64 x6v1)]) ∧
 (RUNA PG (Instr.box 163 (.agg #[(.int .u64 x6v1)])) w fun a7v1 w2 =>
 Q (.pointer (some a7v1)) w2))
theorem eq25 : ∀ (seed : Int) (w : World) (Q : Value → World → Prop), vcF PG TB Try.f25 .nil [(.int .u64 seed)] w Q = N25 seed w Q := by intros; kernel_rfl
theorem call25 {seed : Int} {w : World} {Q : Value → World → Prop} (hN : N25 seed w Q) : CALL PG 25 [(.int .u64 seed)] w Q := calls_vc tabOk Try.func25 (by rw [eq25]; exact hN)

/-- (*brougham/link.Draw).Below -/
def N26 (d : Option Addr) (n : Int) (w : World) (Q : Value → World → Prop) : Prop :=
 IFB (decide (n < (1 : Int)))
 (Q (.int .i64 (0 : Int)) w)
 (CALL PG 28 [(.pointer d)] w fun v w1 =>
 ∃ x8 : Int, v = (.int .u64 x8) ∧
 (NEED ((IntKind.u64.wrap n) ≠ 0)
 (LETI (IntKind.i64.wrap (Int.tmod x8 (IntKind.u64.wrap n))) fun x4 =>
 Q (.int .i64 x4) w1)))
theorem eq26 : ∀ (d : Option Addr) (n : Int) (w : World) (Q : Value → World → Prop), vcF PG TB Try.f26 .nil [(.pointer d), (.int .i64 n)] w Q = N26 d n w Q := by intros; kernel_rfl
theorem call26 {d : Option Addr} {n : Int} {w : World} {Q : Value → World → Prop} (hN : N26 d n w Q) : CALL PG 26 [(.pointer d), (.int .i64 n)] w Q := calls_vc tabOk Try.func26 (by rw [eq26]; exact hN)

/-- brougham/broughamref32.Next -/
def N27 (x : Int) (w : World) (Q : Value → World → Prop) : Prop :=
 NEED (0 ≤ (13 : Int))
 (LETI (IntKind.u64.wrap (BitVec.ofInt (IntKind.u64.bits) x ^^^ BitVec.ofInt (IntKind.u64.bits) (shlN .u64 x (13 : Int))).toNat) fun x1 =>
 NEED (0 ≤ (7 : Int))
 (LETI (IntKind.u64.wrap (BitVec.ofInt (IntKind.u64.bits) x1 ^^^ BitVec.ofInt (IntKind.u64.bits) (shrN .u64 x1 (7 : Int))).toNat) fun x2 =>
 NEED (0 ≤ (17 : Int))
 (LETI (IntKind.u64.wrap (BitVec.ofInt (IntKind.u64.bits) x2 ^^^ BitVec.ofInt (IntKind.u64.bits) (shlN .u64 x2 (17 : Int))).toNat) fun x2v1 =>
 Q (.int .u64 x2v1) w)))
theorem eq27 : ∀ (x : Int) (w : World) (Q : Value → World → Prop), vcF PG TB Try.f27 .nil [(.int .u64 x)] w Q = N27 x w Q := by intros; kernel_rfl
theorem call27 {x : Int} {w : World} {Q : Value → World → Prop} (hN : N27 x w Q) : CALL PG 27 [(.int .u64 x)] w Q := calls_vc tabOk Try.func27 (by rw [eq27]; exact hN)

/-- (*brougham/link.Draw).Next -/
def N28 (d : Option Addr) (w : World) (Q : Value → World → Prop) : Prop :=
 NILC d fun a4 =>
 RDI PG (loadVar 56 (Addr.add a4 0)) .u64 (w.drew) fun x6 =>
 NILC d fun a8 =>
 RDI PG (loadVar 56 (Addr.add a8 0)) .u64 (w.drew) fun x10 =>
 NEED (0 ≤ (13 : Int))
 (NILC d fun a13 =>
 RUNU PG (storeVar 56 (Addr.add a13 0) (.int .u64 (IntKind.u64.wrap (BitVec.ofInt (IntKind.u64.bits) x6 ^^^ BitVec.ofInt (IntKind.u64.bits) (shlN .u64 x10 (13 : Int))).toNat))) (w.drew) fun w1 =>
 NILC d fun a16 =>
 RDI PG (loadVar 56 (Addr.add a16 0)) .u64 (w1.drew) fun x18 =>
 NILC d fun a20 =>
 RDI PG (loadVar 56 (Addr.add a20 0)) .u64 (w1.drew) fun x22 =>
 NEED (0 ≤ (7 : Int))
 (NILC d fun a25 =>
 RUNU PG (storeVar 56 (Addr.add a25 0) (.int .u64 (IntKind.u64.wrap (BitVec.ofInt (IntKind.u64.bits) x18 ^^^ BitVec.ofInt (IntKind.u64.bits) (shrN .u64 x22 (7 : Int))).toNat))) (w1.drew) fun w2 =>
 NILC d fun a28 =>
 RDI PG (loadVar 56 (Addr.add a28 0)) .u64 (w2.drew) fun x30 =>
 NILC d fun a32 =>
 RDI PG (loadVar 56 (Addr.add a32 0)) .u64 (w2.drew) fun x34 =>
 NEED (0 ≤ (17 : Int))
 (NILC d fun a37 =>
 RUNU PG (storeVar 56 (Addr.add a37 0) (.int .u64 (IntKind.u64.wrap (BitVec.ofInt (IntKind.u64.bits) x30 ^^^ BitVec.ofInt (IntKind.u64.bits) (shlN .u64 x34 (17 : Int))).toNat))) (w2.drew) fun w3 =>
 NILC d fun a40 =>
 RDI PG (loadVar 56 (Addr.add a40 0)) .u64 w3 fun x42 =>
 LETI x42 fun x2 =>
 Q (.int .u64 x2) w3)))
theorem eq28 : ∀ (d : Option Addr) (w : World) (Q : Value → World → Prop), vcF PG TB Try.f28 .nil [(.pointer d)] w Q = N28 d w Q := by intros; kernel_rfl
theorem call28 {d : Option Addr} {w : World} {Q : Value → World → Prop} (hN : N28 d w Q) : CALL PG 28 [(.pointer d)] w Q := calls_vc tabOk Try.func28 (by rw [eq28]; exact hN)

/-- brougham/link.New -/
def N30 (m : Int) (m1 : Int) (m2 : Int) (m3 : Int) (m4 : Int) (m5 : Int) (seed : Int) (w : World) (Q : Value → World → Prop) : Prop :=
 RUNA PG (Instr.box 64 (.agg #[(.int .i64 m), (.int .i64 m1), (.int .i64 m2), (.int .i64 m3), (.int .i64 m4), (.int .i64 m5)])) w fun a2 w1 =>
 RD PG (loadVar 64 a2) w1 fun v =>
 ∃ x6 : Int, ∃ x6v1 : Int, ∃ x6v2 : Int, ∃ x6v3 : Int, ∃ x6v4 : Int, ∃ x6v5 : Int, v = (.agg #[(.int .i64 x6), (.int .i64 x6v1), (.int .i64 x6v2), (.int .i64 x6v3), (.int .i64 x6v4), (.int .i64 x6v5)]) ∧
 (CALL PG 33 [(.agg #[(.int .i64 x6), (.int .i64 x6v1), (.int .i64 x6v2), (.int .i64 x6v3), (.int .i64 x6v4), (.int .i64 x6v5)])] w1 fun v1 w2 =>
 ∃ x7 : Bool, v1 = (.bool x7) ∧
 (IFB (!x7)
 (Q (.tuple #[(.pointer none), (.int .i64 (200 : Int))]) w2)
 (∃ S : World → Prop, S (w2.drew) ∧
 (RDS PG (loadVar 64 a2) S fun v2 =>
 ∃ x9 : Int, ∃ x9v1 : Int, ∃ x9v2 : Int, ∃ x9v3 : Int, ∃ x9v4 : Int, ∃ x9v5 : Int, v2 = (.agg #[(.int .i64 x9), (.int .i64 x9v1), (.int .i64 x9v2), (.int .i64 x9v3), (.int .i64 x9v4), (.int .i64 x9v5)]) ∧
 (CALL PG 25 [(.int .u64 seed)] (w2.drew) fun v3 w3 =>
 ∃ x11 : Option Addr, v3 = (.pointer x11) ∧
 (∃ S1 : World → Prop, (∀ x, S1 x → S x) ∧ S1 w3 ∧
 (RDS PG (Instr.build 167 #[(0, (.agg #[(.int .i64 x9), (.int .i64 x9v1), (.int .i64 x9v2), (.int .i64 x9v3), (.int .i64 x9v4), (.int .i64 x9v5)])), (2, (.pointer x11))]) S1 fun v4 =>
 ∃ x12 : Int, ∃ x12v1 : Int, ∃ x12v2 : Int, ∃ x12v3 : Int, ∃ x12v4 : Int, ∃ x12v5 : Int, ∃ x12v6 : Int, ∃ x12v7 : Int, ∃ x12v8 : Int, ∃ x12v9 : Int, ∃ x12v10 : Int, ∃ x12v11 : Option Addr, ∃ x12v12 : Int, ∃ x12v13 : Int, ∃ (x12v14 : Option Addr) (x12N x12C : Nat), v4 = (.agg #[(.int .i64 x12), (.int .i64 x12v1), (.int .i64 x12v2), (.int .i64 x12v3), (.int .i64 x12v4), (.int .i64 x12v5), (.int .i64 x12v6), (.int .i64 x12v7), (.int .i64 x12v8), (.int .i64 x12v9), (.int .i64 x12v10), (.pointer x12v11), (.int .i64 x12v12), (.int .i64 x12v13), (.slice x12v14 x12N x12C)]) ∧
 (RUNA PG (Instr.box 167 (.agg #[(.int .i64 x12), (.int .i64 x12v1), (.int .i64 x12v2), (.int .i64 x12v3), (.int .i64 x12v4), (.int .i64 x12v5), (.int .i64 x12v6), (.int .i64 x12v7), (.int .i64 x12v8), (.int .i64 x12v9), (.int .i64 x12v10), (.pointer x12v11), (.int .i64 x12v12), (.int .i64 x12v13), (.slice x12v14 x12N x12C)])) w3 fun a13 w4 =>
 Q (.tuple #[(.pointer (some a13)), (.int .i64 (0 : Int))]) w4))))))))
theorem eq30 : ∀ (m : Int) (m1 : Int) (m2 : Int) (m3 : Int) (m4 : Int) (m5 : Int) (seed : Int) (w : World) (Q : Value → World → Prop), vcF PG TB Try.f30 .nil [(.agg #[(.int .i64 m), (.int .i64 m1), (.int .i64 m2), (.int .i64 m3), (.int .i64 m4), (.int .i64 m5)]), (.int .u64 seed)] w Q = N30 m m1 m2 m3 m4 m5 seed w Q := by intros; kernel_rfl
theorem call30 {m : Int} {m1 : Int} {m2 : Int} {m3 : Int} {m4 : Int} {m5 : Int} {seed : Int} {w : World} {Q : Value → World → Prop} (hN : N30 m m1 m2 m3 m4 m5 seed w Q) : CALL PG 30 [(.agg #[(.int .i64 m), (.int .i64 m1), (.int .i64 m2), (.int .i64 m3), (.int .i64 m4), (.int .i64 m5)]), (.int .u64 seed)] w Q := calls_vc tabOk Try.func30 (by rw [eq30]; exact hN)

/-- brougham/link.Right -/
def N33 (m : Int) (m1 : Int) (m2 : Int) (m3 : Int) (m4 : Int) (m5 : Int) (w : World) (Q : Value → World → Prop) : Prop :=
 RUNA PG (Instr.box 64 (.agg #[(.int .i64 m), (.int .i64 m1), (.int .i64 m2), (.int .i64 m3), (.int .i64 m4), (.int .i64 m5)])) w fun a1 w1 =>
 RDI PG (loadVar 3 (Addr.add a1 0)) .i64 w1 fun x6 =>
 CALLV PG (.func (.func 80) #[] #[]) [(.int .i64 x6), (.int .i64 (0 : Int)), (.int .i64 (256 : Int))] w1 fun v w2 =>
 ∃ x7 : Bool, v = (.bool x7) ∧
 (IFB x7
 (RDI PG (loadVar 3 (Addr.add a1 1)) .i64 w2 fun x11 =>
 CALLV PG (.func (.func 80) #[] #[]) [(.int .i64 x11), (.int .i64 (0 : Int)), (.int .i64 (256 : Int))] w2 fun v1 w3 =>
 ∃ x12 : Bool, v1 = (.bool x12) ∧
 (IFB x12
 (RDI PG (loadVar 3 (Addr.add a1 2)) .i64 w3 fun x17 =>
 CALLV PG (.func (.func 80) #[] #[]) [(.int .i64 x17), (.int .i64 (0 : Int)), (.int .i64 (1000 : Int))] w3 fun v2 w4 =>
 ∃ x18 : Bool, v2 = (.bool x18) ∧
 (IFB x18
 (RDI PG (loadVar 3 (Addr.add a1 3)) .i64 w4 fun x23 =>
 CALLV PG (.func (.func 80) #[] #[]) [(.int .i64 x23), (.int .i64 (0 : Int)), (.int .i64 (1000 : Int))] w4 fun v3 w5 =>
 ∃ x24 : Bool, v3 = (.bool x24) ∧
 (IFB x24
 (RDI PG (loadVar 3 (Addr.add a1 4)) .i64 w5 fun x29 =>
 CALLV PG (.func (.func 80) #[] #[]) [(.int .i64 x29), (.int .i64 (0 : Int)), (.int .i64 (256 : Int))] w5 fun v4 w6 =>
 ∃ x30 : Bool, v4 = (.bool x30) ∧
 (IFB x30
 (RDI PG (loadVar 3 (Addr.add a1 5)) .i64 w6 fun x35 =>
 CALLV PG (.func (.func 80) #[] #[]) [(.int .i64 x35), (.int .i64 (1 : Int)), (.int .i64 (256 : Int))] w6 fun v5 w7 =>
 ∃ x36 : Bool, v5 = (.bool x36) ∧
 (LETB x36 fun x2 =>
 Q (.bool x2) w7))
 (LETB false fun x2v1 =>
 Q (.bool x2v1) w6)))
 (LETB false fun x2v2 =>
 Q (.bool x2v2) w5)))
 (LETB false fun x2v3 =>
 Q (.bool x2v3) w4)))
 (LETB false fun x2v4 =>
 Q (.bool x2v4) w3)))
 (LETB false fun x2v5 =>
 Q (.bool x2v5) w2))
theorem eq33 : ∀ (m : Int) (m1 : Int) (m2 : Int) (m3 : Int) (m4 : Int) (m5 : Int) (w : World) (Q : Value → World → Prop), vcF PG TB Try.f33 .nil [(.agg #[(.int .i64 m), (.int .i64 m1), (.int .i64 m2), (.int .i64 m3), (.int .i64 m4), (.int .i64 m5)])] w Q = N33 m m1 m2 m3 m4 m5 w Q := by intros; kernel_rfl
theorem call33 {m : Int} {m1 : Int} {m2 : Int} {m3 : Int} {m4 : Int} {m5 : Int} {w : World} {Q : Value → World → Prop} (hN : N33 m m1 m2 m3 m4 m5 w Q) : CALL PG 33 [(.agg #[(.int .i64 m), (.int .i64 m1), (.int .i64 m2), (.int .i64 m3), (.int .i64 m4), (.int .i64 m5)])] w Q := calls_vc tabOk Try.func33 (by rw [eq33]; exact hN)

/-- (*brougham/link.Link).Send -/
def N38 (x : Option Addr) (b : Option Addr) (bN bC : Nat) (w : World) (Q : Value → World → Prop) : Prop :=
 NILC x fun a6 =>
 RDI PG (loadVar 3 (Addr.add (Addr.add a6 6) 0)) .i64 w fun x9 =>
 NILC x fun a11 =>
 RUNU PG (storeVar 3 (Addr.add (Addr.add a11 6) 0) (.int .i64 (IntKind.i64.wrap (x9 + (1 : Int))))) w fun w1 =>
 ∃ S : World → Prop, S (w1.drew) ∧
 (NILC x fun a15 =>
 RDSP PG (loadVar 57 (Addr.add a15 11)) S fun x17 =>
 NILC x fun a20 =>
 RDSI PG (loadVar 3 (Addr.add (Addr.add a20 0) 2)) .i64 S fun x23 =>
 CALL PG 26 [(.pointer x17), (.int .i64 (1000 : Int))] (w1.drew) fun v w2 =>
 ∃ x18 : Int, v = (.int .i64 x18) ∧
 (∃ S1 : World → Prop, (∀ x, S1 x → S x) ∧ S1 w2 ∧
 (IFB (decide (x18 < x23))
 (NILC x fun a26 =>
 RDI PG (loadVar 3 (Addr.add (Addr.add a26 6) 1)) .i64 w2 fun x29 =>
 NILC x fun a31 =>
 RUNU PG (storeVar 3 (Addr.add (Addr.add a31 6) 1) (.int .i64 (IntKind.i64.wrap (x29 + (1 : Int))))) w2 fun w3 =>
 Q (.tuple #[]) w3)
 (∃ S2 : World → Prop, S2 (w2.drew) ∧
 (NILC x fun a35 =>
 RDSP PG (loadVar 57 (Addr.add a35 11)) S2 fun x37 =>
 NILC x fun a40 =>
 RDSI PG (loadVar 3 (Addr.add (Addr.add a40 0) 3)) .i64 S2 fun x43 =>
 CALL PG 26 [(.pointer x37), (.int .i64 (1000 : Int))] (w2.drew) fun v1 w4 =>
 ∃ x38 : Int, v1 = (.int .i64 x38) ∧
 (∃ S3 : World → Prop, (∀ x, S3 x → S2 x) ∧ S3 w4 ∧
 (LETB (decide (x38 < x43)) fun twice =>
 CALL PG 84 [(.pointer x), (.slice b bN bC)] w4 fun v2 w5 =>
 v2 = (.tuple #[]) ∧
 (IFB twice
 (NILC x fun a50 =>
 RDI PG (loadVar 3 (Addr.add (Addr.add a50 6) 3)) .i64 w5 fun x53 =>
 NILC x fun a55 =>
 RUNU PG (storeVar 3 (Addr.add (Addr.add a55 6) 3) (.int .i64 (IntKind.i64.wrap (x53 + (1 : Int))))) w5 fun w6 =>
 CALL PG 84 [(.pointer x), (.slice b bN bC)] w6 fun v3 w7 =>
 v3 = (.tuple #[]) ∧
 (Q (.tuple #[]) w7))
 (Q (.tuple #[]) w5)))))))))
theorem eq38 : ∀ (x : Option Addr) (b : Option Addr) (bN bC : Nat) (w : World) (Q : Value → World → Prop), vcF PG TB Try.f38 .nil [(.pointer x), (.slice b bN bC)] w Q = N38 x b bN bC w Q := by intros; kernel_rfl
theorem call38 {x : Option Addr} {b : Option Addr} {bN bC : Nat} {w : World} {Q : Value → World → Prop} (hN : N38 x b bN bC w Q) : CALL PG 38 [(.pointer x), (.slice b bN bC)] w Q := calls_vc tabOk Try.func38 (by rw [eq38]; exact hN)

/-- (*brougham/link.Link).Waits -/
def N40 (x : Option Addr) (w : World) (Q : Value → World → Prop) : Prop :=
 NILC x fun a4 =>
 RDL PG (loadVar 165 (Addr.add a4 14)) w fun x6 x6N x6C =>
 LETI (x6N : Int) fun x2 =>
 Q (.int .i64 x2) w
theorem eq40 : ∀ (x : Option Addr) (w : World) (Q : Value → World → Prop), vcF PG TB Try.f40 .nil [(.pointer x)] w Q = N40 x w Q := by intros; kernel_rfl
theorem call40 {x : Option Addr} {w : World} {Q : Value → World → Prop} (hN : N40 x w Q) : CALL PG 40 [(.pointer x)] w Q := calls_vc tabOk Try.func40 (by rw [eq40]; exact hN)

/-- (*brougham/link.Link).Seen -/
def N41 (x : Option Addr) (w : World) (Q : Value → World → Prop) : Prop :=
 RUNA PG (Instr.alloc 87 true (.tuple #[])) w fun a2 w1 =>
 NILC x fun a4 =>
 RD PG (loadVar 87 (Addr.add a4 6)) w1 fun v =>
 ∃ x6 : Int, ∃ x6v1 : Int, ∃ x6v2 : Int, ∃ x6v3 : Int, ∃ x6v4 : Int, v = (.agg #[(.int .i64 x6), (.int .i64 x6v1), (.int .i64 x6v2), (.int .i64 x6v3), (.int .i64 x6v4)]) ∧
 (RUNU PG (storeVar 87 a2 (.agg #[(.int .i64 x6), (.int .i64 x6v1), (.int .i64 x6v2), (.int .i64 x6v3), (.int .i64 x6v4)])) w1 fun w2 =>
 RD PG (loadVar 87 a2) w2 fun v2 =>
 ∃ r : Int, ∃ r1 : Int, ∃ r2 : Int, ∃ r3 : Int, ∃ r4 : Int, v2 = (.agg #[(.int .i64 r), (.int .i64 r1), (.int .i64 r2), (.int .i64 r3), (.int .i64 r4)]) ∧
 (Q (.agg #[(.int .i64 r), (.int .i64 r1), (.int .i64 r2), (.int .i64 r3), (.int .i64 r4)]) w2))
theorem eq41 : ∀ (x : Option Addr) (w : World) (Q : Value → World → Prop), vcF PG TB Try.f41 .nil [(.pointer x)] w Q = N41 x w Q := by intros; kernel_rfl
theorem call41 {x : Option Addr} {w : World} {Q : Value → World → Prop} (hN : N41 x w Q) : CALL PG 41 [(.pointer x)] w Q := calls_vc tabOk Try.func41 (by rw [eq41]; exact hN)

/-- brougham/link.Right$1 -/
def N80 (n : Int) (lo : Int) (hi : Int) (w : World) (Q : Value → World → Prop) : Prop :=
 IFB (decide (n ≥ lo))
 (LETB (decide (n ≤ hi)) fun x6 =>
 Q (.bool x6) w)
 (LETB false fun x6v1 =>
 Q (.bool x6v1) w)
theorem eq80 : ∀ (n : Int) (lo : Int) (hi : Int) (w : World) (Q : Value → World → Prop), vcF PG TB Try.f80 .nil [(.int .i64 n), (.int .i64 lo), (.int .i64 hi)] w Q = N80 n lo hi w Q := by intros; kernel_rfl
theorem call80 {n : Int} {lo : Int} {hi : Int} {w : World} {Q : Value → World → Prop} (hN : N80 n lo hi w Q) : CALL PG 80 [(.int .i64 n), (.int .i64 lo), (.int .i64 hi)] w Q := calls_vc tabOk Try.func80 (by rw [eq80]; exact hN)

/-- slices.Clone[[]brougham/link.item,brougham/link.item] -/
def N83 (s : Option Addr) (sN sC : Nat) (w : World) (Q : Value → World → Prop) : Prop :=
 IFB (s.isNone)
 (Q (.slice none 0 0) w)
 (RUNL PG (Instr.buildSlice 165 0 #[]) w fun x5 x5N x5C w1 =>
 RUNL PG (Builtin.append_ #[165, 165] 165 #[(.slice x5 x5N x5C), (.slice s sN sC)]) w1 fun x7 x7N x7C w2 =>
 Q (.slice x7 x7N x7C) w2)
theorem eq83 : ∀ (s : Option Addr) (sN sC : Nat) (w : World) (Q : Value → World → Prop), vcF PG TB Try.f83 .nil [(.slice s sN sC)] w Q = N83 s sN sC w Q := by intros; kernel_rfl
theorem call83 {s : Option Addr} {sN sC : Nat} {w : World} {Q : Value → World → Prop} (hN : N83 s sN sC w Q) : CALL PG 83 [(.slice s sN sC)] w Q := calls_vc tabOk Try.func83 (by rw [eq83]; exact hN)

/-- (*brougham/link.Link).put -/
def N84 (x : Option Addr) (b : Option Addr) (bN bC : Nat) (w : World) (Q : Value → World → Prop) : Prop :=
 NILC x fun a6 =>
 RDL PG (loadVar 165 (Addr.add a6 14)) (w.drew) fun x8 x8N x8C =>
 NILC x fun a11 =>
 RDI PG (loadVar 3 (Addr.add (Addr.add a11 0) 4)) .i64 (w.drew) fun x14 =>
 IFB (decide ((x8N : Int) ≥ x14))
 (NILC x fun a17 =>
 RDI PG (loadVar 3 (Addr.add (Addr.add a17 6) 2)) .i64 (w.drew) fun x20 =>
 NILC x fun a22 =>
 RUNU PG (storeVar 3 (Addr.add (Addr.add a22 6) 2) (.int .i64 (IntKind.i64.wrap (x20 + (1 : Int))))) (w.drew) fun w1 =>
 Q (.tuple #[]) w1)
 (∃ R : Int → World → Prop,
 (NILC x fun a26 =>
 RDI PG (loadVar 3 (Addr.add (Addr.add a26 0) 1)) .i64 (w.drew) fun x29 =>
 IFB (decide (x29 > (0 : Int)))
 (NILC x fun a32 =>
 RDP PG (loadVar 57 (Addr.add a32 11)) ((w.drew).drew) fun x34 =>
 NILC x fun a36 =>
 RDI PG (loadVar 3 (Addr.add (Addr.add a36 0) 1)) .i64 ((w.drew).drew) fun x39 =>
 CALL PG 26 [(.pointer x34), (.int .i64 (IntKind.i64.wrap (x39 + (1 : Int))))] ((w.drew).drew) fun v w2 =>
 ∃ x41 : Int, v = (.int .i64 x41) ∧
 (LETI x41 fun late =>
 R late w2))
 (R (0 : Int) (w.drew))) ∧
 (∀ (late1 : Int) (w3 : World), R late1 w3 → (NILC x fun a43 =>
 RDI PG (loadVar 3 (Addr.add a43 13)) .i64 w3 fun x45 =>
 NILC x fun a47 =>
 RUNU PG (storeVar 3 (Addr.add a47 13) (.int .i64 (IntKind.i64.wrap (x45 + (1 : Int))))) w3 fun w4 =>
 ∃ S : World → Prop, S (w4.drew) ∧
 (NILC x fun a51 =>
 RDSL PG (loadVar 165 (Addr.add a51 14)) S fun x53 x53N x53C =>
 NILC x fun a55 =>
 RDSI PG (loadVar 3 (Addr.add a55 12)) .i64 S fun x57 =>
 NILC x fun a59 =>
 RDSI PG (loadVar 3 (Addr.add (Addr.add a59 0) 0)) .i64 S fun x62 =>
 NILC x fun a67 =>
 RDSI PG (loadVar 3 (Addr.add a67 13)) .i64 S fun x69 =>
 CALL PG 121 [(.slice b bN bC)] (w4.drew) fun v1 w5 =>
 ∃ (x71 : Option Addr) (x71N x71C : Nat), v1 = (.slice x71 x71N x71C) ∧
 (∃ S1 : World → Prop, (∀ x, S1 x → S x) ∧ S1 w5 ∧
 (RDS PG (Instr.build 173 #[(0, (.int .i64 (IntKind.i64.wrap ((IntKind.i64.wrap (x57 + x62)) + late1)))), (1, (.int .i64 x69)), (2, (.slice x71 x71N x71C))]) S1 fun v2 =>
 ∃ x72 : Int, ∃ x72v1 : Int, ∃ (x72v2 : Option Addr) (x72N x72C : Nat), v2 = (.agg #[(.int .i64 x72), (.int .i64 x72v1), (.slice x72v2 x72N x72C)]) ∧
 (RUNL PG (Instr.buildSlice 165 1 #[(0, (.agg #[(.int .i64 x72), (.int .i64 x72v1), (.slice x72v2 x72N x72C)]))]) w5 fun x73 x73N x73C w6 =>
 ∃ S2 : World → Prop, (∀ x, S2 x → S1 x) ∧ S2 w6 ∧
 (RUNL PG (Builtin.append_ #[165, 165] 165 #[(.slice x53 x53N x53C), (.slice x73 x73N x73C)]) w6 fun x74 x74N x74C w7 =>
 NILC x fun a75 =>
 RUNU PG (storeVar 165 (Addr.add a75 14) (.slice x74 x74N x74C)) w7 fun w8 =>
 Q (.tuple #[]) w8))))))))
theorem eq84 : ∀ (x : Option Addr) (b : Option Addr) (bN bC : Nat) (w : World) (Q : Value → World → Prop), vcF PG TB Try.f84 (.s .nil (.s .nil (.cut [(4, 3)] .nil .nil))) [(.pointer x), (.slice b bN bC)] w Q = N84 x b bN bC w Q := by intros; kernel_rfl
theorem call84 {x : Option Addr} {b : Option Addr} {bN bC : Nat} {w : World} {Q : Value → World → Prop} (hN : N84 x b bN bC w Q) : CALL PG 84 [(.pointer x), (.slice b bN bC)] w Q := calls_vc tabOk Try.func84 (by rw [eq84]; exact hN)

/-- slices.Clone[[]byte,byte] -/
def N121 (s : Option Addr) (sN sC : Nat) (w : World) (Q : Value → World → Prop) : Prop :=
 IFB (s.isNone)
 (Q (.slice none 0 0) w)
 (RUNL PG (Instr.buildSlice 30 0 #[]) w fun x5 x5N x5C w1 =>
 RUNL PG (Builtin.append_ #[30, 30] 30 #[(.slice x5 x5N x5C), (.slice s sN sC)]) w1 fun x7 x7N x7C w2 =>
 Q (.slice x7 x7N x7C) w2)
theorem eq121 : ∀ (s : Option Addr) (sN sC : Nat) (w : World) (Q : Value → World → Prop), vcF PG TB Try.f121 .nil [(.slice s sN sC)] w Q = N121 s sN sC w Q := by intros; kernel_rfl
theorem call121 {s : Option Addr} {sN sC : Nat} {w : World} {Q : Value → World → Prop} (hN : N121 s sN sC w Q) : CALL PG 121 [(.slice s sN sC)] w Q := calls_vc tabOk Try.func121 (by rw [eq121]; exact hN)

end Go.Br
