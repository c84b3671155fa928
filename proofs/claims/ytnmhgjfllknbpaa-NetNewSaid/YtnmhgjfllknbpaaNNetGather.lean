/- What the code of some functions says, as the core reads it; each reading is checked by the kernel. -/
import Derived.Test.YtnmhgjfllknbpaaBrSeat
set_option linter.unusedVariables false
set_option maxRecDepth 100000
namespace Go.Br
open Go Go.Proofs

/-- (*brougham/net.Net).Host -/
def N7 (n : Option Addr) (i : Int) (w : World) (Q : Value → World → Prop) : Prop :=
 IFB (decide (i < (0 : Int)))
 (Q (.pointer none) w)
 (IFB (decide (i > (1 : Int)))
 (Q (.pointer none) w)
 (NILC n fun a13 =>
 NEED (0 ≤ i ∧ i < ((2 : Nat) : Int))
 (RDP PG (loadVar 36 (Addr.add (Addr.add a13 0) (Int.toNat i * 1))) w fun x16 =>
 Q (.pointer x16) w)))
theorem eq7 : ∀ (n : Option Addr) (i : Int) (w : World) (Q : Value → World → Prop), vcF PG TB Try.f7 .nil [(.pointer n), (.int .i64 i)] w Q = N7 n i w Q := by intros; kernel_rfl
theorem call7 {n : Option Addr} {i : Int} {w : World} {Q : Value → World → Prop} (hN : N7 n i w Q) : CALL PG 7 [(.pointer n), (.int .i64 i)] w Q := calls_vc tabOk Try.func7 (by rw [eq7]; exact hN)

/-- (*brougham/net.Net).Waits -/
def N8 (n : Option Addr) (w : World) (Q : Value → World → Prop) : Prop :=
 NILC n fun a4 =>
 RDL PG (loadVar 39 (Addr.add a4 2)) w fun x6 x6N x6C =>
 LETI (x6N : Int) fun x2 =>
 Q (.int .i64 x2) w
theorem eq8 : ∀ (n : Option Addr) (w : World) (Q : Value → World → Prop), vcF PG TB Try.f8 .nil [(.pointer n)] w Q = N8 n w Q := by intros; kernel_rfl
theorem call8 {n : Option Addr} {w : World} {Q : Value → World → Prop} (hN : N8 n w Q) : CALL PG 8 [(.pointer n)] w Q := calls_vc tabOk Try.func8 (by rw [eq8]; exact hN)

/-- (*brougham/net.Net).Gather -/
def N15 (n : Option Addr) (w : World) (Q : Value → World → Prop) : Prop :=
 NILC n fun a8 =>
 RD PG (loadVar 44 (Addr.add a8 0)) w fun v =>
 ∃ x10 : Value, v = x10 ∧
 (∃ I : Nat → Int → World → Prop,
 (∃ m, I m (0 : Int) w) ∧
 (∀ m1 (x11 : Int) (w1 : World), I m1 x11 w1 → (IFB (decide (x11 < (2 : Int)))
 (RDP PG (Instr.index 44 x10 (.int .i64 x11)) w1 fun x14 =>
 LETI x11 fun i =>
 CALL PG 26 [(.pointer x14)] w1 fun v1 w2 =>
 ∃ (x16 : Option Addr) (x16N x16C : Nat), v1 = (.slice x16 x16N x16C) ∧
 (∃ I1 : Nat → Int → World → Prop,
 (∃ m2, I1 m2 (0 : Int) w2) ∧
 (∀ m3 (x18 : Int) (w3 : World), I1 m3 x18 w3 → (IFB (decide (x18 < (x16N : Int)))
 (IDX x16 x16N x18 fun a20 =>
 RD PG (loadVar 82 (Addr.add a20 (Int.toNat x18 * 2))) w3 fun v2 =>
 ∃ x21 : Int, ∃ (x21v1 : Option Addr) (x21N x21C : Nat), v2 = (.agg #[(.int .i64 x21), (.slice x21v1 x21N x21C)]) ∧
 (RUNA PG (Instr.alloc 82 true (.tuple #[])) w3 fun a5 w4 =>
 RUNU PG (storeVar 82 a5 (.agg #[(.int .i64 x21), (.slice x21v1 x21N x21C)])) w4 fun w5 =>
 ∃ S : World → Prop, S (w5.drew) ∧
 (RDSI PG (loadVar 3 (Addr.add a5 0)) .i64 S fun x25 =>
 RDSL PG (loadVar 80 (Addr.add a5 1)) S fun x27 x27N x27C =>
 (CALL PG 27 [(.slice x27 x27N x27C)] (w5.drew) fun v3 w6 =>
 ∃ (x28 : Option Addr) (x28N x28C : Nat), v3 = (.slice x28 x28N x28C) ∧
 (∃ S1 : World → Prop, (∀ x, S1 x → S x) ∧ S1 w6 ∧
 (RDS PG (Instr.build 82 #[(0, (.int .i64 x25)), (1, (.slice x28 x28N x28C))]) S1 fun v4 =>
 ∃ x29 : Int, ∃ (x29v1 : Option Addr) (x29N x29C : Nat), v4 = (.agg #[(.int .i64 x29), (.slice x29v1 x29N x29C)]) ∧
 (RDS PG (Instr.build 85 #[(0, (.int .i64 (IntKind.i64.wrap ((1 : Int) - i)))), (1, (.agg #[(.int .i64 x29), (.slice x29v1 x29N x29C)]))]) S1 fun v5 =>
 ∃ x30 : Int, ∃ x30v1 : Int, ∃ (x30v2 : Option Addr) (x30N x30C : Nat), v5 = (.agg #[(.int .i64 x30), (.int .i64 x30v1), (.slice x30v2 x30N x30C)]) ∧
 (RUNA PG (Instr.alloc 85 true (.tuple #[])) w6 fun a6 w7 =>
 ∃ S2 : World → Prop, (∀ x, S2 x → S1 x) ∧ S2 w7 ∧
 (RUNU PG (storeVar 85 a6 (.agg #[(.int .i64 x30), (.int .i64 x30v1), (.slice x30v2 x30N x30C)])) w7 fun w8 =>
 ∃ S3 : World → Prop, S3 (w8.drew) ∧
 (NILC n fun a33 =>
 RDSL PG (loadVar 39 (Addr.add a33 3)) S3 fun x35 x35N x35C =>
 RDS PG (loadVar 85 a6) S3 fun v6 =>
 ∃ x36 : Int, ∃ x36v1 : Int, ∃ (x36v2 : Option Addr) (x36N x36C : Nat), v6 = (.agg #[(.int .i64 x36), (.int .i64 x36v1), (.slice x36v2 x36N x36C)]) ∧
 (RUNL PG (Instr.buildSlice 39 1 #[(0, (.agg #[(.int .i64 x36), (.int .i64 x36v1), (.slice x36v2 x36N x36C)]))]) (w8.drew) fun x37 x37N x37C w9 =>
 ∃ S4 : World → Prop, (∀ x, S4 x → S3 x) ∧ S4 w9 ∧
 (RUNL PG (Builtin.append_ #[39, 39] 39 #[(.slice x35 x35N x35C), (.slice x37 x37N x37C)]) w9 fun x38 x38N x38C w10 =>
 NILC n fun a39 =>
 RUNU PG (storeVar 39 (Addr.add a39 3) (.slice x38 x38N x38C)) w10 fun w11 =>
 RD PG (loadVar 85 a6) w11 fun v7 =>
 ∃ x42 : Int, ∃ x42v1 : Int, ∃ (x42v2 : Option Addr) (x42N x42C : Nat), v7 = (.agg #[(.int .i64 x42), (.int .i64 x42v1), (.slice x42v2 x42N x42C)]) ∧
 (CALL PG 28 [(.pointer n), (.agg #[(.int .i64 x42), (.int .i64 x42v1), (.slice x42v2 x42N x42C)])] w11 fun v8 w12 =>
 ∃ x43 : Bool, v8 = (.bool x43) ∧
 (∃ m4, m4 < m3 ∧ I1 m4 (IntKind.i64.wrap (x18 + (1 : Int))) w12))))))))))) ∧
 (RUNA PG (Instr.alloc 85 true (.tuple #[])) (w5.drew) fun a6v1 w13 =>
 ∃ S5 : World → Prop, (∀ x, S5 x → S x) ∧ S5 w13 ∧
 (CALL PG 27 [(.slice x27 x27N x27C)] w13 fun v9 w14 =>
 ∃ (x28v1 : Option Addr) (x28N1 x28C1 : Nat), v9 = (.slice x28v1 x28N1 x28C1) ∧
 (∃ S6 : World → Prop, (∀ x, S6 x → S5 x) ∧ S6 w14 ∧
 (RDS PG (Instr.build 82 #[(0, (.int .i64 x25)), (1, (.slice x28v1 x28N1 x28C1))]) S6 fun v10 =>
 ∃ x29v2 : Int, ∃ (x29v3 : Option Addr) (x29N1 x29C1 : Nat), v10 = (.agg #[(.int .i64 x29v2), (.slice x29v3 x29N1 x29C1)]) ∧
 (RDS PG (Instr.build 85 #[(0, (.int .i64 (IntKind.i64.wrap ((1 : Int) - i)))), (1, (.agg #[(.int .i64 x29v2), (.slice x29v3 x29N1 x29C1)]))]) S6 fun v11 =>
 ∃ x30v3 : Int, ∃ x30v4 : Int, ∃ (x30v5 : Option Addr) (x30N1 x30C1 : Nat), v11 = (.agg #[(.int .i64 x30v3), (.int .i64 x30v4), (.slice x30v5 x30N1 x30C1)]) ∧
 (RUNU PG (storeVar 85 a6v1 (.agg #[(.int .i64 x30v3), (.int .i64 x30v4), (.slice x30v5 x30N1 x30C1)])) w14 fun w15 =>
 ∃ S7 : World → Prop, S7 (w15.drew) ∧
 (NILC n fun a33v1 =>
 RDSL PG (loadVar 39 (Addr.add a33v1 3)) S7 fun x35v1 x35N1 x35C1 =>
 RDS PG (loadVar 85 a6v1) S7 fun v12 =>
 ∃ x36v3 : Int, ∃ x36v4 : Int, ∃ (x36v5 : Option Addr) (x36N1 x36C1 : Nat), v12 = (.agg #[(.int .i64 x36v3), (.int .i64 x36v4), (.slice x36v5 x36N1 x36C1)]) ∧
 (RUNL PG (Instr.buildSlice 39 1 #[(0, (.agg #[(.int .i64 x36v3), (.int .i64 x36v4), (.slice x36v5 x36N1 x36C1)]))]) (w15.drew) fun x37v1 x37N1 x37C1 w16 =>
 ∃ S8 : World → Prop, (∀ x, S8 x → S7 x) ∧ S8 w16 ∧
 (RUNL PG (Builtin.append_ #[39, 39] 39 #[(.slice x35v1 x35N1 x35C1), (.slice x37v1 x37N1 x37C1)]) w16 fun x38v1 x38N1 x38C1 w17 =>
 NILC n fun a39v1 =>
 RUNU PG (storeVar 39 (Addr.add a39v1 3) (.slice x38v1 x38N1 x38C1)) w17 fun w18 =>
 RD PG (loadVar 85 a6v1) w18 fun v13 =>
 ∃ x42v3 : Int, ∃ x42v4 : Int, ∃ (x42v5 : Option Addr) (x42N1 x42C1 : Nat), v13 = (.agg #[(.int .i64 x42v3), (.int .i64 x42v4), (.slice x42v5 x42N1 x42C1)]) ∧
 (CALL PG 28 [(.pointer n), (.agg #[(.int .i64 x42v3), (.int .i64 x42v4), (.slice x42v5 x42N1 x42C1)])] w18 fun v14 w19 =>
 ∃ x43v1 : Bool, v14 = (.bool x43v1) ∧
 (∃ m5, m5 < m3 ∧ I1 m5 (IntKind.i64.wrap (x18 + (1 : Int))) w19))))))))))))))
 (∃ m6, m6 < m1 ∧ I m6 (IntKind.i64.wrap (x11 + (1 : Int))) w3)))))
 (Q (.tuple #[]) w1))))
theorem eq15 : ∀ (n : Option Addr) (w : World) (Q : Value → World → Prop), vcF PG TB Try.f15 (.s .nil (.u (.loop [(11, 3)] (.s .nil (.s .nil (.s (.u (.s .nil (.s .nil (.u (.loop [(18, 3)] .nil))))) .nil)))))) [(.pointer n)] w Q = N15 n w Q := by intros; kernel_rfl
theorem call15 {n : Option Addr} {w : World} {Q : Value → World → Prop} (hN : N15 n w Q) : CALL PG 15 [(.pointer n)] w Q := calls_vc tabOk Try.func15 (by rw [eq15]; exact hN)

/-- (*brougham/net.Net).Sent -/
def N16 (n : Option Addr) (w : World) (Q : Value → World → Prop) : Prop :=
 NILC n fun a4 =>
 RDL PG (loadVar 39 (Addr.add a4 3)) w fun x6 x6N x6C =>
 LETI (x6N : Int) fun x2 =>
 Q (.int .i64 x2) w
theorem eq16 : ∀ (n : Option Addr) (w : World) (Q : Value → World → Prop), vcF PG TB Try.f16 .nil [(.pointer n)] w Q = N16 n w Q := by intros; kernel_rfl
theorem call16 {n : Option Addr} {w : World} {Q : Value → World → Prop} (hN : N16 n w Q) : CALL PG 16 [(.pointer n)] w Q := calls_vc tabOk Try.func16 (by rw [eq16]; exact hN)

/-- (*brougham/net.Net).Lost -/
def N17 (n : Option Addr) (w : World) (Q : Value → World → Prop) : Prop :=
 NILC n fun a4 =>
 RDI PG (loadVar 3 (Addr.add a4 4)) .i64 w fun x6 =>
 LETI x6 fun x2 =>
 Q (.int .i64 x2) w
theorem eq17 : ∀ (n : Option Addr) (w : World) (Q : Value → World → Prop), vcF PG TB Try.f17 .nil [(.pointer n)] w Q = N17 n w Q := by intros; kernel_rfl
theorem call17 {n : Option Addr} {w : World} {Q : Value → World → Prop} (hN : N17 n w Q) : CALL PG 17 [(.pointer n)] w Q := calls_vc tabOk Try.func17 (by rw [eq17]; exact hN)

/-- slices.Clone[[]byte,byte] -/
def N27 (s : Option Addr) (sN sC : Nat) (w : World) (Q : Value → World → Prop) : Prop :=
 IFB (s.isNone)
 (Q (.slice none 0 0) w)
 (RUNL PG (Instr.buildSlice 80 0 #[]) w fun x5 x5N x5C w1 =>
 RUNL PG (Builtin.append_ #[80, 80] 80 #[(.slice x5 x5N x5C), (.slice s sN sC)]) w1 fun x7 x7N x7C w2 =>
 Q (.slice x7 x7N x7C) w2)
theorem eq27 : ∀ (s : Option Addr) (sN sC : Nat) (w : World) (Q : Value → World → Prop), vcF PG TB Try.f27 .nil [(.slice s sN sC)] w Q = N27 s sN sC w Q := by intros; kernel_rfl
theorem call27 {s : Option Addr} {sN sC : Nat} {w : World} {Q : Value → World → Prop} (hN : N27 s sN sC w Q) : CALL PG 27 [(.slice s sN sC)] w Q := calls_vc tabOk Try.func27 (by rw [eq27]; exact hN)

/-- (*brougham/net.Net).fly -/
def N28 (n : Option Addr) (f : Int) (f1 : Int) (f2 : Option Addr) (fN fC : Nat) (w : World) (Q : Value → World → Prop) : Prop :=
 RUNA PG (Instr.box 85 (.agg #[(.int .i64 f), (.int .i64 f1), (.slice f2 fN fC)])) w fun a3 w1 =>
 NILC n fun a6 =>
 RDL PG (loadVar 39 (Addr.add a6 2)) w1 fun x8 x8N x8C =>
 IFB (decide ((x8N : Int) ≥ (256 : Int)))
 (NILC n fun a12 =>
 RDI PG (loadVar 3 (Addr.add a12 4)) .i64 w1 fun x14 =>
 NILC n fun a16 =>
 RUNU PG (storeVar 3 (Addr.add a16 4) (.int .i64 (IntKind.i64.wrap (x14 + (1 : Int))))) w1 fun w2 =>
 Q (.bool false) w2)
 (∃ S : World → Prop, S (w1.drew) ∧
 (NILC n fun a20 =>
 RDSL PG (loadVar 39 (Addr.add a20 2)) S fun x22 x22N x22C =>
 RDS PG (loadVar 85 a3) S fun v =>
 ∃ x23 : Int, ∃ x23v1 : Int, ∃ (x23v2 : Option Addr) (x23N x23C : Nat), v = (.agg #[(.int .i64 x23), (.int .i64 x23v1), (.slice x23v2 x23N x23C)]) ∧
 (RUNL PG (Instr.buildSlice 39 1 #[(0, (.agg #[(.int .i64 x23), (.int .i64 x23v1), (.slice x23v2 x23N x23C)]))]) (w1.drew) fun x24 x24N x24C w3 =>
 ∃ S1 : World → Prop, (∀ x, S1 x → S x) ∧ S1 w3 ∧
 (RUNL PG (Builtin.append_ #[39, 39] 39 #[(.slice x22 x22N x22C), (.slice x24 x24N x24C)]) w3 fun x25 x25N x25C w4 =>
 NILC n fun a26 =>
 RUNU PG (storeVar 39 (Addr.add a26 2) (.slice x25 x25N x25C)) w4 fun w5 =>
 Q (.bool true) w5))))
theorem eq28 : ∀ (n : Option Addr) (f : Int) (f1 : Int) (f2 : Option Addr) (fN fC : Nat) (w : World) (Q : Value → World → Prop), vcF PG TB Try.f28 .nil [(.pointer n), (.agg #[(.int .i64 f), (.int .i64 f1), (.slice f2 fN fC)])] w Q = N28 n f f1 f2 fN fC w Q := by intros; kernel_rfl
theorem call28 {n : Option Addr} {f : Int} {f1 : Int} {f2 : Option Addr} {fN fC : Nat} {w : World} {Q : Value → World → Prop} (hN : N28 n f f1 f2 fN fC w Q) : CALL PG 28 [(.pointer n), (.agg #[(.int .i64 f), (.int .i64 f1), (.slice f2 fN fC)])] w Q := calls_vc tabOk Try.func28 (by rw [eq28]; exact hN)

end Go.Br
