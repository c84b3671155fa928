/- What the code of some functions says, as the core reads it; each reading is checked by the kernel. -/
import Derived.Test.YtnmhgjfllknbpaaBrSeat
set_option linter.unusedVariables false
set_option maxRecDepth 100000
namespace Go.Br
open Go Go.Proofs

/-- (*brougham/keys.Source).Draw -/
def N23 (s : Option Addr) (w : World) (Q : Value → World → Prop) : Prop :=
 NILC s fun a4 =>
 RDI PG (loadVar 25 (Addr.add a4 2)) .u64 w fun x6 =>
 NILC s fun a8 =>
 RUNU PG (storeVar 25 (Addr.add a8 2) (.int .u64 (IntKind.u64.wrap (x6 + (1 : Int))))) w fun w1 =>
 NILC s fun a11 =>
 RD PG (loadVar 27 (Addr.add a11 0)) (w1.drew) fun v =>
 ∃ x13 : Int, ∃ x13v1 : Int, v = (.agg #[(.int .u64 x13), (.int .u64 x13v1)]) ∧
 (NILC s fun a15 =>
 RDI PG (loadVar 25 (Addr.add a15 2)) .u64 (w1.drew) fun x17 =>
 CALL PG 31 [(.agg #[(.int .u64 x13), (.int .u64 x13v1)]), (.int .u64 (IntKind.u64.wrap (x17 - (1 : Int))))] (w1.drew) fun v1 w2 =>
 ∃ x19 : Int, v1 = (.int .u64 x19) ∧
 (LETI x19 fun x2 =>
 Q (.int .u64 x2) w2))
theorem eq23 : ∀ (s : Option Addr) (w : World) (Q : Value → World → Prop), vcF PG TB Try.f23 .nil [(.pointer s)] w Q = N23 s w Q := by intros; kernel_rfl
theorem call23 {s : Option Addr} {w : World} {Q : Value → World → Prop} (hN : N23 s w Q) : CALL PG 23 [(.pointer s)] w Q := calls_vc tabOk Try.func23 (by rw [eq23]; exact hN)

/-- brougham/keys.Drawn -/
def N31 (seed : Int) (seed1 : Int) (n : Int) (w : World) (Q : Value → World → Prop) : Prop :=
 RUNA PG (Instr.box 27 (.agg #[(.int .u64 seed), (.int .u64 seed1)])) w fun a2 w1 =>
 ∃ S : World → Prop, S (w1.drew) ∧
 (RDS PG (loadVar 27 a2) S fun v =>
 ∃ x5 : Int, ∃ x5v1 : Int, v = (.agg #[(.int .u64 x5), (.int .u64 x5v1)]) ∧
 (CALL PG 46 [(.int .u64 n)] (w1.drew) fun v1 w2 =>
 ∃ x7 : Int, ∃ x7v1 : Int, v1 = (.agg #[(.int .i64 x7), (.int .u64 x7v1)]) ∧
 (∃ S1 : World → Prop, (∀ x, S1 x → S x) ∧ S1 w2 ∧
 (RUNL PG (Instr.buildSlice 162 1 #[(0, (.agg #[(.int .i64 x7), (.int .u64 x7v1)]))]) w2 fun x8 x8N x8C w3 =>
 ∃ S2 : World → Prop, (∀ x, S2 x → S1 x) ∧ S2 w3 ∧
 (CALL PG 45 [(.slice none 0 0), (.slice x8 x8N x8C)] w3 fun v2 w4 =>
 ∃ (x9 : Option Addr) (x9N x9C : Nat), v2 = (.slice x9 x9N x9C) ∧
 (∃ S3 : World → Prop, (∀ x, S3 x → S2 x) ∧ S3 w4 ∧
 (RUNL PG (Instr.buildSlice 158 1 #[(0, (.slice x9 x9N x9C))]) w4 fun x10 x10N x10C w5 =>
 ∃ S4 : World → Prop, (∀ x, S4 x → S3 x) ∧ S4 w5 ∧
 (CALL PG 44 [(.agg #[(.int .u64 x5), (.int .u64 x5v1)]), (.slice x10 x10N x10C)] w5 fun v3 w6 =>
 ∃ x11 : Int, v3 = (.int .u64 x11) ∧
 (LETI x11 fun x4 =>
 Q (.int .u64 x4) w6)))))))))
theorem eq31 : ∀ (seed : Int) (seed1 : Int) (n : Int) (w : World) (Q : Value → World → Prop), vcF PG TB Try.f31 .nil [(.agg #[(.int .u64 seed), (.int .u64 seed1)]), (.int .u64 n)] w Q = N31 seed seed1 n w Q := by intros; kernel_rfl
theorem call31 {seed : Int} {seed1 : Int} {n : Int} {w : World} {Q : Value → World → Prop} (hN : N31 seed seed1 n w Q) : CALL PG 31 [(.agg #[(.int .u64 seed), (.int .u64 seed1)]), (.int .u64 n)] w Q := calls_vc tabOk Try.func31 (by rw [eq31]; exact hN)

/-- (*brougham/conn.Conn).hello -/
def N34 (x : Option Addr) (f : Option Addr) (w : World) (Q : Value → World → Prop) : Prop :=
 NILC x fun a6 =>
 RDI PG (loadVar 25 (Addr.add a6 27)) .u64 w fun x8 =>
 RD PG (Instr.build 143 #[(0, (.int .u64 x8))]) w fun v =>
 ∃ x9 : Int, ∃ x9v1 : Bool, ∃ x9v2 : Int, v = (.agg #[(.int .u64 x9), (.bool x9v1), (.int .u64 x9v2)]) ∧
 (CALL PG 54 [(.agg #[(.int .u64 x9), (.bool x9v1), (.int .u64 x9v2)])] w fun v1 w1 =>
 ∃ x10 : Int, ∃ (x10v1 : Option Addr) (x10N x10C : Nat), v1 = (.agg #[(.int .u8 x10), (.slice x10v1 x10N x10C)]) ∧
 (RUNA PG (Instr.alloc 139 true (.tuple #[])) w1 fun a4 w2 =>
 RUNU PG (storeVar 139 a4 (.agg #[(.int .u8 x10), (.slice x10v1 x10N x10C)])) w2 fun w3 =>
 NILC f fun a12 =>
 RDB PG (loadVar 4 (Addr.add a12 14)) w3 fun x14 =>
 IFB (!x14)
 (NILC x fun a18 =>
 RDI PG (loadVar 77 (Addr.add (Addr.add a18 0) 8)) .u32 w3 fun x21 =>
 CALL PG 55 [(.pointer f), (.int .u32 x21)] w3 fun v2 w4 =>
 ∃ x22 : Int, ∃ x22v1 : Int, ∃ x22v2 : Int, ∃ x22v3 : Bool, ∃ x22v4 : Bool, ∃ x22v5 : Int, v2 = (.agg #[(.int .u32 x22), (.int .u32 x22v1), (.int .u8 x22v2), (.bool x22v3), (.bool x22v4), (.int .u64 x22v5)]) ∧
 (CALL PG 56 [(.agg #[(.int .u32 x22), (.int .u32 x22v1), (.int .u8 x22v2), (.bool x22v3), (.bool x22v4), (.int .u64 x22v5)])] w4 fun v3 w5 =>
 ∃ x23 : Int, ∃ (x23v1 : Option Addr) (x23N x23C : Nat), v3 = (.agg #[(.int .u8 x23), (.slice x23v1 x23N x23C)]) ∧
 (RUNU PG (storeVar 139 a4 (.agg #[(.int .u8 x23), (.slice x23v1 x23N x23C)])) w5 fun w6 =>
 RD PG (loadVar 139 a4) w6 fun v4 =>
 ∃ x27 : Int, ∃ (x27v1 : Option Addr) (x27N x27C : Nat), v4 = (.agg #[(.int .u8 x27), (.slice x27v1 x27N x27C)]) ∧
 (CALL PG 58 [(.pointer f), (.agg #[(.int .u8 x27), (.slice x27v1 x27N x27C)])] w6 fun v5 w7 =>
 ∃ x28 : Int, ∃ x28v1 : Int, ∃ x28v2 : Int, ∃ x28v3 : Int, ∃ x28v4 : Int, ∃ (x28v5 : Option Addr) (x28N x28C : Nat), ∃ (x28v6 : Option Addr) (x28N1 x28C1 : Nat), v5 = (.agg #[(.int .u16 x28), (.int .u16 x28v1), (.int .u32 x28v2), (.int .u32 x28v3), (.int .u8 x28v4), (.slice x28v5 x28N x28C), (.slice x28v6 x28N1 x28C1)]) ∧
 (CALL PG 57 [(.pointer x), (.pointer f), (.agg #[(.int .u16 x28), (.int .u16 x28v1), (.int .u32 x28v2), (.int .u32 x28v3), (.int .u8 x28v4), (.slice x28v5 x28N x28C), (.slice x28v6 x28N1 x28C1)])] w7 fun v6 w8 =>
 v6 = (.tuple #[]) ∧
 (Q (.tuple #[]) w8))))))
 (RD PG (loadVar 139 a4) w3 fun v7 =>
 ∃ x27v2 : Int, ∃ (x27v3 : Option Addr) (x27N1 x27C1 : Nat), v7 = (.agg #[(.int .u8 x27v2), (.slice x27v3 x27N1 x27C1)]) ∧
 (CALL PG 58 [(.pointer f), (.agg #[(.int .u8 x27v2), (.slice x27v3 x27N1 x27C1)])] w3 fun v8 w9 =>
 ∃ x28v7 : Int, ∃ x28v8 : Int, ∃ x28v9 : Int, ∃ x28v10 : Int, ∃ x28v11 : Int, ∃ (x28v12 : Option Addr) (x28N2 x28C2 : Nat), ∃ (x28v13 : Option Addr) (x28N3 x28C3 : Nat), v8 = (.agg #[(.int .u16 x28v7), (.int .u16 x28v8), (.int .u32 x28v9), (.int .u32 x28v10), (.int .u8 x28v11), (.slice x28v12 x28N2 x28C2), (.slice x28v13 x28N3 x28C3)]) ∧
 (CALL PG 57 [(.pointer x), (.pointer f), (.agg #[(.int .u16 x28v7), (.int .u16 x28v8), (.int .u32 x28v9), (.int .u32 x28v10), (.int .u8 x28v11), (.slice x28v12 x28N2 x28C2), (.slice x28v13 x28N3 x28C3)])] w9 fun v9 w10 =>
 v9 = (.tuple #[]) ∧
 (Q (.tuple #[]) w10))))))
theorem eq34 : ∀ (x : Option Addr) (f : Option Addr) (w : World) (Q : Value → World → Prop), vcF PG TB Try.f34 .nil [(.pointer x), (.pointer f)] w Q = N34 x f w Q := by intros; kernel_rfl
theorem call34 {x : Option Addr} {f : Option Addr} {w : World} {Q : Value → World → Prop} (hN : N34 x f w Q) : CALL PG 34 [(.pointer x), (.pointer f)] w Q := calls_vc tabOk Try.func34 (by rw [eq34]; exact hN)

/-- (*brougham/conn.Conn).send -/
def N57 (x : Option Addr) (f : Option Addr) (s : Int) (s1 : Int) (s2 : Int) (s3 : Int) (s4 : Int) (s5 : Option Addr) (sN sC : Nat) (s6 : Option Addr) (sN1 sC1 : Nat) (w : World) (Q : Value → World → Prop) : Prop :=
 RUNA PG (Instr.box 151 (.agg #[(.int .u16 s), (.int .u16 s1), (.int .u32 s2), (.int .u32 s3), (.int .u8 s4), (.slice s5 sN sC), (.slice s6 sN1 sC1)])) w fun a5 w1 =>
 RD PG (loadVar 151 a5) w1 fun v =>
 ∃ x9 : Int, ∃ x9v1 : Int, ∃ x9v2 : Int, ∃ x9v3 : Int, ∃ x9v4 : Int, ∃ (x9v5 : Option Addr) (x9N x9C : Nat), ∃ (x9v6 : Option Addr) (x9N1 x9C1 : Nat), v = (.agg #[(.int .u16 x9), (.int .u16 x9v1), (.int .u32 x9v2), (.int .u32 x9v3), (.int .u8 x9v4), (.slice x9v5 x9N x9C), (.slice x9v6 x9N1 x9C1)]) ∧
 (CALL PG 69 [(.agg #[(.int .u16 x9), (.int .u16 x9v1), (.int .u32 x9v2), (.int .u32 x9v3), (.int .u8 x9v4), (.slice x9v5 x9N x9C), (.slice x9v6 x9N1 x9C1)])] w1 fun v1 w2 =>
 ∃ (x10 : Option Addr) (x10N x10C : Nat), ∃ x10v1 : Int, v1 = (.tuple #[(.slice x10 x10N x10C), (.int .i64 x10v1)]) ∧
 (LETI x10v1 fun e =>
 IFB (e == (0 : Int))
 (∃ S : World → Prop, S (w2.drew) ∧
 (NILC x fun a17 =>
 RDSL PG (loadVar 60 (Addr.add a17 49)) S fun x19 x19N x19C =>
 NILC f fun a21 =>
 RDSI PG (loadVar 3 (Addr.add a21 10)) .i64 S fun x23 =>
 RDS PG (Instr.build 82 #[(0, (.int .i64 x23)), (1, (.slice x10 x10N x10C))]) S fun v2 =>
 ∃ x25 : Int, ∃ (x25v1 : Option Addr) (x25N x25C : Nat), v2 = (.agg #[(.int .i64 x25), (.slice x25v1 x25N x25C)]) ∧
 (RUNL PG (Instr.buildSlice 60 1 #[(0, (.agg #[(.int .i64 x25), (.slice x25v1 x25N x25C)]))]) (w2.drew) fun x26 x26N x26C w3 =>
 ∃ S1 : World → Prop, (∀ x, S1 x → S x) ∧ S1 w3 ∧
 (RUNL PG (Builtin.append_ #[60, 60] 60 #[(.slice x19 x19N x19C), (.slice x26 x26N x26C)]) w3 fun x27 x27N x27C w4 =>
 NILC x fun a28 =>
 RUNU PG (storeVar 60 (Addr.add a28 49) (.slice x27 x27N x27C)) w4 fun w5 =>
 Q (.tuple #[]) w5))))
 (Q (.tuple #[]) w2)))
theorem eq57 : ∀ (x : Option Addr) (f : Option Addr) (s : Int) (s1 : Int) (s2 : Int) (s3 : Int) (s4 : Int) (s5 : Option Addr) (sN sC : Nat) (s6 : Option Addr) (sN1 sC1 : Nat) (w : World) (Q : Value → World → Prop), vcF PG TB Try.f57 .nil [(.pointer x), (.pointer f), (.agg #[(.int .u16 s), (.int .u16 s1), (.int .u32 s2), (.int .u32 s3), (.int .u8 s4), (.slice s5 sN sC), (.slice s6 sN1 sC1)])] w Q = N57 x f s s1 s2 s3 s4 s5 sN sC s6 sN1 sC1 w Q := by intros; kernel_rfl
theorem call57 {x : Option Addr} {f : Option Addr} {s : Int} {s1 : Int} {s2 : Int} {s3 : Int} {s4 : Int} {s5 : Option Addr} {sN sC : Nat} {s6 : Option Addr} {sN1 sC1 : Nat} {w : World} {Q : Value → World → Prop} (hN : N57 x f s s1 s2 s3 s4 s5 sN sC s6 sN1 sC1 w Q) : CALL PG 57 [(.pointer x), (.pointer f), (.agg #[(.int .u16 s), (.int .u16 s1), (.int .u32 s2), (.int .u32 s3), (.int .u8 s4), (.slice s5 sN sC), (.slice s6 sN1 sC1)])] w Q := calls_vc tabOk Try.func57 (by rw [eq57]; exact hN)

/-- (*brougham/flow.Flow).Hello -/
def N58 (f : Option Addr) (o : Int) (o1 : Option Addr) (oN oC : Nat) (w : World) (Q : Value → World → Prop) : Prop :=
 RUNA PG (Instr.box 139 (.agg #[(.int .u8 o), (.slice o1 oN oC)])) w fun a3 w1 =>
 RUNA PG (Instr.alloc 151 true (.tuple #[])) w1 fun a4 w2 =>
 ∃ S : World → Prop, S (w2.drew) ∧
 (NILC f fun a6 =>
 RDSI PG (loadVar 70 (Addr.add a6 11)) .u16 S fun x8 =>
 NILC f fun a10 =>
 RDSI PG (loadVar 70 (Addr.add a10 12)) .u16 S fun x12 =>
 NILC f fun a14 =>
 RDSI PG (loadVar 77 (Addr.add (Addr.add a14 0) 1)) .u32 S fun x17 =>
 RDS PG (Instr.build 151 #[(0, (.int .u16 x8)), (1, (.int .u16 x12)), (2, (.int .u32 x17)), (4, (.int .u8 (1 : Int)))]) S fun v =>
 ∃ x18 : Int, ∃ x18v1 : Int, ∃ x18v2 : Int, ∃ x18v3 : Int, ∃ x18v4 : Int, ∃ (x18v5 : Option Addr) (x18N x18C : Nat), ∃ (x18v6 : Option Addr) (x18N1 x18C1 : Nat), v = (.agg #[(.int .u16 x18), (.int .u16 x18v1), (.int .u32 x18v2), (.int .u32 x18v3), (.int .u8 x18v4), (.slice x18v5 x18N x18C), (.slice x18v6 x18N1 x18C1)]) ∧
 (RDS PG (loadVar 139 a3) S fun v1 =>
 ∃ x19 : Int, ∃ (x19v1 : Option Addr) (x19N x19C : Nat), v1 = (.agg #[(.int .u8 x19), (.slice x19v1 x19N x19C)]) ∧
 (RUNL PG (Instr.buildSlice 149 1 #[(0, (.agg #[(.int .u8 x19), (.slice x19v1 x19N x19C)]))]) (w2.drew) fun x20 x20N x20C w3 =>
 ∃ S1 : World → Prop, (∀ x, S1 x → S x) ∧ S1 w3 ∧
 (CALL PG 70 [(.agg #[(.int .u16 x18), (.int .u16 x18v1), (.int .u32 x18v2), (.int .u32 x18v3), (.int .u8 x18v4), (.slice x18v5 x18N x18C), (.slice x18v6 x18N1 x18C1)]), (.slice x20 x20N x20C)] w3 fun v2 w4 =>
 ∃ x21 : Int, ∃ x21v1 : Int, ∃ x21v2 : Int, ∃ x21v3 : Int, ∃ x21v4 : Int, ∃ (x21v5 : Option Addr) (x21N x21C : Nat), ∃ (x21v6 : Option Addr) (x21N1 x21C1 : Nat), v2 = (.agg #[(.int .u16 x21), (.int .u16 x21v1), (.int .u32 x21v2), (.int .u32 x21v3), (.int .u8 x21v4), (.slice x21v5 x21N x21C), (.slice x21v6 x21N1 x21C1)]) ∧
 (RUNU PG (storeVar 151 a4 (.agg #[(.int .u16 x21), (.int .u16 x21v1), (.int .u32 x21v2), (.int .u32 x21v3), (.int .u8 x21v4), (.slice x21v5 x21N x21C), (.slice x21v6 x21N1 x21C1)])) w4 fun w5 =>
 RD PG (loadVar 151 a4) w5 fun v4 =>
 ∃ r : Int, ∃ r1 : Int, ∃ r2 : Int, ∃ r3 : Int, ∃ r4 : Int, ∃ (r5 : Option Addr) (rN rC : Nat), ∃ (r6 : Option Addr) (rN1 rC1 : Nat), v4 = (.agg #[(.int .u16 r), (.int .u16 r1), (.int .u32 r2), (.int .u32 r3), (.int .u8 r4), (.slice r5 rN rC), (.slice r6 rN1 rC1)]) ∧
 (Q (.agg #[(.int .u16 r), (.int .u16 r1), (.int .u32 r2), (.int .u32 r3), (.int .u8 r4), (.slice r5 rN rC), (.slice r6 rN1 rC1)]) w5))))))
theorem eq58 : ∀ (f : Option Addr) (o : Int) (o1 : Option Addr) (oN oC : Nat) (w : World) (Q : Value → World → Prop), vcF PG TB Try.f58 .nil [(.pointer f), (.agg #[(.int .u8 o), (.slice o1 oN oC)])] w Q = N58 f o o1 oN oC w Q := by intros; kernel_rfl
theorem call58 {f : Option Addr} {o : Int} {o1 : Option Addr} {oN oC : Nat} {w : World} {Q : Value → World → Prop} (hN : N58 f o o1 oN oC w Q) : CALL PG 58 [(.pointer f), (.agg #[(.int .u8 o), (.slice o1 oN oC)])] w Q := calls_vc tabOk Try.func58 (by rw [eq58]; exact hN)

end Go.Br
