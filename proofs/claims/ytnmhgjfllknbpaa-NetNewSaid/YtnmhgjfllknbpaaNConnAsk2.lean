/- What the code of some functions says, as the core reads it; each reading is checked by the kernel. -/
import Derived.Test.YtnmhgjfllknbpaaBrSeat
set_option linter.unusedVariables false
set_option maxRecDepth 100000
namespace Go.Br
open Go Go.Proofs

/-- (*brougham/host.Host).Connect -/
def N14 (h : Option Addr) (localv : Int) (remote : Int) (path : Int) (w : World) (Q : Value → World → Prop) : Prop :=
 CALL PG 20 [(.int .i64 localv)] w fun v w1 =>
 ∃ x15 : Bool, v = (.bool x15) ∧
 (IFB (!x15)
 (Q (.tuple #[(.int .i64 (0 : Int)), (.int .i64 (202 : Int))]) w1)
 (CALL PG 20 [(.int .i64 remote)] w1 fun v1 w2 =>
 ∃ x19 : Bool, v1 = (.bool x19) ∧
 (IFB (!x19)
 (Q (.tuple #[(.int .i64 (0 : Int)), (.int .i64 (202 : Int))]) w2)
 (CALL PG 21 [(.pointer h), (.int .i64 localv)] w2 fun v2 w3 =>
 ∃ x25 : Option Addr, v2 = (.pointer x25) ∧
 (IFB (!x25.isNone)
 (Q (.tuple #[(.int .i64 (0 : Int)), (.int .i64 (202 : Int))]) w3)
 (IFB (decide (path < (0 : Int)))
 (Q (.tuple #[(.int .i64 (0 : Int)), (.int .i64 (205 : Int))]) w3)
 (NILC h fun a33 =>
 RDI PG (loadVar 3 (Addr.add (Addr.add a33 10) 7)) .i64 w3 fun x36 =>
 IFB (decide (path ≥ x36))
 (Q (.tuple #[(.int .i64 (0 : Int)), (.int .i64 (205 : Int))]) w3)
 (RD PG (Instr.build 72 #[(0, (.int .i64 path)), (1, (.int .u16 (IntKind.u16.wrap localv))), (2, (.int .u16 (IntKind.u16.wrap remote)))]) w3 fun v3 =>
 ∃ x44 : Int, ∃ x44v1 : Int, ∃ x44v2 : Int, v3 = (.agg #[(.int .i64 x44), (.int .u16 x44v1), (.int .u16 x44v2)]) ∧
 (RUNA PG (Instr.alloc 72 true (.tuple #[])) w3 fun a10 w4 =>
 RUNU PG (storeVar 72 a10 (.agg #[(.int .i64 x44), (.int .u16 x44v1), (.int .u16 x44v2)])) w4 fun w5 =>
 RD PG (loadVar 72 a10) w5 fun v4 =>
 ∃ x46 : Int, ∃ x46v1 : Int, ∃ x46v2 : Int, v4 = (.agg #[(.int .i64 x46), (.int .u16 x46v1), (.int .u16 x46v2)]) ∧
 (CALL PG 22 [(.pointer h), (.agg #[(.int .i64 x46), (.int .u16 x46v1), (.int .u16 x46v2)])] w5 fun v5 w6 =>
 ∃ x47 : Bool, v5 = (.bool x47) ∧
 (IFB x47
 (Q (.tuple #[(.int .i64 (0 : Int)), (.int .i64 (202 : Int))]) w6)
 (NILC h fun a49 =>
 RD PG (loadVar 56 (Addr.add a49 29)) (w6.drew) fun v6 =>
 ∃ x51 : Value, v6 = x51 ∧
 (RDI PG (Builtin.len_ #[56] 3 #[x51]) .i64 (w6.drew) fun x52 =>
 NILC h fun a54 =>
 RDI PG (loadVar 3 (Addr.add (Addr.add a54 10) 2)) .i64 (w6.drew) fun x57 =>
 IFB (decide (x52 ≥ x57))
 (Q (.tuple #[(.int .i64 (0 : Int)), (.int .i64 (204 : Int))]) (w6.drew))
 (NILC h fun a60 =>
 NILC h fun a64 =>
 CALL PG 23 [(.pointer (some (Addr.add a60 25)))] ((w6.drew).drew) fun v7 w7 =>
 ∃ x62 : Int, v7 = (.int .u64 x62) ∧
 (CALL PG 23 [(.pointer (some (Addr.add a64 25)))] w7 fun v8 w8 =>
 ∃ x66 : Int, v8 = (.int .u64 x66) ∧
 (LETI x62 fun key =>
 LETI x66 fun first =>
 NILC h fun a68 =>
 RD PG (loadVar 24 (Addr.add a68 10)) (w8.drew) fun v9 =>
 ∃ x70 : Int, ∃ x70v1 : Int, ∃ x70v2 : Int, ∃ x70v3 : Int, ∃ x70v4 : Int, ∃ x70v5 : Int, ∃ x70v6 : Int, ∃ x70v7 : Int, ∃ x70v8 : Int, ∃ x70v9 : Int, ∃ x70v10 : Int, ∃ x70v11 : Int, ∃ x70v12 : Int, ∃ x70v13 : Int, ∃ x70v14 : Int, v9 = (.agg #[(.int .i64 x70), (.int .i64 x70v1), (.int .i64 x70v2), (.int .i64 x70v3), (.int .i64 x70v4), (.int .i64 x70v5), (.int .i64 x70v6), (.int .i64 x70v7), (.int .i64 x70v8), (.int .i64 x70v9), (.int .i64 x70v10), (.int .i64 x70v11), (.int .i64 x70v12), (.int .i64 x70v13), (.int .i64 x70v14)]) ∧
 (RD PG (loadVar 72 a10) (w8.drew) fun v10 =>
 ∃ x72 : Int, ∃ x72v1 : Int, ∃ x72v2 : Int, v10 = (.agg #[(.int .i64 x72), (.int .u16 x72v1), (.int .u16 x72v2)]) ∧
 (CALL PG 24 [(.agg #[(.int .i64 x70), (.int .i64 x70v1), (.int .i64 x70v2), (.int .i64 x70v3), (.int .i64 x70v4), (.int .i64 x70v5), (.int .i64 x70v6), (.int .i64 x70v7), (.int .i64 x70v8), (.int .i64 x70v9), (.int .i64 x70v10), (.int .i64 x70v11), (.int .i64 x70v12), (.int .i64 x70v13), (.int .i64 x70v14)]), (.int .u64 key), (.agg #[(.int .i64 x72), (.int .u16 x72v1), (.int .u16 x72v2)]), (.int .u32 (IntKind.u32.wrap first))] (w8.drew) fun v11 w9 =>
 ∃ x75 : Option Addr, v11 = (.pointer x75) ∧
 (CALL PG 25 [(.pointer h), (.pointer x75)] w9 fun v12 w10 =>
 ∃ x78 : Int, v12 = (.int .i64 x78) ∧
 (LETI x78 fun x8 =>
 Q (.tuple #[(.int .i64 x8), (.int .i64 (0 : Int))]) w10))))))))))))))))))))
theorem eq14 : ∀ (h : Option Addr) (localv : Int) (remote : Int) (path : Int) (w : World) (Q : Value → World → Prop), vcF PG TB Try.f14 .nil [(.pointer h), (.int .i64 localv), (.int .i64 remote), (.int .i64 path)] w Q = N14 h localv remote path w Q := by intros; kernel_rfl
theorem call14 {h : Option Addr} {localv : Int} {remote : Int} {path : Int} {w : World} {Q : Value → World → Prop} (hN : N14 h localv remote path w Q) : CALL PG 14 [(.pointer h), (.int .i64 localv), (.int .i64 remote), (.int .i64 path)] w Q := calls_vc tabOk Try.func14 (by rw [eq14]; exact hN)

/-- (*brougham/host.Host).taken -/
def N22 (h : Option Addr) (e : Int) (e1 : Int) (e2 : Int) (w : World) (Q : Value → World → Prop) : Prop :=
 RUNA PG (Instr.box 72 (.agg #[(.int .i64 e), (.int .u16 e1), (.int .u16 e2)])) w fun a3 w1 =>
 NILC h fun a9 =>
 RD PG (loadVar 56 (Addr.add a9 29)) w1 fun v =>
 ∃ x11 : Value, v = x11 ∧
 (RUNA PG (Instr.range 56 x11) w1 fun a12 w2 =>
 ∃ I : Nat → World → Prop,
 (∃ m, I m w2) ∧
 (∀ m1  (w3 : World), I m1 w3 → (RUN PG (Instr.next (.pointer (some a12)) false 0) w3 fun v1 w4 =>
 ∃ more : Bool, ∃ xs : List Value, v1 = (.tuple ⟨(.bool more) :: xs⟩) ∧
 (IFB more
 (RD PG (Instr.entry (.pointer (some a12))) w4 fun v2 =>
 ∃ k x : Value, v2 = (.tuple #[k, x]) ∧
 (∃ val : Option Addr, x = (.pointer val) ∧
 (CALL PG 30 [(.pointer val)] w4 fun v3 w5 =>
 ∃ x18 : Int, ∃ x18v1 : Int, ∃ x18v2 : Int, ∃ x18v3 : Int, ∃ x18v4 : Int, ∃ x18v5 : Int, ∃ x18v6 : Int, ∃ x18v7 : Int, ∃ x18v8 : Int, ∃ x18v9 : Int, ∃ x18v10 : Int, ∃ x18v11 : Int, ∃ x18v12 : Bool, ∃ x18v13 : Bool, ∃ x18v14 : Int, ∃ x18v15 : Int, ∃ x18v16 : Int, ∃ x18v17 : Int, v3 = (.agg #[(.int .i64 x18), (.int .i64 x18v1), (.int .i64 x18v2), (.int .u64 x18v3), (.int .u64 x18v4), (.int .i64 x18v5), (.int .u16 x18v6), (.int .u16 x18v7), (.int .u64 x18v8), (.int .u64 x18v9), (.int .u64 x18v10), (.int .u64 x18v11), (.bool x18v12), (.bool x18v13), (.int .i64 x18v14), (.int .i64 x18v15), (.int .i64 x18v16), (.int .i64 x18v17)]) ∧
 (RUNA PG (Instr.alloc 72 true (.tuple #[])) w5 fun a7 w6 =>
 RUNU PG (storeVar 72 a7 (.agg #[(.int .i64 x18v5), (.int .u16 x18v6), (.int .u16 x18v7)])) w6 fun w7 =>
 RDI PG (loadVar 70 (Addr.add a7 1)) .u16 w7 fun x21 =>
 RDI PG (loadVar 70 (Addr.add a3 1)) .u16 w7 fun x23 =>
 IFB (x21 == x23)
 (RDI PG (loadVar 70 (Addr.add a7 2)) .u16 w7 fun x27 =>
 RDI PG (loadVar 70 (Addr.add a3 2)) .u16 w7 fun x29 =>
 IFB (x27 == x29)
 (Q (.bool true) w7)
 (∃ m2, m2 < m1 ∧ I m2 w7))
 (∃ m3, m3 < m1 ∧ I m3 w7)))))
 (Q (.bool false) w4)))))
theorem eq22 : ∀ (h : Option Addr) (e : Int) (e1 : Int) (e2 : Int) (w : World) (Q : Value → World → Prop), vcF PG TB Try.f22 (.s .nil (.s (.s .nil (.u (.loop [] .nil))) .nil)) [(.pointer h), (.agg #[(.int .i64 e), (.int .u16 e1), (.int .u16 e2)])] w Q = N22 h e e1 e2 w Q := by intros; kernel_rfl
theorem call22 {h : Option Addr} {e : Int} {e1 : Int} {e2 : Int} {w : World} {Q : Value → World → Prop} (hN : N22 h e e1 e2 w Q) : CALL PG 22 [(.pointer h), (.agg #[(.int .i64 e), (.int .u16 e1), (.int .u16 e2)])] w Q := calls_vc tabOk Try.func22 (by rw [eq22]; exact hN)

/-- brougham/conn.Ask -/
def N24 (c : Int) (c1 : Int) (c2 : Int) (c3 : Int) (c4 : Int) (c5 : Int) (c6 : Int) (c7 : Int) (c8 : Int) (c9 : Int) (c10 : Int) (c11 : Int) (c12 : Int) (c13 : Int) (c14 : Int) (key : Int) (first : Int) (first1 : Int) (first2 : Int) (number : Int) (w : World) (Q : Value → World → Prop) : Prop :=
 RUNA PG (Instr.box 24 (.agg #[(.int .i64 c), (.int .i64 c1), (.int .i64 c2), (.int .i64 c3), (.int .i64 c4), (.int .i64 c5), (.int .i64 c6), (.int .i64 c7), (.int .i64 c8), (.int .i64 c9), (.int .i64 c10), (.int .i64 c11), (.int .i64 c12), (.int .i64 c13), (.int .i64 c14)])) w fun a4 w1 =>
 RUNA PG (Instr.box 72 (.agg #[(.int .i64 first), (.int .u16 first1), (.int .u16 first2)])) w1 fun a6 w2 =>
 RD PG (loadVar 24 a4) w2 fun v =>
 ∃ x11 : Int, ∃ x11v1 : Int, ∃ x11v2 : Int, ∃ x11v3 : Int, ∃ x11v4 : Int, ∃ x11v5 : Int, ∃ x11v6 : Int, ∃ x11v7 : Int, ∃ x11v8 : Int, ∃ x11v9 : Int, ∃ x11v10 : Int, ∃ x11v11 : Int, ∃ x11v12 : Int, ∃ x11v13 : Int, ∃ x11v14 : Int, v = (.agg #[(.int .i64 x11), (.int .i64 x11v1), (.int .i64 x11v2), (.int .i64 x11v3), (.int .i64 x11v4), (.int .i64 x11v5), (.int .i64 x11v6), (.int .i64 x11v7), (.int .i64 x11v8), (.int .i64 x11v9), (.int .i64 x11v10), (.int .i64 x11v11), (.int .i64 x11v12), (.int .i64 x11v13), (.int .i64 x11v14)]) ∧
 (RD PG (loadVar 72 a6) w2 fun v1 =>
 ∃ x13 : Int, ∃ x13v1 : Int, ∃ x13v2 : Int, v1 = (.agg #[(.int .i64 x13), (.int .u16 x13v1), (.int .u16 x13v2)]) ∧
 (CALL PG 32 [(.agg #[(.int .i64 x11), (.int .i64 x11v1), (.int .i64 x11v2), (.int .i64 x11v3), (.int .i64 x11v4), (.int .i64 x11v5), (.int .i64 x11v6), (.int .i64 x11v7), (.int .i64 x11v8), (.int .i64 x11v9), (.int .i64 x11v10), (.int .i64 x11v11), (.int .i64 x11v12), (.int .i64 x11v13), (.int .i64 x11v14)]), (.int .i64 (1 : Int)), (.int .u64 key), (.agg #[(.int .i64 x13), (.int .u16 x13v1), (.int .u16 x13v2)])] w2 fun v2 w3 =>
 ∃ x14 : Option Addr, v2 = (.pointer x14) ∧
 (RD PG (loadVar 24 a4) w3 fun v3 =>
 ∃ x15 : Int, ∃ x15v1 : Int, ∃ x15v2 : Int, ∃ x15v3 : Int, ∃ x15v4 : Int, ∃ x15v5 : Int, ∃ x15v6 : Int, ∃ x15v7 : Int, ∃ x15v8 : Int, ∃ x15v9 : Int, ∃ x15v10 : Int, ∃ x15v11 : Int, ∃ x15v12 : Int, ∃ x15v13 : Int, ∃ x15v14 : Int, v3 = (.agg #[(.int .i64 x15), (.int .i64 x15v1), (.int .i64 x15v2), (.int .i64 x15v3), (.int .i64 x15v4), (.int .i64 x15v5), (.int .i64 x15v6), (.int .i64 x15v7), (.int .i64 x15v8), (.int .i64 x15v9), (.int .i64 x15v10), (.int .i64 x15v11), (.int .i64 x15v12), (.int .i64 x15v13), (.int .i64 x15v14)]) ∧
 (RD PG (loadVar 72 a6) w3 fun v4 =>
 ∃ x16 : Int, ∃ x16v1 : Int, ∃ x16v2 : Int, v4 = (.agg #[(.int .i64 x16), (.int .u16 x16v1), (.int .u16 x16v2)]) ∧
 (CALL PG 33 [(.agg #[(.int .i64 x15), (.int .i64 x15v1), (.int .i64 x15v2), (.int .i64 x15v3), (.int .i64 x15v4), (.int .i64 x15v5), (.int .i64 x15v6), (.int .i64 x15v7), (.int .i64 x15v8), (.int .i64 x15v9), (.int .i64 x15v10), (.int .i64 x15v11), (.int .i64 x15v12), (.int .i64 x15v13), (.int .i64 x15v14)]), (.int .i64 (0 : Int)), (.agg #[(.int .i64 x16), (.int .u16 x16v1), (.int .u16 x16v2)]), (.int .u32 number)] w3 fun v5 w4 =>
 ∃ x18 : Option Addr, v5 = (.pointer x18) ∧
 (NILC x18 fun a20 =>
 RUNU PG (storeVar 4 (Addr.add a20 14) (.bool true)) w4 fun w5 =>
 NILC x14 fun a24 =>
 RDL PG (loadVar 107 (Addr.add a24 33)) w5 fun x26 x26N x26C =>
 RUNL PG (Instr.buildSlice 107 1 #[(0, (.pointer x18))]) w5 fun x28 x28N x28C w6 =>
 RUNL PG (Builtin.append_ #[107, 107] 107 #[(.slice x26 x26N x26C), (.slice x28 x28N x28C)]) w6 fun x29 x29N x29C w7 =>
 NILC x14 fun a30 =>
 RUNU PG (storeVar 107 (Addr.add a30 33) (.slice x29 x29N x29C)) w7 fun w8 =>
 CALL PG 34 [(.pointer x14), (.pointer x18)] w8 fun v6 w9 =>
 v6 = (.tuple #[]) ∧
 (Q (.pointer x14) w9)))))))
theorem eq24 : ∀ (c : Int) (c1 : Int) (c2 : Int) (c3 : Int) (c4 : Int) (c5 : Int) (c6 : Int) (c7 : Int) (c8 : Int) (c9 : Int) (c10 : Int) (c11 : Int) (c12 : Int) (c13 : Int) (c14 : Int) (key : Int) (first : Int) (first1 : Int) (first2 : Int) (number : Int) (w : World) (Q : Value → World → Prop), vcF PG TB Try.f24 .nil [(.agg #[(.int .i64 c), (.int .i64 c1), (.int .i64 c2), (.int .i64 c3), (.int .i64 c4), (.int .i64 c5), (.int .i64 c6), (.int .i64 c7), (.int .i64 c8), (.int .i64 c9), (.int .i64 c10), (.int .i64 c11), (.int .i64 c12), (.int .i64 c13), (.int .i64 c14)]), (.int .u64 key), (.agg #[(.int .i64 first), (.int .u16 first1), (.int .u16 first2)]), (.int .u32 number)] w Q = N24 c c1 c2 c3 c4 c5 c6 c7 c8 c9 c10 c11 c12 c13 c14 key first first1 first2 number w Q := by intros; kernel_rfl
theorem call24 {c : Int} {c1 : Int} {c2 : Int} {c3 : Int} {c4 : Int} {c5 : Int} {c6 : Int} {c7 : Int} {c8 : Int} {c9 : Int} {c10 : Int} {c11 : Int} {c12 : Int} {c13 : Int} {c14 : Int} {key : Int} {first : Int} {first1 : Int} {first2 : Int} {number : Int} {w : World} {Q : Value → World → Prop} (hN : N24 c c1 c2 c3 c4 c5 c6 c7 c8 c9 c10 c11 c12 c13 c14 key first first1 first2 number w Q) : CALL PG 24 [(.agg #[(.int .i64 c), (.int .i64 c1), (.int .i64 c2), (.int .i64 c3), (.int .i64 c4), (.int .i64 c5), (.int .i64 c6), (.int .i64 c7), (.int .i64 c8), (.int .i64 c9), (.int .i64 c10), (.int .i64 c11), (.int .i64 c12), (.int .i64 c13), (.int .i64 c14)]), (.int .u64 key), (.agg #[(.int .i64 first), (.int .u16 first1), (.int .u16 first2)]), (.int .u32 number)] w Q := calls_vc tabOk Try.func24 (by rw [eq24]; exact hN)

/-- (*brougham/host.Host).keep -/
def N25 (h : Option Addr) (c : Option Addr) (w : World) (Q : Value → World → Prop) : Prop :=
 NILC h fun a7 =>
 RDI PG (loadVar 3 (Addr.add a7 30)) .i64 w fun x9 =>
 LETI x9 fun n =>
 NILC h fun a11 =>
 RDI PG (loadVar 3 (Addr.add a11 30)) .i64 w fun x13 =>
 NILC h fun a15 =>
 RUNU PG (storeVar 3 (Addr.add a15 30) (.int .i64 (IntKind.i64.wrap (x13 + (1 : Int))))) w fun w1 =>
 NILC h fun a18 =>
 RD PG (loadVar 56 (Addr.add a18 29)) w1 fun v =>
 ∃ x20 : Value, v = x20 ∧
 (RUNU PG (Instr.mapUpdate 56 x20 (.int .i64 n) (.pointer c)) w1 fun w2 =>
 CALL PG 35 [(.pointer h), (.pointer c)] w2 fun v1 w3 =>
 v1 = (.tuple #[]) ∧
 (LETI n fun x4 =>
 Q (.int .i64 x4) w3))
theorem eq25 : ∀ (h : Option Addr) (c : Option Addr) (w : World) (Q : Value → World → Prop), vcF PG TB Try.f25 .nil [(.pointer h), (.pointer c)] w Q = N25 h c w Q := by intros; kernel_rfl
theorem call25 {h : Option Addr} {c : Option Addr} {w : World} {Q : Value → World → Prop} (hN : N25 h c w Q) : CALL PG 25 [(.pointer h), (.pointer c)] w Q := calls_vc tabOk Try.func25 (by rw [eq25]; exact hN)

/-- (*brougham/host.Host).Post -/
def N26 (h : Option Addr) (w : World) (Q : Value → World → Prop) : Prop :=
 NILC h fun a5 =>
 RDL PG (loadVar 60 (Addr.add a5 31)) w fun x7 x7N x7C =>
 NILC h fun a9 =>
 RUNU PG (storeVar 60 (Addr.add a9 31) (.slice none 0 0)) w fun w1 =>
 Q (.slice x7 x7N x7C) w1
theorem eq26 : ∀ (h : Option Addr) (w : World) (Q : Value → World → Prop), vcF PG TB Try.f26 .nil [(.pointer h)] w Q = N26 h w Q := by intros; kernel_rfl
theorem call26 {h : Option Addr} {w : World} {Q : Value → World → Prop} (hN : N26 h w Q) : CALL PG 26 [(.pointer h)] w Q := calls_vc tabOk Try.func26 (by rw [eq26]; exact hN)

/-- (*brougham/host.Host).gather -/
def N35 (h : Option Addr) (c : Option Addr) (w : World) (Q : Value → World → Prop) : Prop :=
 ∃ S : World → Prop, S (w.drew) ∧
 (NILC h fun a6 =>
 RDSL PG (loadVar 60 (Addr.add a6 31)) S fun x8 x8N x8C =>
 CALL PG 59 [(.pointer c)] (w.drew) fun v w1 =>
 ∃ (x10 : Option Addr) (x10N x10C : Nat), v = (.slice x10 x10N x10C) ∧
 (∃ S1 : World → Prop, (∀ x, S1 x → S x) ∧ S1 w1 ∧
 (RUNL PG (Builtin.append_ #[60, 60] 60 #[(.slice x8 x8N x8C), (.slice x10 x10N x10C)]) w1 fun x11 x11N x11C w2 =>
 NILC h fun a12 =>
 RUNU PG (storeVar 60 (Addr.add a12 31) (.slice x11 x11N x11C)) w2 fun w3 =>
 Q (.tuple #[]) w3)))
theorem eq35 : ∀ (h : Option Addr) (c : Option Addr) (w : World) (Q : Value → World → Prop), vcF PG TB Try.f35 .nil [(.pointer h), (.pointer c)] w Q = N35 h c w Q := by intros; kernel_rfl
theorem call35 {h : Option Addr} {c : Option Addr} {w : World} {Q : Value → World → Prop} (hN : N35 h c w Q) : CALL PG 35 [(.pointer h), (.pointer c)] w Q := calls_vc tabOk Try.func35 (by rw [eq35]; exact hN)

/-- (*brougham/conn.Conn).Post -/
def N59 (x : Option Addr) (w : World) (Q : Value → World → Prop) : Prop :=
 NILC x fun a5 =>
 RDL PG (loadVar 60 (Addr.add a5 49)) w fun x7 x7N x7C =>
 NILC x fun a9 =>
 RUNU PG (storeVar 60 (Addr.add a9 49) (.slice none 0 0)) w fun w1 =>
 Q (.slice x7 x7N x7C) w1
theorem eq59 : ∀ (x : Option Addr) (w : World) (Q : Value → World → Prop), vcF PG TB Try.f59 .nil [(.pointer x)] w Q = N59 x w Q := by intros; kernel_rfl
theorem call59 {x : Option Addr} {w : World} {Q : Value → World → Prop} (hN : N59 x w Q) : CALL PG 59 [(.pointer x)] w Q := calls_vc tabOk Try.func59 (by rw [eq59]; exact hN)

end Go.Br
