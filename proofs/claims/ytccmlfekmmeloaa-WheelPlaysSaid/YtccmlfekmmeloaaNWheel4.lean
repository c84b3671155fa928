/- What the code of some functions says, as the core reads it; each reading is checked by the kernel. -/
import Derived.Test.YtccmlfekmmeloaaBrSeat
set_option linter.unusedVariables false
set_option maxRecDepth 100000
namespace Go.Br
open Go Go.Proofs

/-- (*brougham/wheel.Wheel).Next -/
def N44 (wv : Option Addr) (w : World) (Q : Value → World → Prop) : Prop :=
 NILC wv fun a9 =>
 RD PG (loadVar 158 (Addr.add a9 67)) w fun v =>
 ∃ x11 : Value, v = x11 ∧
 (RUNA PG (Instr.range 158 x11) w fun a12 w1 =>
 ∃ I : Nat → Int → Bool → World → Prop,
 (∃ m, I m (0 : Int) false w1) ∧
 (∀ m1 (best : Int) (okv : Bool) (w2 : World), I m1 best okv w2 → (RUN PG (Instr.next (.pointer (some a12)) false 0) w2 fun v1 w3 =>
 ∃ more : Bool, ∃ xs : List Value, v1 = (.tuple ⟨(.bool more) :: xs⟩) ∧
 (IFB more
 (RD PG (Instr.entry (.pointer (some a12))) w3 fun v2 =>
 ∃ k x : Value, v2 = (.tuple #[k, x]) ∧
 (∃ val : Int, x = (.int .i64 val) ∧
 (LETI val fun atv =>
 IFB (!okv)
 (NILC wv fun a31 =>
 RDI PG (loadVar 3 (Addr.add a31 0)) .i64 w3 fun x33 =>
 LETI (IntKind.i64.wrap (atv - x33)) fun best1 =>
 ∃ m2, m2 < m1 ∧ I m2 best1 true w3)
 (NILC wv fun a22 =>
 RDI PG (loadVar 3 (Addr.add a22 0)) .i64 w3 fun x24 =>
 IFB (decide ((IntKind.i64.wrap (atv - x24)) < best))
 (NILC wv fun a31v1 =>
 RDI PG (loadVar 3 (Addr.add a31v1 0)) .i64 w3 fun x33v1 =>
 LETI (IntKind.i64.wrap (atv - x33v1)) fun best2 =>
 ∃ m3, m3 < m1 ∧ I m3 best2 true w3)
 (∃ m4, m4 < m1 ∧ I m4 best okv w3)))))
 (LETI best fun x2 =>
 LETB okv fun x3 =>
 Q (.tuple #[(.int .i64 x2), (.bool x3)]) w3)))))
theorem eq44 : ∀ (wv : Option Addr) (w : World) (Q : Value → World → Prop), vcF PG TB Try.f44 (.s .nil (.s .nil (.s (.s .nil (.u (.loop [(4, 3), (5, 4)] .nil))) .nil))) [(.pointer wv)] w Q = N44 wv w Q := by intros; kernel_rfl
theorem call44 {wv : Option Addr} {w : World} {Q : Value → World → Prop} (hN : N44 wv w Q) : CALL PG 44 [(.pointer wv)] w Q := calls_vc tabOk Try.func44 (by rw [eq44]; exact hN)

/-- (*brougham/wheel.Wheel).Cancel -/
def N47 (wv : Option Addr) (id : Int) (w : World) (Q : Value → World → Prop) : Prop :=
 RUNA PG (Instr.box 3 (.int .i64 id)) w fun a3 w1 =>
 ∃ S : World → Prop, S (w1.drew) ∧
 (NILC wv fun a10 =>
 RDS PG (loadVar 159 (Addr.add a10 68)) S fun v =>
 ∃ x12 : Value, v = x12 ∧
 (RDSI PG (loadVar 3 a3) .i64 S fun x13 =>
 RDS PG (Instr.lookup 159 x12 (.int .i64 x13) true) S fun v1 =>
 ∃ x14 : Int, ∃ x14v1 : Int, ∃ x14v2 : Bool, v1 = (.tuple #[(.agg #[(.int .i64 x14), (.int .i64 x14v1)]), (.bool x14v2)]) ∧
 (RUNA PG (Instr.alloc 174 true (.tuple #[])) (w1.drew) fun a5 w2 =>
 ∃ S1 : World → Prop, (∀ x, S1 x → S x) ∧ S1 w2 ∧
 (RUNU PG (storeVar 174 a5 (.agg #[(.int .i64 x14), (.int .i64 x14v1)])) w2 fun w3 =>
 ∃ S2 : World → Prop, (∀ x, S2 x → S1 x) ∧ S2 w3 ∧
 (LETB x14v2 fun there =>
 IFB (!there)
 (Q (.bool false) w3)
 (RDI PG (loadVar 3 (Addr.add a5 0)) .i64 (w3.drew) fun x21 =>
 RDI PG (loadVar 3 (Addr.add a5 1)) .i64 (w3.drew) fun x23 =>
 NILC wv fun a24 =>
 NEED (0 ≤ x21 ∧ x21 < ((4 : Nat) : Int))
 (NEED (0 ≤ x23 ∧ x23 < ((16 : Nat) : Int))
 (RDL PG (loadVar 160 (Addr.add (Addr.add (Addr.add a24 3) (Int.toNat x21 * 16)) (Int.toNat x23 * 1))) (w3.drew) fun x31 x31N x31C =>
 CALL PG 100 [(.slice x31 x31N x31C), (.func (.func 101) #[] #[(.pointer (some a3))])] (w3.drew) fun v2 w4 =>
 ∃ (x33 : Option Addr) (x33N x33C : Nat), v2 = (.slice x33 x33N x33C) ∧
 (RUNU PG (storeVar 160 (Addr.add (Addr.add (Addr.add a24 3) (Int.toNat x21 * 16)) (Int.toNat x23 * 1)) (.slice x33 x33N x33C)) w4 fun w5 =>
 NILC wv fun a36 =>
 RD PG (loadVar 159 (Addr.add a36 68)) (w5.drew) fun v3 =>
 ∃ x38 : Value, v3 = x38 ∧
 (RDI PG (loadVar 3 a3) .i64 (w5.drew) fun x39 =>
 RUN PG (Builtin.delete_ #[159, 3] 0 #[x38, (.int .i64 x39)]) (w5.drew) fun v4 w6 =>
 v4 = (.tuple #[]) ∧
 (NILC wv fun a41 =>
 RD PG (loadVar 158 (Addr.add a41 67)) (w6.drew) fun v5 =>
 ∃ x43 : Value, v5 = x43 ∧
 (RDI PG (loadVar 3 a3) .i64 (w6.drew) fun x44 =>
 RUN PG (Builtin.delete_ #[158, 3] 0 #[x43, (.int .i64 x44)]) (w6.drew) fun v6 w7 =>
 v6 = (.tuple #[]) ∧
 (NILC wv fun a46 =>
 RDI PG (loadVar 3 (Addr.add a46 2)) .i64 w7 fun x48 =>
 NILC wv fun a50 =>
 RUNU PG (storeVar 3 (Addr.add a50 2) (.int .i64 (IntKind.i64.wrap (x48 - (1 : Int))))) w7 fun w8 =>
 Q (.bool true) w8)))))))))))))
theorem eq47 : ∀ (wv : Option Addr) (id : Int) (w : World) (Q : Value → World → Prop), vcF PG TB Try.f47 .nil [(.pointer wv), (.int .i64 id)] w Q = N47 wv id w Q := by intros; kernel_rfl
theorem call47 {wv : Option Addr} {id : Int} {w : World} {Q : Value → World → Prop} (hN : N47 wv id w Q) : CALL PG 47 [(.pointer wv), (.int .i64 id)] w Q := calls_vc tabOk Try.func47 (by rw [eq47]; exact hN)

/-- (*brougham/wheel.Wheel).Due -/
def N51 (wv : Option Addr) (id : Int) (w : World) (Q : Value → World → Prop) : Prop :=
 NILC wv fun a10 =>
 RD PG (loadVar 158 (Addr.add a10 67)) w fun v =>
 ∃ x12 : Value, v = x12 ∧
 (RD PG (Instr.lookup 158 x12 (.int .i64 id) true) w fun v1 =>
 ∃ x14 : Int, ∃ x14v1 : Bool, v1 = (.tuple #[(.int .i64 x14), (.bool x14v1)]) ∧
 (LETI x14 fun atv =>
 LETB x14v1 fun there =>
 IFB (!there)
 (Q (.tuple #[(.int .i64 (0 : Int)), (.bool false)]) w)
 (NILC wv fun a21 =>
 RDI PG (loadVar 3 (Addr.add a21 0)) .i64 w fun x23 =>
 LETI (IntKind.i64.wrap (atv - x23)) fun x4 =>
 Q (.tuple #[(.int .i64 x4), (.bool true)]) w)))
theorem eq51 : ∀ (wv : Option Addr) (id : Int) (w : World) (Q : Value → World → Prop), vcF PG TB Try.f51 .nil [(.pointer wv), (.int .i64 id)] w Q = N51 wv id w Q := by intros; kernel_rfl
theorem call51 {wv : Option Addr} {id : Int} {w : World} {Q : Value → World → Prop} (hN : N51 wv id w Q) : CALL PG 51 [(.pointer wv), (.int .i64 id)] w Q := calls_vc tabOk Try.func51 (by rw [eq51]; exact hN)

/-- slices.DeleteFunc[[]brougham/wheel.timer,brougham/wheel.timer] -/
def N100 (s : Option Addr) (sN sC : Nat) (del : Value) (w : World) (Q : Value → World → Prop) : Prop :=
 CALL PG 132 [(.slice s sN sC), del] w fun v w1 =>
 ∃ x10 : Int, v = (.int .i64 x10) ∧
 (LETI x10 fun i =>
 IFB (i == (-1 : Int))
 (Q (.slice s sN sC) w1)
 (LETI (IntKind.i64.wrap (i + (1 : Int))) fun j =>
 ∃ I : Nat → Int → Int → World → Prop,
 (∃ m, I m i j w1) ∧
 (∀ m1 (i1 : Int) (j1 : Int) (w2 : World), I m1 i1 j1 w2 → (IFB (decide (j1 < (sN : Int)))
 (IDX s sN j1 fun a24 =>
 RD PG (loadVar 167 (Addr.add a24 (Int.toNat j1 * 2))) w2 fun v1 =>
 ∃ x25 : Int, ∃ x25v1 : Int, v1 = (.agg #[(.int .i64 x25), (.int .i64 x25v1)]) ∧
 (RUNA PG (Instr.alloc 167 true (.tuple #[])) w2 fun a7 w3 =>
 RUNU PG (storeVar 167 a7 (.agg #[(.int .i64 x25), (.int .i64 x25v1)])) w3 fun w4 =>
 RD PG (loadVar 167 a7) w4 fun v2 =>
 ∃ x27 : Int, ∃ x27v1 : Int, v2 = (.agg #[(.int .i64 x27), (.int .i64 x27v1)]) ∧
 (CALLV PG del [(.agg #[(.int .i64 x27), (.int .i64 x27v1)])] w4 fun v3 w5 =>
 ∃ x28 : Bool, v3 = (.bool x28) ∧
 (IFB (!x28)
 (RD PG (loadVar 167 a7) w5 fun v4 =>
 ∃ x32 : Int, ∃ x32v1 : Int, v4 = (.agg #[(.int .i64 x32), (.int .i64 x32v1)]) ∧
 (IDX s sN i1 fun a33 =>
 RUNU PG (storeVar 167 (Addr.add a33 (Int.toNat i1 * 2)) (.agg #[(.int .i64 x32), (.int .i64 x32v1)])) w5 fun w6 =>
 LETI (IntKind.i64.wrap (i1 + (1 : Int))) fun i2 =>
 LETI (IntKind.i64.wrap (j1 + (1 : Int))) fun j2 =>
 ∃ m2, m2 < m1 ∧ I m2 i2 j2 w6))
 (LETI (IntKind.i64.wrap (j1 + (1 : Int))) fun j3 =>
 ∃ m3, m3 < m1 ∧ I m3 i1 j3 w5)))))
 (NEED (0 ≤ i1 ∧ i1 ≤ ((sN : Nat) : Int) ∧ ((sN : Nat) : Int) ≤ ((sC : Nat) : Int))
 (RUN PG (Builtin.clear_ #[160] 0 #[(.slice (cutA s sC 2 i1) (Int.toNat ((sN : Nat) : Int) - Int.toNat i1) (sC - Int.toNat i1))]) w2 fun v5 w7 =>
 v5 = (.tuple #[]) ∧
 (NEED (0 ≤ (0 : Int) ∧ (0 : Int) ≤ i1 ∧ i1 ≤ ((sC : Nat) : Int))
 (Q (.slice (cutA s sC 2 (0 : Int)) (Int.toNat i1 - Int.toNat (0 : Int)) (sC - Int.toNat (0 : Int))) w7))))))))
theorem eq100 : ∀ (s : Option Addr) (sN sC : Nat) (del : Value) (w : World) (Q : Value → World → Prop), vcF PG TB Try.f100 (.s .nil (.s .nil (.s .nil (.s (.s .nil (.u (.loop [(5, 3), (6, 3)] .nil))) .nil)))) [(.slice s sN sC), del] w Q = N100 s sN sC del w Q := by intros; kernel_rfl
theorem call100 {s : Option Addr} {sN sC : Nat} {del : Value} {w : World} {Q : Value → World → Prop} (hN : N100 s sN sC del w Q) : CALL PG 100 [(.slice s sN sC), del] w Q := calls_vc tabOk Try.func100 (by rw [eq100]; exact hN)

/-- (*brougham/wheel.Wheel).Cancel$1 -/
def N101 (t : Int) (t1 : Int) (x1 : Addr) (w : World) (Q : Value → World → Prop) : Prop :=
 RUNA PG (Instr.box 167 (.agg #[(.int .i64 t), (.int .i64 t1)])) w fun a2 w1 =>
 RDI PG (loadVar 3 (Addr.add a2 0)) .i64 w1 fun x5 =>
 RDI PG (loadVar 3 x1) .i64 w1 fun x6 =>
 LETB (x5 == x6) fun x3 =>
 Q (.bool x3) w1
theorem eq101 : ∀ (t : Int) (t1 : Int) (x1 : Addr) (w : World) (Q : Value → World → Prop), vcF PG TB Try.f101 .nil [(.agg #[(.int .i64 t), (.int .i64 t1)]), (.pointer (some x1))] w Q = N101 t t1 x1 w Q := by intros; kernel_rfl
theorem call101 {t : Int} {t1 : Int} {x1 : Addr} {w : World} {Q : Value → World → Prop} (hN : N101 t t1 x1 w Q) : CALL PG 101 [(.agg #[(.int .i64 t), (.int .i64 t1)]), (.pointer (some x1))] w Q := calls_vc tabOk Try.func101 (by rw [eq101]; exact hN)

/-- slices.IndexFunc[[]brougham/wheel.timer,brougham/wheel.timer] -/
def N132 (s : Option Addr) (sN sC : Nat) (f : Value) (w : World) (Q : Value → World → Prop) : Prop :=
 ∃ I : Nat → Int → World → Prop,
 (∃ m, I m (0 : Int) w) ∧
 (∀ m1 (x8 : Int) (w1 : World), I m1 x8 w1 → (IFB (decide (x8 < (sN : Int)))
 (LETI x8 fun i =>
 IDX s sN i fun a14 =>
 RD PG (loadVar 167 (Addr.add a14 (Int.toNat i * 2))) w1 fun v =>
 ∃ x15 : Int, ∃ x15v1 : Int, v = (.agg #[(.int .i64 x15), (.int .i64 x15v1)]) ∧
 (CALLV PG f [(.agg #[(.int .i64 x15), (.int .i64 x15v1)])] w1 fun v1 w2 =>
 ∃ x16 : Bool, v1 = (.bool x16) ∧
 (IFB x16
 (LETI i fun x4 =>
 Q (.int .i64 x4) w2)
 (∃ m2, m2 < m1 ∧ I m2 (IntKind.i64.wrap (x8 + (1 : Int))) w2))))
 (Q (.int .i64 (-1 : Int)) w1)))
theorem eq132 : ∀ (s : Option Addr) (sN sC : Nat) (f : Value) (w : World) (Q : Value → World → Prop), vcF PG TB Try.f132 (.s .nil (.s (.s .nil (.u (.loop [(8, 3)] .nil))) .nil)) [(.slice s sN sC), f] w Q = N132 s sN sC f w Q := by intros; kernel_rfl
theorem call132 {s : Option Addr} {sN sC : Nat} {f : Value} {w : World} {Q : Value → World → Prop} (hN : N132 s sN sC f w Q) : CALL PG 132 [(.slice s sN sC), f] w Q := calls_vc tabOk Try.func132 (by rw [eq132]; exact hN)

end Go.Br
