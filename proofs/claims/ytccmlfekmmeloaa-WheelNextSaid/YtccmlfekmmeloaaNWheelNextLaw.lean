/- What the code of some functions says, as the core reads it; each reading is checked by the kernel. -/
import Derived.Test.YtccmlfekmmeloaaBrSeat
set_option linter.unusedVariables false
set_option maxRecDepth 100000
namespace Go.Br
open Go Go.Proofs

/-- brougham/broughamlaw29.WheelNext -/
def N9 (l : Option Addr) (lN lC : Nat) (w : World) (Q : Value → World → Prop) : Prop :=
 IFB (decide ((lN : Int) > (20 : Int)))
 (Q (.bool true) w)
 (CALL PG 38 [(.int .i64 (64 : Int))] w fun v w1 =>
 ∃ x13 : Option Addr, v = (.pointer x13) ∧
 (IFB (x13.isNone)
 (Q (.bool false) w1)
 (∃ I : Nat → Int → World → Prop,
 (∃ m, I m (0 : Int) w1) ∧
 (∀ m1 (i : Int) (w2 : World), I m1 i w2 → (IFB (decide (i < (lN : Int)))
 (∃ R : Bool → World → Prop,
 (IDX l lN i fun a24 =>
 RDI PG (loadVar 3 (Addr.add (Addr.add a24 (Int.toNat i * 3)) 2)) .i64 (w2.drew) fun x26 =>
 IFB (decide (x26 < (1 : Int)))
 (R true (w2.drew))
 (IDX l lN i fun a31 =>
 RDI PG (loadVar 3 (Addr.add (Addr.add a31 (Int.toNat i * 3)) 2)) .i64 (w2.drew) fun x33 =>
 IFB (decide (x33 > (3000 : Int)))
 (R true (w2.drew))
 (IDX l lN i fun a40 =>
 RDI PG (loadVar 3 (Addr.add (Addr.add a40 (Int.toNat i * 3)) 1)) .i64 (w2.drew) fun x42 =>
 IDX l lN i fun a45 =>
 RDI PG (loadVar 3 (Addr.add (Addr.add a45 (Int.toNat i * 3)) 2)) .i64 (w2.drew) fun x47 =>
 CALL PG 39 [(.pointer x13), (.int .i64 x42), (.int .i64 x47)] (w2.drew) fun v1 w3 =>
 ∃ x48 : Bool, v1 = (.bool x48) ∧
 (R (!x48) w3)))) ∧
 (∀ (x50 : Bool) (w4 : World), R x50 w4 → (IFB x50
 (IDX l lN i fun a53 =>
 RDI PG (loadVar 3 (Addr.add (Addr.add a53 (Int.toNat i * 3)) 2)) .i64 w4 fun x55 =>
 IFB (decide (x55 < (1 : Int)))
 (LETB true fun x2 =>
 Q (.bool x2) w4)
 (IDX l lN i fun a60 =>
 RDI PG (loadVar 3 (Addr.add (Addr.add a60 (Int.toNat i * 3)) 2)) .i64 w4 fun x62 =>
 LETB (decide (x62 > (3000 : Int))) fun x2v1 =>
 Q (.bool x2v1) w4))
 (LETI (IntKind.i64.wrap (i + (1 : Int))) fun i1 =>
 ∃ m2, m2 < m1 ∧ I m2 i1 w4))))
 (∃ I1 : Nat → World → Prop,
 (∃ m3, I1 m3 w2) ∧
 (∀ m4  (w5 : World), I1 m4 w5 → (CALL PG 41 [(.pointer x13)] w5 fun v2 w6 =>
 ∃ x66 : Int, v2 = (.int .i64 x66) ∧
 (IFB (decide (x66 > (0 : Int)))
 (CALL PG 44 [(.pointer x13)] w6 fun v3 w7 =>
 ∃ x70 : Int, ∃ x70v1 : Bool, v3 = (.tuple #[(.int .i64 x70), (.bool x70v1)]) ∧
 (LETI x70 fun n =>
 LETB x70v1 fun okv =>
 IFB (!okv)
 (Q (.bool false) w7)
 (IFB (decide (n < (1 : Int)))
 (Q (.bool false) w7)
 (IFB (decide (n > (3000 : Int)))
 (Q (.bool false) w7)
 (∃ I2 : Nat → Int → World → Prop,
 (∃ m5, I2 m5 (1 : Int) w7) ∧
 (∀ m6 (i2 : Int) (w8 : World), I2 m6 i2 w8 → (IFB (decide (i2 < n))
 (CALL PG 40 [(.pointer x13)] w8 fun v4 w9 =>
 ∃ (x89 : Option Addr) (x89N x89C : Nat), v4 = (.slice x89 x89N x89C) ∧
 (IFB ((x89N : Int) != (0 : Int))
 (Q (.bool false) w9)
 (LETI (IntKind.i64.wrap (i2 + (1 : Int))) fun i3 =>
 ∃ m7, m7 < m6 ∧ I2 m7 i3 w9)))
 (CALL PG 40 [(.pointer x13)] w8 fun v5 w10 =>
 ∃ (x93 : Option Addr) (x93N x93C : Nat), v5 = (.slice x93 x93N x93C) ∧
 (IFB ((x93N : Int) == (0 : Int))
 (Q (.bool false) w10)
 (∃ m8, m8 < m4 ∧ I1 m8 w10))))))))))
 (CALL PG 44 [(.pointer x13)] w6 fun v6 w11 =>
 ∃ x98 : Int, ∃ x98v1 : Bool, v6 = (.tuple #[(.int .i64 x98), (.bool x98v1)]) ∧
 (LETI x98 fun x =>
 LETB x98v1 fun more =>
 IFB (!more)
 (CALL PG 42 [] w11 fun v7 w12 =>
 ∃ x104 : Bool, v7 = (.bool x104) ∧
 (LETB x104 fun x2v2 =>
 Q (.bool x2v2) w12))
 (LETB false fun x2v3 =>
 Q (.bool x2v3) w11))))))))))))
theorem eq9 : ∀ (l : Option Addr) (lN lC : Nat) (w : World) (Q : Value → World → Prop), vcF PG TB Try.f9 (.s .nil (.s .nil (.s .nil (.s .nil (.s (.s .nil (.u (.loop [(4, 3)] (.s .nil (.s (.u (.cut [(50, 4)] .nil .nil)) .nil))))) (.s (.u (.loop [] (.s .nil (.u (.s .nil (.s .nil (.s (.s .nil (.u (.loop [(7, 3)] .nil))) .nil))))))) .nil)))))) [(.slice l lN lC)] w Q = N9 l lN lC w Q := by intros; kernel_rfl
theorem call9 {l : Option Addr} {lN lC : Nat} {w : World} {Q : Value → World → Prop} (hN : N9 l lN lC w Q) : CALL PG 9 [(.slice l lN lC)] w Q := calls_vc tabOk Try.func9 (by rw [eq9]; exact hN)

end Go.Br
