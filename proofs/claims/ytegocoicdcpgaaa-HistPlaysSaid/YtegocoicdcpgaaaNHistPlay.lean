/- What the code of some functions says, as the core reads it; each reading is checked by the kernel. -/
import Derived.Test.YtegocoicdcpgaaaBrSeat
set_option linter.unusedVariables false
set_option maxRecDepth 100000
namespace Go.Br
open Go Go.Proofs

/-- (*brougham/hist.Hist).Join -/
def N39 (h : Option Addr) (o : Option Addr) (w : World) (Q : Value → World → Prop) : Prop :=
 IFB (o.isNone)
 (Q (.tuple #[]) w)
 (NILC o fun a9 =>
 RD PG (loadVar 54 (Addr.add a9 0)) w fun v =>
 ∃ x11 : Value, v = x11 ∧
 (∃ I : Nat → Int → World → Prop,
 (∃ m, I m (0 : Int) w) ∧
 (∀ m1 (x12 : Int) (w1 : World), I m1 x12 w1 → (IFB (decide (x12 < (120 : Int)))
 (RD PG (Instr.index 54 x11 (.int .i64 x12)) w1 fun v1 =>
 ∃ x15 : Int, v1 = (.int .i64 x15) ∧
 (LETI x12 fun i =>
 LETI x15 fun c =>
 NILC h fun a18 =>
 NEED (0 ≤ i ∧ i < ((120 : Nat) : Int))
 (RD PG (loadVar 3 (Addr.add (Addr.add a18 0) (Int.toNat i * 1))) (w1.drew) fun v2 =>
 ∃ x21 : Int, v2 = (.int .i64 x21) ∧
 (NILC h fun a24 =>
 NEED (0 ≤ i ∧ i < ((120 : Nat) : Int))
 (RUNU PG (storeVar 3 (Addr.add (Addr.add a24 0) (Int.toNat i * 1)) (.int .i64 (IntKind.i64.wrap (x21 + c)))) (w1.drew) fun w2 =>
 ∃ m2, m2 < m1 ∧ I m2 (IntKind.i64.wrap (x12 + (1 : Int))) w2)))))
 (NILC h fun a29 =>
 RD PG (loadVar 3 (Addr.add a29 120)) (w1.drew) fun v3 =>
 ∃ x31 : Int, v3 = (.int .i64 x31) ∧
 (NILC o fun a33 =>
 RD PG (loadVar 3 (Addr.add a33 120)) (w1.drew) fun v4 =>
 ∃ x35 : Int, v4 = (.int .i64 x35) ∧
 (NILC h fun a37 =>
 RUNU PG (storeVar 3 (Addr.add a37 120) (.int .i64 (IntKind.i64.wrap (x31 + x35)))) (w1.drew) fun w3 =>
 NILC h fun a40 =>
 RD PG (loadVar 3 (Addr.add a40 121)) (w3.drew) fun v5 =>
 ∃ x42 : Int, v5 = (.int .i64 x42) ∧
 (NILC o fun a44 =>
 RD PG (loadVar 3 (Addr.add a44 121)) (w3.drew) fun v6 =>
 ∃ x46 : Int, v6 = (.int .i64 x46) ∧
 (NILC h fun a48 =>
 RUNU PG (storeVar 3 (Addr.add a48 121) (.int .i64 (IntKind.i64.wrap (x42 + x46)))) (w3.drew) fun w4 =>
 Q (.tuple #[]) w4)))))))))
theorem eq39 : ∀ (h : Option Addr) (o : Option Addr) (w : World) (Q : Value → World → Prop), vcF PG TB Try.f39 (.s .nil (.s (.s .nil (.u (.loop [(12, 3)] .nil))) .nil)) [(.pointer h), (.pointer o)] w Q = N39 h o w Q := by intros; kernel_rfl
theorem call39 {h : Option Addr} {o : Option Addr} {w : World} {Q : Value → World → Prop} (hN : N39 h o w Q) : CALL PG 39 [(.pointer h), (.pointer o)] w Q := calls_vc tabOk Try.func39 (by rw [eq39]; exact hN)

/-- brougham/broughamref44.Many -/
def N93 (l : Option Addr) (lN lC : Nat) (w : World) (Q : Value → World → Prop) : Prop :=
 ∃ I : Nat → Int → Int → Int → World → Prop,
 (∃ m, I m (0 : Int) (0 : Int) (0 : Int) w) ∧
 (∀ m1 (n : Int) (sum : Int) (i : Int) (w1 : World), I m1 n sum i w1 → (IFB (decide (i < (lN : Int)))
 (IDX l lN i fun a16 =>
 RD PG (loadVar 3 (Addr.add (Addr.add a16 (Int.toNat i * 2)) 1)) w1 fun v =>
 ∃ x18 : Int, v = (.int .i64 x18) ∧
 (CALL PG 119 [(.int .i64 x18)] w1 fun v1 w2 =>
 ∃ x19 : Int, v1 = (.int .i64 x19) ∧
 (LETI (IntKind.i64.wrap (n + x19)) fun n1 =>
 ∃ S : World → Prop, S (w2.drew) ∧
 (IDX l lN i fun a24 =>
 RDS PG (loadVar 3 (Addr.add (Addr.add a24 (Int.toNat i * 2)) 1)) S fun v2 =>
 ∃ x26 : Int, v2 = (.int .i64 x26) ∧
 (IDX l lN i fun a30 =>
 RDS PG (loadVar 3 (Addr.add (Addr.add a30 (Int.toNat i * 2)) 0)) S fun v3 =>
 ∃ x32 : Int, v3 = (.int .i64 x32) ∧
 (CALL PG 119 [(.int .i64 x26)] (w2.drew) fun v4 w3 =>
 ∃ x27 : Int, v4 = (.int .i64 x27) ∧
 (∃ S1 : World → Prop, (∀ x, S1 x → S x) ∧ S1 w3 ∧
 (CALL PG 87 [(.int .i64 x32)] w3 fun v5 w4 =>
 ∃ x33 : Int, v5 = (.int .i64 x33) ∧
 (∃ S2 : World → Prop, (∀ x, S2 x → S1 x) ∧ S2 w4 ∧
 (LETI (IntKind.i64.wrap (sum + (IntKind.i64.wrap (x27 * x33)))) fun sum1 =>
 LETI (IntKind.i64.wrap (i + (1 : Int))) fun i1 =>
 ∃ m2, m2 < m1 ∧ I m2 n1 sum1 i1 w4))))))))))
 (LETI n fun x2 =>
 LETI sum fun x3 =>
 Q (.tuple #[(.int .i64 x2), (.int .i64 x3)]) w1)))
theorem eq93 : ∀ (l : Option Addr) (lN lC : Nat) (w : World) (Q : Value → World → Prop), vcF PG TB Try.f93 (.s .nil (.s .nil (.s (.s .nil (.u (.loop [(4, 3), (5, 3), (6, 3)] .nil))) .nil))) [(.slice l lN lC)] w Q = N93 l lN lC w Q := by intros; kernel_rfl
theorem call93 {l : Option Addr} {lN lC : Nat} {w : World} {Q : Value → World → Prop} (hN : N93 l lN lC w Q) : CALL PG 93 [(.slice l lN lC)] w Q := calls_vc tabOk Try.func93 (by rw [eq93]; exact hN)

/-- (*brougham/hist.Hist).Count -/
def N94 (h : Option Addr) (row : Int) (w : World) (Q : Value → World → Prop) : Prop :=
 IFB (decide (row < (0 : Int)))
 (Q (.int .i64 (0 : Int)) w)
 (IFB (decide (row ≥ (120 : Int)))
 (Q (.int .i64 (0 : Int)) w)
 (NILC h fun a13 =>
 NEED (0 ≤ row ∧ row < ((120 : Nat) : Int))
 (RD PG (loadVar 3 (Addr.add (Addr.add a13 0) (Int.toNat row * 1))) w fun v =>
 ∃ x16 : Int, v = (.int .i64 x16) ∧
 (LETI x16 fun x4 =>
 Q (.int .i64 x4) w))))
theorem eq94 : ∀ (h : Option Addr) (row : Int) (w : World) (Q : Value → World → Prop), vcF PG TB Try.f94 .nil [(.pointer h), (.int .i64 row)] w Q = N94 h row w Q := by intros; kernel_rfl
theorem call94 {h : Option Addr} {row : Int} {w : World} {Q : Value → World → Prop} (hN : N94 h row w Q) : CALL PG 94 [(.pointer h), (.int .i64 row)] w Q := calls_vc tabOk Try.func94 (by rw [eq94]; exact hN)

/-- brougham/broughamref44.Count -/
def N95 (l : Option Addr) (lN lC : Nat) (row : Int) (w : World) (Q : Value → World → Prop) : Prop :=
 ∃ I : Nat → Int → Int → World → Prop,
 (∃ m, I m (0 : Int) (0 : Int) w) ∧
 (∀ m1 (n : Int) (i : Int) (w1 : World), I m1 n i w1 → (IFB (decide (i < (lN : Int)))
 (IDX l lN i fun a15 =>
 RD PG (loadVar 3 (Addr.add (Addr.add a15 (Int.toNat i * 2)) 0)) w1 fun v =>
 ∃ x17 : Int, v = (.int .i64 x17) ∧
 (CALL PG 26 [(.int .i64 x17)] w1 fun v1 w2 =>
 ∃ x18 : Int, v1 = (.int .i64 x18) ∧
 (IFB (x18 == row)
 (IDX l lN i fun a24 =>
 RD PG (loadVar 3 (Addr.add (Addr.add a24 (Int.toNat i * 2)) 1)) w2 fun v2 =>
 ∃ x26 : Int, v2 = (.int .i64 x26) ∧
 (CALL PG 119 [(.int .i64 x26)] w2 fun v3 w3 =>
 ∃ x27 : Int, v3 = (.int .i64 x27) ∧
 (LETI (IntKind.i64.wrap (n + x27)) fun n1 =>
 LETI (IntKind.i64.wrap (i + (1 : Int))) fun i1 =>
 ∃ m2, m2 < m1 ∧ I m2 n1 i1 w3)))
 (LETI (IntKind.i64.wrap (i + (1 : Int))) fun i2 =>
 ∃ m3, m3 < m1 ∧ I m3 n i2 w2))))
 (LETI n fun x4 =>
 Q (.int .i64 x4) w1)))
theorem eq95 : ∀ (l : Option Addr) (lN lC : Nat) (row : Int) (w : World) (Q : Value → World → Prop), vcF PG TB Try.f95 (.s .nil (.s .nil (.s (.s .nil (.u (.loop [(5, 3), (6, 3)] .nil))) .nil))) [(.slice l lN lC), (.int .i64 row)] w Q = N95 l lN lC row w Q := by intros; kernel_rfl
theorem call95 {l : Option Addr} {lN lC : Nat} {row : Int} {w : World} {Q : Value → World → Prop} (hN : N95 l lN lC row w Q) : CALL PG 95 [(.slice l lN lC), (.int .i64 row)] w Q := calls_vc tabOk Try.func95 (by rw [eq95]; exact hN)

/-- (*brougham/hist.Hist).Below -/
def N96 (h : Option Addr) (part : Int) (w : World) (Q : Value → World → Prop) : Prop :=
 LETI (minN (maxN part (0 : Int)) (1000 : Int)) fun part1 =>
 NILC h fun a13 =>
 RD PG (loadVar 3 (Addr.add a13 120)) w fun v =>
 ∃ x15 : Int, v = (.int .i64 x15) ∧
 (NEED ((1000 : Int) ≠ 0)
 (LETI (IntKind.i64.wrap (Int.tdiv (IntKind.i64.wrap ((IntKind.i64.wrap (x15 * part1)) + (999 : Int))) (1000 : Int))) fun want =>
 NILC h fun a21 =>
 RD PG (loadVar 54 (Addr.add a21 0)) w fun v1 =>
 ∃ x23 : Value, v1 = x23 ∧
 (∃ I : Nat → Int → Int → World → Prop,
 (∃ m, I m (0 : Int) (0 : Int) w) ∧
 (∀ m1 (n : Int) (x24 : Int) (w1 : World), I m1 n x24 w1 → (IFB (decide (x24 < (120 : Int)))
 (RD PG (Instr.index 54 x23 (.int .i64 x24)) w1 fun v2 =>
 ∃ x27 : Int, v2 = (.int .i64 x27) ∧
 (LETI x24 fun i =>
 LETI x27 fun c =>
 LETI (IntKind.i64.wrap (n + c)) fun n1 =>
 IFB (decide (c > (0 : Int)))
 (IFB (decide (n1 ≥ want))
 (CALL PG 27 [(.int .i64 i)] w1 fun v3 w2 =>
 ∃ x39 : Int, v3 = (.int .i64 x39) ∧
 (LETI x39 fun x4 =>
 Q (.int .i64 x4) w2))
 (∃ m2, m2 < m1 ∧ I m2 n1 (IntKind.i64.wrap (x24 + (1 : Int))) w1))
 (∃ m3, m3 < m1 ∧ I m3 n1 (IntKind.i64.wrap (x24 + (1 : Int))) w1)))
 (Q (.int .i64 (0 : Int)) w1))))))
theorem eq96 : ∀ (h : Option Addr) (part : Int) (w : World) (Q : Value → World → Prop), vcF PG TB Try.f96 (.s .nil (.s .nil (.s .nil (.s .nil (.s (.s .nil (.u (.loop [(6, 3), (24, 3)] .nil))) .nil))))) [(.pointer h), (.int .i64 part)] w Q = N96 h part w Q := by intros; kernel_rfl
theorem call96 {h : Option Addr} {part : Int} {w : World} {Q : Value → World → Prop} (hN : N96 h part w Q) : CALL PG 96 [(.pointer h), (.int .i64 part)] w Q := calls_vc tabOk Try.func96 (by rw [eq96]; exact hN)

/-- brougham/broughamref44.often -/
def N119 (n : Int) (w : World) (Q : Value → World → Prop) : Prop :=
 IFB (decide (n < (0 : Int)))
 (Q (.int .i64 (0 : Int)) w)
 (IFB (decide (n > (1048576 : Int)))
 (Q (.int .i64 (1048576 : Int)) w)
 (LETI n fun x2 =>
 Q (.int .i64 x2) w))
theorem eq119 : ∀ (n : Int) (w : World) (Q : Value → World → Prop), vcF PG TB Try.f119 .nil [(.int .i64 n)] w Q = N119 n w Q := by intros; kernel_rfl
theorem call119 {n : Int} {w : World} {Q : Value → World → Prop} (hN : N119 n w Q) : CALL PG 119 [(.int .i64 n)] w Q := calls_vc tabOk Try.func119 (by rw [eq119]; exact hN)

end Go.Br
