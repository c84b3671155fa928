/- What the code of some functions says, as the core reads it; each reading is checked by the kernel. -/
import Derived.Test.YtggajodoaooafaaBrSeat
set_option linter.unusedVariables false
set_option maxRecDepth 100000
namespace Go.Br
open Go Go.Proofs

/-- brougham/broughamref19.Row -/
def N42 (a : Option Addr) (aN aC : Nat) (b : Option Addr) (bN bC : Nat) (w : World) (Q : Value → World → Prop) : Prop :=
 IFB ((aN : Int) != (bN : Int))
 (Q (.bool false) w)
 (∃ I : Nat → Int → World → Prop,
 (∃ m, I m (0 : Int) w) ∧
 (∀ m1 (i : Int) (w1 : World), I m1 i w1 → (IFB (decide (i < (aN : Int)))
 (IDX a aN i fun a19 =>
 RDI PG (loadVar 3 (Addr.add a19 (Int.toNat i * 1))) .i64 (w1.drew) fun x20 =>
 IDX b bN i fun a23 =>
 RDI PG (loadVar 3 (Addr.add a23 (Int.toNat i * 1))) .i64 (w1.drew) fun x24 =>
 IFB (x20 != x24)
 (Q (.bool false) (w1.drew))
 (LETI (IntKind.i64.wrap (i + (1 : Int))) fun i1 =>
 ∃ m2, m2 < m1 ∧ I m2 i1 (w1.drew)))
 (Q (.bool true) w1))))
theorem eq42 : ∀ (a : Option Addr) (aN aC : Nat) (b : Option Addr) (bN bC : Nat) (w : World) (Q : Value → World → Prop), vcF PG TB Try.f42 (.s .nil (.s .nil (.s (.s .nil (.u (.loop [(5, 3)] .nil))) .nil))) [(.slice a aN aC), (.slice b bN bC)] w Q = N42 a aN aC b bN bC w Q := by intros; kernel_rfl
theorem call42 {a : Option Addr} {aN aC : Nat} {b : Option Addr} {bN bC : Nat} {w : World} {Q : Value → World → Prop} (hN : N42 a aN aC b bN bC w Q) : CALL PG 42 [(.slice a aN aC), (.slice b bN bC)] w Q := calls_vc tabOk Try.func42 (by rw [eq42]; exact hN)

/-- brougham/broughamref19.Order -/
def N44 (policy : Int) (last : Int) (n : Int) (l : Option Addr) (lN lC : Nat) (w : World) (Q : Value → World → Prop) : Prop :=
 CALL PG 94 [(.int .i64 policy), (.int .i64 last), (.int .i64 n), (.slice l lN lC)] w fun v w1 =>
 ∃ (x16 : Option Addr) (x16N x16C : Nat), v = (.slice x16 x16N x16C) ∧
 (∃ I : Nat → Option Addr → Nat → Nat → Int → World → Prop,
 (∃ m, I m none 0 0 (0 : Int) w1) ∧
 (∀ m1 (out : Option Addr) (outN outC : Nat) (i : Int) (w2 : World), I m1 out outN outC i w2 → (IFB (decide (i < (x16N : Int)))
 (IDX x16 x16N i fun a26 =>
 RDI PG (loadVar 3 (Addr.add (Addr.add a26 (Int.toNat i * 7)) 0)) .i64 w2 fun x28 =>
 RUNL PG (Instr.buildSlice 95 1 #[(0, (.int .i64 x28))]) w2 fun x29 x29N x29C w3 =>
 RUNL PG (Builtin.append_ #[95, 95] 95 #[(.slice out outN outC), (.slice x29 x29N x29C)]) w3 fun x30 x30N x30C w4 =>
 LETI (IntKind.i64.wrap (i + (1 : Int))) fun i1 =>
 ∃ m2, m2 < m1 ∧ I m2 x30 x30N x30C i1 w4)
 (Q (.slice out outN outC) w2))))
theorem eq44 : ∀ (policy : Int) (last : Int) (n : Int) (l : Option Addr) (lN lC : Nat) (w : World) (Q : Value → World → Prop), vcF PG TB Try.f44 (.s .nil (.s .nil (.s .nil (.s (.s .nil (.u (.loop [(9, 95), (11, 3)] .nil))) .nil)))) [(.int .i64 policy), (.int .i64 last), (.int .i64 n), (.slice l lN lC)] w Q = N44 policy last n l lN lC w Q := by intros; kernel_rfl
theorem call44 {policy : Int} {last : Int} {n : Int} {l : Option Addr} {lN lC : Nat} {w : World} {Q : Value → World → Prop} (hN : N44 policy last n l lN lC w Q) : CALL PG 44 [(.int .i64 policy), (.int .i64 last), (.int .i64 n), (.slice l lN lC)] w Q := calls_vc tabOk Try.func44 (by rw [eq44]; exact hN)

/-- brougham/broughamlaw19.plain -/
def N45 (l : Option Addr) (lN lC : Nat) (w : World) (Q : Value → World → Prop) : Prop :=
 ∃ I : Nat → Option Addr → Nat → Nat → Int → World → Prop,
 (∃ m, I m none 0 0 (0 : Int) w) ∧
 (∀ m1 (out : Option Addr) (outN outC : Nat) (i : Int) (w1 : World), I m1 out outN outC i w1 → (IFB (decide (i < (lN : Int)))
 (IDX l lN i fun a14 =>
 RD PG (loadVar 103 (Addr.add a14 (Int.toNat i * 7))) w1 fun v =>
 ∃ x15 : Int, ∃ x15v1 : Bool, ∃ x15v2 : Bool, ∃ x15v3 : Bool, ∃ x15v4 : Int, ∃ x15v5 : Int, ∃ x15v6 : Int, v = (.agg #[(.int .i64 x15), (.bool x15v1), (.bool x15v2), (.bool x15v3), (.int .i64 x15v4), (.int .i64 x15v5), (.int .i64 x15v6)]) ∧
 (RUNA PG (Instr.alloc 103 true (.tuple #[])) w1 fun a5 w2 =>
 RUNU PG (storeVar 103 a5 (.agg #[(.int .i64 x15), (.bool x15v1), (.bool x15v2), (.bool x15v3), (.int .i64 x15v4), (.int .i64 x15v5), (.int .i64 x15v6)])) w2 fun w3 =>
 RDI PG (loadVar 3 (Addr.add a5 0)) .i64 w3 fun x18 =>
 RDB PG (loadVar 4 (Addr.add a5 1)) w3 fun x20 =>
 RDB PG (loadVar 4 (Addr.add a5 2)) w3 fun x22 =>
 RDB PG (loadVar 4 (Addr.add a5 3)) w3 fun x24 =>
 RDI PG (loadVar 3 (Addr.add a5 4)) .i64 w3 fun x26 =>
 RDI PG (loadVar 3 (Addr.add a5 5)) .i64 w3 fun x28 =>
 RDI PG (loadVar 3 (Addr.add a5 6)) .i64 w3 fun x30 =>
 RD PG (Instr.build 184 #[(0, (.int .i64 x18)), (1, (.bool x20)), (2, (.bool x22)), (3, (.bool x24)), (4, (.int .i64 x26)), (5, (.int .i64 x28)), (6, (.int .i64 x30))]) w3 fun v1 =>
 ∃ x31 : Int, ∃ x31v1 : Bool, ∃ x31v2 : Bool, ∃ x31v3 : Bool, ∃ x31v4 : Int, ∃ x31v5 : Int, ∃ x31v6 : Int, v1 = (.agg #[(.int .i64 x31), (.bool x31v1), (.bool x31v2), (.bool x31v3), (.int .i64 x31v4), (.int .i64 x31v5), (.int .i64 x31v6)]) ∧
 (RUNL PG (Instr.buildSlice 98 1 #[(0, (.agg #[(.int .i64 x31), (.bool x31v1), (.bool x31v2), (.bool x31v3), (.int .i64 x31v4), (.int .i64 x31v5), (.int .i64 x31v6)]))]) w3 fun x32 x32N x32C w4 =>
 RUNL PG (Builtin.append_ #[98, 98] 98 #[(.slice out outN outC), (.slice x32 x32N x32C)]) w4 fun x33 x33N x33C w5 =>
 LETI (IntKind.i64.wrap (i + (1 : Int))) fun i1 =>
 ∃ m2, m2 < m1 ∧ I m2 x33 x33N x33C i1 w5)))
 (Q (.slice out outN outC) w1)))
theorem eq45 : ∀ (l : Option Addr) (lN lC : Nat) (w : World) (Q : Value → World → Prop), vcF PG TB Try.f45 (.s .nil (.s .nil (.s (.s .nil (.u (.loop [(3, 98), (4, 3)] .nil))) .nil))) [(.slice l lN lC)] w Q = N45 l lN lC w Q := by intros; kernel_rfl
theorem call45 {l : Option Addr} {lN lC : Nat} {w : World} {Q : Value → World → Prop} (hN : N45 l lN lC w Q) : CALL PG 45 [(.slice l lN lC)] w Q := calls_vc tabOk Try.func45 (by rw [eq45]; exact hN)

/-- brougham/broughamlaw19.apart -/
def N47 (l : Option Addr) (lN lC : Nat) (w : World) (Q : Value → World → Prop) : Prop :=
 ∃ I : Nat → Int → World → Prop,
 (∃ m, I m (0 : Int) w) ∧
 (∀ m1 (i : Int) (w1 : World), I m1 i w1 → (IFB (decide (i < (lN : Int)))
 (LETI (IntKind.i64.wrap (i + (1 : Int))) fun k =>
 ∃ I1 : Nat → Int → World → Prop,
 (∃ m2, I1 m2 k w1) ∧
 (∀ m3 (k1 : Int) (w2 : World), I1 m3 k1 w2 → (IFB (decide (k1 < (lN : Int)))
 (IDX l lN i fun a21 =>
 RDI PG (loadVar 3 (Addr.add (Addr.add a21 (Int.toNat i * 7)) 0)) .i64 (w2.drew) fun x23 =>
 IDX l lN k1 fun a26 =>
 RDI PG (loadVar 3 (Addr.add (Addr.add a26 (Int.toNat k1 * 7)) 0)) .i64 (w2.drew) fun x28 =>
 IFB (x23 == x28)
 (Q (.bool false) (w2.drew))
 (LETI (IntKind.i64.wrap (k1 + (1 : Int))) fun k2 =>
 ∃ m4, m4 < m3 ∧ I1 m4 k2 (w2.drew)))
 (LETI (IntKind.i64.wrap (i + (1 : Int))) fun i1 =>
 ∃ m5, m5 < m1 ∧ I m5 i1 w2))))
 (Q (.bool true) w1)))
theorem eq47 : ∀ (l : Option Addr) (lN lC : Nat) (w : World) (Q : Value → World → Prop), vcF PG TB Try.f47 (.s .nil (.s (.s .nil (.u (.loop [(3, 3)] (.s .nil (.s (.u (.s .nil (.u (.loop [(4, 3)] .nil)))) .nil))))) .nil)) [(.slice l lN lC)] w Q = N47 l lN lC w Q := by intros; kernel_rfl
theorem call47 {l : Option Addr} {lN lC : Nat} {w : World} {Q : Value → World → Prop} (hN : N47 l lN lC w Q) : CALL PG 47 [(.slice l lN lC)] w Q := calls_vc tabOk Try.func47 (by rw [eq47]; exact hN)

/-- brougham/broughamref19.Choose -/
def N49 (policy : Int) (last : Int) (n : Int) (l : Option Addr) (lN lC : Nat) (w : World) (Q : Value → World → Prop) : Prop :=
 CALL PG 94 [(.int .i64 policy), (.int .i64 last), (.int .i64 n), (.slice l lN lC)] w fun v w1 =>
 ∃ (x16 : Option Addr) (x16N x16C : Nat), v = (.slice x16 x16N x16C) ∧
 (∃ I : Nat → Option Addr → Nat → Nat → Int → World → Prop,
 (∃ m, I m none 0 0 (0 : Int) w1) ∧
 (∀ m1 (out : Option Addr) (outN outC : Nat) (i : Int) (w2 : World), I m1 out outN outC i w2 → (IFB (decide (i < (x16N : Int)))
 (∃ S : World → Prop, S (w2.drew) ∧
 (IFB (i == (0 : Int))
 (IDX x16 x16N i fun a44 =>
 RDI PG (loadVar 3 (Addr.add (Addr.add a44 (Int.toNat i * 7)) 0)) .i64 (w2.drew) fun x46 =>
 RUNL PG (Instr.buildSlice 95 1 #[(0, (.int .i64 x46))]) (w2.drew) fun x47 x47N x47C w3 =>
 RUNL PG (Builtin.append_ #[95, 95] 95 #[(.slice out outN outC), (.slice x47 x47N x47C)]) w3 fun x48 x48N x48C w4 =>
 LETI (IntKind.i64.wrap (i + (1 : Int))) fun i1 =>
 ∃ m2, m2 < m1 ∧ I m2 x48 x48N x48C i1 w4)
 (IFB (policy == (3 : Int))
 (IDX x16 x16N i fun a31 =>
 RDS PG (loadVar 184 (Addr.add a31 (Int.toNat i * 7))) S fun v1 =>
 ∃ x32 : Int, ∃ x32v1 : Bool, ∃ x32v2 : Bool, ∃ x32v3 : Bool, ∃ x32v4 : Int, ∃ x32v5 : Int, ∃ x32v6 : Int, v1 = (.agg #[(.int .i64 x32), (.bool x32v1), (.bool x32v2), (.bool x32v3), (.int .i64 x32v4), (.int .i64 x32v5), (.int .i64 x32v6)]) ∧
 (IDX x16 x16N (0 : Int) fun a35 =>
 RDS PG (loadVar 184 (Addr.add a35 (Int.toNat (0 : Int) * 7))) S fun v2 =>
 ∃ x36 : Int, ∃ x36v1 : Bool, ∃ x36v2 : Bool, ∃ x36v3 : Bool, ∃ x36v4 : Int, ∃ x36v5 : Int, ∃ x36v6 : Int, v2 = (.agg #[(.int .i64 x36), (.bool x36v1), (.bool x36v2), (.bool x36v3), (.int .i64 x36v4), (.int .i64 x36v5), (.int .i64 x36v6)]) ∧
 (CALL PG 96 [(.agg #[(.int .i64 x32), (.bool x32v1), (.bool x32v2), (.bool x32v3), (.int .i64 x32v4), (.int .i64 x32v5), (.int .i64 x32v6)])] (w2.drew) fun v3 w5 =>
 ∃ x33 : Int, v3 = (.int .i64 x33) ∧
 (∃ S1 : World → Prop, (∀ x, S1 x → S x) ∧ S1 w5 ∧
 (CALL PG 96 [(.agg #[(.int .i64 x36), (.bool x36v1), (.bool x36v2), (.bool x36v3), (.int .i64 x36v4), (.int .i64 x36v5), (.int .i64 x36v6)])] w5 fun v4 w6 =>
 ∃ x37 : Int, v4 = (.int .i64 x37) ∧
 (IFB (x33 == x37)
 (IDX x16 x16N i fun a44v1 =>
 RDI PG (loadVar 3 (Addr.add (Addr.add a44v1 (Int.toNat i * 7)) 0)) .i64 w6 fun x46v1 =>
 RUNL PG (Instr.buildSlice 95 1 #[(0, (.int .i64 x46v1))]) w6 fun x47v1 x47N1 x47C1 w7 =>
 RUNL PG (Builtin.append_ #[95, 95] 95 #[(.slice out outN outC), (.slice x47v1 x47N1 x47C1)]) w7 fun x48v1 x48N1 x48C1 w8 =>
 LETI (IntKind.i64.wrap (i + (1 : Int))) fun i2 =>
 ∃ m3, m3 < m1 ∧ I m3 x48v1 x48N1 x48C1 i2 w8)
 (LETI (IntKind.i64.wrap (i + (1 : Int))) fun i3 =>
 ∃ m4, m4 < m1 ∧ I m4 out outN outC i3 w6)))))))
 (LETI (IntKind.i64.wrap (i + (1 : Int))) fun i4 =>
 ∃ m5, m5 < m1 ∧ I m5 out outN outC i4 (w2.drew)))))
 (Q (.slice out outN outC) w2))))
theorem eq49 : ∀ (policy : Int) (last : Int) (n : Int) (l : Option Addr) (lN lC : Nat) (w : World) (Q : Value → World → Prop), vcF PG TB Try.f49 (.s .nil (.s .nil (.s .nil (.s (.s .nil (.u (.loop [(9, 95), (11, 3)] .nil))) .nil)))) [(.int .i64 policy), (.int .i64 last), (.int .i64 n), (.slice l lN lC)] w Q = N49 policy last n l lN lC w Q := by intros; kernel_rfl
theorem call49 {policy : Int} {last : Int} {n : Int} {l : Option Addr} {lN lC : Nat} {w : World} {Q : Value → World → Prop} (hN : N49 policy last n l lN lC w Q) : CALL PG 49 [(.int .i64 policy), (.int .i64 last), (.int .i64 n), (.slice l lN lC)] w Q := calls_vc tabOk Try.func49 (by rw [eq49]; exact hN)

/-- brougham/broughamref19.order -/
def N94 (policy : Int) (last : Int) (n : Int) (l : Option Addr) (lN lC : Nat) (w : World) (Q : Value → World → Prop) : Prop :=
 ∃ I : Nat → Option Addr → Nat → Nat → Int → World → Prop,
 (∃ m, I m none 0 0 (0 : Int) w) ∧
 (∀ m1 (out : Option Addr) (outN outC : Nat) (i : Int) (w1 : World), I m1 out outN outC i w1 → (IFB (decide (i < (lN : Int)))
 (∃ R : World → Prop,
 (IDX l lN i fun a20 =>
 RDB PG (loadVar 4 (Addr.add (Addr.add a20 (Int.toNat i * 7)) 1)) w1 fun x22 =>
 IFB (!x22)
 (LETI (IntKind.i64.wrap (i + (1 : Int))) fun i1 =>
 ∃ m2, m2 < m1 ∧ I m2 out outN outC i1 w1)
 (IDX l lN i fun a27 =>
 RDI PG (loadVar 3 (Addr.add (Addr.add a27 (Int.toNat i * 7)) 4)) .i64 w1 fun x29 =>
 IFB (decide (x29 < n))
 (IDX l lN i fun a35 =>
 RDI PG (loadVar 3 (Addr.add (Addr.add a35 (Int.toNat i * 7)) 5)) .i64 w1 fun x37 =>
 IFB (x37 != (0 : Int))
 (LETI (IntKind.i64.wrap (i + (1 : Int))) fun i2 =>
 ∃ m3, m3 < m1 ∧ I m3 out outN outC i2 w1)
 (R w1))
 (R w1))) ∧
 (∀  (w2 : World), R w2 → (IDX l lN i fun a44 =>
 RD PG (loadVar 184 (Addr.add a44 (Int.toNat i * 7))) w2 fun v =>
 ∃ x45 : Int, ∃ x45v1 : Bool, ∃ x45v2 : Bool, ∃ x45v3 : Bool, ∃ x45v4 : Int, ∃ x45v5 : Int, ∃ x45v6 : Int, v = (.agg #[(.int .i64 x45), (.bool x45v1), (.bool x45v2), (.bool x45v3), (.int .i64 x45v4), (.int .i64 x45v5), (.int .i64 x45v6)]) ∧
 (RUNL PG (Instr.buildSlice 98 1 #[(0, (.agg #[(.int .i64 x45), (.bool x45v1), (.bool x45v2), (.bool x45v3), (.int .i64 x45v4), (.int .i64 x45v5), (.int .i64 x45v6)]))]) w2 fun x46 x46N x46C w3 =>
 RUNL PG (Builtin.append_ #[98, 98] 98 #[(.slice out outN outC), (.slice x46 x46N x46C)]) w3 fun x47 x47N x47C w4 =>
 LETI (IntKind.i64.wrap ((x47N : Int) - (1 : Int))) fun k =>
 ∃ I1 : Nat → Int → World → Prop,
 (∃ m4, I1 m4 k w4) ∧
 (∀ m5 (k1 : Int) (w5 : World), I1 m5 k1 w5 → (IFB (decide (k1 > (0 : Int)))
 (IDX x47 x47N k1 fun a56 =>
 RD PG (loadVar 184 (Addr.add a56 (Int.toNat k1 * 7))) (w5.drew) fun v1 =>
 ∃ x57 : Int, ∃ x57v1 : Bool, ∃ x57v2 : Bool, ∃ x57v3 : Bool, ∃ x57v4 : Int, ∃ x57v5 : Int, ∃ x57v6 : Int, v1 = (.agg #[(.int .i64 x57), (.bool x57v1), (.bool x57v2), (.bool x57v3), (.int .i64 x57v4), (.int .i64 x57v5), (.int .i64 x57v6)]) ∧
 (IDX x47 x47N (IntKind.i64.wrap (k1 - (1 : Int))) fun a61 =>
 RD PG (loadVar 184 (Addr.add a61 (Int.toNat (IntKind.i64.wrap (k1 - (1 : Int))) * 7))) (w5.drew) fun v2 =>
 ∃ x62 : Int, ∃ x62v1 : Bool, ∃ x62v2 : Bool, ∃ x62v3 : Bool, ∃ x62v4 : Int, ∃ x62v5 : Int, ∃ x62v6 : Int, v2 = (.agg #[(.int .i64 x62), (.bool x62v1), (.bool x62v2), (.bool x62v3), (.int .i64 x62v4), (.int .i64 x62v5), (.int .i64 x62v6)]) ∧
 (CALL PG 124 [(.agg #[(.int .i64 x57), (.bool x57v1), (.bool x57v2), (.bool x57v3), (.int .i64 x57v4), (.int .i64 x57v5), (.int .i64 x57v6)]), (.agg #[(.int .i64 x62), (.bool x62v1), (.bool x62v2), (.bool x62v3), (.int .i64 x62v4), (.int .i64 x62v5), (.int .i64 x62v6)]), (.int .i64 policy), (.int .i64 last)] (w5.drew) fun v3 w6 =>
 ∃ x65 : Bool, v3 = (.bool x65) ∧
 (IFB x65
 (IDX x47 x47N (IntKind.i64.wrap (k1 - (1 : Int))) fun a77 =>
 RD PG (loadVar 184 (Addr.add a77 (Int.toNat (IntKind.i64.wrap (k1 - (1 : Int))) * 7))) (w6.drew) fun v4 =>
 ∃ x78 : Int, ∃ x78v1 : Bool, ∃ x78v2 : Bool, ∃ x78v3 : Bool, ∃ x78v4 : Int, ∃ x78v5 : Int, ∃ x78v6 : Int, v4 = (.agg #[(.int .i64 x78), (.bool x78v1), (.bool x78v2), (.bool x78v3), (.int .i64 x78v4), (.int .i64 x78v5), (.int .i64 x78v6)]) ∧
 (IDX x47 x47N k1 fun a81 =>
 RD PG (loadVar 184 (Addr.add a81 (Int.toNat k1 * 7))) (w6.drew) fun v5 =>
 ∃ x82 : Int, ∃ x82v1 : Bool, ∃ x82v2 : Bool, ∃ x82v3 : Bool, ∃ x82v4 : Int, ∃ x82v5 : Int, ∃ x82v6 : Int, v5 = (.agg #[(.int .i64 x82), (.bool x82v1), (.bool x82v2), (.bool x82v3), (.int .i64 x82v4), (.int .i64 x82v5), (.int .i64 x82v6)]) ∧
 (IDX x47 x47N k1 fun a83 =>
 RUNU PG (storeVar 184 (Addr.add a83 (Int.toNat k1 * 7)) (.agg #[(.int .i64 x78), (.bool x78v1), (.bool x78v2), (.bool x78v3), (.int .i64 x78v4), (.int .i64 x78v5), (.int .i64 x78v6)])) (w6.drew) fun w7 =>
 IDX x47 x47N (IntKind.i64.wrap (k1 - (1 : Int))) fun a84 =>
 RUNU PG (storeVar 184 (Addr.add a84 (Int.toNat (IntKind.i64.wrap (k1 - (1 : Int))) * 7)) (.agg #[(.int .i64 x82), (.bool x82v1), (.bool x82v2), (.bool x82v3), (.int .i64 x82v4), (.int .i64 x82v5), (.int .i64 x82v6)])) w7 fun w8 =>
 LETI (IntKind.i64.wrap (k1 - (1 : Int))) fun k2 =>
 ∃ m6, m6 < m5 ∧ I1 m6 k2 w8)))
 (LETI (IntKind.i64.wrap (i + (1 : Int))) fun i3 =>
 ∃ m7, m7 < m1 ∧ I m7 x47 x47N x47C i3 w6)))))
 (LETI (IntKind.i64.wrap (i + (1 : Int))) fun i4 =>
 ∃ m8, m8 < m1 ∧ I m8 x47 x47N x47C i4 (w5.drew))))))))
 (Q (.slice out outN outC) w1)))
theorem eq94 : ∀ (policy : Int) (last : Int) (n : Int) (l : Option Addr) (lN lC : Nat) (w : World) (Q : Value → World → Prop), vcF PG TB Try.f94 (.s .nil (.s .nil (.s (.s .nil (.u (.loop [(9, 98), (10, 3)] (.s .nil (.s (.u (.cut [] .nil (.s .nil (.s .nil (.u (.loop [(11, 3)] .nil)))))) .nil))))) .nil))) [(.int .i64 policy), (.int .i64 last), (.int .i64 n), (.slice l lN lC)] w Q = N94 policy last n l lN lC w Q := by intros; kernel_rfl
theorem call94 {policy : Int} {last : Int} {n : Int} {l : Option Addr} {lN lC : Nat} {w : World} {Q : Value → World → Prop} (hN : N94 policy last n l lN lC w Q) : CALL PG 94 [(.int .i64 policy), (.int .i64 last), (.int .i64 n), (.slice l lN lC)] w Q := calls_vc tabOk Try.func94 (by rw [eq94]; exact hN)

end Go.Br
