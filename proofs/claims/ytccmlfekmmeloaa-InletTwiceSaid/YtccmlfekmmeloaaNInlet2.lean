/- What the code of some functions says, as the core reads it; each reading is checked by the kernel. -/
import Derived.Test.YtccmlfekmmeloaaBrSeat
set_option linter.unusedVariables false
set_option maxRecDepth 100000
namespace Go.Br
open Go Go.Proofs

/-- (*brougham/inlet.Inlet).Put -/
def N26 (x : Option Addr) (fromv : Int) (b : Option Addr) (bN bC : Nat) (w : World) (Q : Value → World → Prop) : Prop :=
 LETI (IntKind.u64.wrap (fromv + (IntKind.u64.wrap (bN : Int)))) fun tov =>
 IFB (decide (tov < fromv))
 (Q (.bool false) w)
 (∃ R : Int → Bool → World → Prop,
 (CALL PG 82 [(.pointer x)] w fun v w1 =>
 ∃ x23 : Int, v = (.int .u64 x23) ∧
 (LETI x23 fun top =>
 IFB (decide (tov > top))
 (IFB (decide ((bN : Int) > (0 : Int)))
 (LETI (maxN top fromv) fun tov1 =>
 R tov1 false w1)
 (R tov true w1))
 (R tov true w1))) ∧
 (∀ (tov2 : Int) (whole : Bool) (w2 : World), R tov2 whole w2 → (NEED (0 ≤ (0 : Int) ∧ (0 : Int) ≤ (IntKind.u64.wrap (tov2 - fromv)) ∧ (IntKind.u64.wrap (tov2 - fromv)) ≤ ((bC : Nat) : Int))
 (∃ R1 : Int → Option Addr → Nat → Nat → World → Prop,
 (CALL PG 28 [(.pointer x)] w2 fun v1 w3 =>
 ∃ x41 : Int, v1 = (.int .u64 x41) ∧
 (LETI x41 fun next =>
 IFB (decide (fromv < next))
 (NEED (0 ≤ (minN (IntKind.u64.wrap (next - fromv)) (IntKind.u64.wrap (((Int.toNat (IntKind.u64.wrap (tov2 - fromv)) - Int.toNat (0 : Int)) : Nat) : Int))) ∧ (minN (IntKind.u64.wrap (next - fromv)) (IntKind.u64.wrap (((Int.toNat (IntKind.u64.wrap (tov2 - fromv)) - Int.toNat (0 : Int)) : Nat) : Int))) ≤ (((Int.toNat (IntKind.u64.wrap (tov2 - fromv)) - Int.toNat (0 : Int)) : Nat) : Int) ∧ (((Int.toNat (IntKind.u64.wrap (tov2 - fromv)) - Int.toNat (0 : Int)) : Nat) : Int) ≤ (((bC - Int.toNat (0 : Int)) : Nat) : Int))
 (LETI next fun fromv1 =>
 R1 fromv1 (cutA (cutA b bC 1 (0 : Int)) (bC - Int.toNat (0 : Int)) 1 (minN (IntKind.u64.wrap (next - fromv)) (IntKind.u64.wrap (((Int.toNat (IntKind.u64.wrap (tov2 - fromv)) - Int.toNat (0 : Int)) : Nat) : Int)))) (Int.toNat (((Int.toNat (IntKind.u64.wrap (tov2 - fromv)) - Int.toNat (0 : Int)) : Nat) : Int) - Int.toNat (minN (IntKind.u64.wrap (next - fromv)) (IntKind.u64.wrap (((Int.toNat (IntKind.u64.wrap (tov2 - fromv)) - Int.toNat (0 : Int)) : Nat) : Int)))) ((bC - Int.toNat (0 : Int)) - Int.toNat (minN (IntKind.u64.wrap (next - fromv)) (IntKind.u64.wrap (((Int.toNat (IntKind.u64.wrap (tov2 - fromv)) - Int.toNat (0 : Int)) : Nat) : Int)))) w3))
 (R1 fromv (cutA b bC 1 (0 : Int)) (Int.toNat (IntKind.u64.wrap (tov2 - fromv)) - Int.toNat (0 : Int)) (bC - Int.toNat (0 : Int)) w3))) ∧
 (∀ (fromv2 : Int) (b1 : Option Addr) (bN1 bC1 : Nat) (w4 : World), R1 fromv2 b1 bN1 bC1 w4 → (IFB ((bN1 : Int) == (0 : Int))
 (LETB whole fun x6 =>
 Q (.bool x6) w4)
 (LETI (IntKind.u64.wrap (fromv2 + (IntKind.u64.wrap (bN1 : Int)))) fun tov3 =>
 NILC x fun a65 =>
 RDP PG (loadVar 65 (Addr.add a65 1)) w4 fun x67 =>
 CALL PG 83 [(.pointer x67), (.int .u64 fromv2), (.int .u64 tov3)] w4 fun v2 w5 =>
 ∃ (x70 : Option Addr) (x70N x70C : Nat), v2 = (.slice x70 x70N x70C) ∧
 (∃ R2 : World → Prop,
 (CALL PG 28 [(.pointer x)] w5 fun v3 w6 =>
 ∃ x73 : Int, v3 = (.int .u64 x73) ∧
 (IFB (decide (fromv2 > x73))
 (NILC x fun a77 =>
 RDP PG (loadVar 65 (Addr.add a77 1)) w6 fun x79 =>
 CALL PG 84 [(.pointer x79), (.int .u64 fromv2), (.int .u64 tov3)] w6 fun v4 w7 =>
 ∃ x82 : Bool, v4 = (.bool x82) ∧
 (IFB (!x82)
 (Q (.bool false) w7)
 (R2 w7)))
 (R2 w6))) ∧
 (∀  (w8 : World), R2 w8 → (∃ I : Nat → Int → World → Prop,
 (∃ m, I m (0 : Int) w8) ∧
 (∀ m1 (x87 : Int) (w9 : World), I m1 x87 w9 → (IFB (decide (x87 < (x70N : Int)))
 (IDX x70 x70N x87 fun a89 =>
 RD PG (loadVar 148 (Addr.add a89 (Int.toNat x87 * 2))) w9 fun v5 =>
 ∃ x90 : Int, ∃ x90v1 : Int, v5 = (.agg #[(.int .u64 x90), (.int .u64 x90v1)]) ∧
 (RUNA PG (Instr.alloc 148 true (.tuple #[])) w9 fun a13 w10 =>
 RUNU PG (storeVar 148 a13 (.agg #[(.int .u64 x90), (.int .u64 x90v1)])) w10 fun w11 =>
 NILC x fun a92 =>
 RDP PG (loadVar 64 (Addr.add a92 0)) (w11.drew) fun x94 =>
 RDI PG (loadVar 42 (Addr.add a13 0)) .u64 (w11.drew) fun x96 =>
 NILC x fun a98 =>
 RDI PG (loadVar 42 (Addr.add a98 2)) .u64 (w11.drew) fun x100 =>
 RDI PG (loadVar 42 (Addr.add a13 0)) .u64 (w11.drew) fun x105 =>
 RDI PG (loadVar 42 (Addr.add a13 1)) .u64 (w11.drew) fun x109 =>
 NEED (0 ≤ (IntKind.u64.wrap (x105 - fromv2)) ∧ (IntKind.u64.wrap (x105 - fromv2)) ≤ (IntKind.u64.wrap (x109 - fromv2)) ∧ (IntKind.u64.wrap (x109 - fromv2)) ≤ ((bC1 : Nat) : Int))
 (CALL PG 85 [(.pointer x94), (.int .i64 (IntKind.i64.wrap (IntKind.u64.wrap (x96 - x100)))), (.slice (cutA b1 bC1 1 (IntKind.u64.wrap (x105 - fromv2))) (Int.toNat (IntKind.u64.wrap (x109 - fromv2)) - Int.toNat (IntKind.u64.wrap (x105 - fromv2))) (bC1 - Int.toNat (IntKind.u64.wrap (x105 - fromv2))))] (w11.drew) fun v6 w12 =>
 ∃ x113 : Bool, v6 = (.bool x113) ∧
 (∃ m2, m2 < m1 ∧ I m2 (IntKind.i64.wrap (x87 + (1 : Int))) w12))))
 (CALL PG 28 [(.pointer x)] w9 fun v7 w13 =>
 ∃ x117 : Int, v7 = (.int .u64 x117) ∧
 (IFB (fromv2 == x117)
 (NILC x fun a120 =>
 RDP PG (loadVar 64 (Addr.add a120 0)) w13 fun x122 =>
 CALL PG 86 [(.pointer x122), (.int .i64 (bN1 : Int))] w13 fun v8 w14 =>
 ∃ x125 : Bool, v8 = (.bool x125) ∧
 (∃ S : World → Prop, S (w14.drew) ∧
 (NILC x fun a127 =>
 RDSP PG (loadVar 64 (Addr.add a127 0)) S fun x129 =>
 NILC x fun a131 =>
 RDSP PG (loadVar 65 (Addr.add a131 1)) S fun x133 =>
 CALL PG 28 [(.pointer x)] (w14.drew) fun v9 w15 =>
 ∃ x135 : Int, v9 = (.int .u64 x135) ∧
 (∃ S1 : World → Prop, (∀ x, S1 x → S x) ∧ S1 w15 ∧
 (CALL PG 87 [(.pointer x133), (.int .u64 x135)] w15 fun v10 w16 =>
 ∃ x136 : Int, v10 = (.int .u64 x136) ∧
 (∃ S2 : World → Prop, (∀ x, S2 x → S1 x) ∧ S2 w16 ∧
 (CALL PG 28 [(.pointer x)] w16 fun v11 w17 =>
 ∃ x138 : Int, v11 = (.int .u64 x138) ∧
 (∃ S3 : World → Prop, (∀ x, S3 x → S2 x) ∧ S3 w17 ∧
 (CALL PG 86 [(.pointer x129), (.int .i64 (IntKind.i64.wrap (IntKind.u64.wrap (x136 - x138))))] w17 fun v12 w18 =>
 ∃ x141 : Bool, v12 = (.bool x141) ∧
 (∃ S4 : World → Prop, S4 (w18.drew) ∧
 (NILC x fun a143 =>
 RDSP PG (loadVar 65 (Addr.add a143 1)) S4 fun x145 =>
 CALL PG 28 [(.pointer x)] (w18.drew) fun v13 w19 =>
 ∃ x147 : Int, v13 = (.int .u64 x147) ∧
 (∃ S5 : World → Prop, (∀ x, S5 x → S4 x) ∧ S5 w19 ∧
 (CALL PG 88 [(.pointer x145), (.int .u64 x147)] w19 fun v14 w20 =>
 v14 = (.tuple #[]) ∧
 (LETB whole fun x6v1 =>
 Q (.bool x6v1) w20))))))))))))))
 (LETB whole fun x6v2 =>
 Q (.bool x6v2) w13)))))))))))))))
theorem eq26 : ∀ (x : Option Addr) (fromv : Int) (b : Option Addr) (bN bC : Nat) (w : World) (Q : Value → World → Prop), vcF PG TB Try.f26 (.s .nil (.s .nil (.s .nil (.s .nil (.cut [(7, 42), (8, 4)] .nil (.s .nil (.cut [(1, 42), (2, 58)] .nil (.s .nil (.s .nil (.s .nil (.cut [] .nil (.s (.s .nil (.u (.loop [(87, 3)] .nil))) .nil)))))))))))) [(.pointer x), (.int .u64 fromv), (.slice b bN bC)] w Q = N26 x fromv b bN bC w Q := by intros; kernel_rfl
theorem call26 {x : Option Addr} {fromv : Int} {b : Option Addr} {bN bC : Nat} {w : World} {Q : Value → World → Prop} (hN : N26 x fromv b bN bC w Q) : CALL PG 26 [(.pointer x), (.int .u64 fromv), (.slice b bN bC)] w Q := calls_vc tabOk Try.func26 (by rw [eq26]; exact hN)

end Go.Br
