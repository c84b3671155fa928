/- What the code of some functions says, as the core reads it; each reading is checked by the kernel. -/
import Derived.Test.YtegocoicdcpgaaaBrSeat
set_option linter.unusedVariables false
set_option maxRecDepth 100000
namespace Go.Br
open Go Go.Proofs

/-- brougham/broughamref16.Acked -/
def N112 (l : Option Addr) (lN lC : Nat) (tov : Int) (w : World) (Q : Value → World → Prop) : Prop :=
 ∃ I : Nat → Option Addr → Nat → Nat → Option Addr → Nat → Nat → Int → World → Prop,
 (∃ m, I m none 0 0 none 0 0 (0 : Int) w) ∧
 (∀ m1 (left : Option Addr) (leftN leftC : Nat) (gone : Option Addr) (goneN goneC : Nat) (i : Int) (w1 : World), I m1 left leftN leftC gone goneN goneC i w1 → (IFB (decide (i < (lN : Int)))
 (IDX l lN i fun a17 =>
 RD PG (loadVar 130 (Addr.add a17 (Int.toNat i * 9))) w1 fun v =>
 ∃ x18 : Int, ∃ x18v1 : Int, ∃ x18v2 : Bool, ∃ x18v3 : Int, ∃ x18v4 : Int, ∃ x18v5 : Int, ∃ x18v6 : Int, ∃ x18v7 : Bool, ∃ x18v8 : Bool, v = (.agg #[(.int .u64 x18), (.int .i64 x18v1), (.bool x18v2), (.int .i64 x18v3), (.int .u32 x18v4), (.int .i64 x18v5), (.int .i64 x18v6), (.bool x18v7), (.bool x18v8)]) ∧
 (CALL PG 84 [(.agg #[(.int .u64 x18), (.int .i64 x18v1), (.bool x18v2), (.int .i64 x18v3), (.int .u32 x18v4), (.int .i64 x18v5), (.int .i64 x18v6), (.bool x18v7), (.bool x18v8)])] w1 fun v1 w2 =>
 ∃ x19 : Int, v1 = (.int .u64 x19) ∧
 (IFB (decide (x19 > tov))
 (IDX l lN i fun a25 =>
 RD PG (loadVar 130 (Addr.add a25 (Int.toNat i * 9))) w2 fun v2 =>
 ∃ x26 : Int, ∃ x26v1 : Int, ∃ x26v2 : Bool, ∃ x26v3 : Int, ∃ x26v4 : Int, ∃ x26v5 : Int, ∃ x26v6 : Int, ∃ x26v7 : Bool, ∃ x26v8 : Bool, v2 = (.agg #[(.int .u64 x26), (.int .i64 x26v1), (.bool x26v2), (.int .i64 x26v3), (.int .u32 x26v4), (.int .i64 x26v5), (.int .i64 x26v6), (.bool x26v7), (.bool x26v8)]) ∧
 (RUNL PG (Instr.buildSlice 122 1 #[(0, (.agg #[(.int .u64 x26), (.int .i64 x26v1), (.bool x26v2), (.int .i64 x26v3), (.int .u32 x26v4), (.int .i64 x26v5), (.int .i64 x26v6), (.bool x26v7), (.bool x26v8)]))]) w2 fun x27 x27N x27C w3 =>
 RUNL PG (Builtin.append_ #[122, 122] 122 #[(.slice left leftN leftC), (.slice x27 x27N x27C)]) w3 fun x28 x28N x28C w4 =>
 LETI (IntKind.i64.wrap (i + (1 : Int))) fun i1 =>
 ∃ m2, m2 < m1 ∧ I m2 x28 x28N x28C gone goneN goneC i1 w4))
 (IDX l lN i fun a32 =>
 RD PG (loadVar 130 (Addr.add a32 (Int.toNat i * 9))) w2 fun v3 =>
 ∃ x33 : Int, ∃ x33v1 : Int, ∃ x33v2 : Bool, ∃ x33v3 : Int, ∃ x33v4 : Int, ∃ x33v5 : Int, ∃ x33v6 : Int, ∃ x33v7 : Bool, ∃ x33v8 : Bool, v3 = (.agg #[(.int .u64 x33), (.int .i64 x33v1), (.bool x33v2), (.int .i64 x33v3), (.int .u32 x33v4), (.int .i64 x33v5), (.int .i64 x33v6), (.bool x33v7), (.bool x33v8)]) ∧
 (RUNL PG (Instr.buildSlice 122 1 #[(0, (.agg #[(.int .u64 x33), (.int .i64 x33v1), (.bool x33v2), (.int .i64 x33v3), (.int .u32 x33v4), (.int .i64 x33v5), (.int .i64 x33v6), (.bool x33v7), (.bool x33v8)]))]) w2 fun x34 x34N x34C w5 =>
 RUNL PG (Builtin.append_ #[122, 122] 122 #[(.slice gone goneN goneC), (.slice x34 x34N x34C)]) w5 fun x35 x35N x35C w6 =>
 LETI (IntKind.i64.wrap (i + (1 : Int))) fun i2 =>
 ∃ m3, m3 < m1 ∧ I m3 left leftN leftC x35 x35N x35C i2 w6)))))
 (Q (.tuple #[(.slice left leftN leftC), (.slice gone goneN goneC)]) w1)))
theorem eq112 : ∀ (l : Option Addr) (lN lC : Nat) (tov : Int) (w : World) (Q : Value → World → Prop), vcF PG TB Try.f112 (.s .nil (.s .nil (.s (.s .nil (.u (.loop [(6, 122), (7, 122), (8, 3)] .nil))) .nil))) [(.slice l lN lC), (.int .u64 tov)] w Q = N112 l lN lC tov w Q := by intros; kernel_rfl
theorem call112 {l : Option Addr} {lN lC : Nat} {tov : Int} {w : World} {Q : Value → World → Prop} (hN : N112 l lN lC tov w Q) : CALL PG 112 [(.slice l lN lC), (.int .u64 tov)] w Q := calls_vc tabOk Try.func112 (by rw [eq112]; exact hN)

/-- brougham/broughamref16.Mark -/
def N113 (l : Option Addr) (lN lC : Nat) (kind : Int) (flow : Int) (ack : Int) (now : Int) (wait : Int) (w : World) (Q : Value → World → Prop) : Prop :=
 ∃ I : Nat → Option Addr → Nat → Nat → Option Addr → Nat → Nat → Int → World → Prop,
 (∃ m, I m none 0 0 none 0 0 (0 : Int) w) ∧
 (∀ m1 (all : Option Addr) (allN allC : Nat) (out : Option Addr) (outN outC : Nat) (i : Int) (w1 : World), I m1 all allN allC out outN outC i w1 → (IFB (decide (i < (lN : Int)))
 (IDX l lN i fun a28 =>
 RD PG (loadVar 130 (Addr.add a28 (Int.toNat i * 9))) w1 fun v =>
 ∃ x29 : Int, ∃ x29v1 : Int, ∃ x29v2 : Bool, ∃ x29v3 : Int, ∃ x29v4 : Int, ∃ x29v5 : Int, ∃ x29v6 : Int, ∃ x29v7 : Bool, ∃ x29v8 : Bool, v = (.agg #[(.int .u64 x29), (.int .i64 x29v1), (.bool x29v2), (.int .i64 x29v3), (.int .u32 x29v4), (.int .i64 x29v5), (.int .i64 x29v6), (.bool x29v7), (.bool x29v8)]) ∧
 (RUNA PG (Instr.alloc 130 true (.tuple #[])) w1 fun a17 w2 =>
 RUNU PG (storeVar 130 a17 (.agg #[(.int .u64 x29), (.int .i64 x29v1), (.bool x29v2), (.int .i64 x29v3), (.int .u32 x29v4), (.int .i64 x29v5), (.int .i64 x29v6), (.bool x29v7), (.bool x29v8)])) w2 fun w3 =>
 ∃ R : Bool → World → Prop,
 (IFB (kind == (1 : Int))
 (RDI PG (loadVar 3 (Addr.add a17 1)) .i64 w3 fun x34 =>
 IFB (decide (x34 > (0 : Int)))
 (RDB PG (loadVar 4 (Addr.add a17 7)) w3 fun x39 =>
 IFB (!x39)
 (RDI PG (loadVar 44 (Addr.add a17 4)) .u32 w3 fun x45 =>
 CALL PG 123 [(.int .u32 ack), (.int .u32 x45)] w3 fun v1 w4 =>
 ∃ x46 : Int, v1 = (.int .i64 x46) ∧
 (LETB (decide (x46 ≥ (0 : Int))) fun word =>
 R word w4))
 (LETB false fun word1 =>
 R word1 w3))
 (LETB false fun word2 =>
 R word2 w3))
 (LETB false fun word3 =>
 R word3 w3)) ∧
 (∀ (word4 : Bool) (w5 : World), R word4 w5 → (∃ R1 : Bool → World → Prop,
 (IFB (kind == (2 : Int))
 (RDB PG (loadVar 4 (Addr.add a17 7)) w5 fun x53 =>
 IFB (!x53)
 (RDI PG (loadVar 3 (Addr.add a17 5)) .i64 w5 fun x59 =>
 IFB (decide ((IntKind.i64.wrap (now - x59)) ≥ wait))
 (LETB true fun lost =>
 R1 lost w5)
 (LETB (kind == (3 : Int)) fun lost1 =>
 R1 lost1 w5))
 (LETB (kind == (3 : Int)) fun lost2 =>
 R1 lost2 w5))
 (LETB (kind == (3 : Int)) fun lost3 =>
 R1 lost3 w5)) ∧
 (∀ (lost4 : Bool) (w6 : World), R1 lost4 w6 → (∃ R2 : Bool → World → Prop,
 (RDI PG (loadVar 3 (Addr.add a17 3)) .i64 w6 fun x69 =>
 IFB (x69 == flow)
 (RDB PG (loadVar 4 (Addr.add a17 8)) w6 fun x74 =>
 IFB (!x74)
 (IFB word4
 (R2 true w6)
 (R2 lost4 w6))
 (R2 false w6))
 (R2 false w6)) ∧
 (∀ (x82 : Bool) (w7 : World), R2 x82 w7 → (IFB x82
 (RDB PG (loadVar 4 (Addr.add a17 7)) w7 fun x84 =>
 IFB x84
 (RUNU PG (storeVar 4 (Addr.add a17 7) (.bool true)) w7 fun w8 =>
 RUNU PG (storeVar 4 (Addr.add a17 8) (.bool lost4)) w8 fun w9 =>
 RD PG (loadVar 130 a17) w9 fun v2 =>
 ∃ x92 : Int, ∃ x92v1 : Int, ∃ x92v2 : Bool, ∃ x92v3 : Int, ∃ x92v4 : Int, ∃ x92v5 : Int, ∃ x92v6 : Int, ∃ x92v7 : Bool, ∃ x92v8 : Bool, v2 = (.agg #[(.int .u64 x92), (.int .i64 x92v1), (.bool x92v2), (.int .i64 x92v3), (.int .u32 x92v4), (.int .i64 x92v5), (.int .i64 x92v6), (.bool x92v7), (.bool x92v8)]) ∧
 (RUNL PG (Instr.buildSlice 122 1 #[(0, (.agg #[(.int .u64 x92), (.int .i64 x92v1), (.bool x92v2), (.int .i64 x92v3), (.int .u32 x92v4), (.int .i64 x92v5), (.int .i64 x92v6), (.bool x92v7), (.bool x92v8)]))]) w9 fun x93 x93N x93C w10 =>
 RUNL PG (Builtin.append_ #[122, 122] 122 #[(.slice out outN outC), (.slice x93 x93N x93C)]) w10 fun x94 x94N x94C w11 =>
 RD PG (loadVar 130 a17) w11 fun v3 =>
 ∃ x96 : Int, ∃ x96v1 : Int, ∃ x96v2 : Bool, ∃ x96v3 : Int, ∃ x96v4 : Int, ∃ x96v5 : Int, ∃ x96v6 : Int, ∃ x96v7 : Bool, ∃ x96v8 : Bool, v3 = (.agg #[(.int .u64 x96), (.int .i64 x96v1), (.bool x96v2), (.int .i64 x96v3), (.int .u32 x96v4), (.int .i64 x96v5), (.int .i64 x96v6), (.bool x96v7), (.bool x96v8)]) ∧
 (RUNL PG (Instr.buildSlice 122 1 #[(0, (.agg #[(.int .u64 x96), (.int .i64 x96v1), (.bool x96v2), (.int .i64 x96v3), (.int .u32 x96v4), (.int .i64 x96v5), (.int .i64 x96v6), (.bool x96v7), (.bool x96v8)]))]) w11 fun x97 x97N x97C w12 =>
 RUNL PG (Builtin.append_ #[122, 122] 122 #[(.slice all allN allC), (.slice x97 x97N x97C)]) w12 fun x98 x98N x98C w13 =>
 LETI (IntKind.i64.wrap (i + (1 : Int))) fun i1 =>
 ∃ m2, m2 < m1 ∧ I m2 x98 x98N x98C x94 x94N x94C i1 w13)))
 (RUNU PG (storeVar 4 (Addr.add a17 7) (.bool word4)) w7 fun w14 =>
 RUNU PG (storeVar 4 (Addr.add a17 8) (.bool lost4)) w14 fun w15 =>
 RD PG (loadVar 130 a17) w15 fun v4 =>
 ∃ x92v9 : Int, ∃ x92v10 : Int, ∃ x92v11 : Bool, ∃ x92v12 : Int, ∃ x92v13 : Int, ∃ x92v14 : Int, ∃ x92v15 : Int, ∃ x92v16 : Bool, ∃ x92v17 : Bool, v4 = (.agg #[(.int .u64 x92v9), (.int .i64 x92v10), (.bool x92v11), (.int .i64 x92v12), (.int .u32 x92v13), (.int .i64 x92v14), (.int .i64 x92v15), (.bool x92v16), (.bool x92v17)]) ∧
 (RUNL PG (Instr.buildSlice 122 1 #[(0, (.agg #[(.int .u64 x92v9), (.int .i64 x92v10), (.bool x92v11), (.int .i64 x92v12), (.int .u32 x92v13), (.int .i64 x92v14), (.int .i64 x92v15), (.bool x92v16), (.bool x92v17)]))]) w15 fun x93v1 x93N1 x93C1 w16 =>
 RUNL PG (Builtin.append_ #[122, 122] 122 #[(.slice out outN outC), (.slice x93v1 x93N1 x93C1)]) w16 fun x94v1 x94N1 x94C1 w17 =>
 RD PG (loadVar 130 a17) w17 fun v5 =>
 ∃ x96v9 : Int, ∃ x96v10 : Int, ∃ x96v11 : Bool, ∃ x96v12 : Int, ∃ x96v13 : Int, ∃ x96v14 : Int, ∃ x96v15 : Int, ∃ x96v16 : Bool, ∃ x96v17 : Bool, v5 = (.agg #[(.int .u64 x96v9), (.int .i64 x96v10), (.bool x96v11), (.int .i64 x96v12), (.int .u32 x96v13), (.int .i64 x96v14), (.int .i64 x96v15), (.bool x96v16), (.bool x96v17)]) ∧
 (RUNL PG (Instr.buildSlice 122 1 #[(0, (.agg #[(.int .u64 x96v9), (.int .i64 x96v10), (.bool x96v11), (.int .i64 x96v12), (.int .u32 x96v13), (.int .i64 x96v14), (.int .i64 x96v15), (.bool x96v16), (.bool x96v17)]))]) w17 fun x97v1 x97N1 x97C1 w18 =>
 RUNL PG (Builtin.append_ #[122, 122] 122 #[(.slice all allN allC), (.slice x97v1 x97N1 x97C1)]) w18 fun x98v1 x98N1 x98C1 w19 =>
 LETI (IntKind.i64.wrap (i + (1 : Int))) fun i2 =>
 ∃ m3, m3 < m1 ∧ I m3 x98v1 x98N1 x98C1 x94v1 x94N1 x94C1 i2 w19))))
 (RD PG (loadVar 130 a17) w7 fun v6 =>
 ∃ x96v18 : Int, ∃ x96v19 : Int, ∃ x96v20 : Bool, ∃ x96v21 : Int, ∃ x96v22 : Int, ∃ x96v23 : Int, ∃ x96v24 : Int, ∃ x96v25 : Bool, ∃ x96v26 : Bool, v6 = (.agg #[(.int .u64 x96v18), (.int .i64 x96v19), (.bool x96v20), (.int .i64 x96v21), (.int .u32 x96v22), (.int .i64 x96v23), (.int .i64 x96v24), (.bool x96v25), (.bool x96v26)]) ∧
 (RUNL PG (Instr.buildSlice 122 1 #[(0, (.agg #[(.int .u64 x96v18), (.int .i64 x96v19), (.bool x96v20), (.int .i64 x96v21), (.int .u32 x96v22), (.int .i64 x96v23), (.int .i64 x96v24), (.bool x96v25), (.bool x96v26)]))]) w7 fun x97v2 x97N2 x97C2 w20 =>
 RUNL PG (Builtin.append_ #[122, 122] 122 #[(.slice all allN allC), (.slice x97v2 x97N2 x97C2)]) w20 fun x98v2 x98N2 x98C2 w21 =>
 LETI (IntKind.i64.wrap (i + (1 : Int))) fun i3 =>
 ∃ m4, m4 < m1 ∧ I m4 x98v2 x98N2 x98C2 out outN outC i3 w21))))))))))
 (Q (.tuple #[(.slice all allN allC), (.slice out outN outC)]) w1)))
theorem eq113 : ∀ (l : Option Addr) (lN lC : Nat) (kind : Int) (flow : Int) (ack : Int) (now : Int) (wait : Int) (w : World) (Q : Value → World → Prop), vcF PG TB Try.f113 (.s .nil (.s .nil (.s (.s .nil (.u (.loop [(14, 122), (15, 122), (16, 3)] (.s .nil (.s (.u (.s .nil (.cut [(18, 4)] .nil (.cut [(19, 4)] .nil (.s (.cut [(82, 4)] .nil .nil) .nil))))) .nil))))) .nil))) [(.slice l lN lC), (.int .i64 kind), (.int .i64 flow), (.int .u32 ack), (.int .i64 now), (.int .i64 wait)] w Q = N113 l lN lC kind flow ack now wait w Q := by intros; kernel_rfl
theorem call113 {l : Option Addr} {lN lC : Nat} {kind : Int} {flow : Int} {ack : Int} {now : Int} {wait : Int} {w : World} {Q : Value → World → Prop} (hN : N113 l lN lC kind flow ack now wait w Q) : CALL PG 113 [(.slice l lN lC), (.int .i64 kind), (.int .i64 flow), (.int .u32 ack), (.int .i64 now), (.int .i64 wait)] w Q := calls_vc tabOk Try.func113 (by rw [eq113]; exact hN)

/-- brougham/broughamref04.Diff -/
def N123 (a : Int) (b : Int) (w : World) (Q : Value → World → Prop) : Prop :=
 LETI (IntKind.i64.wrap ((IntKind.i64.wrap a) - (IntKind.i64.wrap b))) fun d =>
 IFB (decide (d < (-2147483648 : Int)))
 (LETI (IntKind.i64.wrap (d + (4294967296 : Int))) fun d1 =>
 IFB (decide (d1 ≥ (2147483648 : Int)))
 (LETI (IntKind.i64.wrap (d1 - (4294967296 : Int))) fun d2 =>
 LETI d2 fun x4 =>
 Q (.int .i64 x4) w)
 (LETI d1 fun x4v1 =>
 Q (.int .i64 x4v1) w))
 (IFB (decide (d ≥ (2147483648 : Int)))
 (LETI (IntKind.i64.wrap (d - (4294967296 : Int))) fun d3 =>
 LETI d3 fun x4v2 =>
 Q (.int .i64 x4v2) w)
 (LETI d fun x4v3 =>
 Q (.int .i64 x4v3) w))
theorem eq123 : ∀ (a : Int) (b : Int) (w : World) (Q : Value → World → Prop), vcF PG TB Try.f123 .nil [(.int .u32 a), (.int .u32 b)] w Q = N123 a b w Q := by intros; kernel_rfl
theorem call123 {a : Int} {b : Int} {w : World} {Q : Value → World → Prop} (hN : N123 a b w Q) : CALL PG 123 [(.int .u32 a), (.int .u32 b)] w Q := calls_vc tabOk Try.func123 (by rw [eq123]; exact hN)

end Go.Br
