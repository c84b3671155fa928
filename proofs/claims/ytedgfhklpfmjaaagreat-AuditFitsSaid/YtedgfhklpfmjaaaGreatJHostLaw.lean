/- HostNew, HostLaw -/
import Derived.Test.YtedgfhklpfmjaaaGreatBrSeat
import Derived.Test.YtedgfhklpfmjaaaGreatBrMap
/- What the code of some functions says, as the core reads it; each reading is checked by the kernel. -/
set_option linter.unusedVariables false
set_option maxRecDepth 100000
namespace Go.Br
open Go Go.Proofs

/-- brougham/host.New -/
def N11 (c : Int) (c1 : Int) (c2 : Int) (c3 : Int) (c4 : Int) (c5 : Int) (c6 : Int) (c7 : Int) (c8 : Int) (c9 : Int) (c10 : Int) (c11 : Int) (c12 : Int) (c13 : Int) (c14 : Int) (seed : Int) (seed1 : Int) (w : World) (Q : Value → World → Prop) : Prop :=
 RUNA PG (Instr.box 53 (.agg #[(.int .i64 c), (.int .i64 c1), (.int .i64 c2), (.int .i64 c3), (.int .i64 c4), (.int .i64 c5), (.int .i64 c6), (.int .i64 c7), (.int .i64 c8), (.int .i64 c9), (.int .i64 c10), (.int .i64 c11), (.int .i64 c12), (.int .i64 c13), (.int .i64 c14)])) w fun a2 w1 =>
 RUNA PG (Instr.box 27 (.agg #[(.int .u64 seed), (.int .u64 seed1)])) w1 fun a3 w2 =>
 RD PG (loadVar 53 a2) w2 fun v =>
 ∃ x7 : Int, ∃ x7v1 : Int, ∃ x7v2 : Int, ∃ x7v3 : Int, ∃ x7v4 : Int, ∃ x7v5 : Int, ∃ x7v6 : Int, ∃ x7v7 : Int, ∃ x7v8 : Int, ∃ x7v9 : Int, ∃ x7v10 : Int, ∃ x7v11 : Int, ∃ x7v12 : Int, ∃ x7v13 : Int, ∃ x7v14 : Int, v = (.agg #[(.int .i64 x7), (.int .i64 x7v1), (.int .i64 x7v2), (.int .i64 x7v3), (.int .i64 x7v4), (.int .i64 x7v5), (.int .i64 x7v6), (.int .i64 x7v7), (.int .i64 x7v8), (.int .i64 x7v9), (.int .i64 x7v10), (.int .i64 x7v11), (.int .i64 x7v12), (.int .i64 x7v13), (.int .i64 x7v14)]) ∧
 (CALL PG 17 [(.agg #[(.int .i64 x7), (.int .i64 x7v1), (.int .i64 x7v2), (.int .i64 x7v3), (.int .i64 x7v4), (.int .i64 x7v5), (.int .i64 x7v6), (.int .i64 x7v7), (.int .i64 x7v8), (.int .i64 x7v9), (.int .i64 x7v10), (.int .i64 x7v11), (.int .i64 x7v12), (.int .i64 x7v13), (.int .i64 x7v14)])] w2 fun v1 w3 =>
 ∃ x8 : Int, v1 = (.int .i64 x8) ∧
 (LETI x8 fun e =>
 IFB (e != (0 : Int))
 (LETI e fun x5 =>
 Q (.tuple #[(.pointer none), (.int .i64 x5)]) w3)
 (RD PG (loadVar 53 a2) w3 fun v2 =>
 ∃ x12 : Int, ∃ x12v1 : Int, ∃ x12v2 : Int, ∃ x12v3 : Int, ∃ x12v4 : Int, ∃ x12v5 : Int, ∃ x12v6 : Int, ∃ x12v7 : Int, ∃ x12v8 : Int, ∃ x12v9 : Int, ∃ x12v10 : Int, ∃ x12v11 : Int, ∃ x12v12 : Int, ∃ x12v13 : Int, ∃ x12v14 : Int, v2 = (.agg #[(.int .i64 x12), (.int .i64 x12v1), (.int .i64 x12v2), (.int .i64 x12v3), (.int .i64 x12v4), (.int .i64 x12v5), (.int .i64 x12v6), (.int .i64 x12v7), (.int .i64 x12v8), (.int .i64 x12v9), (.int .i64 x12v10), (.int .i64 x12v11), (.int .i64 x12v12), (.int .i64 x12v13), (.int .i64 x12v14)]) ∧
 (RD PG (loadVar 27 a3) w3 fun v3 =>
 ∃ x13 : Int, ∃ x13v1 : Int, v3 = (.agg #[(.int .u64 x13), (.int .u64 x13v1)]) ∧
 (RD PG (Instr.build 61 #[(0, (.agg #[(.int .u64 x13), (.int .u64 x13v1)]))]) w3 fun v4 =>
 ∃ x14 : Int, ∃ x14v1 : Int, ∃ x14v2 : Int, v4 = (.agg #[(.int .u64 x14), (.int .u64 x14v1), (.int .u64 x14v2)]) ∧
 (RUN PG (Instr.makeMap 62 none) w3 fun v5 w4 =>
 ∃ x15 : Value, v5 = x15 ∧
 (RD PG (Instr.build 68 #[(1, (.agg #[(.int .i64 x12), (.int .i64 x12v1), (.int .i64 x12v2), (.int .i64 x12v3), (.int .i64 x12v4), (.int .i64 x12v5), (.int .i64 x12v6), (.int .i64 x12v7), (.int .i64 x12v8), (.int .i64 x12v9), (.int .i64 x12v10), (.int .i64 x12v11), (.int .i64 x12v12), (.int .i64 x12v13), (.int .i64 x12v14)])), (2, (.agg #[(.int .u64 x14), (.int .u64 x14v1), (.int .u64 x14v2)])), (4, x15), (5, (.int .i64 (1 : Int)))]) w4 fun v6 =>
 ∃ x16 : Value, v6 = x16 ∧
 (RUNA PG (Instr.box 68 x16) w4 fun a17 w5 =>
 Q (.tuple #[(.pointer (some a17)), (.int .i64 (0 : Int))]) w5))))))))
theorem eq11 : ∀ (c : Int) (c1 : Int) (c2 : Int) (c3 : Int) (c4 : Int) (c5 : Int) (c6 : Int) (c7 : Int) (c8 : Int) (c9 : Int) (c10 : Int) (c11 : Int) (c12 : Int) (c13 : Int) (c14 : Int) (seed : Int) (seed1 : Int) (w : World) (Q : Value → World → Prop), vcF PG TB Tryz.f11 .nil [(.agg #[(.int .i64 c), (.int .i64 c1), (.int .i64 c2), (.int .i64 c3), (.int .i64 c4), (.int .i64 c5), (.int .i64 c6), (.int .i64 c7), (.int .i64 c8), (.int .i64 c9), (.int .i64 c10), (.int .i64 c11), (.int .i64 c12), (.int .i64 c13), (.int .i64 c14)]), (.agg #[(.int .u64 seed), (.int .u64 seed1)])] w Q = N11 c c1 c2 c3 c4 c5 c6 c7 c8 c9 c10 c11 c12 c13 c14 seed seed1 w Q := by intros; kernel_rfl
theorem call11 {c : Int} {c1 : Int} {c2 : Int} {c3 : Int} {c4 : Int} {c5 : Int} {c6 : Int} {c7 : Int} {c8 : Int} {c9 : Int} {c10 : Int} {c11 : Int} {c12 : Int} {c13 : Int} {c14 : Int} {seed : Int} {seed1 : Int} {w : World} {Q : Value → World → Prop} (hN : N11 c c1 c2 c3 c4 c5 c6 c7 c8 c9 c10 c11 c12 c13 c14 seed seed1 w Q) : CALL PG 11 [(.agg #[(.int .i64 c), (.int .i64 c1), (.int .i64 c2), (.int .i64 c3), (.int .i64 c4), (.int .i64 c5), (.int .i64 c6), (.int .i64 c7), (.int .i64 c8), (.int .i64 c9), (.int .i64 c10), (.int .i64 c11), (.int .i64 c12), (.int .i64 c13), (.int .i64 c14)]), (.agg #[(.int .u64 seed), (.int .u64 seed1)])] w Q := calls_vc tabOk Tryz.func11 (by rw [eq11]; exact hN)

/-- brougham/host.Right -/
def N17 (c : Int) (c1 : Int) (c2 : Int) (c3 : Int) (c4 : Int) (c5 : Int) (c6 : Int) (c7 : Int) (c8 : Int) (c9 : Int) (c10 : Int) (c11 : Int) (c12 : Int) (c13 : Int) (c14 : Int) (w : World) (Q : Value → World → Prop) : Prop :=
 RUNA PG (Instr.box 53 (.agg #[(.int .i64 c), (.int .i64 c1), (.int .i64 c2), (.int .i64 c3), (.int .i64 c4), (.int .i64 c5), (.int .i64 c6), (.int .i64 c7), (.int .i64 c8), (.int .i64 c9), (.int .i64 c10), (.int .i64 c11), (.int .i64 c12), (.int .i64 c13), (.int .i64 c14)])) w fun a1 w1 =>
 ∃ R : Bool → World → Prop,
 (RDI PG (loadVar 3 (Addr.add a1 0)) .i64 w1 fun x10 =>
 CALLV PG (.func (.func 31) #[] #[]) [(.int .i64 x10), (.int .i64 (0 : Int)), (.int .i64 (8 : Int))] w1 fun v w2 =>
 ∃ x11 : Bool, v = (.bool x11) ∧
 (IFB x11
 (RDI PG (loadVar 3 (Addr.add a1 1)) .i64 w2 fun x15 =>
 CALLV PG (.func (.func 31) #[] #[]) [(.int .i64 x15), (.int .i64 (0 : Int)), (.int .i64 (8 : Int))] w2 fun v1 w3 =>
 ∃ x16 : Bool, v1 = (.bool x16) ∧
 (IFB x16
 (RDI PG (loadVar 3 (Addr.add a1 2)) .i64 w3 fun x21 =>
 CALLV PG (.func (.func 31) #[] #[]) [(.int .i64 x21), (.int .i64 (0 : Int)), (.int .i64 (8 : Int))] w3 fun v2 w4 =>
 ∃ x22 : Bool, v2 = (.bool x22) ∧
 (IFB x22
 (RDI PG (loadVar 3 (Addr.add a1 3)) .i64 w4 fun x27 =>
 CALLV PG (.func (.func 31) #[] #[]) [(.int .i64 x27), (.int .i64 (1 : Int)), (.int .i64 (4 : Int))] w4 fun v3 w5 =>
 ∃ x28 : Bool, v3 = (.bool x28) ∧
 (LETB x28 fun many =>
 R many w5))
 (LETB false fun many1 =>
 R many1 w4)))
 (LETB false fun many2 =>
 R many2 w3)))
 (LETB false fun many3 =>
 R many3 w2))) ∧
 (∀ (many4 : Bool) (w6 : World), R many4 w6 → (∃ R1 : Bool → World → Prop,
 (RDI PG (loadVar 3 (Addr.add a1 4)) .i64 w6 fun x32 =>
 CALLV PG (.func (.func 31) #[] #[]) [(.int .i64 x32), (.int .i64 (1 : Int)), (.int .i64 (4096 : Int))] w6 fun v4 w7 =>
 ∃ x33 : Bool, v4 = (.bool x33) ∧
 (IFB x33
 (RDI PG (loadVar 3 (Addr.add a1 5)) .i64 w7 fun x37 =>
 CALLV PG (.func (.func 31) #[] #[]) [(.int .i64 x37), (.int .i64 (1 : Int)), (.int .i64 (64 : Int))] w7 fun v5 w8 =>
 ∃ x38 : Bool, v5 = (.bool x38) ∧
 (IFB x38
 (RDI PG (loadVar 3 (Addr.add a1 6)) .i64 w8 fun x43 =>
 CALLV PG (.func (.func 31) #[] #[]) [(.int .i64 x43), (.int .i64 (0 : Int)), (.int .i64 (8 : Int))] w8 fun v6 w9 =>
 ∃ x44 : Bool, v6 = (.bool x44) ∧
 (IFB x44
 (RDI PG (loadVar 3 (Addr.add a1 7)) .i64 w9 fun x49 =>
 CALLV PG (.func (.func 31) #[] #[]) [(.int .i64 x49), (.int .i64 (1 : Int)), (.int .i64 (4 : Int))] w9 fun v7 w10 =>
 ∃ x50 : Bool, v7 = (.bool x50) ∧
 (IFB x50
 (RDI PG (loadVar 3 (Addr.add a1 8)) .i64 w10 fun x55 =>
 CALLV PG (.func (.func 31) #[] #[]) [(.int .i64 x55), (.int .i64 (1 : Int)), (.int .i64 (1024 : Int))] w10 fun v8 w11 =>
 ∃ x56 : Bool, v8 = (.bool x56) ∧
 (LETB x56 fun sizev =>
 R1 sizev w11))
 (LETB false fun sizev1 =>
 R1 sizev1 w10)))
 (LETB false fun sizev2 =>
 R1 sizev2 w9)))
 (LETB false fun sizev3 =>
 R1 sizev3 w8)))
 (LETB false fun sizev4 =>
 R1 sizev4 w7))) ∧
 (∀ (sizev5 : Bool) (w12 : World), R1 sizev5 w12 → (∃ R2 : Bool → World → Prop,
 (RDI PG (loadVar 3 (Addr.add a1 10)) .i64 w12 fun x60 =>
 CALLV PG (.func (.func 31) #[] #[]) [(.int .i64 x60), (.int .i64 (1 : Int)), (.int .i64 (4096 : Int))] w12 fun v9 w13 =>
 ∃ x61 : Bool, v9 = (.bool x61) ∧
 (IFB x61
 (RDI PG (loadVar 3 (Addr.add a1 9)) .i64 w13 fun x65 =>
 CALLV PG (.func (.func 31) #[] #[]) [(.int .i64 x65), (.int .i64 (2 : Int)), (.int .i64 (4096 : Int))] w13 fun v10 w14 =>
 ∃ x66 : Bool, v10 = (.bool x66) ∧
 (IFB x66
 (RDI PG (loadVar 3 (Addr.add a1 10)) .i64 w14 fun x70 =>
 RDI PG (loadVar 3 (Addr.add a1 9)) .i64 w14 fun x72 =>
 LETB (decide (x70 < x72)) fun time =>
 R2 time w14)
 (LETB false fun time1 =>
 R2 time1 w14)))
 (LETB false fun time2 =>
 R2 time2 w13))) ∧
 (∀ (time3 : Bool) (w15 : World), R2 time3 w15 → (RDI PG (loadVar 3 (Addr.add a1 11)) .i64 w15 fun x77 =>
 CALLV PG (.func (.func 31) #[] #[]) [(.int .i64 x77), (.int .i64 (0 : Int)), (.int .i64 (4096 : Int))] w15 fun v11 w16 =>
 ∃ x78 : Bool, v11 = (.bool x78) ∧
 (IFB x78
 (RDI PG (loadVar 3 (Addr.add a1 12)) .i64 w16 fun x82 =>
 CALLV PG (.func (.func 31) #[] #[]) [(.int .i64 x82), (.int .i64 (0 : Int)), (.int .i64 (4096 : Int))] w16 fun v12 w17 =>
 ∃ x83 : Bool, v12 = (.bool x83) ∧
 (IFB x83
 (RDI PG (loadVar 3 (Addr.add a1 13)) .i64 w17 fun x88 =>
 CALLV PG (.func (.func 31) #[] #[]) [(.int .i64 x88), (.int .i64 (1 : Int)), (.int .i64 (4096 : Int))] w17 fun v13 w18 =>
 ∃ x89 : Bool, v13 = (.bool x89) ∧
 (IFB x89
 (RDI PG (loadVar 51 (Addr.add a1 14)) .i64 w18 fun x93 =>
 IFB (decide (x93 ≥ (1 : Int)))
 (RDI PG (loadVar 51 (Addr.add a1 14)) .i64 w18 fun x98 =>
 LETB (decide (x98 ≤ (3 : Int))) fun rest =>
 IFB many4
 (IFB sizev5
 (IFB time3
 (IFB rest
 (Q (.int .i64 (0 : Int)) w18)
 (Q (.int .i64 (200 : Int)) w18))
 (Q (.int .i64 (200 : Int)) w18))
 (Q (.int .i64 (200 : Int)) w18))
 (Q (.int .i64 (200 : Int)) w18))
 (LETB false fun rest1 =>
 IFB many4
 (IFB sizev5
 (IFB time3
 (IFB rest1
 (Q (.int .i64 (0 : Int)) w18)
 (Q (.int .i64 (200 : Int)) w18))
 (Q (.int .i64 (200 : Int)) w18))
 (Q (.int .i64 (200 : Int)) w18))
 (Q (.int .i64 (200 : Int)) w18)))
 (LETB false fun rest2 =>
 IFB many4
 (IFB sizev5
 (IFB time3
 (IFB rest2
 (Q (.int .i64 (0 : Int)) w18)
 (Q (.int .i64 (200 : Int)) w18))
 (Q (.int .i64 (200 : Int)) w18))
 (Q (.int .i64 (200 : Int)) w18))
 (Q (.int .i64 (200 : Int)) w18))))
 (LETB false fun rest3 =>
 IFB many4
 (IFB sizev5
 (IFB time3
 (IFB rest3
 (Q (.int .i64 (0 : Int)) w17)
 (Q (.int .i64 (200 : Int)) w17))
 (Q (.int .i64 (200 : Int)) w17))
 (Q (.int .i64 (200 : Int)) w17))
 (Q (.int .i64 (200 : Int)) w17))))
 (LETB false fun rest4 =>
 IFB many4
 (IFB sizev5
 (IFB time3
 (IFB rest4
 (Q (.int .i64 (0 : Int)) w16)
 (Q (.int .i64 (200 : Int)) w16))
 (Q (.int .i64 (200 : Int)) w16))
 (Q (.int .i64 (200 : Int)) w16))
 (Q (.int .i64 (200 : Int)) w16)))))))))
theorem eq17 : ∀ (c : Int) (c1 : Int) (c2 : Int) (c3 : Int) (c4 : Int) (c5 : Int) (c6 : Int) (c7 : Int) (c8 : Int) (c9 : Int) (c10 : Int) (c11 : Int) (c12 : Int) (c13 : Int) (c14 : Int) (w : World) (Q : Value → World → Prop), vcF PG TB Tryz.f17 (.s .nil (.s .nil (.cut [(4, 4)] .nil (.cut [(5, 4)] .nil (.cut [(6, 4)] .nil .nil))))) [(.agg #[(.int .i64 c), (.int .i64 c1), (.int .i64 c2), (.int .i64 c3), (.int .i64 c4), (.int .i64 c5), (.int .i64 c6), (.int .i64 c7), (.int .i64 c8), (.int .i64 c9), (.int .i64 c10), (.int .i64 c11), (.int .i64 c12), (.int .i64 c13), (.int .i64 c14)])] w Q = N17 c c1 c2 c3 c4 c5 c6 c7 c8 c9 c10 c11 c12 c13 c14 w Q := by intros; kernel_rfl
theorem call17 {c : Int} {c1 : Int} {c2 : Int} {c3 : Int} {c4 : Int} {c5 : Int} {c6 : Int} {c7 : Int} {c8 : Int} {c9 : Int} {c10 : Int} {c11 : Int} {c12 : Int} {c13 : Int} {c14 : Int} {w : World} {Q : Value → World → Prop} (hN : N17 c c1 c2 c3 c4 c5 c6 c7 c8 c9 c10 c11 c12 c13 c14 w Q) : CALL PG 17 [(.agg #[(.int .i64 c), (.int .i64 c1), (.int .i64 c2), (.int .i64 c3), (.int .i64 c4), (.int .i64 c5), (.int .i64 c6), (.int .i64 c7), (.int .i64 c8), (.int .i64 c9), (.int .i64 c10), (.int .i64 c11), (.int .i64 c12), (.int .i64 c13), (.int .i64 c14)])] w Q := calls_vc tabOk Tryz.func17 (by rw [eq17]; exact hN)

/-- brougham/host.Right$1 -/
def N31 (n : Int) (lo : Int) (hi : Int) (w : World) (Q : Value → World → Prop) : Prop :=
 IFB (decide (n ≥ lo))
 (LETB (decide (n ≤ hi)) fun x6 =>
 Q (.bool x6) w)
 (LETB false fun x6v1 =>
 Q (.bool x6v1) w)
theorem eq31 : ∀ (n : Int) (lo : Int) (hi : Int) (w : World) (Q : Value → World → Prop), vcF PG TB Tryz.f31 .nil [(.int .i64 n), (.int .i64 lo), (.int .i64 hi)] w Q = N31 n lo hi w Q := by intros; kernel_rfl
theorem call31 {n : Int} {lo : Int} {hi : Int} {w : World} {Q : Value → World → Prop} (hN : N31 n lo hi w Q) : CALL PG 31 [(.int .i64 n), (.int .i64 lo), (.int .i64 hi)] w Q := calls_vc tabOk Tryz.func31 (by rw [eq31]; exact hN)

end Go.Br

/- A host's configuration, and a host that is new. -/
set_option linter.unusedVariables false
set_option linter.unusedSimpArgs false
set_option linter.unnecessarySimpa false
namespace Go.Br
open Go
instance biHostNewa (x0 : Int) (x1 : Int) : Bld PG (Instr.build 61 #[(0, .agg #[.int .u64 x0, .int .u64 x1])]) (.agg #[.int .u64 x0, .int .u64 x1, .int .u64 0]) := ⟨fun w => by kernel_rfl⟩
attribute [local irreducible] Addr.add RD RDS RUN RUNU NILC LETB CALL CALLX CALLV

structure Cfg where
  ports : Int
  half : Int
  conns : Int
  flows : Int
  buffer : Int
  chunks : Int
  addrs : Int
  paths : Int
  mss : Int
  silence : Int
  keep : Int
  burst : Int
  rate : Int
  score : Int
  policy : Int
def cfg (x : Cfg) : List Value := [.int .i64 x.ports, .int .i64 x.half, .int .i64 x.conns, .int .i64 x.flows, .int .i64 x.buffer, .int .i64 x.chunks, .int .i64 x.addrs, .int .i64 x.paths, .int .i64 x.mss, .int .i64 x.silence, .int .i64 x.keep, .int .i64 x.burst, .int .i64 x.rate, .int .i64 x.score, .int .i64 x.policy]
abbrev cfgv (x : Cfg) : Value := .agg #[.int .i64 x.ports, .int .i64 x.half, .int .i64 x.conns, .int .i64 x.flows, .int .i64 x.buffer, .int .i64 x.chunks, .int .i64 x.addrs, .int .i64 x.paths, .int .i64 x.mss, .int .i64 x.silence, .int .i64 x.keep, .int .i64 x.burst, .int .i64 x.rate, .int .i64 x.score, .int .i64 x.policy]
theorem cfg_length (x : Cfg) : (cfg x).length = 15 := rfl
theorem cfg_flat1 (x : Cfg) : Flat (cfg x) := by intro v hv; simp [cfg] at hv; rcases hv with rfl | rfl | rfl | rfl | rfl | rfl | rfl | rfl | rfl | rfl | rfl | rfl | rfl | rfl | rfl <;> rfl
theorem cfg_flat (L : List Cfg) : Flat (L.flatMap cfg) := by
  intro v hv
  simp only [List.mem_flatMap] at hv
  obtain ⟨x, _, hx⟩ := hv
  exact cfg_flat1 x v hx
def CfgM (g : Cfg) : Prop := (0 ≤ g.ports ∧ g.ports ≤ 8) ∧ (0 ≤ g.half ∧ g.half ≤ 8) ∧ (0 ≤ g.conns ∧ g.conns ≤ 8) ∧ (1 ≤ g.flows ∧ g.flows ≤ 4)
def CfgS (g : Cfg) : Prop := (1 ≤ g.buffer ∧ g.buffer ≤ 4096) ∧ (1 ≤ g.chunks ∧ g.chunks ≤ 64) ∧ (0 ≤ g.addrs ∧ g.addrs ≤ 8) ∧ (1 ≤ g.paths ∧ g.paths ≤ 4) ∧ (1 ≤ g.mss ∧ g.mss ≤ 1024)
def CfgT (g : Cfg) : Prop := (1 ≤ g.keep ∧ g.keep ≤ 4096) ∧ (2 ≤ g.silence ∧ g.silence ≤ 4096) ∧ g.keep < g.silence
def CfgR (g : Cfg) : Prop := (0 ≤ g.burst ∧ g.burst ≤ 4096) ∧ (0 ≤ g.rate ∧ g.rate ≤ 4096) ∧ (1 ≤ g.score ∧ g.score ≤ 4096) ∧ (1 ≤ g.policy ∧ g.policy ≤ 3)
/-- A configuration may be. -/
def CfgOk (g : Cfg) : Prop := CfgM g ∧ CfgS g ∧ CfgT g ∧ CfgR g
instance (g : Cfg) : Decidable (CfgM g) := by unfold CfgM; infer_instance
instance (g : Cfg) : Decidable (CfgS g) := by unfold CfgS; infer_instance
instance (g : Cfg) : Decidable (CfgT g) := by unfold CfgT; infer_instance
instance (g : Cfg) : Decidable (CfgR g) := by unfold CfgR; infer_instance
instance (g : Cfg) : Decidable (CfgOk g) := by unfold CfgOk; infer_instance
section
variable {c : Ctx} {w : World} {L R : List SA}
theorem wi_ok {n lo hi : Int} {Q : Value → World → Prop} (hk : Q (.bool (decide (lo ≤ n ∧ n ≤ hi))) w) : CALL PG 31 [.int .i64 n, .int .i64 lo, .int .i64 hi] w Q := by
  refine call31 ?_
  unfold N31
  exact ifd (fun h => letb (decide_eq_decide.2 (by omega)) hk) fun h => letb (decide_eq_false (by omega)).symm hk
theorem right_ok (h : St c w L) (g : Cfg) {Q : Value → World → Prop} (hk : ∀ w', St c w' L → Q (.int .i64 (if CfgOk g then 0 else 200)) w') : CALL PG 17 [cfgv g] w Q := by
  have f0 : CfgOk g → ∀ {w' X}, St c w' (X :: L) → Q (.int .i64 0) w' := fun e w' X h => by have := hk w' h.drop; rwa [if_pos e] at this
  have f2 : ¬ CfgOk g → ∀ {w' X}, St c w' (X :: L) → Q (.int .i64 200) w' := fun e w' X h => by have := hk w' h.drop; rwa [if_neg e] at this
  refine call17 ?_
  unfold N17
  refine h.box (vs := cfg g) fun q w' h => ?_
  refine ⟨fun b w' => b = decide (CfgM g) ∧ St c w' (blk q 53 (cfg g) :: L), ?_, ?_⟩
  · refine h.rdI 0 ?_
    refine callvT tabOk (by kernel_rfl) (wi_ok ?_)
    (repeat (first | apply Exists.intro (α := Int) | apply Exists.intro (α := Bool) | apply Exists.intro (α := ByteArray) | (apply Exists.intro (α := Option Addr); apply Exists.intro (α := Nat); apply Exists.intro (α := Nat)) | apply Exists.intro (α := Option Addr) | apply Exists.intro (α := Value)))
    refine ⟨rfl, ?_⟩
    refine ifd (fun h0 => ?_) fun h0 => letb rfl ⟨(decide_eq_false (by unfold CfgM; omega)).symm, h⟩
    refine h.rdI 1 ?_
    refine callvT tabOk (by kernel_rfl) (wi_ok ?_)
    (repeat (first | apply Exists.intro (α := Int) | apply Exists.intro (α := Bool) | apply Exists.intro (α := ByteArray) | (apply Exists.intro (α := Option Addr); apply Exists.intro (α := Nat); apply Exists.intro (α := Nat)) | apply Exists.intro (α := Option Addr) | apply Exists.intro (α := Value)))
    refine ⟨rfl, ?_⟩
    refine ifd (fun h1 => ?_) fun h1 => letb rfl ⟨(decide_eq_false (by unfold CfgM; omega)).symm, h⟩
    refine h.rdI 2 ?_
    refine callvT tabOk (by kernel_rfl) (wi_ok ?_)
    (repeat (first | apply Exists.intro (α := Int) | apply Exists.intro (α := Bool) | apply Exists.intro (α := ByteArray) | (apply Exists.intro (α := Option Addr); apply Exists.intro (α := Nat); apply Exists.intro (α := Nat)) | apply Exists.intro (α := Option Addr) | apply Exists.intro (α := Value)))
    refine ⟨rfl, ?_⟩
    refine ifd (fun h2 => ?_) fun h2 => letb rfl ⟨(decide_eq_false (by unfold CfgM; omega)).symm, h⟩
    refine h.rdI 3 ?_
    refine callvT tabOk (by kernel_rfl) (wi_ok ?_)
    (repeat (first | apply Exists.intro (α := Int) | apply Exists.intro (α := Bool) | apply Exists.intro (α := ByteArray) | (apply Exists.intro (α := Option Addr); apply Exists.intro (α := Nat); apply Exists.intro (α := Nat)) | apply Exists.intro (α := Option Addr) | apply Exists.intro (α := Value)))
    refine ⟨rfl, ?_⟩
    exact letb rfl ⟨decide_eq_decide.2 (by unfold CfgM; omega), h⟩
  clear h
  rintro _ w' ⟨rfl, h⟩
  refine ⟨fun b w' => b = decide (CfgS g) ∧ St c w' (blk q 53 (cfg g) :: L), ?_, ?_⟩
  · refine h.rdI 4 ?_
    refine callvT tabOk (by kernel_rfl) (wi_ok ?_)
    (repeat (first | apply Exists.intro (α := Int) | apply Exists.intro (α := Bool) | apply Exists.intro (α := ByteArray) | (apply Exists.intro (α := Option Addr); apply Exists.intro (α := Nat); apply Exists.intro (α := Nat)) | apply Exists.intro (α := Option Addr) | apply Exists.intro (α := Value)))
    refine ⟨rfl, ?_⟩
    refine ifd (fun h0 => ?_) fun h0 => letb rfl ⟨(decide_eq_false (by unfold CfgS; omega)).symm, h⟩
    refine h.rdI 5 ?_
    refine callvT tabOk (by kernel_rfl) (wi_ok ?_)
    (repeat (first | apply Exists.intro (α := Int) | apply Exists.intro (α := Bool) | apply Exists.intro (α := ByteArray) | (apply Exists.intro (α := Option Addr); apply Exists.intro (α := Nat); apply Exists.intro (α := Nat)) | apply Exists.intro (α := Option Addr) | apply Exists.intro (α := Value)))
    refine ⟨rfl, ?_⟩
    refine ifd (fun h1 => ?_) fun h1 => letb rfl ⟨(decide_eq_false (by unfold CfgS; omega)).symm, h⟩
    refine h.rdI 6 ?_
    refine callvT tabOk (by kernel_rfl) (wi_ok ?_)
    (repeat (first | apply Exists.intro (α := Int) | apply Exists.intro (α := Bool) | apply Exists.intro (α := ByteArray) | (apply Exists.intro (α := Option Addr); apply Exists.intro (α := Nat); apply Exists.intro (α := Nat)) | apply Exists.intro (α := Option Addr) | apply Exists.intro (α := Value)))
    refine ⟨rfl, ?_⟩
    refine ifd (fun h2 => ?_) fun h2 => letb rfl ⟨(decide_eq_false (by unfold CfgS; omega)).symm, h⟩
    refine h.rdI 7 ?_
    refine callvT tabOk (by kernel_rfl) (wi_ok ?_)
    (repeat (first | apply Exists.intro (α := Int) | apply Exists.intro (α := Bool) | apply Exists.intro (α := ByteArray) | (apply Exists.intro (α := Option Addr); apply Exists.intro (α := Nat); apply Exists.intro (α := Nat)) | apply Exists.intro (α := Option Addr) | apply Exists.intro (α := Value)))
    refine ⟨rfl, ?_⟩
    refine ifd (fun h3 => ?_) fun h3 => letb rfl ⟨(decide_eq_false (by unfold CfgS; omega)).symm, h⟩
    refine h.rdI 8 ?_
    refine callvT tabOk (by kernel_rfl) (wi_ok ?_)
    (repeat (first | apply Exists.intro (α := Int) | apply Exists.intro (α := Bool) | apply Exists.intro (α := ByteArray) | (apply Exists.intro (α := Option Addr); apply Exists.intro (α := Nat); apply Exists.intro (α := Nat)) | apply Exists.intro (α := Option Addr) | apply Exists.intro (α := Value)))
    refine ⟨rfl, ?_⟩
    exact letb rfl ⟨decide_eq_decide.2 (by unfold CfgS; omega), h⟩
  clear h
  rintro _ w' ⟨rfl, h⟩
  refine ⟨fun b w' => b = decide (CfgT g) ∧ St c w' (blk q 53 (cfg g) :: L), ?_, ?_⟩
  · refine h.rdI 10 ?_
    refine callvT tabOk (by kernel_rfl) (wi_ok ?_)
    (repeat (first | apply Exists.intro (α := Int) | apply Exists.intro (α := Bool) | apply Exists.intro (α := ByteArray) | (apply Exists.intro (α := Option Addr); apply Exists.intro (α := Nat); apply Exists.intro (α := Nat)) | apply Exists.intro (α := Option Addr) | apply Exists.intro (α := Value)))
    refine ⟨rfl, ?_⟩
    refine ifd (fun h0 => ?_) fun h0 => letb rfl ⟨(decide_eq_false (by unfold CfgT; omega)).symm, h⟩
    refine h.rdI 9 ?_
    refine callvT tabOk (by kernel_rfl) (wi_ok ?_)
    (repeat (first | apply Exists.intro (α := Int) | apply Exists.intro (α := Bool) | apply Exists.intro (α := ByteArray) | (apply Exists.intro (α := Option Addr); apply Exists.intro (α := Nat); apply Exists.intro (α := Nat)) | apply Exists.intro (α := Option Addr) | apply Exists.intro (α := Value)))
    refine ⟨rfl, ?_⟩
    refine ifd (fun h1 => ?_) fun h1 => letb rfl ⟨(decide_eq_false (by unfold CfgT; omega)).symm, h⟩
    refine h.rdI 10 ?_
    refine h.rdI 9 ?_
    exact letb rfl ⟨decide_eq_decide.2 (by unfold CfgT; omega), h⟩
  clear h
  rintro _ w' ⟨rfl, h⟩
  have bad : ¬ CfgR g → ∀ {w'}, St c w' (blk q 53 (cfg g) :: L) → IFB (decide (CfgM g)) (IFB (decide (CfgS g)) (IFB (decide (CfgT g)) (IFB false (Q (.int .i64 0) w') (Q (.int .i64 200) w')) (Q (.int .i64 200) w')) (Q (.int .i64 200) w')) (Q (.int .i64 200) w') := fun e w' h =>
    ifd (fun a => ifd (fun b => ifd (fun d => iff_ rfl (f2 (fun k => e k.2.2.2) h)) fun d => f2 (fun k => d k.2.2.1) h) fun b => f2 (fun k => b k.2.1) h) fun a => f2 (fun k => a k.1) h
  refine h.rdI 11 ?_
  refine callvT tabOk (by kernel_rfl) (wi_ok ?_)
  (repeat (first | apply Exists.intro (α := Int) | apply Exists.intro (α := Bool) | apply Exists.intro (α := ByteArray) | (apply Exists.intro (α := Option Addr); apply Exists.intro (α := Nat); apply Exists.intro (α := Nat)) | apply Exists.intro (α := Option Addr) | apply Exists.intro (α := Value)))
  refine ⟨rfl, ?_⟩
  refine ifd (fun h0 => ?_) fun h0 => letb rfl (bad (by unfold CfgR; omega) h)
  refine h.rdI 12 ?_
  refine callvT tabOk (by kernel_rfl) (wi_ok ?_)
  (repeat (first | apply Exists.intro (α := Int) | apply Exists.intro (α := Bool) | apply Exists.intro (α := ByteArray) | (apply Exists.intro (α := Option Addr); apply Exists.intro (α := Nat); apply Exists.intro (α := Nat)) | apply Exists.intro (α := Option Addr) | apply Exists.intro (α := Value)))
  refine ⟨rfl, ?_⟩
  refine ifd (fun h1 => ?_) fun h1 => letb rfl (bad (by unfold CfgR; omega) h)
  refine h.rdI 13 ?_
  refine callvT tabOk (by kernel_rfl) (wi_ok ?_)
  (repeat (first | apply Exists.intro (α := Int) | apply Exists.intro (α := Bool) | apply Exists.intro (α := ByteArray) | (apply Exists.intro (α := Option Addr); apply Exists.intro (α := Nat); apply Exists.intro (α := Nat)) | apply Exists.intro (α := Option Addr) | apply Exists.intro (α := Value)))
  refine ⟨rfl, ?_⟩
  refine ifd (fun h2 => ?_) fun h2 => letb rfl (bad (by unfold CfgR; omega) h)
  refine h.rdI 14 ?_
  refine ifd (fun h3 => ?_) fun h3 => letb rfl (bad (by unfold CfgR; omega) h)
  refine h.rdI 14 ?_
  refine letb rfl (ifd (fun a => ifd (fun b => ifd (fun d => ifd (fun e => f0 ⟨a, b, d, ?_⟩ h) fun e => f2 (fun k => e ?_) h) fun d => f2 (fun k => d k.2.2.1) h) fun b => f2 (fun k => b k.2.1) h) fun a => f2 (fun k => a k.1) h)
  · unfold CfgR; omega
  · have := k.2.2.2; unfold CfgR at this; omega
/-- A host's cells. -/
abbrev hcs (mal : Int) (g : Cfg) (k0 k1 n : Int) (pA : Option Addr) (pN pC r : Nat) : List Value := [.int .i64 0, .int .i64 0, .int .i64 0, .int .i64 0, .int .i64 0, .int .i64 0, .int .i64 mal, .int .i64 0, .int .i64 0, .int .i64 0, .int .i64 g.ports, .int .i64 g.half, .int .i64 g.conns, .int .i64 g.flows, .int .i64 g.buffer, .int .i64 g.chunks, .int .i64 g.addrs, .int .i64 g.paths, .int .i64 g.mss, .int .i64 g.silence, .int .i64 g.keep, .int .i64 g.burst, .int .i64 g.rate, .int .i64 g.score, .int .i64 g.policy, .int .u64 k0, .int .u64 k1, .int .u64 n, .slice pA pN pC, .map (some r), .int .i64 1, .slice none 0 0]
instance biHost (x0 x1 x2 x3 x4 x5 x6 x7 x8 x9 x10 x11 x12 x13 x14 : Int) (k0 k1 n : Int) (r : Nat) : Bld PG (Instr.build 68 #[(1, .agg #[.int .i64 x0, .int .i64 x1, .int .i64 x2, .int .i64 x3, .int .i64 x4, .int .i64 x5, .int .i64 x6, .int .i64 x7, .int .i64 x8, .int .i64 x9, .int .i64 x10, .int .i64 x11, .int .i64 x12, .int .i64 x13, .int .i64 x14]), (2, .agg #[.int .u64 k0, .int .u64 k1, .int .u64 n]), (4, .map (some r)), (5, .int .i64 1)]) (.agg (hcs 0 ⟨x0, x1, x2, x3, x4, x5, x6, x7, x8, x9, x10, x11, x12, x13, x14⟩ k0 k1 n none 0 0 r).toArray) := ⟨fun w => by kernel_rfl⟩
theorem hnew_ok (h : St c w L) (g : Cfg) {k0 k1 : Int} {Q : Value → World → Prop} (hbad : ¬ CfgOk g → ∀ w', St c w' L → Q (.tuple #[.pointer none, .int .i64 200]) w')
    (hok : CfgOk g → ∀ p r w', St c w' (blk p 68 (hcs 0 g k0 k1 0 none 0 0 r) :: mp r [] :: L) → Q (.tuple #[.pointer (some ⟨p, 0, none⟩), .int .i64 0]) w') : CALL PG 11 [cfgv g, .agg #[.int .u64 k0, .int .u64 k1]] w Q := by
  refine call11 ?_
  unfold N11
  refine h.box (vs := cfg g) fun q w' h => ?_
  refine h.box fun q2 w' h => ?_
  refine h.rdG ?_
  (repeat (first | apply Exists.intro (α := Int) | apply Exists.intro (α := Bool) | apply Exists.intro (α := ByteArray) | (apply Exists.intro (α := Option Addr); apply Exists.intro (α := Nat); apply Exists.intro (α := Nat)) | apply Exists.intro (α := Option Addr) | apply Exists.intro (α := Value)))
  refine ⟨rfl, ?_⟩
  refine right_ok h g fun w' h => ?_
  (repeat (first | apply Exists.intro (α := Int) | apply Exists.intro (α := Bool) | apply Exists.intro (α := ByteArray) | (apply Exists.intro (α := Option Addr); apply Exists.intro (α := Nat); apply Exists.intro (α := Nat)) | apply Exists.intro (α := Option Addr) | apply Exists.intro (α := Value)))
  refine ⟨rfl, ?_⟩
  refine leti rfl ?_
  refine ifn (fun e => ?_) fun e => ?_
  · have hb : ¬ CfgOk g := fun k => e (if_pos k)
    rw [if_neg hb]
    exact leti rfl (hbad hb _ h.drop.drop)
  have hb : CfgOk g := by
    by_cases k : CfgOk g
    · exact k
    · rw [if_neg k] at e
      cases e
  refine h.rdG ?_
  (repeat (first | apply Exists.intro (α := Int) | apply Exists.intro (α := Bool) | apply Exists.intro (α := ByteArray) | (apply Exists.intro (α := Option Addr); apply Exists.intro (α := Nat); apply Exists.intro (α := Nat)) | apply Exists.intro (α := Option Addr) | apply Exists.intro (α := Value)))
  refine ⟨rfl, ?_⟩
  refine h.rdG ?_
  (repeat (first | apply Exists.intro (α := Int) | apply Exists.intro (α := Bool) | apply Exists.intro (α := ByteArray) | (apply Exists.intro (α := Option Addr); apply Exists.intro (α := Nat); apply Exists.intro (α := Nat)) | apply Exists.intro (α := Option Addr) | apply Exists.intro (α := Value)))
  refine ⟨rfl, ?_⟩
  refine RD.bld ?_
  (repeat (first | apply Exists.intro (α := Int) | apply Exists.intro (α := Bool) | apply Exists.intro (α := ByteArray) | (apply Exists.intro (α := Option Addr); apply Exists.intro (α := Nat); apply Exists.intro (α := Nat)) | apply Exists.intro (α := Option Addr) | apply Exists.intro (α := Value)))
  refine ⟨rfl, ?_⟩
  refine h.mkmap fun r w' h => ⟨_, rfl, ?_⟩
  refine RD.bld ⟨_, rfl, ?_⟩
  refine h.box fun p w' h => ?_
  exact hok hb p r _ (h.sub (.cons .head (.cons .head (Sub.same _).more.more)))
end
end Go.Br

/- What the code of some functions says, as the core reads it; each reading is checked by the kernel. -/
set_option linter.unusedVariables false
set_option maxRecDepth 100000
namespace Go.Br
open Go Go.Proofs

/-- brougham/broughamlaw23.Usual -/
def N12  (w : World) (Q : Value → World → Prop) : Prop :=
 RUNA PG (Instr.alloc 53 true (.tuple #[])) w fun a0 w1 =>
 RD PG (Instr.build 53 #[(0, (.int .i64 (2 : Int))), (1, (.int .i64 (2 : Int))), (2, (.int .i64 (3 : Int))), (3, (.int .i64 (3 : Int))), (4, (.int .i64 (64 : Int))), (5, (.int .i64 (16 : Int))), (6, (.int .i64 (4 : Int))), (7, (.int .i64 (3 : Int))), (8, (.int .i64 (8 : Int))), (9, (.int .i64 (200 : Int))), (10, (.int .i64 (20 : Int))), (11, (.int .i64 (3 : Int))), (12, (.int .i64 (1 : Int))), (13, (.int .i64 (8 : Int))), (14, (.int .i64 (1 : Int)))]) w1 fun v =>
 ∃ x1 : Int, ∃ x1v1 : Int, ∃ x1v2 : Int, ∃ x1v3 : Int, ∃ x1v4 : Int, ∃ x1v5 : Int, ∃ x1v6 : Int, ∃ x1v7 : Int, ∃ x1v8 : Int, ∃ x1v9 : Int, ∃ x1v10 : Int, ∃ x1v11 : Int, ∃ x1v12 : Int, ∃ x1v13 : Int, ∃ x1v14 : Int, v = (.agg #[(.int .i64 x1), (.int .i64 x1v1), (.int .i64 x1v2), (.int .i64 x1v3), (.int .i64 x1v4), (.int .i64 x1v5), (.int .i64 x1v6), (.int .i64 x1v7), (.int .i64 x1v8), (.int .i64 x1v9), (.int .i64 x1v10), (.int .i64 x1v11), (.int .i64 x1v12), (.int .i64 x1v13), (.int .i64 x1v14)]) ∧
 (RUNU PG (storeVar 53 a0 (.agg #[(.int .i64 x1), (.int .i64 x1v1), (.int .i64 x1v2), (.int .i64 x1v3), (.int .i64 x1v4), (.int .i64 x1v5), (.int .i64 x1v6), (.int .i64 x1v7), (.int .i64 x1v8), (.int .i64 x1v9), (.int .i64 x1v10), (.int .i64 x1v11), (.int .i64 x1v12), (.int .i64 x1v13), (.int .i64 x1v14)])) w1 fun w2 =>
 RD PG (loadVar 53 a0) w2 fun v2 =>
 ∃ r : Int, ∃ r1 : Int, ∃ r2 : Int, ∃ r3 : Int, ∃ r4 : Int, ∃ r5 : Int, ∃ r6 : Int, ∃ r7 : Int, ∃ r8 : Int, ∃ r9 : Int, ∃ r10 : Int, ∃ r11 : Int, ∃ r12 : Int, ∃ r13 : Int, ∃ r14 : Int, v2 = (.agg #[(.int .i64 r), (.int .i64 r1), (.int .i64 r2), (.int .i64 r3), (.int .i64 r4), (.int .i64 r5), (.int .i64 r6), (.int .i64 r7), (.int .i64 r8), (.int .i64 r9), (.int .i64 r10), (.int .i64 r11), (.int .i64 r12), (.int .i64 r13), (.int .i64 r14)]) ∧
 (Q (.agg #[(.int .i64 r), (.int .i64 r1), (.int .i64 r2), (.int .i64 r3), (.int .i64 r4), (.int .i64 r5), (.int .i64 r6), (.int .i64 r7), (.int .i64 r8), (.int .i64 r9), (.int .i64 r10), (.int .i64 r11), (.int .i64 r12), (.int .i64 r13), (.int .i64 r14)]) w2))
theorem eq12 : ∀  (w : World) (Q : Value → World → Prop), vcF PG TB Tryz.f12 .nil [] w Q = N12  w Q := by intros; kernel_rfl
theorem call12  {w : World} {Q : Value → World → Prop} (hN : N12  w Q) : CALL PG 12 [] w Q := calls_vc tabOk Tryz.func12 (by rw [eq12]; exact hN)

/-- brougham/host.good -/
def N24 (atv : Int) (w : World) (Q : Value → World → Prop) : Prop :=
 IFB (decide (atv ≥ (1 : Int)))
 (LETB (decide (atv ≤ (65535 : Int))) fun x2 =>
 Q (.bool x2) w)
 (LETB false fun x2v1 =>
 Q (.bool x2v1) w)
theorem eq24 : ∀ (atv : Int) (w : World) (Q : Value → World → Prop), vcF PG TB Tryz.f24 .nil [(.int .i64 atv)] w Q = N24 atv w Q := by intros; kernel_rfl
theorem call24 {atv : Int} {w : World} {Q : Value → World → Prop} (hN : N24 atv w Q) : CALL PG 24 [(.int .i64 atv)] w Q := calls_vc tabOk Tryz.func24 (by rw [eq24]; exact hN)

/-- (*brougham/host.Host).listener -/
def N25 (h : Option Addr) (atv : Int) (w : World) (Q : Value → World → Prop) : Prop :=
 NILC h fun a8 =>
 RDL PG (loadVar 65 (Addr.add a8 28)) w fun x10 x10N x10C =>
 ∃ I : Nat → Int → World → Prop,
 (∃ m, I m (0 : Int) w) ∧
 (∀ m1 (x12 : Int) (w1 : World), I m1 x12 w1 → (IFB (decide (x12 < (x10N : Int)))
 (IDX x10 x10N x12 fun a14 =>
 RDP PG (loadVar 80 (Addr.add a14 (Int.toNat x12 * 1))) w1 fun x15 =>
 NILC x15 fun a17 =>
 RDI PG (loadVar 3 (Addr.add a17 0)) .i64 w1 fun x19 =>
 IFB (x19 == atv)
 (Q (.pointer x15) w1)
 (∃ m2, m2 < m1 ∧ I m2 (IntKind.i64.wrap (x12 + (1 : Int))) w1))
 (Q (.pointer none) w1)))
theorem eq25 : ∀ (h : Option Addr) (atv : Int) (w : World) (Q : Value → World → Prop), vcF PG TB Tryz.f25 (.s .nil (.s (.s .nil (.u (.loop [(12, 3)] .nil))) .nil)) [(.pointer h), (.int .i64 atv)] w Q = N25 h atv w Q := by intros; kernel_rfl
theorem call25 {h : Option Addr} {atv : Int} {w : World} {Q : Value → World → Prop} (hN : N25 h atv w Q) : CALL PG 25 [(.pointer h), (.int .i64 atv)] w Q := calls_vc tabOk Tryz.func25 (by rw [eq25]; exact hN)

end Go.Br

/- A host: who listens, and bytes that are none; the law of configurations. -/
set_option linter.unusedVariables false
set_option linter.unusedSimpArgs false
set_option linter.unnecessarySimpa false
namespace Go.Br
open Go
instance biHostLawa (x0 : Int) (x1 : Int) (x2 : Int) (x3 : Int) (x4 : Int) (x5 : Int) (x6 : Int) (x7 : Int) (x8 : Int) (x9 : Int) (x10 : Int) (x11 : Int) (x12 : Int) (x13 : Int) (x14 : Int) : Bld PG (Instr.build 53 #[(0, .int .i64 x0), (1, .int .i64 x1), (2, .int .i64 x2), (3, .int .i64 x3), (4, .int .i64 x4), (5, .int .i64 x5), (6, .int .i64 x6), (7, .int .i64 x7), (8, .int .i64 x8), (9, .int .i64 x9), (10, .int .i64 x10), (11, .int .i64 x11), (12, .int .i64 x12), (13, .int .i64 x13), (14, .int .i64 x14)]) (.agg #[.int .i64 x0, .int .i64 x1, .int .i64 x2, .int .i64 x3, .int .i64 x4, .int .i64 x5, .int .i64 x6, .int .i64 x7, .int .i64 x8, .int .i64 x9, .int .i64 x10, .int .i64 x11, .int .i64 x12, .int .i64 x13, .int .i64 x14]) := ⟨fun w => by kernel_rfl⟩
instance biHostLawb : Zro PG 53 15 120 (.agg #[.int .i64 0, .int .i64 0, .int .i64 0, .int .i64 0, .int .i64 0, .int .i64 0, .int .i64 0, .int .i64 0, .int .i64 0, .int .i64 0, .int .i64 0, .int .i64 0, .int .i64 0, .int .i64 0, .int .i64 0]) := ⟨tiOf (by kernel_rfl)⟩
attribute [local irreducible] Addr.add RD RDS RUN RUNU NILC LETB CALL CALLX CALLV

theorem tiPortp : TI PG 80 1 8 (.pointer none) := tiOf (by kernel_rfl)
theorem huPorts : PG.underlying 65 = some (.slice 80) := by kernel_rfl
def usual : Cfg := ⟨2, 2, 3, 3, 64, 16, 4, 3, 8, 200, 20, 3, 1, 8, 1⟩
theorem usual_ok : CfgOk usual := by decide
abbrev prt (a : Int) : List Value := [.int .i64 a, .slice none 0 0, .slice none 0 0]
theorem St.dropA {c : Ctx} : ∀ {M : List SA} {w : World} {L : List SA}, St c w (M ++ L) → St c w L
  | [], w, L, h => h
  | A :: M, w, L, h => St.dropA (M := M) (St.drop h)
section
variable {c : Ctx} {w : World} {L R : List SA} {mal : Int} {g : Cfg} {k0 k1 n : Int} {p r : Nat}
theorem good_ok {a : Int} {Q : Value → World → Prop} (hk : Q (.bool (decide (1 ≤ a ∧ a ≤ 65535))) w) : CALL PG 24 [.int .i64 a] w Q := by
  refine call24 ?_
  unfold N24
  exact ifd (fun h => letb (decide_eq_decide.2 (by omega)) hk) fun h => letb (decide_eq_false (by omega)).symm hk
theorem listen0_ok {a : Int} (h : St c w (blk p 68 (hcs mal g k0 k1 n none 0 0 r) :: L)) {Q : Value → World → Prop} (hk : ∀ w', St c w' (blk p 68 (hcs mal g k0 k1 n none 0 0 r) :: L) → Q (.pointer none) w') : CALL PG 25 [.pointer (some ⟨p, 0, none⟩), .int .i64 a] w Q := by
  refine call25 ?_
  unfold N25
  refine nilc (h.rdL 28 ?_)
  refine ⟨fun m x w' => x = 0 ∧ St c w' (blk p 68 (hcs mal g k0 k1 n none 0 0 r) :: L), ⟨0, rfl, h⟩, ?_⟩
  clear h
  rintro m _ w' ⟨rfl, h⟩
  exact ifdf (by decide) (hk _ h)
theorem listen1_ok {a : Int} {A : Option Addr} {d q : Nat} (h : St c w (blk p 68 (hcs mal g k0 k1 n A 1 d r) :: own 80 1 A 1 d [.pointer (some ⟨q, 0, none⟩)] :: blk q 100 (prt a) :: L)) {Q : Value → World → Prop}
    (hk : ∀ w', St c w' (blk p 68 (hcs mal g k0 k1 n A 1 d r) :: own 80 1 A 1 d [.pointer (some ⟨q, 0, none⟩)] :: blk q 100 (prt a) :: L) → Q (.pointer (some ⟨q, 0, none⟩)) w') : CALL PG 25 [.pointer (some ⟨p, 0, none⟩), .int .i64 a] w Q := by
  refine call25 ?_
  unfold N25
  refine nilc (h.rdL 28 ?_)
  refine ⟨fun m x w' => x = 0 ∧ St c w' (blk p 68 (hcs mal g k0 k1 n A 1 d r) :: own 80 1 A 1 d [.pointer (some ⟨q, 0, none⟩)] :: blk q 100 (prt a) :: L), ⟨0, rfl, h⟩, ?_⟩
  clear h
  rintro m _ w' ⟨rfl, h⟩
  refine ifdt (by decide) ?_
  have hr : RdIn (blk p 68 (hcs mal g k0 k1 n A 1 d r) :: own 80 1 A 1 d [.pointer (some ⟨q, 0, none⟩)] :: blk q 100 (prt a) :: L) A (([some ⟨q, 0, none⟩] : List (Option Addr)).flatMap fun x => [.pointer x]) := RdIn.own (.tail .head)
  refine h.ix (z := 0) (i := 0) hr rfl (fun b hb => ?_) (by decide)
  subst hb
  refine h.rdWP (g := fun x => [.pointer x]) (Y := [some ⟨q, 0, none⟩]) (i := 0) hr rfl ?_
  refine nilc ?_
  refine h.rdI 0 ?_
  exact ift (by simp) (hk _ h)
theorem usual_okC (h : St c w L) {Q : Value → World → Prop} (hk : ∀ w', St c w' L → Q (cfgv usual) w') : CALL PG 12 [] w Q := by
  refine call12 ?_
  unfold N12
  refine h.allocZ fun q w' h => ?_
  refine RD.bld ?_
  (repeat (first | apply Exists.intro (α := Int) | apply Exists.intro (α := Bool) | apply Exists.intro (α := ByteArray) | (apply Exists.intro (α := Option Addr); apply Exists.intro (α := Nat); apply Exists.intro (α := Nat)) | apply Exists.intro (α := Option Addr) | apply Exists.intro (α := Value)))
  refine ⟨rfl, ?_⟩
  refine h.stG fun w' h => ?_
  refine h.rdG ?_
  (repeat (first | apply Exists.intro (α := Int) | apply Exists.intro (α := Bool) | apply Exists.intro (α := ByteArray) | (apply Exists.intro (α := Option Addr); apply Exists.intro (α := Nat); apply Exists.intro (α := Nat)) | apply Exists.intro (α := Option Addr) | apply Exists.intro (α := Value)))
  refine ⟨rfl, ?_⟩
  exact hk _ h.drop
end
end Go.Br
