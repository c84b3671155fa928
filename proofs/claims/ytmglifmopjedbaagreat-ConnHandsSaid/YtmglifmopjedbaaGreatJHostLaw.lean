/- HostNew, HostLaw -/
import Derived.Test.YtmglifmopjedbaaGreatBrSeat
import Derived.Test.YtmglifmopjedbaaGreatBrMap
/- What the code of some functions says,as the core reads it; each reading is checked by the kernel. -/
set_option linter.unusedVariables false
set_option maxRecDepth 100000
namespace Go.Br
open Go Go.Proofs
def N4 (c : Int) (c1 : Int) (c2 : Int) (c3 : Int) (c4 : Int) (c5 : Int) (c6 : Int) (c7 : Int) (c8 : Int) (c9 : Int) (c10 : Int) (c11 : Int) (c12 : Int) (c13 : Int) (c14 : Int) (w : World) (Q : QP) : Prop :=
 RUNA PG (Instr.box 24 (.agg #[(.int .i64 c),(.int .i64 c1),(.int .i64 c2),(.int .i64 c3),(.int .i64 c4),(.int .i64 c5),(.int .i64 c6),(.int .i64 c7),(.int .i64 c8),(.int .i64 c9),(.int .i64 c10),(.int .i64 c11),(.int .i64 c12),(.int .i64 c13),(.int .i64 c14)])) w fun a1 w1 =>
 ∃ R : Bool -> World -> Prop,
 (RDI PG (loadVar 3 (a1.add 0)) .i64 w1 fun x7 =>
 CALL PG 13 [(.int .i64 x7),(.int .i64 0),(.int .i64 8)] w1 fun v w2 =>
 ∃ x8 : Bool,v = (.bool x8) /\
 (IFB x8
 (RDI PG (loadVar 3 (a1.add 1)) .i64 w2 fun x11 =>
 CALL PG 13 [(.int .i64 x11),(.int .i64 0),(.int .i64 8)] w2 fun v1 w3 =>
 ∃ x12 : Bool,v1 = (.bool x12) /\
 (IFB x12
 (RDI PG (loadVar 3 (a1.add 2)) .i64 w3 fun x16 =>
 CALL PG 13 [(.int .i64 x16),(.int .i64 0),(.int .i64 8)] w3 fun v2 w4 =>
 ∃ x17 : Bool,v2 = (.bool x17) /\
 (IFB x17
 (RDI PG (loadVar 3 (a1.add 3)) .i64 w4 fun x21 =>
 CALL PG 13 [(.int .i64 x21),(.int .i64 1),(.int .i64 4)] w4 fun v3 w5 =>
 ∃ x22 : Bool,v3 = (.bool x22) /\
 (IFB x22
 (RDI PG (loadVar 3 (a1.add 6)) .i64 w5 fun x26 =>
 CALL PG 13 [(.int .i64 x26),(.int .i64 0),(.int .i64 8)] w5 fun v4 w6 =>
 ∃ x27 : Bool,v4 = (.bool x27) /\
 (IFB x27
 (RDI PG (loadVar 3 (a1.add 7)) .i64 w6 fun x31 =>
 CALL PG 13 [(.int .i64 x31),(.int .i64 1),(.int .i64 4)] w6 fun v5 w7 =>
 ∃ x32 : Bool,v5 = (.bool x32) /\
 (LETB x32 fun many =>
 R many w7))
 (LETB false fun many1 =>
 R many1 w6)))
 (LETB false fun many2 =>
 R many2 w5)))
 (LETB false fun many3 =>
 R many3 w4)))
 (LETB false fun many4 =>
 R many4 w3)))
 (LETB false fun many5 =>
 R many5 w2))) /\
 (∀ (many6 : Bool) (w8 : World),R many6 w8 -> (∃ R1 : Bool -> World -> Prop,
 (RDI PG (loadVar 3 (a1.add 4)) .i64 w8 fun x35 =>
 CALL PG 13 [(.int .i64 x35),(.int .i64 1),(.int .i64 4096)] w8 fun v6 w9 =>
 ∃ x36 : Bool,v6 = (.bool x36) /\
 (IFB x36
 (RDI PG (loadVar 3 (a1.add 5)) .i64 w9 fun x39 =>
 CALL PG 13 [(.int .i64 x39),(.int .i64 1),(.int .i64 64)] w9 fun v7 w10 =>
 ∃ x40 : Bool,v7 = (.bool x40) /\
 (IFB x40
 (RDI PG (loadVar 3 (a1.add 8)) .i64 w10 fun x44 =>
 CALL PG 13 [(.int .i64 x44),(.int .i64 1),(.int .i64 1024)] w10 fun v8 w11 =>
 ∃ x45 : Bool,v8 = (.bool x45) /\
 (LETB x45 fun sizev =>
 R1 sizev w11))
 (LETB false fun sizev1 =>
 R1 sizev1 w10)))
 (LETB false fun sizev2 =>
 R1 sizev2 w9))) /\
 (∀ (sizev3 : Bool) (w12 : World),R1 sizev3 w12 -> (∃ R2 : Bool -> World -> Prop,
 (RDI PG (loadVar 3 (a1.add 9)) .i64 w12 fun x48 =>
 CALL PG 13 [(.int .i64 x48),(.int .i64 2),(.int .i64 4096)] w12 fun v9 w13 =>
 ∃ x49 : Bool,v9 = (.bool x49) /\
 (IFB x49
 (RDI PG (loadVar 3 (a1.add 10)) .i64 w13 fun x52 =>
 CALL PG 13 [(.int .i64 x52),(.int .i64 1),(.int .i64 4096)] w13 fun v10 w14 =>
 ∃ x53 : Bool,v10 = (.bool x53) /\
 (IFB x53
 (RDI PG (loadVar 3 (a1.add 10)) .i64 w14 fun x57 =>
 RDI PG (loadVar 3 (a1.add 9)) .i64 w14 fun x59 =>
 LETB (decide (x57 < x59)) fun time =>
 R2 time w14)
 (LETB false fun time1 =>
 R2 time1 w14)))
 (LETB false fun time2 =>
 R2 time2 w13))) /\
 (∀ (time3 : Bool) (w15 : World),R2 time3 w15 -> (IFB many6
 (IFB sizev3
 (IFB time3
 (RDI PG (loadVar 3 (a1.add 11)) .i64 w15 fun x71 =>
 CALL PG 13 [(.int .i64 x71),(.int .i64 0),(.int .i64 4096)] w15 fun v11 w16 =>
 ∃ x72 : Bool,v11 = (.bool x72) /\
 (IFB x72
 (RDI PG (loadVar 3 (a1.add 12)) .i64 w16 fun x76 =>
 CALL PG 13 [(.int .i64 x76),(.int .i64 0),(.int .i64 4096)] w16 fun v12 w17 =>
 ∃ x77 : Bool,v12 = (.bool x77) /\
 (IFB x77
 (RDI PG (loadVar 3 (a1.add 13)) .i64 w17 fun x81 =>
 CALL PG 13 [(.int .i64 x81),(.int .i64 1),(.int .i64 4096)] w17 fun v13 w18 =>
 ∃ x82 : Bool,v13 = (.bool x82) /\
 (IFB x82
 (RDI PG (loadVar 22 (a1.add 14)) .i64 w18 fun x86 =>
 CALL PG 13 [(.int .i64 x86),(.int .i64 1),(.int .i64 3)] w18 fun v14 w19 =>
 ∃ x87 : Bool,v14 = (.bool x87) /\
 (LETB x87 fun x2 =>
 Q (.bool x2) w19))
 (LETB false fun x2v1 =>
 Q (.bool x2v1) w18)))
 (LETB false fun x2v2 =>
 Q (.bool x2v2) w17)))
 (LETB false fun x2v3 =>
 Q (.bool x2v3) w16)))
 (LETB false fun x2v4 =>
 Q (.bool x2v4) w15))
 (LETB false fun x2v5 =>
 Q (.bool x2v5) w15))
 (LETB false fun x2v6 =>
 Q (.bool x2v6) w15)))))))
theorem call4 {c : Int} {c1 : Int} {c2 : Int} {c3 : Int} {c4 : Int} {c5 : Int} {c6 : Int} {c7 : Int} {c8 : Int} {c9 : Int} {c10 : Int} {c11 : Int} {c12 : Int} {c13 : Int} {c14 : Int} {w : World} {Q : QP} (h_ : N4 c c1 c2 c3 c4 c5 c6 c7 c8 c9 c10 c11 c12 c13 c14 w Q) : CALL PG 4 [(.agg #[(.int .i64 c),(.int .i64 c1),(.int .i64 c2),(.int .i64 c3),(.int .i64 c4),(.int .i64 c5),(.int .i64 c6),(.int .i64 c7),(.int .i64 c8),(.int .i64 c9),(.int .i64 c10),(.int .i64 c11),(.int .i64 c12),(.int .i64 c13),(.int .i64 c14)])] w Q:=calls_vq (.s .nil (.cut [(3,4)] .nil (.cut [(4,4)] .nil (.cut [(5,4)] .nil .nil)))) tabOk Tryz.func4 (by kernel_rfl) h_
def N13 (n : Int) (lo : Int) (hi : Int) (w : World) (Q : QP) : Prop :=
 IFB (decide (n ≥ lo))
 (LETB (decide (n <= hi)) fun x6 =>
 Q (.bool x6) w)
 (LETB false fun x6v1 =>
 Q (.bool x6v1) w)
theorem call13 {n : Int} {lo : Int} {hi : Int} {w : World} {Q : QP} (h_ : N13 n lo hi w Q) : CALL PG 13 [(.int .i64 n),(.int .i64 lo),(.int .i64 hi)] w Q:=calls_vq .nil tabOk Tryz.func13 (by kernel_rfl) h_
end Go.Br
/- A host's configuration,and a host that is new. -/
set_option linter.unusedVariables false
set_option linter.unusedSimpArgs false
set_option linter.unnecessarySimpa false
namespace Go.Br
open Go
attribute [local irreducible] Addr.add RD RDS RUN RUNU NILC LETB CALL CALLX CALLV
structure Cfg where
 ports : Int
 half : Int
 conns : Int
 flows : Int
 buffer : Int
 chunks : Int
 addrs : Int
 paths : Int
 mss : Int
 silence : Int
 keep : Int
 burst : Int
 rate : Int
 score : Int
 policy : Int
def cfg (x : Cfg) : List Value:=[.int .i64 x.ports,.int .i64 x.half,.int .i64 x.conns,.int .i64 x.flows,.int .i64 x.buffer,.int .i64 x.chunks,.int .i64 x.addrs,.int .i64 x.paths,.int .i64 x.mss,.int .i64 x.silence,.int .i64 x.keep,.int .i64 x.burst,.int .i64 x.rate,.int .i64 x.score,.int .i64 x.policy]
abbrev cfgv (x : Cfg) : Value:=.agg #[.int .i64 x.ports,.int .i64 x.half,.int .i64 x.conns,.int .i64 x.flows,.int .i64 x.buffer,.int .i64 x.chunks,.int .i64 x.addrs,.int .i64 x.paths,.int .i64 x.mss,.int .i64 x.silence,.int .i64 x.keep,.int .i64 x.burst,.int .i64 x.rate,.int .i64 x.score,.int .i64 x.policy]
def CfgM (g : Cfg) : Prop:=(0 <= g.ports /\ g.ports <= 8) /\ (0 <= g.half /\ g.half <= 8) /\ (0 <= g.conns /\ g.conns <= 8) /\ (1 <= g.flows /\ g.flows <= 4)
def CfgS (g : Cfg) : Prop:=(1 <= g.buffer /\ g.buffer <= 4096) /\ (1 <= g.chunks /\ g.chunks <= 64) /\ (0 <= g.addrs /\ g.addrs <= 8) /\ (1 <= g.paths /\ g.paths <= 4) /\ (1 <= g.mss /\ g.mss <= 1024)
def CfgT (g : Cfg) : Prop:=(1 <= g.keep /\ g.keep <= 4096) /\ (2 <= g.silence /\ g.silence <= 4096) /\ g.keep < g.silence
def CfgR (g : Cfg) : Prop:=(0 <= g.burst /\ g.burst <= 4096) /\ (0 <= g.rate /\ g.rate <= 4096) /\ (1 <= g.score /\ g.score <= 4096) /\ (1 <= g.policy /\ g.policy <= 3)
def CfgOk (g : Cfg) : Prop:=CfgM g /\ CfgS g /\ CfgT g /\ CfgR g
instance (g : Cfg) : Decidable (CfgM g):=by unfold CfgM; infer_instance
instance (g : Cfg) : Decidable (CfgS g):=by unfold CfgS; infer_instance
instance (g : Cfg) : Decidable (CfgT g):=by unfold CfgT; infer_instance
instance (g : Cfg) : Decidable (CfgR g):=by unfold CfgR; infer_instance
instance (g : Cfg) : Decidable (CfgOk g):=by unfold CfgOk; infer_instance
section
variable {c : Ctx} {w : World} {L R : List SA}
theorem rwi_ok {n lo hi : Int} {Q : Value -> World -> Prop} (hk : Q (.bool (decide (lo <= n /\ n <= hi))) w) : CALL PG 13 [.int .i64 n,.int .i64 lo,.int .i64 hi] w Q:=by
 refine call13 ?_
 unfold N13
 exact ifd (fun h => letb (decide_eq_decide.2 (by omega)) hk) fun h => letb (decide_eq_false (by omega)).symm hk
theorem rright_ok (h : St c w L) (g : Cfg) {Q : Value -> World -> Prop} (hk : ∀ w',St c w' L -> Q (.bool (decide (CfgOk g))) w') : CALL PG 4 [cfgv g] w Q:=by
 have f2 : ¬ CfgOk g -> ∀ {w' X},St c w' (X :: L) -> Q (.bool false) w':=fun e w' X h => by have:=hk w' h.drop; rwa [decide_eq_false e] at this
 refine call4 ?_
 unfold N4
 refine h.box (vs:=cfg g) fun q w' h => ?_
 refine ⟨fun b w' => b = decide ((0 <= g.ports /\ g.ports <= 8) /\ (0 <= g.half /\ g.half <= 8) /\ (0 <= g.conns /\ g.conns <= 8) /\ (1 <= g.flows /\ g.flows <= 4) /\ (0 <= g.addrs /\ g.addrs <= 8) /\ (1 <= g.paths /\ g.paths <= 4)) /\ St c w' (blk q 24 (cfg g) :: L),?_,?_⟩
 ·refine h.rdI 0 ?_
  refine rwi_ok ?_
  (repeat apply exi)
  apply exr
  refine ifd (fun h0 => ?_) fun h0 => letb rfl ⟨(decide_eq_false (by omega)).symm,h⟩
  refine h.rdI 1 ?_
  refine rwi_ok ?_
  (repeat apply exi)
  apply exr
  refine ifd (fun h1 => ?_) fun h1 => letb rfl ⟨(decide_eq_false (by omega)).symm,h⟩
  refine h.rdI 2 ?_
  refine rwi_ok ?_
  (repeat apply exi)
  apply exr
  refine ifd (fun h2 => ?_) fun h2 => letb rfl ⟨(decide_eq_false (by omega)).symm,h⟩
  refine h.rdI 3 ?_
  refine rwi_ok ?_
  (repeat apply exi)
  apply exr
  refine ifd (fun h3 => ?_) fun h3 => letb rfl ⟨(decide_eq_false (by omega)).symm,h⟩
  refine h.rdI 6 ?_
  refine rwi_ok ?_
  (repeat apply exi)
  apply exr
  refine ifd (fun h4 => ?_) fun h4 => letb rfl ⟨(decide_eq_false (by omega)).symm,h⟩
  refine h.rdI 7 ?_
  refine rwi_ok ?_
  (repeat apply exi)
  apply exr
  exact letb rfl ⟨decide_eq_decide.2 (by omega),h⟩
 clear h
 rintro _ w' ⟨rfl,h⟩
 refine ⟨fun b w' => b = decide ((1 <= g.buffer /\ g.buffer <= 4096) /\ (1 <= g.chunks /\ g.chunks <= 64) /\ (1 <= g.mss /\ g.mss <= 1024)) /\ St c w' (blk q 24 (cfg g) :: L),?_,?_⟩
 ·refine h.rdI 4 ?_
  refine rwi_ok ?_
  (repeat apply exi)
  apply exr
  refine ifd (fun h0 => ?_) fun h0 => letb rfl ⟨(decide_eq_false (by omega)).symm,h⟩
  refine h.rdI 5 ?_
  refine rwi_ok ?_
  (repeat apply exi)
  apply exr
  refine ifd (fun h1 => ?_) fun h1 => letb rfl ⟨(decide_eq_false (by omega)).symm,h⟩
  refine h.rdI 8 ?_
  refine rwi_ok ?_
  (repeat apply exi)
  apply exr
  exact letb rfl ⟨decide_eq_decide.2 (by omega),h⟩
 clear h
 rintro _ w' ⟨rfl,h⟩
 refine ⟨fun b w' => b = decide ((2 <= g.silence /\ g.silence <= 4096) /\ (1 <= g.keep /\ g.keep <= 4096) /\ g.keep < g.silence) /\ St c w' (blk q 24 (cfg g) :: L),?_,?_⟩
 ·refine h.rdI 9 ?_
  refine rwi_ok ?_
  (repeat apply exi)
  apply exr
  refine ifd (fun h0 => ?_) fun h0 => letb rfl ⟨(decide_eq_false (by omega)).symm,h⟩
  refine h.rdI 10 ?_
  refine rwi_ok ?_
  (repeat apply exi)
  apply exr
  refine ifd (fun h1 => ?_) fun h1 => letb rfl ⟨(decide_eq_false (by omega)).symm,h⟩
  refine h.rdI 10 ?_
  refine h.rdI 9 ?_
  exact letb rfl ⟨decide_eq_decide.2 (by omega),h⟩
 clear h
 rintro _ w' ⟨rfl,h⟩
 have un : CfgOk g ↔ ((0 <= g.ports /\ g.ports <= 8) /\ (0 <= g.half /\ g.half <= 8) /\ (0 <= g.conns /\ g.conns <= 8) /\ (1 <= g.flows /\ g.flows <= 4) /\ (0 <= g.addrs /\ g.addrs <= 8) /\ (1 <= g.paths /\ g.paths <= 4)) /\ ((1 <= g.buffer /\ g.buffer <= 4096) /\ (1 <= g.chunks /\ g.chunks <= 64) /\ (1 <= g.mss /\ g.mss <= 1024)) /\ ((2 <= g.silence /\ g.silence <= 4096) /\ (1 <= g.keep /\ g.keep <= 4096) /\ g.keep < g.silence) /\ ((0 <= g.burst /\ g.burst <= 4096) /\ (0 <= g.rate /\ g.rate <= 4096) /\ (1 <= g.score /\ g.score <= 4096) /\ (1 <= g.policy /\ g.policy <= 3)):=by unfold CfgOk CfgM CfgS CfgT CfgR; constructor <;> (intro; omega)
 refine ifd (fun a => ?_) fun a => letb rfl (f2 (fun k => a (un.1 k).1) h)
 refine ifd (fun b => ?_) fun b => letb rfl (f2 (fun k => b (un.1 k).2.1) h)
 refine ifd (fun d => ?_) fun d => letb rfl (f2 (fun k => d (un.1 k).2.2.1) h)
 refine h.rdI 11 ?_
 refine rwi_ok ?_
 (repeat apply exi)
 apply exr
 refine ifd (fun h0 => ?_) fun h0 => letb rfl (f2 (fun k => by have:=(un.1 k).2.2.2; omega) h)
 refine h.rdI 12 ?_
 refine rwi_ok ?_
 (repeat apply exi)
 apply exr
 refine ifd (fun h1 => ?_) fun h1 => letb rfl (f2 (fun k => by have:=(un.1 k).2.2.2; omega) h)
 refine h.rdI 13 ?_
 refine rwi_ok ?_
 (repeat apply exi)
 apply exr
 refine ifd (fun h2 => ?_) fun h2 => letb rfl (f2 (fun k => by have:=(un.1 k).2.2.2; omega) h)
 refine h.rdI 14 ?_
 refine rwi_ok ?_
 (repeat apply exi)
 apply exr
 exact letb (decide_eq_decide.2 (by rw [un]; exact ⟨fun e => ⟨a,b,d,by omega⟩,fun k => by have:=k.2.2.2; omega⟩)) (hk _ h.drop)
abbrev hcs (mal : Int) (g : Cfg) (k0 k1 n : Int) (pA : Option Addr) (pN pC r : Nat) : List Value:=[.int .i64 0,.int .i64 0,.int .i64 0,.int .i64 0,.int .i64 0,.int .i64 0,.int .i64 mal,.int .i64 0,.int .i64 0,.int .i64 0,.int .i64 g.ports,.int .i64 g.half,.int .i64 g.conns,.int .i64 g.flows,.int .i64 g.buffer,.int .i64 g.chunks,.int .i64 g.addrs,.int .i64 g.paths,.int .i64 g.mss,.int .i64 g.silence,.int .i64 g.keep,.int .i64 g.burst,.int .i64 g.rate,.int .i64 g.score,.int .i64 g.policy,.int .u64 k0,.int .u64 k1,.int .u64 n,.slice pA pN pC,.map (some r),.int .i64 1,.slice none 0 0]
end
end Go.Br
/- What the code of some functions says,as the core reads it; each reading is checked by the kernel. -/
set_option linter.unusedVariables false
set_option maxRecDepth 100000
namespace Go.Br
open Go Go.Proofs
def N41 (b : Option Addr) (bN bC : Nat) (w : World) (Q : QP) : Prop :=
 RUNA PG (Instr.alloc 118 true (.tuple #[])) w fun a2 w1 =>
 RUNL PG (Instr.buildSlice 64 6 #[(0,(.int .i64 2)),(1,(.int .i64 2)),(2,(.int .i64 4)),(3,(.int .i64 4)),(4,(.int .i64 1)),(5,(.int .i64 1))]) w1 fun x12 x12N x12C w2 =>
 CALL PG 80 [(.slice b bN bC),(.slice x12 x12N x12C)] w2 fun v w3 =>
 ∃ (x13 : Option Addr) (x13N x13C : Nat),∃ (x13v1 : Option Addr) (x13N1 x13C1 : Nat),∃ x13v2 : Bool,v = (.tuple #[(.slice x13 x13N x13C),(.slice x13v1 x13N1 x13C1),(.bool x13v2)]) /\
 (LETB x13v2 fun okv =>
 IFB (!okv)
 (RD PG (Instr.build 118 #[]) w3 fun v1 =>
 ∃ x25 : Int,∃ x25v1 : Int,∃ x25v2 : Int,∃ x25v3 : Int,∃ x25v4 : Int,∃ (x25v5 : Option Addr) (x25N x25C : Nat),∃ (x25v6 : Option Addr) (x25N1 x25C1 : Nat),v1 = (.agg #[(.int .u16 x25),(.int .u16 x25v1),(.int .u32 x25v2),(.int .u32 x25v3),(.int .u8 x25v4),(.slice x25v5 x25N x25C),(.slice x25v6 x25N1 x25C1)]) /\
 (RUNU PG (storeVar 118 a2 (.agg #[(.int .u16 x25),(.int .u16 x25v1),(.int .u32 x25v2),(.int .u32 x25v3),(.int .u8 x25v4),(.slice x25v5 x25N x25C),(.slice x25v6 x25N1 x25C1)])) w3 fun w4 =>
 RD PG (loadVar 118 a2) w4 fun v3 =>
 ∃ r : Int,∃ r1 : Int,∃ r2 : Int,∃ r3 : Int,∃ r4 : Int,∃ (r5 : Option Addr) (rN rC : Nat),∃ (r6 : Option Addr) (rN1 rC1 : Nat),v3 = (.agg #[(.int .u16 r),(.int .u16 r1),(.int .u32 r2),(.int .u32 r3),(.int .u8 r4),(.slice r5 rN rC),(.slice r6 rN1 rC1)]) /\
 (Q (.tuple #[(.agg #[(.int .u16 r),(.int .u16 r1),(.int .u32 r2),(.int .u32 r3),(.int .u8 r4),(.slice r5 rN rC),(.slice r6 rN1 rC1)]),(.int .i64 70)]) w4)))
 (IDX x13 x13N 4 fun a21 =>
 RDI PG (loadVar 25 (a21.add (Int.toNat 4 * 1))) .u64 w3 fun x22 =>
 IFB (decide (x22 > 7))
 (RD PG (Instr.build 118 #[]) w3 fun v4 =>
 ∃ x25v7 : Int,∃ x25v8 : Int,∃ x25v9 : Int,∃ x25v10 : Int,∃ x25v11 : Int,∃ (x25v12 : Option Addr) (x25N2 x25C2 : Nat),∃ (x25v13 : Option Addr) (x25N3 x25C3 : Nat),v4 = (.agg #[(.int .u16 x25v7),(.int .u16 x25v8),(.int .u32 x25v9),(.int .u32 x25v10),(.int .u8 x25v11),(.slice x25v12 x25N2 x25C2),(.slice x25v13 x25N3 x25C3)]) /\
 (RUNU PG (storeVar 118 a2 (.agg #[(.int .u16 x25v7),(.int .u16 x25v8),(.int .u32 x25v9),(.int .u32 x25v10),(.int .u8 x25v11),(.slice x25v12 x25N2 x25C2),(.slice x25v13 x25N3 x25C3)])) w3 fun w5 =>
 RD PG (loadVar 118 a2) w5 fun v6 =>
 ∃ r7 : Int,∃ r8 : Int,∃ r9 : Int,∃ r10 : Int,∃ r11 : Int,∃ (r12 : Option Addr) (rN2 rC2 : Nat),∃ (r13 : Option Addr) (rN3 rC3 : Nat),v6 = (.agg #[(.int .u16 r7),(.int .u16 r8),(.int .u32 r9),(.int .u32 r10),(.int .u8 r11),(.slice r12 rN2 rC2),(.slice r13 rN3 rC3)]) /\
 (Q (.tuple #[(.agg #[(.int .u16 r7),(.int .u16 r8),(.int .u32 r9),(.int .u32 r10),(.int .u8 r11),(.slice r12 rN2 rC2),(.slice r13 rN3 rC3)]),(.int .i64 70)]) w5)))
 (∃ S : World -> Prop,S (w3.drew) /\
 (IDX x13 x13N 0 fun a27 =>
 RDSI PG (loadVar 25 (a27.add (Int.toNat 0 * 1))) .u64 S fun x28 =>
 IDX x13 x13N 1 fun a31 =>
 RDSI PG (loadVar 25 (a31.add (Int.toNat 1 * 1))) .u64 S fun x32 =>
 IDX x13 x13N 2 fun a35 =>
 RDSI PG (loadVar 25 (a35.add (Int.toNat 2 * 1))) .u64 S fun x36 =>
 IDX x13 x13N 3 fun a39 =>
 RDSI PG (loadVar 25 (a39.add (Int.toNat 3 * 1))) .u64 S fun x40 =>
 IDX x13 x13N 4 fun a43 =>
 RDSI PG (loadVar 25 (a43.add (Int.toNat 4 * 1))) .u64 S fun x44 =>
 RDS PG (Instr.build 118 #[(0,(.int .u16 (IntKind.u16.wrap x28))),(1,(.int .u16 (IntKind.u16.wrap x32))),(2,(.int .u32 (IntKind.u32.wrap x36))),(3,(.int .u32 (IntKind.u32.wrap x40))),(4,(.int .u8 (IntKind.u8.wrap x44)))]) S fun v7 =>
 ∃ x46 : Int,∃ x46v1 : Int,∃ x46v2 : Int,∃ x46v3 : Int,∃ x46v4 : Int,∃ (x46v5 : Option Addr) (x46N x46C : Nat),∃ (x46v6 : Option Addr) (x46N1 x46C1 : Nat),v7 = (.agg #[(.int .u16 x46),(.int .u16 x46v1),(.int .u32 x46v2),(.int .u32 x46v3),(.int .u8 x46v4),(.slice x46v5 x46N x46C),(.slice x46v6 x46N1 x46C1)]) /\
 (RUNA PG (Instr.alloc 118 true (.tuple #[])) (w3.drew) fun a7 w6 =>
 ∃ S1 : World -> Prop,(∀ x,S1 x -> S x) /\ S1 w6 /\
 (RUNU PG (storeVar 118 a7 (.agg #[(.int .u16 x46),(.int .u16 x46v1),(.int .u32 x46v2),(.int .u32 x46v3),(.int .u8 x46v4),(.slice x46v5 x46N x46C),(.slice x46v6 x46N1 x46C1)])) w6 fun w7 =>
 IDX x13 x13N 5 fun a48 =>
 RDI PG (loadVar 25 (a48.add (Int.toNat 5 * 1))) .u64 w7 fun x49 =>
 LETI (IntKind.i64.wrap x49) fun n =>
 IFB (decide (n > 200))
 (RD PG (Instr.build 118 #[]) w7 fun v8 =>
 ∃ x59 : Int,∃ x59v1 : Int,∃ x59v2 : Int,∃ x59v3 : Int,∃ x59v4 : Int,∃ (x59v5 : Option Addr) (x59N x59C : Nat),∃ (x59v6 : Option Addr) (x59N1 x59C1 : Nat),v8 = (.agg #[(.int .u16 x59),(.int .u16 x59v1),(.int .u32 x59v2),(.int .u32 x59v3),(.int .u8 x59v4),(.slice x59v5 x59N x59C),(.slice x59v6 x59N1 x59C1)]) /\
 (RUNU PG (storeVar 118 a2 (.agg #[(.int .u16 x59),(.int .u16 x59v1),(.int .u32 x59v2),(.int .u32 x59v3),(.int .u8 x59v4),(.slice x59v5 x59N x59C),(.slice x59v6 x59N1 x59C1)])) w7 fun w8 =>
 RD PG (loadVar 118 a2) w8 fun v10 =>
 ∃ r14 : Int,∃ r15 : Int,∃ r16 : Int,∃ r17 : Int,∃ r18 : Int,∃ (r19 : Option Addr) (rN4 rC4 : Nat),∃ (r20 : Option Addr) (rN5 rC5 : Nat),v10 = (.agg #[(.int .u16 r14),(.int .u16 r15),(.int .u32 r16),(.int .u32 r17),(.int .u8 r18),(.slice r19 rN4 rC4),(.slice r20 rN5 rC5)]) /\
 (Q (.tuple #[(.agg #[(.int .u16 r14),(.int .u16 r15),(.int .u32 r16),(.int .u32 r17),(.int .u8 r18),(.slice r19 rN4 rC4),(.slice r20 rN5 rC5)]),(.int .i64 71)]) w8)))
 (IFB (decide (n > (x13N1 : Int)))
 (RD PG (Instr.build 118 #[]) w7 fun v11 =>
 ∃ x59v7 : Int,∃ x59v8 : Int,∃ x59v9 : Int,∃ x59v10 : Int,∃ x59v11 : Int,∃ (x59v12 : Option Addr) (x59N2 x59C2 : Nat),∃ (x59v13 : Option Addr) (x59N3 x59C3 : Nat),v11 = (.agg #[(.int .u16 x59v7),(.int .u16 x59v8),(.int .u32 x59v9),(.int .u32 x59v10),(.int .u8 x59v11),(.slice x59v12 x59N2 x59C2),(.slice x59v13 x59N3 x59C3)]) /\
 (RUNU PG (storeVar 118 a2 (.agg #[(.int .u16 x59v7),(.int .u16 x59v8),(.int .u32 x59v9),(.int .u32 x59v10),(.int .u8 x59v11),(.slice x59v12 x59N2 x59C2),(.slice x59v13 x59N3 x59C3)])) w7 fun w9 =>
 RD PG (loadVar 118 a2) w9 fun v13 =>
 ∃ r21 : Int,∃ r22 : Int,∃ r23 : Int,∃ r24 : Int,∃ r25 : Int,∃ (r26 : Option Addr) (rN6 rC6 : Nat),∃ (r27 : Option Addr) (rN7 rC7 : Nat),v13 = (.agg #[(.int .u16 r21),(.int .u16 r22),(.int .u32 r23),(.int .u32 r24),(.int .u8 r25),(.slice r26 rN6 rC6),(.slice r27 rN7 rC7)]) /\
 (Q (.tuple #[(.agg #[(.int .u16 r21),(.int .u16 r22),(.int .u32 r23),(.int .u32 r24),(.int .u8 r25),(.slice r26 rN6 rC6),(.slice r27 rN7 rC7)]),(.int .i64 71)]) w9)))
 (RDL PG (Instr.sliceAt 41 (.slice x13v1 x13N1 x13C1) none (some (.int .i64 n)) (some (.int .i64 n))) w7 fun x64 x64N x64C =>
 CALL PG 81 [(.slice x64 x64N x64C)] w7 fun v14 w10 =>
 ∃ (x65 : Option Addr) (x65N x65C : Nat),∃ x65v1 : Bool,v14 = (.tuple #[(.slice x65 x65N x65C),(.bool x65v1)]) /\
 (LETB x65v1 fun okv1 =>
 IFB (!okv1)
 (RD PG (Instr.build 118 #[]) w10 fun v15 =>
 ∃ x70 : Int,∃ x70v1 : Int,∃ x70v2 : Int,∃ x70v3 : Int,∃ x70v4 : Int,∃ (x70v5 : Option Addr) (x70N x70C : Nat),∃ (x70v6 : Option Addr) (x70N1 x70C1 : Nat),v15 = (.agg #[(.int .u16 x70),(.int .u16 x70v1),(.int .u32 x70v2),(.int .u32 x70v3),(.int .u8 x70v4),(.slice x70v5 x70N x70C),(.slice x70v6 x70N1 x70C1)]) /\
 (RUNU PG (storeVar 118 a2 (.agg #[(.int .u16 x70),(.int .u16 x70v1),(.int .u32 x70v2),(.int .u32 x70v3),(.int .u8 x70v4),(.slice x70v5 x70N x70C),(.slice x70v6 x70N1 x70C1)])) w10 fun w11 =>
 RD PG (loadVar 118 a2) w11 fun v17 =>
 ∃ r28 : Int,∃ r29 : Int,∃ r30 : Int,∃ r31 : Int,∃ r32 : Int,∃ (r33 : Option Addr) (rN8 rC8 : Nat),∃ (r34 : Option Addr) (rN9 rC9 : Nat),v17 = (.agg #[(.int .u16 r28),(.int .u16 r29),(.int .u32 r30),(.int .u32 r31),(.int .u8 r32),(.slice r33 rN8 rC8),(.slice r34 rN9 rC9)]) /\
 (Q (.tuple #[(.agg #[(.int .u16 r28),(.int .u16 r29),(.int .u32 r30),(.int .u32 r31),(.int .u8 r32),(.slice r33 rN8 rC8),(.slice r34 rN9 rC9)]),(.int .i64 71)]) w11)))
 (IFB (decide ((IntKind.i64.wrap ((x13N1 : Int) - n)) > 1024))
 (RD PG (Instr.build 118 #[]) w10 fun v18 =>
 ∃ x76 : Int,∃ x76v1 : Int,∃ x76v2 : Int,∃ x76v3 : Int,∃ x76v4 : Int,∃ (x76v5 : Option Addr) (x76N x76C : Nat),∃ (x76v6 : Option Addr) (x76N1 x76C1 : Nat),v18 = (.agg #[(.int .u16 x76),(.int .u16 x76v1),(.int .u32 x76v2),(.int .u32 x76v3),(.int .u8 x76v4),(.slice x76v5 x76N x76C),(.slice x76v6 x76N1 x76C1)]) /\
 (RUNU PG (storeVar 118 a2 (.agg #[(.int .u16 x76),(.int .u16 x76v1),(.int .u32 x76v2),(.int .u32 x76v3),(.int .u8 x76v4),(.slice x76v5 x76N x76C),(.slice x76v6 x76N1 x76C1)])) w10 fun w12 =>
 RD PG (loadVar 118 a2) w12 fun v20 =>
 ∃ r35 : Int,∃ r36 : Int,∃ r37 : Int,∃ r38 : Int,∃ r39 : Int,∃ (r40 : Option Addr) (rN10 rC10 : Nat),∃ (r41 : Option Addr) (rN11 rC11 : Nat),v20 = (.agg #[(.int .u16 r35),(.int .u16 r36),(.int .u32 r37),(.int .u32 r38),(.int .u8 r39),(.slice r40 rN10 rC10),(.slice r41 rN11 rC11)]) /\
 (Q (.tuple #[(.agg #[(.int .u16 r35),(.int .u16 r36),(.int .u32 r37),(.int .u32 r38),(.int .u8 r39),(.slice r40 rN10 rC10),(.slice r41 rN11 rC11)]),(.int .i64 72)]) w12)))
 (NEED (0 <= n /\ n <= ((x13N1 : Nat) : Int) /\ ((x13N1 : Nat) : Int) <= ((x13C1 : Nat) : Int))
 (RUNL PG (Builtin.append_ #[41,41] 41 #[(.slice none 0 0),(.slice (cutA x13v1 x13C1 1 n) (Int.toNat ((x13N1 : Nat) : Int) - Int.toNat n) (x13C1 - Int.toNat n))]) w10 fun x81 x81N x81C w13 =>
 RUNU PG (storeVar 116 (a7.add 5) (.slice x65 x65N x65C)) w13 fun w14 =>
 RUNU PG (storeVar 41 (a7.add 6) (.slice x81 x81N x81C)) w14 fun w15 =>
 RD PG (loadVar 118 a7) w15 fun v21 =>
 ∃ x84 : Int,∃ x84v1 : Int,∃ x84v2 : Int,∃ x84v3 : Int,∃ x84v4 : Int,∃ (x84v5 : Option Addr) (x84N x84C : Nat),∃ (x84v6 : Option Addr) (x84N1 x84C1 : Nat),v21 = (.agg #[(.int .u16 x84),(.int .u16 x84v1),(.int .u32 x84v2),(.int .u32 x84v3),(.int .u8 x84v4),(.slice x84v5 x84N x84C),(.slice x84v6 x84N1 x84C1)]) /\
 (RUNU PG (storeVar 118 a2 (.agg #[(.int .u16 x84),(.int .u16 x84v1),(.int .u32 x84v2),(.int .u32 x84v3),(.int .u8 x84v4),(.slice x84v5 x84N x84C),(.slice x84v6 x84N1 x84C1)])) w15 fun w16 =>
 RD PG (loadVar 118 a2) w16 fun v23 =>
 ∃ r42 : Int,∃ r43 : Int,∃ r44 : Int,∃ r45 : Int,∃ r46 : Int,∃ (r47 : Option Addr) (rN12 rC12 : Nat),∃ (r48 : Option Addr) (rN13 rC13 : Nat),v23 = (.agg #[(.int .u16 r42),(.int .u16 r43),(.int .u32 r44),(.int .u32 r45),(.int .u8 r46),(.slice r47 rN12 rC12),(.slice r48 rN13 rC13)]) /\
 (Q (.tuple #[(.agg #[(.int .u16 r42),(.int .u16 r43),(.int .u32 r44),(.int .u32 r45),(.int .u8 r46),(.slice r47 rN12 rC12),(.slice r48 rN13 rC13)]),(.int .i64 0)]) w16))))))))))))))
theorem call41 {b : Option Addr} {bN bC : Nat} {w : World} {Q : QP} (h_ : N41 b bN bC w Q) : CALL PG 41 [(.slice b bN bC)] w Q:=calls_vq .nil tabOk Tryz.func41 (by kernel_rfl) h_
def N80 (b : Option Addr) (bN bC : Nat) (sizes : Option Addr) (sizesN sizesC : Nat) (w : World) (Q : QP) : Prop :=
 ∃ I : Nat -> Option Addr -> Nat -> Nat -> Option Addr -> Nat -> Nat -> Int -> World -> Prop,
 (∃ m,I m b bN bC none 0 0 0 w) /\
 (∀ m1 (b1 : Option Addr) (bN1 bC1 : Nat) (out : Option Addr) (outN outC : Nat) (x15 : Int) (w1 : World),I m1 b1 bN1 bC1 out outN outC x15 w1 -> (IFB (decide (x15 < (sizesN : Int)))
 (IDX sizes sizesN x15 fun a17 =>
 RDI PG (loadVar 3 (a17.add (Int.toNat x15 * 1))) .i64 w1 fun x18 =>
 LETI x18 fun n =>
 IFB (decide (n < 1))
 (Q (.tuple #[(.slice none 0 0),(.slice none 0 0),(.bool false)]) w1)
 (IFB (decide (n > 8))
 (Q (.tuple #[(.slice none 0 0),(.slice none 0 0),(.bool false)]) w1)
 (IFB (decide (n > (bN1 : Int)))
 (Q (.tuple #[(.slice none 0 0),(.slice none 0 0),(.bool false)]) w1)
 (NEED (0 <= (0 : Int) /\ (0 : Int) <= n /\ n <= ((bC1 : Nat) : Int))
 (∃ I1 : Nat -> Int -> Int -> World -> Prop,
 (∃ m2,I1 m2 0 0 w1) /\
 (∀ m3 (x : Int) (x35 : Int) (w2 : World),I1 m3 x x35 w2 -> (IFB (decide (x35 < (((Int.toNat n - Int.toNat 0) : Nat) : Int)))
 (IDX (cutA b1 bC1 1 0) (Int.toNat n - Int.toNat 0) x35 fun a37 =>
 RDI PG (loadVar 5 (a37.add (Int.toNat x35 * 1))) .u8 w2 fun x38 =>
 LETI x38 fun c =>
 NEED (0 <= (8 : Int))
 (LETI (IntKind.u64.wrap (BitVec.ofInt (IntKind.u64.bits) (shlN .u64 x 8) ||| BitVec.ofInt (IntKind.u64.bits) (IntKind.u64.wrap c)).toNat) fun x1 =>
 ∃ m4,m4 < m3 /\ I1 m4 x1 (IntKind.i64.wrap (x35 + 1)) w2))
 (RUNL PG (Instr.buildSlice 175 1 #[(0,(.int .u64 x))]) w2 fun x47 x47N x47C w3 =>
 RUNL PG (Builtin.append_ #[175,175] 175 #[(.slice out outN outC),(.slice x47 x47N x47C)]) w3 fun x48 x48N x48C w4 =>
 NEED (0 <= n /\ n <= ((bN1 : Nat) : Int) /\ ((bN1 : Nat) : Int) <= ((bC1 : Nat) : Int))
 (∃ m5,m5 < m1 /\ I m5 (cutA b1 bC1 1 n) (Int.toNat ((bN1 : Nat) : Int) - Int.toNat n) (bC1 - Int.toNat n) x48 x48N x48C (IntKind.i64.wrap (x15 + 1)) w4)))))))))
 (RUNL PG (Builtin.append_ #[41,41] 41 #[(.slice none 0 0),(.slice b1 bN1 bC1)]) w1 fun x55 x55N x55C w5 =>
 Q (.tuple #[(.slice out outN outC),(.slice x55 x55N x55C),(.bool true)]) w5)))
theorem call80 {b : Option Addr} {bN bC : Nat} {sizes : Option Addr} {sizesN sizesC : Nat} {w : World} {Q : QP} (h_ : N80 b bN bC sizes sizesN sizesC w Q) : CALL PG 80 [(.slice b bN bC),(.slice sizes sizesN sizesC)] w Q:=calls_vq (.s .nil (.s .nil (.s (.s .nil (.u (.loop [(0,41),(7,175),(15,3)] (.s .nil (.s .nil (.s (.u (.s .nil (.s .nil (.s .nil (.s (.s .nil (.u (.loop [(10,25),(35,3)] .nil))) .nil))))) .nil)))))) .nil))) tabOk Tryz.func80 (by kernel_rfl) h_
end Go.Br
/- A host: who listens,and bytes that are none; the law of configurations. -/
set_option linter.unusedVariables false
set_option linter.unusedSimpArgs false
set_option linter.unnecessarySimpa false
namespace Go.Br
open Go
instance biHostLawa : Bld PG (Instr.build 118 #[]) (.agg #[.int .u16 0,.int .u16 0,.int .u32 0,.int .u32 0,.int .u8 0,.slice none 0 0,.slice none 0 0]):=⟨fun w => by kernel_rfl⟩
instance biHostLawb (x0 : Int) (x1 : Int) (x2 : Int) (x3 : Int) (x4 : Int) : Bld PG (Instr.build 118 #[(0,.int .u16 x0),(1,.int .u16 x1),(2,.int .u32 x2),(3,.int .u32 x3),(4,.int .u8 x4)]) (.agg #[.int .u16 x0,.int .u16 x1,.int .u32 x2,.int .u32 x3,.int .u8 x4,.slice none 0 0,.slice none 0 0]):=⟨fun w => by kernel_rfl⟩
attribute [local irreducible] Addr.add RD RDS RUN RUNU NILC LETB CALL CALLX CALLV
section
variable {c : Ctx} {w : World} {L R : List SA} {mal : Int} {g : Cfg} {k0 k1 n : Int} {p r : Nat}
end
end Go.Br
