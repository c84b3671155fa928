/- HandsP, HandsG, HandsA -/
import Derived.Test.YtmglifmopjedbaaGreatConnTake
import Derived.Test.YtmglifmopjedbaaGreatHostInfo
import Derived.Test.YtmglifmopjedbaaGreatJArrEq
import Derived.Test.YtmglifmopjedbaaGreatBrSeat
import Derived.Test.YtmglifmopjedbaaGreatJConnAsk2
/- A connection's parts as pieces: a new one's,and what Info sees of one. -/
set_option linter.unusedVariables false
set_option linter.unusedSimpArgs false
set_option linter.unnecessarySimpa false
namespace Go.Br
open Go
attribute [local irreducible] Addr.add RD RDS RUN RUNU NILC LETB CALL CALLX CALLV
section
variable {c : Ctx} {w : World} {L R : List SA}
theorem toRng {r D N : Nat} (h : St c w (blk r 157 [.slice (some ⟨D,0,none⟩) N N,.int .i64 0,.int .i64 0] :: blk D 5 (zeros [.int .u8 0] N) :: R)) (h1 : 1 <= N) (h2 : N <= 65536) : St c w (rng r D (List.replicate N 0) 0 :: R):=by
 refine h.join.enth fun F G w h => ?_
 rw [sep_p] at h
 obtain ⟨F1,G1,F2,G2,rfl,rfl,hA,hB,hd,_⟩:=h
 rw [blk_p] at hA hB
 obtain ⟨rfl,rfl,hA⟩:=hA
 obtain ⟨rfl,rfl,hB⟩:=hB
 have hne : r ≠ D:=fun e => (hd r (by simp)).1 (by simp [e])
 have hB : Blk w D 5 (zeros (Value.int .u8 0).cells.toList N):=hB
 rw [zeros_u8] at hB
 have hR : RingAt w r D (List.replicate N 0) 0 0:=⟨by rw [List.length_replicate]; exact hA,hB,hne,by rw [List.length_replicate]; omega,by rw [List.length_replicate]; omega,by rw [List.length_replicate]; omega,by rw [List.length_replicate]; omega⟩
 have:=hR.isR
 rw [show rot (List.replicate N (0 : UInt8)) 0 = List.replicate N 0 by simp [rot]] at this
 exact ⟨[r,D],[],this,by simp,by simp⟩
theorem fromRng {r D n : Nat} {v : List UInt8} (h : St c w (rng r D v n :: R)) : ∃ (bs : List UInt8) (a : Nat),v = rot bs a /\ a < bs.length /\ St c w (blk r 157 [.slice (some ⟨D,0,none⟩) bs.length bs.length,.int .i64 (a : Int),.int .i64 (n : Int)] :: blk D 5 (bvs bs) :: R):=by
 obtain ⟨bs,a,hr,hv⟩:=(h.held .head).1
 refine ⟨bs,a,hv,hr.ha,?_⟩
 obtain ⟨F,G,h1,h2⟩:=h.open
 unfold rng at h1
 rw [held_p] at h1
 obtain ⟨rfl,rfl,hlt,_⟩:=h1
 have hs : (Br.sep (blk r 157 [.slice (some ⟨D,0,none⟩) bs.length bs.length,.int .i64 (a : Int),.int .i64 (n : Int)]) (blk D 5 (bvs bs))).p ([r] ++ [D]) ([] ++ []) w:=sep_p.2 ⟨_,_,_,_,rfl,rfl,blk_p.2 ⟨rfl,rfl,hr.hp⟩,blk_p.2 ⟨rfl,rfl,hr.hD⟩,(fun i hi => by simp at hi; subst hi; simp [hr.ne]),by simp⟩
 exact (h2 ((Kp.refl w).mono (by simp)) hs (fun i hi => .inl (by simpa using hi)) (by simp)).split
abbrev rawP (g : Cfg) (n : Nms) (X : Cn) (F : Fw) (ps : List Pkt) (fA : Option Addr) (fC : Nat) (path : Int) (L : List SA) : List SA :=
 blk n.x 67 (cnc X) :: own 115 2 X.post X.postN X.postC (ps.flatMap pkc) :: bodP ps :: blk n.f 111 (fwc F) :: own 99 1 fA 1 fC [.pointer (some ⟨n.f,0,none⟩)] :: fwP g n.a n.b n.e (cnP g n.m n.o n.r n.bb n.i n.s n.r2 n.b2 n.y n.ad n.bk (own 3 1 (some ⟨n.m,0,none⟩) 1 1 [.int .i64 path] :: L))
abbrev restP (g : Cfg) (n : Nms) (fA : Option Addr) (fC : Nat) (path : Int) (L : List SA) : List SA :=
 own 99 1 fA 1 fC [.pointer (some ⟨n.f,0,none⟩)] :: blk n.e 198 (bkc g.burst g.rate g.burst) :: blk n.a 218 [.int .i64 g.mss,.int .i64 (4 * g.mss),.int .i64 (64 * g.mss),.int .i64 0,.int .i64 0] ::
 blk n.ad 149 [.pointer (some ⟨n.bk,0,none⟩),.int .i64 g.addrs,.int .i64 g.paths,.slice none 0 0] :: blk n.bk 198 (bkc 64 1 64) :: own 3 1 (some ⟨n.m,0,none⟩) 1 1 [.int .i64 path] :: L
def zb (g : Cfg) : List UInt8:=List.replicate g.buffer.toNat 0
abbrev stP (g : Cfg) (n : Nms) (X : Cn) (F : Fw) (ps : List Pkt) (qn : Int) (fA : Option Addr) (fC : Nat) (path : Int) (L : List SA) : List SA :=
 blk n.x 67 (cnc X) :: blk n.f 111 (fwc F) :: own 115 2 X.post X.postN X.postC (ps.flatMap pkc) :: bodP ps :: blk n.b 220 [.int .i64 qn,.int .i64 g.score,.int .i64 0] ::
 il n.i n.r2 n.b2 n.s 0 0 false (zb g) 0 g.chunks [] (otP n.o n.r n.bb 0 false false (zb g) 0 (wyP n.y g.chunks none 0 [] (restP g n fA fC path L)))
theorem stP_of {g : Cfg} {n : Nms} {X : Cn} {F : Fw} {ps : List Pkt} {fA : Option Addr} {fC : Nat} {path : Int} (hg : CfgOk g) (h : St c w (rawP g n X F ps fA fC path L)) : St c w (stP g n X F ps 0 fA fC path L):=by
 have hb1 : 1 <= g.buffer:=hg.2.1.1.1
 have hb2 : g.buffer <= 4096:=hg.2.1.1.2
 have h:=h.sub (show Sub _ (blk n.r2 157 [.slice (some ⟨n.b2,0,none⟩) g.buffer.toNat g.buffer.toNat,.int .i64 0,.int .i64 0] :: blk n.b2 5 (zeros [.int .u8 0] g.buffer.toNat) :: _) from (.cons (.tail (.tail (.tail (.tail (.tail (.tail (.tail (.tail (.tail (.tail (.tail (.tail (.tail .head))))))))))))) (.cons (.tail (.tail (.tail (.tail (.tail (.tail (.tail (.tail (.tail (.tail (.tail (.tail (.tail .head))))))))))))) (.cons .head (.cons .head (.cons .head (.cons .head (.cons .head (.cons .head (.cons .head (.cons .head (.cons .head (.cons .head (.cons .head (.cons .head (.cons .head (.cons .head (.cons .head (.cons .head (.cons .head ((Sub.same _))))))))))))))))))))))
 have h:=toRng h (by omega) (by omega)
 have h:=h.sub (show Sub _ (blk n.r 157 [.slice (some ⟨n.bb,0,none⟩) g.buffer.toNat g.buffer.toNat,.int .i64 0,.int .i64 0] :: blk n.bb 5 (zeros [.int .u8 0] g.buffer.toNat) :: _) from (.cons (.tail (.tail (.tail (.tail (.tail (.tail (.tail (.tail (.tail (.tail (.tail (.tail (.tail (.tail (.tail .head))))))))))))))) (.cons (.tail (.tail (.tail (.tail (.tail (.tail (.tail (.tail (.tail (.tail (.tail (.tail (.tail (.tail (.tail .head))))))))))))))) (.cons .head (.cons .head (.cons .head (.cons .head (.cons .head (.cons .head (.cons .head (.cons .head (.cons .head (.cons .head (.cons .head (.cons .head (.cons .head (.cons .head (.cons .head (.cons .head ((Sub.same _)))))))))))))))))))))
 have h:=toRng h (by omega) (by omega)
 have h:=h.addOwnNil 298 2
 have h:=h.sub (show Sub _ (blk n.s 262 [.int .i64 g.chunks,.slice none 0 0] :: own 298 2 none 0 0 [] :: _) from (.cons (.tail (.tail (.tail (.tail (.tail (.tail (.tail (.tail (.tail (.tail (.tail (.tail (.tail (.tail (.tail .head))))))))))))))) (.cons .head (.cons .head (.cons .head (.cons .head (.cons .head (.cons .head (.cons .head (.cons .head (.cons .head (.cons .head (.cons .head (.cons .head (.cons .head (.cons .head (.cons .head (.cons .head (.cons .head ((Sub.same _)))))))))))))))))))))
 have h:=St.setC (S:=[]) h
 have h:=h.addOwnNil 202 9
 exact h.sub (.cons (.tail (.tail (.tail (.tail .head)))) (.cons (.tail (.tail (.tail (.tail (.tail (.tail .head)))))) (.cons (.tail (.tail (.tail (.tail .head)))) (.cons (.tail (.tail (.tail (.tail .head)))) (.cons (.tail (.tail (.tail (.tail (.tail (.tail .head)))))) (.cons (.tail (.tail (.tail (.tail (.tail (.tail (.tail (.tail (.tail (.tail .head)))))))))) (.cons (.tail (.tail (.tail .head))) (.cons (.tail .head) (.cons (.tail (.tail (.tail (.tail (.tail (.tail (.tail (.tail .head)))))))) (.cons (.tail .head) (.cons (.tail (.tail (.tail (.tail (.tail (.tail .head)))))) (.cons .head (.cons .head (.cons .head (.cons .head (.cons .head (.cons .head (.cons .head ((Sub.same _))))))))))))))))))))
end
end Go.Br
/- What the code of some functions says,as the core reads it; each reading is checked by the kernel. -/
set_option linter.unusedVariables false
set_option maxRecDepth 100000
namespace Go.Br
open Go Go.Proofs
def N15 (t : Option Addr) (w : World) (Q : QP) : Prop :=
 NILC t fun a6 =>
 RDP PG (loadVar 34 (a6.add 0)) w fun x8 =>
 CALL PG 40 [(.pointer x8)] w fun v w1 =>
 ∃ (x9 : Option Addr) (x9N x9C : Nat),v = (.slice x9 x9N x9C) /\
 (∃ I : Nat -> Int -> World -> Prop,
 (∃ m,I m 0 w1) /\
 (∀ m1 (i : Int) (w2 : World),I m1 i w2 -> (IFB (decide (i < (x9N : Int)))
 (∃ S : World -> Prop,S (w2.drew) /\
 (NILC t fun a18 =>
 RDSL PG (loadVar 36 (a18.add 24)) S fun x20 x20N x20C =>
 IDX x9 x9N i fun a23 =>
 RDSI PG (loadVar 3 (Addr.add (a23.add (Int.toNat i * 2)) 0)) .i64 S fun x25 =>
 IDX x9 x9N i fun a28 =>
 RDSL PG (loadVar 41 (Addr.add (a28.add (Int.toNat i * 2)) 1)) S fun x30 x30N x30C =>
 RDS PG (Instr.build 79 #[(0,(.int .i64 1)),(1,(.int .i64 x25)),(2,(.slice x30 x30N x30C))]) S fun v1 =>
 ∃ x31 : Int,∃ x31v1 : Int,∃ (x31v2 : Option Addr) (x31N x31C : Nat),v1 = (.agg #[(.int .i64 x31),(.int .i64 x31v1),(.slice x31v2 x31N x31C)]) /\
 (RUNL PG (Instr.buildSlice 36 1 #[(0,(.agg #[(.int .i64 x31),(.int .i64 x31v1),(.slice x31v2 x31N x31C)]))]) (w2.drew) fun x32 x32N x32C w3 =>
 ∃ S1 : World -> Prop,(∀ x,S1 x -> S x) /\ S1 w3 /\
 (RUNL PG (Builtin.append_ #[36,36] 36 #[(.slice x20 x20N x20C),(.slice x32 x32N x32C)]) w3 fun x33 x33N x33C w4 =>
 NILC t fun a34 =>
 RUNU PG (storeVar 36 (a34.add 24) (.slice x33 x33N x33C)) w4 fun w5 =>
 ∃ S2 : World -> Prop,S2 (w5.drew) /\
 (NILC t fun a38 =>
 RDSL PG (loadVar 36 (a38.add 25)) S2 fun x40 x40N x40C =>
 IDX x9 x9N i fun a43 =>
 RDSI PG (loadVar 3 (Addr.add (a43.add (Int.toNat i * 2)) 0)) .i64 S2 fun x45 =>
 IDX x9 x9N i fun a48 =>
 RDSL PG (loadVar 41 (Addr.add (a48.add (Int.toNat i * 2)) 1)) S2 fun x50 x50N x50C =>
 RDS PG (Instr.build 79 #[(0,(.int .i64 1)),(1,(.int .i64 x45)),(2,(.slice x50 x50N x50C))]) S2 fun v2 =>
 ∃ x51 : Int,∃ x51v1 : Int,∃ (x51v2 : Option Addr) (x51N x51C : Nat),v2 = (.agg #[(.int .i64 x51),(.int .i64 x51v1),(.slice x51v2 x51N x51C)]) /\
 (RUNL PG (Instr.buildSlice 36 1 #[(0,(.agg #[(.int .i64 x51),(.int .i64 x51v1),(.slice x51v2 x51N x51C)]))]) (w5.drew) fun x52 x52N x52C w6 =>
 ∃ S3 : World -> Prop,(∀ x,S3 x -> S2 x) /\ S3 w6 /\
 (RUNL PG (Builtin.append_ #[36,36] 36 #[(.slice x40 x40N x40C),(.slice x52 x52N x52C)]) w6 fun x53 x53N x53C w7 =>
 NILC t fun a54 =>
 RUNU PG (storeVar 36 (a54.add 25) (.slice x53 x53N x53C)) w7 fun w8 =>
 LETI (IntKind.i64.wrap (i + 1)) fun i1 =>
 ∃ m2,m2 < m1 /\ I m2 i1 w8)))))))
 (NILC t fun a57 =>
 RDP PG (loadVar 34 (a57.add 1)) w2 fun x59 =>
 IFB (x59.isNone)
 (Q (.tuple #[]) w2)
 (NILC t fun a62 =>
 RDP PG (loadVar 34 (a62.add 1)) w2 fun x64 =>
 CALL PG 40 [(.pointer x64)] w2 fun v3 w9 =>
 ∃ (x65 : Option Addr) (x65N x65C : Nat),v3 = (.slice x65 x65N x65C) /\
 (∃ I1 : Nat -> Int -> World -> Prop,
 (∃ m3,I1 m3 0 w9) /\
 (∀ m4 (i2 : Int) (w10 : World),I1 m4 i2 w10 -> (IFB (decide (i2 < (x65N : Int)))
 (∃ S4 : World -> Prop,S4 (w10.drew) /\
 (NILC t fun a74 =>
 RDSL PG (loadVar 36 (a74.add 24)) S4 fun x76 x76N x76C =>
 IDX x65 x65N i2 fun a79 =>
 RDSI PG (loadVar 3 (Addr.add (a79.add (Int.toNat i2 * 2)) 0)) .i64 S4 fun x81 =>
 IDX x65 x65N i2 fun a84 =>
 RDSL PG (loadVar 41 (Addr.add (a84.add (Int.toNat i2 * 2)) 1)) S4 fun x86 x86N x86C =>
 RDS PG (Instr.build 79 #[(0,(.int .i64 0)),(1,(.int .i64 x81)),(2,(.slice x86 x86N x86C))]) S4 fun v4 =>
 ∃ x87 : Int,∃ x87v1 : Int,∃ (x87v2 : Option Addr) (x87N x87C : Nat),v4 = (.agg #[(.int .i64 x87),(.int .i64 x87v1),(.slice x87v2 x87N x87C)]) /\
 (RUNL PG (Instr.buildSlice 36 1 #[(0,(.agg #[(.int .i64 x87),(.int .i64 x87v1),(.slice x87v2 x87N x87C)]))]) (w10.drew) fun x88 x88N x88C w11 =>
 ∃ S5 : World -> Prop,(∀ x,S5 x -> S4 x) /\ S5 w11 /\
 (RUNL PG (Builtin.append_ #[36,36] 36 #[(.slice x76 x76N x76C),(.slice x88 x88N x88C)]) w11 fun x89 x89N x89C w12 =>
 NILC t fun a90 =>
 RUNU PG (storeVar 36 (a90.add 24) (.slice x89 x89N x89C)) w12 fun w13 =>
 ∃ S6 : World -> Prop,S6 (w13.drew) /\
 (NILC t fun a94 =>
 RDSL PG (loadVar 36 (a94.add 25)) S6 fun x96 x96N x96C =>
 IDX x65 x65N i2 fun a99 =>
 RDSI PG (loadVar 3 (Addr.add (a99.add (Int.toNat i2 * 2)) 0)) .i64 S6 fun x101 =>
 IDX x65 x65N i2 fun a104 =>
 RDSL PG (loadVar 41 (Addr.add (a104.add (Int.toNat i2 * 2)) 1)) S6 fun x106 x106N x106C =>
 RDS PG (Instr.build 79 #[(0,(.int .i64 0)),(1,(.int .i64 x101)),(2,(.slice x106 x106N x106C))]) S6 fun v5 =>
 ∃ x107 : Int,∃ x107v1 : Int,∃ (x107v2 : Option Addr) (x107N x107C : Nat),v5 = (.agg #[(.int .i64 x107),(.int .i64 x107v1),(.slice x107v2 x107N x107C)]) /\
 (RUNL PG (Instr.buildSlice 36 1 #[(0,(.agg #[(.int .i64 x107),(.int .i64 x107v1),(.slice x107v2 x107N x107C)]))]) (w13.drew) fun x108 x108N x108C w14 =>
 ∃ S7 : World -> Prop,(∀ x,S7 x -> S6 x) /\ S7 w14 /\
 (RUNL PG (Builtin.append_ #[36,36] 36 #[(.slice x96 x96N x96C),(.slice x108 x108N x108C)]) w14 fun x109 x109N x109C w15 =>
 NILC t fun a110 =>
 RUNU PG (storeVar 36 (a110.add 25) (.slice x109 x109N x109C)) w15 fun w16 =>
 LETI (IntKind.i64.wrap (i2 + 1)) fun i3 =>
 ∃ m5,m5 < m4 /\ I1 m5 i3 w16)))))))
 (Q (.tuple #[]) w10)))))))))
theorem call15 {t : Option Addr} {w : World} {Q : QP} (h_ : N15 t w Q) : CALL PG 15 [(.pointer t)] w Q:=calls_vq (.s .nil (.s (.s .nil (.u (.loop [(3,3)] .nil))) (.s .nil (.s .nil (.s .nil (.u (.loop [(4,3)] .nil))))))) tabOk Tryz.func15 (by kernel_rfl) h_
end Go.Br
/- What both ends send is under way. -/
set_option linter.unusedVariables false
set_option linter.unusedSimpArgs false
set_option linter.unnecessarySimpa false
namespace Go.Br
open Go
instance biHandsGa (x0 : Int) (x1 : Int) (x2 : Option Addr) (n2 c2 : Nat) : Bld PG (Instr.build 79 #[(0,.int .i64 x0),(1,.int .i64 x1),(2,.slice x2 n2 c2)]) (.agg #[.int .i64 x0,.int .i64 x1,.slice x2 n2 c2]):=⟨fun w => by kernel_rfl⟩
attribute [local irreducible] Addr.add RD RDS RUN RUNU NILC LETB CALL CALLX CALLV
structure Fl22 where
 to : Int
 path : Int
 b : Option Addr
 bC : Nat
 bs : List UInt8
def flyc (x : Fl22) : List Value:=[.int .i64 x.to,.int .i64 x.path,.slice x.b x.bs.length x.bC]
abbrev flycv (x : Fl22) : Value:=.agg #[.int .i64 x.to,.int .i64 x.path,.slice x.b x.bs.length x.bC]
theorem flyc_flat1 (x : Fl22) : Flat (flyc x):=by intro v hv; simp [flyc] at hv; rcases hv with rfl | rfl | rfl <;> rfl
structure Tw where
 a : Option Addr
 b : Option Addr
 setPorts : Int
 setHalf : Int
 setConns : Int
 setFlows : Int
 setBuffer : Int
 setChunks : Int
 setAddrs : Int
 setPaths : Int
 setMss : Int
 setSilence : Int
 setKeep : Int
 setBurst : Int
 setRate : Int
 setScore : Int
 setPolicy : Int
 xKeyA : Int
 xKeyB : Int
 xA : Int
 xB : Int
 xSeedK0 : Int
 xSeedK1 : Int
 src : Option Addr
 way : Option Addr
 wayN : Nat
 wayC : Nat
 ledger : Option Addr
 ledgerN : Nat
 ledgerC : Nat
 forged : Bool
def twc (x : Tw) : List Value:=[.pointer x.a,.pointer x.b,.int .i64 x.setPorts,.int .i64 x.setHalf,.int .i64 x.setConns,.int .i64 x.setFlows,.int .i64 x.setBuffer,.int .i64 x.setChunks,.int .i64 x.setAddrs,.int .i64 x.setPaths,.int .i64 x.setMss,.int .i64 x.setSilence,.int .i64 x.setKeep,.int .i64 x.setBurst,.int .i64 x.setRate,.int .i64 x.setScore,.int .i64 x.setPolicy,.int .u64 x.xKeyA,.int .u64 x.xKeyB,.int .u32 x.xA,.int .u32 x.xB,.int .u64 x.xSeedK0,.int .u64 x.xSeedK1,.pointer x.src,.slice x.way x.wayN x.wayC,.slice x.ledger x.ledgerN x.ledgerC,.bool x.forged]
theorem tiFly : TI PG 79 3 40 (.agg #[.int .i64 0,.int .i64 0,.slice none 0 0]):=tiOf (by kernel_rfl)
theorem huFlys : PG.underlying 36 = some (.slice 79):=by kernel_rfl
def fly22 (k : Int) (p : Pkt) : Fl22:=⟨k,p.path,p.b,p.bC,p.bs⟩
abbrev bodF (fs : List Fl22) : SA:=Br.ro fun w => ∀ f ∈ fs,Row w f.b (bvs f.bs)
section
variable {c : Ctx} {w : World} {L : List SA}
theorem gatherA_ok {t xA : Nat} {T : Tw} {XA : Cn} {psA : List Pkt} {W G : List Fl22} (h : St c w (blk t 38 (twc { T with a:=some ⟨xA,0,none⟩,b:=none,wayN:=W.length,ledgerN:=G.length }) :: own 79 3 T.way W.length T.wayC (W.flatMap flyc) :: own 79 3 T.ledger G.length T.ledgerC (G.flatMap flyc) :: blk xA 67 (cnc XA) :: own 115 2 XA.post XA.postN XA.postC (psA.flatMap pkc) :: bodP psA :: bodF (W ++ G) :: L))
  (hn : psA.length = XA.postN) (hb : psA.length <= 1000) (hw : W.length <= 10000) (hg : G.length <= 10000) {Q : Value -> World -> Prop}
  (hk : ∀ O1 O2 d1 d2 w',St c w' (blk t 38 (twc { T with a:=some ⟨xA,0,none⟩,b:=none,way:=O1,wayN:=(W ++ psA.map (fly22 1)).length,wayC:=d1,ledger:=O2,ledgerN:=(G ++ psA.map (fly22 1)).length,ledgerC:=d2 }) :: own 79 3 O1 (W ++ psA.map (fly22 1)).length d1 ((W ++ psA.map (fly22 1)).flatMap flyc) :: own 79 3 O2 (G ++ psA.map (fly22 1)).length d2 ((G ++ psA.map (fly22 1)).flatMap flyc) :: blk xA 67 (cnc { XA with post:=none,postN:=0,postC:=0 }) :: bodF ((W ++ psA.map (fly22 1)) ++ (G ++ psA.map (fly22 1))) :: L) -> Q (.tuple #[]) w') :
  CALL PG 15 [.pointer (some ⟨t,0,none⟩)] w Q:=by
 refine call15 ?_
 unfold N15
 refine nilc (h.rdP (B:=t) 0 ?_)
 refine cpost_ok (h.sub (show Sub _ (blk xA 67 (cnc XA) :: _) from (.cons (.tail (.tail (.tail .head))) (.cons .head (.cons .head (.cons .head ((Sub.same _)))))))) fun w' h => ?_
 (repeat apply exi)
 apply exr
 generalize hR1 : (blk xA 67 (cnc { XA with post:=none,postN:=0,postC:=0 }) :: bodF (W ++ G) :: L) = R1
 have h : St c w' (own 115 2 XA.post XA.postN XA.postC (psA.flatMap pkc) :: bodP psA :: blk t 38 (twc { T with a:=some ⟨xA,0,none⟩,b:=none,wayN:=W.length,ledgerN:=G.length }) :: own 79 3 T.way W.length T.wayC (W.flatMap flyc) :: own 79 3 T.ledger G.length T.ledgerC (G.flatMap flyc) :: R1):=by
  rw [<- hR1]
  exact h.sub (.cons (.tail (.tail (.tail (.tail .head)))) (.cons (.tail (.tail (.tail (.tail .head)))) (.cons (.tail .head) (.cons (.tail .head) (.cons (.tail .head) (.cons .head (.cons .head ((Sub.same _)))))))))
 generalize hT1 : ({ T with a:=some ⟨xA,0,none⟩,b:=none } : Tw) = T1
 have h : St c w' (own 115 2 XA.post XA.postN XA.postC (psA.flatMap pkc) :: bodP psA :: blk t 38 (twc { T1 with way:=T.way,wayN:=W.length,wayC:=T.wayC,ledger:=T.ledger,ledgerN:=G.length,ledgerC:=T.ledgerC }) :: own 79 3 T.way W.length T.wayC (W.flatMap flyc) :: own 79 3 T.ledger G.length T.ledgerC (G.flatMap flyc) :: R1):=by
  rw [<- hT1]
  exact h
 have hr1 : ∀ {T : Tw} {O1 O2 : Option Addr} {d1 d2 j : Nat} {Z : Option Addr},Z = XA.post -> RdIn (own 115 2 XA.post XA.postN XA.postC (psA.flatMap pkc) :: bodP psA :: blk t 38 (twc T) :: own 79 3 O1 (W ++ (psA.take j).map (fly22 1)).length d1 ((W ++ (psA.take j).map (fly22 1)).flatMap flyc) :: own 79 3 O2 (G ++ (psA.take j).map (fly22 1)).length d2 ((G ++ (psA.take j).map (fly22 1)).flatMap flyc) :: R1) Z (psA.flatMap pkc):=fun e => by subst e; exact RdIn.own .head
 refine ⟨fun m i w => ∃ (j : Nat) (O1 O2 : Option Addr) (d1 d2 : Nat),i = j /\ m = psA.length - j /\ j <= psA.length /\ St c w (own 115 2 XA.post XA.postN XA.postC (psA.flatMap pkc) :: bodP psA :: blk t 38 (twc { T1 with way:=O1,wayN:=(W ++ (psA.take j).map (fly22 1)).length,wayC:=d1,ledger:=O2,ledgerN:=(G ++ (psA.take j).map (fly22 1)).length,ledgerC:=d2 }) :: own 79 3 O1 (W ++ (psA.take j).map (fly22 1)).length d1 ((W ++ (psA.take j).map (fly22 1)).flatMap flyc) :: own 79 3 O2 (G ++ (psA.take j).map (fly22 1)).length d2 ((G ++ (psA.take j).map (fly22 1)).flatMap flyc) :: R1),⟨_,0,_,_,_,_,rfl,rfl,Nat.zero_le _,by simpa using h⟩,?_⟩
 clear h
 rintro m i w' ⟨j,O1,O2,d1,d2,rfl,rfl,hj,h⟩
 by_cases hlt : j < psA.length
 ·refine ifdt (by omega) ?_
  obtain ⟨z,hz⟩ : ∃ z,psA[j]? = some z:=⟨_,List.getElem?_eq_getElem hlt⟩
  have hl1 : (W ++ (psA.take j).map (fly22 1)).length <= 200000:=by simp only [List.length_append,List.length_map,List.length_take] at *; omega
  have hl2 : (G ++ (psA.take j).map (fly22 1)).length <= 200000:=by simp only [List.length_append,List.length_map,List.length_take] at *; omega
  have e1 : (W ++ (psA.take (j + 1)).map (fly22 1)) = (W ++ (psA.take j).map (fly22 1)) ++ [fly22 1 z]:=by rw [take_snoc' hz,List.map_append,List.append_assoc]; rfl
  have e2 : (G ++ (psA.take (j + 1)).map (fly22 1)) = (G ++ (psA.take j).map (fly22 1)) ++ [fly22 1 z]:=by rw [take_snoc' hz,List.map_append,List.append_assoc]; rfl
  have hzl : z.bs.length = z.bs.length:=rfl
  generalize hW : (W ++ (psA.take j).map (fly22 1)) = W1 at *
  generalize hG : (G ++ (psA.take j).map (fly22 1)) = G1 at *
  have h:=h.drew
  have hq : ∀ {L2 : List SA} {Z : Option Addr},Z = XA.post -> RdIn (own 115 2 XA.post XA.postN XA.postC (psA.flatMap pkc) :: L2) Z (psA.flatMap pkc):=fun e => by subst e; exact RdIn.own .head
  refine ⟨fun w => St c w [own 115 2 XA.post XA.postN XA.postC (psA.flatMap pkc),blk t 38 (twc { T1 with way:=O1,wayN:=W1.length,wayC:=d1,ledger:=O2,ledgerN:=G1.length,ledgerC:=d2 })],h.sub (.cons .head (.cons (.tail .head) (.nil))),nilc ?_⟩
  refine St.rdsL (B:=t) 24 ?_
  refine h.ix (z:=1) (i:=j) (hq rfl) hz (fun a ha => ?_) (by omega)
  refine St.rdsEI (i:=j) 0 (hq ha.symm) hz ?_
  refine h.ix (z:=1) (i:=j) (hq rfl) hz (fun a2 ha2 => ?_) (by omega)
  refine St.rdsEL (i:=j) 1 (hq ha2.symm) hz ?_
  refine RDS.bld ?_
  (repeat apply exi)
  apply exr
  refine h.lit (n:=1) 79 3 (flyc (fly22 1 z)) fun q1 w' h => ?_
  refine ⟨_,fun _ h => h,h.sub (.cons (.tail .head) (.cons (.tail (.tail .head)) (.nil))),?_⟩
  refine h.append huFlys tiFly (.tail (.tail (.tail (.tail .head)))) (RdIn.own .head) (m:=1) rfl (flyc_flat1 _) (by show (W1.length + 1) * 40 <= 140737488355328; omega) fun O3 d3 w' h => nilc ?_
  refine h.st (B:=t) 24 fun w' h => ?_
  have h : St c w' (blk t 38 (twc { T1 with way:=O3,wayN:=W1.length + 1,wayC:=d3,ledger:=O2,ledgerN:=G1.length,ledgerC:=d2 }) :: own 79 3 O3 (W1.length + 1) d3 (W1.flatMap flyc ++ flyc (fly22 1 z)) :: own 115 2 XA.post XA.postN XA.postC (psA.flatMap pkc) :: bodP psA :: own 79 3 O2 G1.length d2 (G1.flatMap flyc) :: R1):=h.sub (.cons .head (.cons .head (.cons (.tail .head) (.cons (.tail .head) (.cons (.tail .head) ((Sub.same _).more))))))
  have h:=h.drew
  have hq2 : ∀ {A B : SA} {L2 : List SA} {Z : Option Addr},Z = XA.post -> RdIn (A :: B :: own 115 2 XA.post XA.postN XA.postC (psA.flatMap pkc) :: L2) Z (psA.flatMap pkc):=fun e => by subst e; exact RdIn.own (.tail (.tail .head))
  refine ⟨fun w => St c w [own 115 2 XA.post XA.postN XA.postC (psA.flatMap pkc),blk t 38 (twc { T1 with way:=O3,wayN:=W1.length + 1,wayC:=d3,ledger:=O2,ledgerN:=G1.length,ledgerC:=d2 })],h.sub (.cons (.tail (.tail .head)) (.cons .head (.nil))),nilc ?_⟩
  refine St.rdsL (B:=t) 25 ?_
  refine h.ix (z:=1) (i:=j) (hq2 rfl) hz (fun a3 ha3 => ?_) (by omega)
  refine St.rdsEI (i:=j) 0 (hq ha3.symm) hz ?_
  refine h.ix (z:=1) (i:=j) (hq2 rfl) hz (fun a4 ha4 => ?_) (by omega)
  refine St.rdsEL (i:=j) 1 (hq ha4.symm) hz ?_
  refine RDS.bld ?_
  (repeat apply exi)
  apply exr
  refine h.lit (n:=1) 79 3 (flyc (fly22 1 z)) fun q2 w' h => ?_
  refine ⟨_,fun _ h => h,h.sub (.cons (.tail (.tail (.tail .head))) (.cons (.tail .head) (.nil))),?_⟩
  refine h.append huFlys tiFly (.tail (.tail (.tail (.tail (.tail .head))))) (RdIn.own .head) (m:=1) rfl (flyc_flat1 _) (by show (G1.length + 1) * 40 <= 140737488355328; omega) fun O4 d4 w' h => nilc ?_
  refine h.st (B:=t) 25 fun w' h => ?_
  refine leti rfl ⟨_,?_,j + 1,O3,O4,d3,d4,by rw [wrap_i64 (by omega) (by omega)]; omega,rfl,by omega,?_⟩
  ·omega
  rw [e1,e2]
  simp only [List.length_append,List.length_singleton,List.flatMap_append,List.flatMap_cons,List.flatMap_nil,List.append_nil]
  exact h.sub (.cons (.tail (.tail (.tail (.tail .head)))) (.cons (.tail (.tail (.tail (.tail .head)))) (.cons .head (.cons (.tail (.tail .head)) (.cons .head ((Sub.same _).more))))))
 refine ifdf (by omega) (nilc ?_)
 obtain rfl : j = psA.length:=by omega
 rw [List.take_length] at h
 rw [<- hT1] at h
 refine h.rdP (B:=t) 1 ?_
 refine ift rfl ?_
 rw [<- hR1] at h
 have h:=h.sub (show Sub _ (bodF (W ++ G) :: bodP psA :: blk t 38 _ :: own 79 3 O1 _ d1 _ :: own 79 3 O2 _ d2 _ :: blk xA 67 (cnc { XA with post:=none,postN:=0,postC:=0 }) :: L) from (.cons (.tail (.tail (.tail (.tail (.tail (.tail .head)))))) (.cons (.tail .head) (.cons (.tail .head) (.cons (.tail .head) (.cons (.tail .head) (.cons (.tail .head) ((Sub.same _).more))))))))
 have h:=h.ro2.roW (ψ:=fun w => ∀ f ∈ ((W ++ psA.map (fly22 1)) ++ (G ++ psA.map (fly22 1))),Row w f.b (bvs f.bs)) fun w ⟨a,b⟩ f hf => by
  simp only [List.mem_append,List.mem_map] at hf
  rcases hf with (hf | ⟨p,hp,rfl⟩) | (hf | ⟨p,hp,rfl⟩)
  ·exact a f (List.mem_append.2 (.inl hf))
  ·exact b p hp
  ·exact a f (List.mem_append.2 (.inr hf))
  ·exact b p hp
 exact hk O1 O2 d1 d2 _ (h.sub (.cons (.tail .head) (.cons (.tail .head) (.cons (.tail .head) (.cons (.tail .head) (.cons .head ((Sub.same _))))))))
theorem gatherAB_ok {t xA xB : Nat} {T : Tw} {XA XB : Cn} {psA psB : List Pkt} {W G : List Fl22} (h : St c w (blk t 38 (twc { T with a:=some ⟨xA,0,none⟩,b:=some ⟨xB,0,none⟩,wayN:=W.length,ledgerN:=G.length }) :: own 79 3 T.way W.length T.wayC (W.flatMap flyc) :: own 79 3 T.ledger G.length T.ledgerC (G.flatMap flyc) :: blk xA 67 (cnc XA) :: own 115 2 XA.post XA.postN XA.postC (psA.flatMap pkc) :: bodP psA :: blk xB 67 (cnc XB) :: own 115 2 XB.post XB.postN XB.postC (psB.flatMap pkc) :: bodP psB :: bodF (W ++ G) :: L))
  (hn : psA.length = XA.postN) (hb : psA.length <= 1000) (hn2 : psB.length = XB.postN) (hb2 : psB.length <= 1000) (hw : W.length <= 10000) (hg : G.length <= 10000) {Q : Value -> World -> Prop}
  (hk : ∀ O1 O2 d1 d2 w',St c w' (blk t 38 (twc { T with a:=some ⟨xA,0,none⟩,b:=some ⟨xB,0,none⟩,way:=O1,wayN:=(W ++ psA.map (fly22 1) ++ psB.map (fly22 0)).length,wayC:=d1,ledger:=O2,ledgerN:=(G ++ psA.map (fly22 1) ++ psB.map (fly22 0)).length,ledgerC:=d2 }) :: own 79 3 O1 (W ++ psA.map (fly22 1) ++ psB.map (fly22 0)).length d1 ((W ++ psA.map (fly22 1) ++ psB.map (fly22 0)).flatMap flyc) :: own 79 3 O2 (G ++ psA.map (fly22 1) ++ psB.map (fly22 0)).length d2 ((G ++ psA.map (fly22 1) ++ psB.map (fly22 0)).flatMap flyc) :: blk xA 67 (cnc { XA with post:=none,postN:=0,postC:=0 }) :: blk xB 67 (cnc { XB with post:=none,postN:=0,postC:=0 }) :: bodF ((W ++ psA.map (fly22 1) ++ psB.map (fly22 0)) ++ (G ++ psA.map (fly22 1) ++ psB.map (fly22 0))) :: L) -> Q (.tuple #[]) w') :
  CALL PG 15 [.pointer (some ⟨t,0,none⟩)] w Q:=by
 refine call15 ?_
 unfold N15
 refine nilc (h.rdP (B:=t) 0 ?_)
 refine cpost_ok (h.sub (show Sub _ (blk xA 67 (cnc XA) :: _) from (.cons (.tail (.tail (.tail .head))) (.cons .head (.cons .head (.cons .head ((Sub.same _)))))))) fun w' h => ?_
 (repeat apply exi)
 apply exr
 generalize hR1 : (blk xA 67 (cnc { XA with post:=none,postN:=0,postC:=0 }) :: blk xB 67 (cnc XB) :: own 115 2 XB.post XB.postN XB.postC (psB.flatMap pkc) :: bodP psB :: bodF (W ++ G) :: L) = R1
 have h : St c w' (own 115 2 XA.post XA.postN XA.postC (psA.flatMap pkc) :: bodP psA :: blk t 38 (twc { T with a:=some ⟨xA,0,none⟩,b:=some ⟨xB,0,none⟩,wayN:=W.length,ledgerN:=G.length }) :: own 79 3 T.way W.length T.wayC (W.flatMap flyc) :: own 79 3 T.ledger G.length T.ledgerC (G.flatMap flyc) :: R1):=by
  rw [<- hR1]
  exact h.sub (.cons (.tail (.tail (.tail (.tail .head)))) (.cons (.tail (.tail (.tail (.tail .head)))) (.cons (.tail .head) (.cons (.tail .head) (.cons (.tail .head) (.cons .head ((Sub.same _))))))))
 generalize hT1 : ({ T with a:=some ⟨xA,0,none⟩,b:=some ⟨xB,0,none⟩ } : Tw) = T1
 have h : St c w' (own 115 2 XA.post XA.postN XA.postC (psA.flatMap pkc) :: bodP psA :: blk t 38 (twc { T1 with way:=T.way,wayN:=W.length,wayC:=T.wayC,ledger:=T.ledger,ledgerN:=G.length,ledgerC:=T.ledgerC }) :: own 79 3 T.way W.length T.wayC (W.flatMap flyc) :: own 79 3 T.ledger G.length T.ledgerC (G.flatMap flyc) :: R1):=by
  rw [<- hT1]
  exact h
 have hr1 : ∀ {T : Tw} {O1 O2 : Option Addr} {d1 d2 j : Nat} {Z : Option Addr},Z = XA.post -> RdIn (own 115 2 XA.post XA.postN XA.postC (psA.flatMap pkc) :: bodP psA :: blk t 38 (twc T) :: own 79 3 O1 (W ++ (psA.take j).map (fly22 1)).length d1 ((W ++ (psA.take j).map (fly22 1)).flatMap flyc) :: own 79 3 O2 (G ++ (psA.take j).map (fly22 1)).length d2 ((G ++ (psA.take j).map (fly22 1)).flatMap flyc) :: R1) Z (psA.flatMap pkc):=fun e => by subst e; exact RdIn.own .head
 refine ⟨fun m i w => ∃ (j : Nat) (O1 O2 : Option Addr) (d1 d2 : Nat),i = j /\ m = psA.length - j /\ j <= psA.length /\ St c w (own 115 2 XA.post XA.postN XA.postC (psA.flatMap pkc) :: bodP psA :: blk t 38 (twc { T1 with way:=O1,wayN:=(W ++ (psA.take j).map (fly22 1)).length,wayC:=d1,ledger:=O2,ledgerN:=(G ++ (psA.take j).map (fly22 1)).length,ledgerC:=d2 }) :: own 79 3 O1 (W ++ (psA.take j).map (fly22 1)).length d1 ((W ++ (psA.take j).map (fly22 1)).flatMap flyc) :: own 79 3 O2 (G ++ (psA.take j).map (fly22 1)).length d2 ((G ++ (psA.take j).map (fly22 1)).flatMap flyc) :: R1),⟨_,0,_,_,_,_,rfl,rfl,Nat.zero_le _,by simpa using h⟩,?_⟩
 clear h
 rintro m i w' ⟨j,O1,O2,d1,d2,rfl,rfl,hj,h⟩
 by_cases hlt : j < psA.length
 ·refine ifdt (by omega) ?_
  obtain ⟨z,hz⟩ : ∃ z,psA[j]? = some z:=⟨_,List.getElem?_eq_getElem hlt⟩
  have hl1 : (W ++ (psA.take j).map (fly22 1)).length <= 200000:=by simp only [List.length_append,List.length_map,List.length_take] at *; omega
  have hl2 : (G ++ (psA.take j).map (fly22 1)).length <= 200000:=by simp only [List.length_append,List.length_map,List.length_take] at *; omega
  have e1 : (W ++ (psA.take (j + 1)).map (fly22 1)) = (W ++ (psA.take j).map (fly22 1)) ++ [fly22 1 z]:=by rw [take_snoc' hz,List.map_append,List.append_assoc]; rfl
  have e2 : (G ++ (psA.take (j + 1)).map (fly22 1)) = (G ++ (psA.take j).map (fly22 1)) ++ [fly22 1 z]:=by rw [take_snoc' hz,List.map_append,List.append_assoc]; rfl
  have hzl : z.bs.length = z.bs.length:=rfl
  generalize hW : (W ++ (psA.take j).map (fly22 1)) = W1 at *
  generalize hG : (G ++ (psA.take j).map (fly22 1)) = G1 at *
  have h:=h.drew
  have hq : ∀ {L2 : List SA} {Z : Option Addr},Z = XA.post -> RdIn (own 115 2 XA.post XA.postN XA.postC (psA.flatMap pkc) :: L2) Z (psA.flatMap pkc):=fun e => by subst e; exact RdIn.own .head
  refine ⟨fun w => St c w [own 115 2 XA.post XA.postN XA.postC (psA.flatMap pkc),blk t 38 (twc { T1 with way:=O1,wayN:=W1.length,wayC:=d1,ledger:=O2,ledgerN:=G1.length,ledgerC:=d2 })],h.sub (.cons .head (.cons (.tail .head) (.nil))),nilc ?_⟩
  refine St.rdsL (B:=t) 24 ?_
  refine h.ix (z:=1) (i:=j) (hq rfl) hz (fun a ha => ?_) (by omega)
  refine St.rdsEI (i:=j) 0 (hq ha.symm) hz ?_
  refine h.ix (z:=1) (i:=j) (hq rfl) hz (fun a2 ha2 => ?_) (by omega)
  refine St.rdsEL (i:=j) 1 (hq ha2.symm) hz ?_
  refine RDS.bld ?_
  (repeat apply exi)
  apply exr
  refine h.lit (n:=1) 79 3 (flyc (fly22 1 z)) fun q1 w' h => ?_
  refine ⟨_,fun _ h => h,h.sub (.cons (.tail .head) (.cons (.tail (.tail .head)) (.nil))),?_⟩
  refine h.append huFlys tiFly (.tail (.tail (.tail (.tail .head)))) (RdIn.own .head) (m:=1) rfl (flyc_flat1 _) (by show (W1.length + 1) * 40 <= 140737488355328; omega) fun O3 d3 w' h => nilc ?_
  refine h.st (B:=t) 24 fun w' h => ?_
  have h : St c w' (blk t 38 (twc { T1 with way:=O3,wayN:=W1.length + 1,wayC:=d3,ledger:=O2,ledgerN:=G1.length,ledgerC:=d2 }) :: own 79 3 O3 (W1.length + 1) d3 (W1.flatMap flyc ++ flyc (fly22 1 z)) :: own 115 2 XA.post XA.postN XA.postC (psA.flatMap pkc) :: bodP psA :: own 79 3 O2 G1.length d2 (G1.flatMap flyc) :: R1):=h.sub (.cons .head (.cons .head (.cons (.tail .head) (.cons (.tail .head) (.cons (.tail .head) ((Sub.same _).more))))))
  have h:=h.drew
  have hq2 : ∀ {A B : SA} {L2 : List SA} {Z : Option Addr},Z = XA.post -> RdIn (A :: B :: own 115 2 XA.post XA.postN XA.postC (psA.flatMap pkc) :: L2) Z (psA.flatMap pkc):=fun e => by subst e; exact RdIn.own (.tail (.tail .head))
  refine ⟨fun w => St c w [own 115 2 XA.post XA.postN XA.postC (psA.flatMap pkc),blk t 38 (twc { T1 with way:=O3,wayN:=W1.length + 1,wayC:=d3,ledger:=O2,ledgerN:=G1.length,ledgerC:=d2 })],h.sub (.cons (.tail (.tail .head)) (.cons .head (.nil))),nilc ?_⟩
  refine St.rdsL (B:=t) 25 ?_
  refine h.ix (z:=1) (i:=j) (hq2 rfl) hz (fun a3 ha3 => ?_) (by omega)
  refine St.rdsEI (i:=j) 0 (hq ha3.symm) hz ?_
  refine h.ix (z:=1) (i:=j) (hq2 rfl) hz (fun a4 ha4 => ?_) (by omega)
  refine St.rdsEL (i:=j) 1 (hq ha4.symm) hz ?_
  refine RDS.bld ?_
  (repeat apply exi)
  apply exr
  refine h.lit (n:=1) 79 3 (flyc (fly22 1 z)) fun q2 w' h => ?_
  refine ⟨_,fun _ h => h,h.sub (.cons (.tail (.tail (.tail .head))) (.cons (.tail .head) (.nil))),?_⟩
  refine h.append huFlys tiFly (.tail (.tail (.tail (.tail (.tail .head))))) (RdIn.own .head) (m:=1) rfl (flyc_flat1 _) (by show (G1.length + 1) * 40 <= 140737488355328; omega) fun O4 d4 w' h => nilc ?_
  refine h.st (B:=t) 25 fun w' h => ?_
  refine leti rfl ⟨_,?_,j + 1,O3,O4,d3,d4,by rw [wrap_i64 (by omega) (by omega)]; omega,rfl,by omega,?_⟩
  ·omega
  rw [e1,e2]
  simp only [List.length_append,List.length_singleton,List.flatMap_append,List.flatMap_cons,List.flatMap_nil,List.append_nil]
  exact h.sub (.cons (.tail (.tail (.tail (.tail .head)))) (.cons (.tail (.tail (.tail (.tail .head)))) (.cons .head (.cons (.tail (.tail .head)) (.cons .head ((Sub.same _).more))))))
 refine ifdf (by omega) (nilc ?_)
 obtain rfl : j = psA.length:=by omega
 rw [List.take_length] at h
 rw [<- hT1] at h
 refine h.rdP (B:=t) 1 ?_
 refine iff_ rfl (nilc (h.rdP (B:=t) 1 ?_))
 rw [<- hR1] at h
 clear hr1
 generalize hWA : W ++ psA.map (fly22 1) = WA at hk h
 generalize hGA : G ++ psA.map (fly22 1) = GA at hk h
 have hwl : WA.length <= 20000:=by rw [<- hWA]; simp; omega
 have hgl : GA.length <= 20000:=by rw [<- hGA]; simp; omega
 refine cpost_ok (h.sub (show Sub _ (blk xB 67 (cnc XB) :: _) from (.cons (.tail (.tail (.tail (.tail (.tail (.tail .head)))))) (.cons .head (.cons .head (.cons .head (.cons .head (.cons .head (.cons .head (.cons .head (.cons .head ((Sub.same _))))))))))))) fun w' h => ?_
 (repeat apply exi)
 apply exr
 generalize hR0 : (bodP psA :: blk xA 67 (cnc { XA with post:=none,postN:=0,postC:=0 }) :: blk xB 67 (cnc { XB with post:=none,postN:=0,postC:=0 }) :: bodF (W ++ G) :: L) = R0
 have h : St c w' (own 115 2 XB.post XB.postN XB.postC (psB.flatMap pkc) :: bodP psB :: blk t 38 (twc { ({ T with a:=some ⟨xA,0,none⟩,b:=some ⟨xB,0,none⟩ } : Tw) with way:=O1,wayN:=WA.length,wayC:=d1,ledger:=O2,ledgerN:=GA.length,ledgerC:=d2 }) :: own 79 3 O1 WA.length d1 (WA.flatMap flyc) :: own 79 3 O2 GA.length d2 (GA.flatMap flyc) :: R0):=by
  rw [<- hR0]
  exact h.sub (.cons (.tail (.tail (.tail (.tail (.tail (.tail (.tail .head))))))) (.cons (.tail (.tail (.tail (.tail (.tail (.tail (.tail .head))))))) (.cons (.tail (.tail (.tail .head))) (.cons (.tail (.tail (.tail .head))) (.cons (.tail (.tail (.tail .head))) (.cons (.tail (.tail .head)) (.cons (.tail (.tail .head)) (.cons .head (.cons (.tail .head) ((Sub.same _).more))))))))))
 generalize hT0 : ({ T with a:=some ⟨xA,0,none⟩,b:=some ⟨xB,0,none⟩ } : Tw) = T0 at h
 clear hR1 hT1
 have hr0 : ∀ {T : Tw} {O1 O2 : Option Addr} {d1 d2 j : Nat} {Z : Option Addr},Z = XB.post -> RdIn (own 115 2 XB.post XB.postN XB.postC (psB.flatMap pkc) :: bodP psB :: blk t 38 (twc T) :: own 79 3 O1 (WA ++ (psB.take j).map (fly22 0)).length d1 ((WA ++ (psB.take j).map (fly22 0)).flatMap flyc) :: own 79 3 O2 (GA ++ (psB.take j).map (fly22 0)).length d2 ((GA ++ (psB.take j).map (fly22 0)).flatMap flyc) :: R0) Z (psB.flatMap pkc):=fun e => by subst e; exact RdIn.own .head
 refine ⟨fun m i w => ∃ (j : Nat) (O1 O2 : Option Addr) (d1 d2 : Nat),i = j /\ m = psB.length - j /\ j <= psB.length /\ St c w (own 115 2 XB.post XB.postN XB.postC (psB.flatMap pkc) :: bodP psB :: blk t 38 (twc { T0 with way:=O1,wayN:=(WA ++ (psB.take j).map (fly22 0)).length,wayC:=d1,ledger:=O2,ledgerN:=(GA ++ (psB.take j).map (fly22 0)).length,ledgerC:=d2 }) :: own 79 3 O1 (WA ++ (psB.take j).map (fly22 0)).length d1 ((WA ++ (psB.take j).map (fly22 0)).flatMap flyc) :: own 79 3 O2 (GA ++ (psB.take j).map (fly22 0)).length d2 ((GA ++ (psB.take j).map (fly22 0)).flatMap flyc) :: R0),⟨_,0,_,_,_,_,rfl,rfl,Nat.zero_le _,by simpa using h⟩,?_⟩
 clear h
 rintro m i w' ⟨j,O1,O2,d1,d2,rfl,rfl,hj,h⟩
 by_cases hlt : j < psB.length
 ·refine ifdt (by omega) ?_
  obtain ⟨z,hz⟩ : ∃ z,psB[j]? = some z:=⟨_,List.getElem?_eq_getElem hlt⟩
  have hl1 : (WA ++ (psB.take j).map (fly22 0)).length <= 200000:=by simp only [List.length_append,List.length_map,List.length_take] at *; omega
  have hl2 : (GA ++ (psB.take j).map (fly22 0)).length <= 200000:=by simp only [List.length_append,List.length_map,List.length_take] at *; omega
  have e1 : (WA ++ (psB.take (j + 1)).map (fly22 0)) = (WA ++ (psB.take j).map (fly22 0)) ++ [fly22 0 z]:=by rw [take_snoc' hz,List.map_append,List.append_assoc]; rfl
  have e2 : (GA ++ (psB.take (j + 1)).map (fly22 0)) = (GA ++ (psB.take j).map (fly22 0)) ++ [fly22 0 z]:=by rw [take_snoc' hz,List.map_append,List.append_assoc]; rfl
  have hzl : z.bs.length = z.bs.length:=rfl
  generalize hW : (WA ++ (psB.take j).map (fly22 0)) = W1 at *
  generalize hG : (GA ++ (psB.take j).map (fly22 0)) = G1 at *
  have h:=h.drew
  have hq : ∀ {L2 : List SA} {Z : Option Addr},Z = XB.post -> RdIn (own 115 2 XB.post XB.postN XB.postC (psB.flatMap pkc) :: L2) Z (psB.flatMap pkc):=fun e => by subst e; exact RdIn.own .head
  refine ⟨fun w => St c w [own 115 2 XB.post XB.postN XB.postC (psB.flatMap pkc),blk t 38 (twc { T0 with way:=O1,wayN:=W1.length,wayC:=d1,ledger:=O2,ledgerN:=G1.length,ledgerC:=d2 })],h.sub (.cons .head (.cons (.tail .head) (.nil))),nilc ?_⟩
  refine St.rdsL (B:=t) 24 ?_
  refine h.ix (z:=1) (i:=j) (hq rfl) hz (fun a ha => ?_) (by omega)
  refine St.rdsEI (i:=j) 0 (hq ha.symm) hz ?_
  refine h.ix (z:=1) (i:=j) (hq rfl) hz (fun a2 ha2 => ?_) (by omega)
  refine St.rdsEL (i:=j) 1 (hq ha2.symm) hz ?_
  refine RDS.bld ?_
  (repeat apply exi)
  apply exr
  refine h.lit (n:=1) 79 3 (flyc (fly22 0 z)) fun q1 w' h => ?_
  refine ⟨_,fun _ h => h,h.sub (.cons (.tail .head) (.cons (.tail (.tail .head)) (.nil))),?_⟩
  refine h.append huFlys tiFly (.tail (.tail (.tail (.tail .head)))) (RdIn.own .head) (m:=1) rfl (flyc_flat1 _) (by show (W1.length + 1) * 40 <= 140737488355328; omega) fun O3 d3 w' h => nilc ?_
  refine h.st (B:=t) 24 fun w' h => ?_
  have h : St c w' (blk t 38 (twc { T0 with way:=O3,wayN:=W1.length + 1,wayC:=d3,ledger:=O2,ledgerN:=G1.length,ledgerC:=d2 }) :: own 79 3 O3 (W1.length + 1) d3 (W1.flatMap flyc ++ flyc (fly22 0 z)) :: own 115 2 XB.post XB.postN XB.postC (psB.flatMap pkc) :: bodP psB :: own 79 3 O2 G1.length d2 (G1.flatMap flyc) :: R0):=h.sub (.cons .head (.cons .head (.cons (.tail .head) (.cons (.tail .head) (.cons (.tail .head) ((Sub.same _).more))))))
  have h:=h.drew
  have hq2 : ∀ {A B : SA} {L2 : List SA} {Z : Option Addr},Z = XB.post -> RdIn (A :: B :: own 115 2 XB.post XB.postN XB.postC (psB.flatMap pkc) :: L2) Z (psB.flatMap pkc):=fun e => by subst e; exact RdIn.own (.tail (.tail .head))
  refine ⟨fun w => St c w [own 115 2 XB.post XB.postN XB.postC (psB.flatMap pkc),blk t 38 (twc { T0 with way:=O3,wayN:=W1.length + 1,wayC:=d3,ledger:=O2,ledgerN:=G1.length,ledgerC:=d2 })],h.sub (.cons (.tail (.tail .head)) (.cons .head (.nil))),nilc ?_⟩
  refine St.rdsL (B:=t) 25 ?_
  refine h.ix (z:=1) (i:=j) (hq2 rfl) hz (fun a3 ha3 => ?_) (by omega)
  refine St.rdsEI (i:=j) 0 (hq ha3.symm) hz ?_
  refine h.ix (z:=1) (i:=j) (hq2 rfl) hz (fun a4 ha4 => ?_) (by omega)
  refine St.rdsEL (i:=j) 1 (hq ha4.symm) hz ?_
  refine RDS.bld ?_
  (repeat apply exi)
  apply exr
  refine h.lit (n:=1) 79 3 (flyc (fly22 0 z)) fun q2 w' h => ?_
  refine ⟨_,fun _ h => h,h.sub (.cons (.tail (.tail (.tail .head))) (.cons (.tail .head) (.nil))),?_⟩
  refine h.append huFlys tiFly (.tail (.tail (.tail (.tail (.tail .head))))) (RdIn.own .head) (m:=1) rfl (flyc_flat1 _) (by show (G1.length + 1) * 40 <= 140737488355328; omega) fun O4 d4 w' h => nilc ?_
  refine h.st (B:=t) 25 fun w' h => ?_
  refine leti rfl ⟨_,?_,j + 1,O3,O4,d3,d4,by rw [wrap_i64 (by omega) (by omega)]; omega,rfl,by omega,?_⟩
  ·omega
  rw [e1,e2]
  simp only [List.length_append,List.length_singleton,List.flatMap_append,List.flatMap_cons,List.flatMap_nil,List.append_nil]
  exact h.sub (.cons (.tail (.tail (.tail (.tail .head)))) (.cons (.tail (.tail (.tail (.tail .head)))) (.cons .head (.cons (.tail (.tail .head)) (.cons .head ((Sub.same _).more))))))
 refine ifdf (by omega) ?_
 obtain rfl : j = psB.length:=by omega
 rw [List.take_length] at h
 rw [<- hT0,<- hR0] at h
 have h:=h.sub (show Sub _ (bodF (W ++ G) :: bodP psA :: bodP psB :: blk t 38 _ :: own 79 3 O1 _ d1 _ :: own 79 3 O2 _ d2 _ :: blk xA 67 (cnc { XA with post:=none,postN:=0,postC:=0 }) :: blk xB 67 (cnc { XB with post:=none,postN:=0,postC:=0 }) :: L) from (.cons (.tail (.tail (.tail (.tail (.tail (.tail (.tail (.tail .head)))))))) (.cons (.tail (.tail (.tail (.tail (.tail .head))))) (.cons (.tail .head) (.cons (.tail .head) (.cons (.tail .head) (.cons (.tail .head) (.cons (.tail .head) (.cons (.tail .head) ((Sub.same _).more))))))))))
 have h:=h.ro2.ro2.roW (ψ:=fun w => ∀ f ∈ ((WA ++ psB.map (fly22 0)) ++ (GA ++ psB.map (fly22 0))),Row w f.b (bvs f.bs)) fun w ⟨⟨a,b⟩,b2⟩ f hf => by
  rw [<- hWA,<- hGA] at hf
  simp only [List.mem_append,List.mem_map] at hf
  rcases hf with ((hf | ⟨p,hp,rfl⟩) | ⟨p,hp,rfl⟩) | ((hf | ⟨p,hp,rfl⟩) | ⟨p,hp,rfl⟩)
  ·exact a f (List.mem_append.2 (.inl hf))
  ·exact b p hp
  ·exact b2 p hp
  ·exact a f (List.mem_append.2 (.inr hf))
  ·exact b p hp
  ·exact b2 p hp
 exact hk _ _ _ _ _ (h.sub (.cons (.tail .head) (.cons (.tail .head) (.cons (.tail .head) (.cons (.tail .head) (.cons (.tail .head) (.cons .head ((Sub.same _)))))))))
end
end Go.Br
/- What the code of some functions says,as the core reads it; each reading is checked by the kernel. -/
set_option linter.unusedVariables false
set_option maxRecDepth 100000
namespace Go.Br
open Go Go.Proofs
def N7 (t : Option Addr) (h : Option Addr) (hN hC : Nat) (h1 : Option Addr) (hN1 hC1 : Nat) (h2 : Option Addr) (hN2 hC2 : Nat) (h3 : Option Addr) (hN3 hC3 : Nat) (o : Int) (o1 : Int) (o2 : Int) (o3 : Option Addr) (oN oC : Nat) (w : World) (Q : QP) : Prop :=
 RUNA PG (Instr.box 43 (.agg #[(.slice h hN hC),(.slice h1 hN1 hC1),(.slice h2 hN2 hC2),(.slice h3 hN3 hC3)])) w fun a4 w1 =>
 RUNA PG (Instr.box 46 (.agg #[(.int .i64 o),(.int .i64 o1),(.int .i64 o2),(.slice o3 oN oC)])) w1 fun a5 w2 =>
 RUNA PG (Instr.alloc 43 true (.tuple #[])) w2 fun a6 w3 =>
 RDI PG (loadVar 3 (a5.add 0)) .i64 w3 fun x14 =>
 CALL PG 16 [(.int .i64 x14)] w3 fun v w4 =>
 ∃ x15 : Int,v = (.int .i64 x15) /\
 (LETI x15 fun k =>
 RDI PG (loadVar 3 (a5.add 1)) .i64 (w4.drew) fun x17 =>
 NILC t fun a19 =>
 RDL PG (loadVar 36 (a19.add 24)) (w4.drew) fun x21 x21N x21C =>
 CALL PG 17 [(.int .i64 x17),(.int .i64 (x21N : Int))] (w4.drew) fun v1 w5 =>
 ∃ x23 : Int,v1 = (.int .i64 x23) /\
 (LETI x23 fun i =>
 ∃ R : Bool -> World -> Prop,
 (IFB (decide (k < 7))
 (NILC t fun a29 =>
 RDL PG (loadVar 36 (a29.add 24)) w5 fun x31 x31N x31C =>
 LETB (decide ((x31N : Int) > 0)) fun x24 =>
 R x24 w5)
 (LETB false fun x24v1 =>
 R x24v1 w5)) /\
 (∀ (x24v2 : Bool) (w6 : World),R x24v2 w6 -> (IFB x24v2
 (NILC t fun a36 =>
 RDL PG (loadVar 36 (a36.add 24)) w6 fun x38 x38N x38C =>
 IDX x38 x38N i fun a40 =>
 RD PG (loadVar 79 (a40.add (Int.toNat i * 3))) w6 fun v2 =>
 ∃ x41 : Int,∃ x41v1 : Int,∃ (x41v2 : Option Addr) (x41N x41C : Nat),v2 = (.agg #[(.int .i64 x41),(.int .i64 x41v1),(.slice x41v2 x41N x41C)]) /\
 (RUNA PG (Instr.alloc 79 true (.tuple #[])) w6 fun a9 w7 =>
 RUNU PG (storeVar 79 a9 (.agg #[(.int .i64 x41),(.int .i64 x41v1),(.slice x41v2 x41N x41C)])) w7 fun w8 =>
 IFB (k == 6)
 (∃ S : World -> Prop,S (w8.drew) /\
 (NILC t fun a46 =>
 RDSL PG (loadVar 36 (a46.add 24)) S fun x48 x48N x48C =>
 RDS PG (loadVar 79 a9) S fun v3 =>
 ∃ x49 : Int,∃ x49v1 : Int,∃ (x49v2 : Option Addr) (x49N x49C : Nat),v3 = (.agg #[(.int .i64 x49),(.int .i64 x49v1),(.slice x49v2 x49N x49C)]) /\
 (RUNL PG (Instr.buildSlice 36 1 #[(0,(.agg #[(.int .i64 x49),(.int .i64 x49v1),(.slice x49v2 x49N x49C)]))]) (w8.drew) fun x50 x50N x50C w9 =>
 ∃ S1 : World -> Prop,(∀ x,S1 x -> S x) /\ S1 w9 /\
 (RUNL PG (Builtin.append_ #[36,36] 36 #[(.slice x48 x48N x48C),(.slice x50 x50N x50C)]) w9 fun x51 x51N x51C w10 =>
 NILC t fun a52 =>
 RUNU PG (storeVar 36 (a52.add 24) (.slice x51 x51N x51C)) w10 fun w11 =>
 RD PG (loadVar 43 a4) w11 fun v4 =>
 ∃ (x54 : Option Addr) (x54N x54C : Nat),∃ (x54v1 : Option Addr) (x54N1 x54C1 : Nat),∃ (x54v2 : Option Addr) (x54N2 x54C2 : Nat),∃ (x54v3 : Option Addr) (x54N3 x54C3 : Nat),v4 = (.agg #[(.slice x54 x54N x54C),(.slice x54v1 x54N1 x54C1),(.slice x54v2 x54N2 x54C2),(.slice x54v3 x54N3 x54C3)]) /\
 (RUNU PG (storeVar 43 a6 (.agg #[(.slice x54 x54N x54C),(.slice x54v1 x54N1 x54C1),(.slice x54v2 x54N2 x54C2),(.slice x54v3 x54N3 x54C3)])) w11 fun w12 =>
 RD PG (loadVar 43 a6) w12 fun v6 =>
 ∃ (r : Option Addr) (rN rC : Nat),∃ (r1 : Option Addr) (rN1 rC1 : Nat),∃ (r2 : Option Addr) (rN2 rC2 : Nat),∃ (r3 : Option Addr) (rN3 rC3 : Nat),v6 = (.agg #[(.slice r rN rC),(.slice r1 rN1 rC1),(.slice r2 rN2 rC2),(.slice r3 rN3 rC3)]) /\
 (Q (.agg #[(.slice r rN rC),(.slice r1 rN1 rC1),(.slice r2 rN2 rC2),(.slice r3 rN3 rC3)]) w12))))))
 (∃ S2 : World -> Prop,S2 (w8.drew) /\
 (NILC t fun a58 =>
 RDSL PG (loadVar 36 (a58.add 24)) S2 fun x60 x60N x60C =>
 NEED (0 <= (0 : Int) /\ (0 : Int) <= i /\ i <= ((x60C : Nat) : Int))
 (NILC t fun a65 =>
 RDSL PG (loadVar 36 (a65.add 24)) S2 fun x67 x67N x67C =>
 NEED (0 <= (IntKind.i64.wrap (i + (1 : Int))) /\ (IntKind.i64.wrap (i + (1 : Int))) <= ((x67N : Nat) : Int) /\ ((x67N : Nat) : Int) <= ((x67C : Nat) : Int))
 (RUNL PG (Instr.buildSlice 36 0 #[]) (w8.drew) fun x56 x56N x56C w13 =>
 ∃ S3 : World -> Prop,(∀ x,S3 x -> S2 x) /\ S3 w13 /\
 (RUNL PG (Builtin.append_ #[36,36] 36 #[(.slice x56 x56N x56C),(.slice (cutA x60 x60C 3 0) (Int.toNat i - Int.toNat 0) (x60C - Int.toNat 0))]) w13 fun x63 x63N x63C w14 =>
 ∃ S4 : World -> Prop,(∀ x,S4 x -> S3 x) /\ S4 w14 /\
 (RUNL PG (Builtin.append_ #[36,36] 36 #[(.slice x63 x63N x63C),(.slice (cutA x67 x67C 3 (IntKind.i64.wrap (i + 1))) (Int.toNat ((x67N : Nat) : Int) - Int.toNat (IntKind.i64.wrap (i + 1))) (x67C - Int.toNat (IntKind.i64.wrap (i + 1))))]) w14 fun x71 x71N x71C w15 =>
 NILC t fun a72 =>
 RUNU PG (storeVar 36 (a72.add 24) (.slice x71 x71N x71C)) w15 fun w16 =>
 IFB (decide (k < 5))
 (RD PG (loadVar 79 a9) w16 fun v7 =>
 ∃ x77 : Int,∃ x77v1 : Int,∃ (x77v2 : Option Addr) (x77N x77C : Nat),v7 = (.agg #[(.int .i64 x77),(.int .i64 x77v1),(.slice x77v2 x77N x77C)]) /\
 (CALL PG 18 [(.pointer t),(.agg #[(.int .i64 x77),(.int .i64 x77v1),(.slice x77v2 x77N x77C)])] w16 fun v8 w17 =>
 ∃ x78 : Int,v8 = (.int .i64 x78) /\
 (RD PG (loadVar 43 a4) w17 fun v9 =>
 ∃ (x219 : Option Addr) (x219N x219C : Nat),∃ (x219v1 : Option Addr) (x219N1 x219C1 : Nat),∃ (x219v2 : Option Addr) (x219N2 x219C2 : Nat),∃ (x219v3 : Option Addr) (x219N3 x219C3 : Nat),v9 = (.agg #[(.slice x219 x219N x219C),(.slice x219v1 x219N1 x219C1),(.slice x219v2 x219N2 x219C2),(.slice x219v3 x219N3 x219C3)]) /\
 (RUNU PG (storeVar 43 a6 (.agg #[(.slice x219 x219N x219C),(.slice x219v1 x219N1 x219C1),(.slice x219v2 x219N2 x219C2),(.slice x219v3 x219N3 x219C3)])) w17 fun w18 =>
 RD PG (loadVar 43 a6) w18 fun v11 =>
 ∃ (r4 : Option Addr) (rN4 rC4 : Nat),∃ (r5 : Option Addr) (rN5 rC5 : Nat),∃ (r6 : Option Addr) (rN6 rC6 : Nat),∃ (r7 : Option Addr) (rN7 rC7 : Nat),v11 = (.agg #[(.slice r4 rN4 rC4),(.slice r5 rN5 rC5),(.slice r6 rN6 rC6),(.slice r7 rN7 rC7)]) /\
 (Q (.agg #[(.slice r4 rN4 rC4),(.slice r5 rN5 rC5),(.slice r6 rN6 rC6),(.slice r7 rN7 rC7)]) w18)))))
 (RD PG (loadVar 43 a4) w16 fun v12 =>
 ∃ (x219v4 : Option Addr) (x219N4 x219C4 : Nat),∃ (x219v5 : Option Addr) (x219N5 x219C5 : Nat),∃ (x219v6 : Option Addr) (x219N6 x219C6 : Nat),∃ (x219v7 : Option Addr) (x219N7 x219C7 : Nat),v12 = (.agg #[(.slice x219v4 x219N4 x219C4),(.slice x219v5 x219N5 x219C5),(.slice x219v6 x219N6 x219C6),(.slice x219v7 x219N7 x219C7)]) /\
 (RUNU PG (storeVar 43 a6 (.agg #[(.slice x219v4 x219N4 x219C4),(.slice x219v5 x219N5 x219C5),(.slice x219v6 x219N6 x219C6),(.slice x219v7 x219N7 x219C7)])) w16 fun w19 =>
 RD PG (loadVar 43 a6) w19 fun v14 =>
 ∃ (r8 : Option Addr) (rN8 rC8 : Nat),∃ (r9 : Option Addr) (rN9 rC9 : Nat),∃ (r10 : Option Addr) (rN10 rC10 : Nat),∃ (r11 : Option Addr) (rN11 rC11 : Nat),v14 = (.agg #[(.slice r8 rN8 rC8),(.slice r9 rN9 rC9),(.slice r10 rN10 rC10),(.slice r11 rN11 rC11)]) /\
 (Q (.agg #[(.slice r8 rN8 rC8),(.slice r9 rN9 rC9),(.slice r10 rN10 rC10),(.slice r11 rN11 rC11)]) w19)))))))))))
 (∃ R1 : Bool -> World -> Prop,
 (IFB (decide (k ≥ 7))
 (LETB (decide (k < 15)) fun x79 =>
 R1 x79 w6)
 (LETB false fun x79v1 =>
 R1 x79v1 w6)) /\
 (∀ (x79v2 : Bool) (w20 : World),R1 x79v2 w20 -> (IFB x79v2
 (RD PG (loadVar 43 a4) w20 fun v15 =>
 ∃ (x87 : Option Addr) (x87N x87C : Nat),∃ (x87v1 : Option Addr) (x87N1 x87C1 : Nat),∃ (x87v2 : Option Addr) (x87N2 x87C2 : Nat),∃ (x87v3 : Option Addr) (x87N3 x87C3 : Nat),v15 = (.agg #[(.slice x87 x87N x87C),(.slice x87v1 x87N1 x87C1),(.slice x87v2 x87N2 x87C2),(.slice x87v3 x87N3 x87C3)]) /\
 (RD PG (loadVar 46 a5) w20 fun v16 =>
 ∃ x88 : Int,∃ x88v1 : Int,∃ x88v2 : Int,∃ (x88v3 : Option Addr) (x88N x88C : Nat),v16 = (.agg #[(.int .i64 x88),(.int .i64 x88v1),(.int .i64 x88v2),(.slice x88v3 x88N x88C)]) /\
 (CALL PG 19 [(.pointer t),(.agg #[(.slice x87 x87N x87C),(.slice x87v1 x87N1 x87C1),(.slice x87v2 x87N2 x87C2),(.slice x87v3 x87N3 x87C3)]),(.agg #[(.int .i64 x88),(.int .i64 x88v1),(.int .i64 x88v2),(.slice x88v3 x88N x88C)]),(.int .i64 k)] w20 fun v17 w21 =>
 ∃ (x90 : Option Addr) (x90N x90C : Nat),∃ (x90v1 : Option Addr) (x90N1 x90C1 : Nat),∃ (x90v2 : Option Addr) (x90N2 x90C2 : Nat),∃ (x90v3 : Option Addr) (x90N3 x90C3 : Nat),v17 = (.agg #[(.slice x90 x90N x90C),(.slice x90v1 x90N1 x90C1),(.slice x90v2 x90N2 x90C2),(.slice x90v3 x90N3 x90C3)]) /\
 (RUNU PG (storeVar 43 a6 (.agg #[(.slice x90 x90N x90C),(.slice x90v1 x90N1 x90C1),(.slice x90v2 x90N2 x90C2),(.slice x90v3 x90N3 x90C3)])) w21 fun w22 =>
 RD PG (loadVar 43 a6) w22 fun v19 =>
 ∃ (r12 : Option Addr) (rN12 rC12 : Nat),∃ (r13 : Option Addr) (rN13 rC13 : Nat),∃ (r14 : Option Addr) (rN14 rC14 : Nat),∃ (r15 : Option Addr) (rN15 rC15 : Nat),v19 = (.agg #[(.slice r12 rN12 rC12),(.slice r13 rN13 rC13),(.slice r14 rN14 rC14),(.slice r15 rN15 rC15)]) /\
 (Q (.agg #[(.slice r12 rN12 rC12),(.slice r13 rN13 rC13),(.slice r14 rN14 rC14),(.slice r15 rN15 rC15)]) w22)))))
 (∃ R2 : Bool -> World -> Prop,
 (IFB (decide (k ≥ 15))
 (LETB (decide (k < 18)) fun x91 =>
 R2 x91 w20)
 (LETB false fun x91v1 =>
 R2 x91v1 w20)) /\
 (∀ (x91v2 : Bool) (w23 : World),R2 x91v2 w23 -> (IFB x91v2
 (∃ I : Nat -> Int -> World -> Prop,
 (∃ m,I m 0 w23) /\
 (∀ m1 (n : Int) (w24 : World),I m1 n w24 -> (RDI PG (loadVar 3 (a5.add 1)) .i64 w24 fun x100 =>
 CALL PG 17 [(.int .i64 x100),(.int .i64 20)] w24 fun v20 w25 =>
 ∃ x101 : Int,v20 = (.int .i64 x101) /\
 (IFB (decide (n <= x101))
 (NILC t fun a106 =>
 RDP PG (loadVar 34 (a106.add 0)) (w25.drew) fun x108 =>
 NILC t fun a110 =>
 RDP PG (loadVar 35 (a110.add 23)) (w25.drew) fun x112 =>
 CALL PG 20 [(.pointer x108),(.pointer x112)] (w25.drew) fun v21 w26 =>
 v21 = (.tuple #[]) /\
 (NILC t fun a115 =>
 RDP PG (loadVar 34 (a115.add 1)) w26 fun x117 =>
 IFB (!x117.isNone)
 (NILC t fun a120 =>
 RDP PG (loadVar 34 (a120.add 1)) (w26.drew) fun x122 =>
 NILC t fun a124 =>
 RDP PG (loadVar 35 (a124.add 23)) (w26.drew) fun x126 =>
 CALL PG 20 [(.pointer x122),(.pointer x126)] (w26.drew) fun v22 w27 =>
 v22 = (.tuple #[]) /\
 (CALL PG 15 [(.pointer t)] w27 fun v23 w28 =>
 v23 = (.tuple #[]) /\
 (LETI (IntKind.i64.wrap (n + 1)) fun n1 =>
 ∃ m2,m2 < m1 /\ I m2 n1 w28)))
 (CALL PG 15 [(.pointer t)] w26 fun v24 w29 =>
 v24 = (.tuple #[]) /\
 (LETI (IntKind.i64.wrap (n + 1)) fun n2 =>
 ∃ m3,m3 < m1 /\ I m3 n2 w29))))
 (RD PG (loadVar 43 a4) w25 fun v25 =>
 ∃ (x219v8 : Option Addr) (x219N8 x219C8 : Nat),∃ (x219v9 : Option Addr) (x219N9 x219C9 : Nat),∃ (x219v10 : Option Addr) (x219N10 x219C10 : Nat),∃ (x219v11 : Option Addr) (x219N11 x219C11 : Nat),v25 = (.agg #[(.slice x219v8 x219N8 x219C8),(.slice x219v9 x219N9 x219C9),(.slice x219v10 x219N10 x219C10),(.slice x219v11 x219N11 x219C11)]) /\
 (RUNU PG (storeVar 43 a6 (.agg #[(.slice x219v8 x219N8 x219C8),(.slice x219v9 x219N9 x219C9),(.slice x219v10 x219N10 x219C10),(.slice x219v11 x219N11 x219C11)])) w25 fun w30 =>
 RD PG (loadVar 43 a6) w30 fun v27 =>
 ∃ (r16 : Option Addr) (rN16 rC16 : Nat),∃ (r17 : Option Addr) (rN17 rC17 : Nat),∃ (r18 : Option Addr) (rN18 rC18 : Nat),∃ (r19 : Option Addr) (rN19 rC19 : Nat),v27 = (.agg #[(.slice r16 rN16 rC16),(.slice r17 rN17 rC17),(.slice r18 rN18 rC18),(.slice r19 rN19 rC19)]) /\
 (Q (.agg #[(.slice r16 rN16 rC16),(.slice r17 rN17 rC17),(.slice r18 rN18 rC18),(.slice r19 rN19 rC19)]) w30)))))))
 (∃ R3 : Bool -> World -> Prop,
 (IFB (k == 18)
 (NILC t fun a135 =>
 RDP PG (loadVar 34 (a135.add 1)) w23 fun x137 =>
 LETB (!x137.isNone) fun x130 =>
 R3 x130 w23)
 (LETB false fun x130v1 =>
 R3 x130v1 w23)) /\
 (∀ (x130v2 : Bool) (w31 : World),R3 x130v2 w31 -> (IFB x130v2
 (NILC t fun a141 =>
 RDP PG (loadVar 34 (a141.add 1)) (w31.drew) fun x143 =>
 RDI PG (loadVar 3 (a5.add 1)) .i64 (w31.drew) fun x145 =>
 CALL PG 21 [(.pointer x143),(.int .i64 x145)] (w31.drew) fun v28 w32 =>
 ∃ x146 : Int,v28 = (.int .i64 x146) /\
 (CALL PG 15 [(.pointer t)] w32 fun v29 w33 =>
 v29 = (.tuple #[]) /\
 (RD PG (loadVar 43 a4) w33 fun v30 =>
 ∃ (x219v12 : Option Addr) (x219N12 x219C12 : Nat),∃ (x219v13 : Option Addr) (x219N13 x219C13 : Nat),∃ (x219v14 : Option Addr) (x219N14 x219C14 : Nat),∃ (x219v15 : Option Addr) (x219N15 x219C15 : Nat),v30 = (.agg #[(.slice x219v12 x219N12 x219C12),(.slice x219v13 x219N13 x219C13),(.slice x219v14 x219N14 x219C14),(.slice x219v15 x219N15 x219C15)]) /\
 (RUNU PG (storeVar 43 a6 (.agg #[(.slice x219v12 x219N12 x219C12),(.slice x219v13 x219N13 x219C13),(.slice x219v14 x219N14 x219C14),(.slice x219v15 x219N15 x219C15)])) w33 fun w34 =>
 RD PG (loadVar 43 a6) w34 fun v32 =>
 ∃ (r20 : Option Addr) (rN20 rC20 : Nat),∃ (r21 : Option Addr) (rN21 rC21 : Nat),∃ (r22 : Option Addr) (rN22 rC22 : Nat),∃ (r23 : Option Addr) (rN23 rC23 : Nat),v32 = (.agg #[(.slice r20 rN20 rC20),(.slice r21 rN21 rC21),(.slice r22 rN22 rC22),(.slice r23 rN23 rC23)]) /\
 (Q (.agg #[(.slice r20 rN20 rC20),(.slice r21 rN21 rC21),(.slice r22 rN22 rC22),(.slice r23 rN23 rC23)]) w34)))))
 (∃ R4 : Bool -> World -> Prop,
 (IFB (k == 19)
 (LETB true fun x149 =>
 R4 x149 w31)
 (LETB (k == 20) fun x149v1 =>
 R4 x149v1 w31)) /\
 (∀ (x149v2 : Bool) (w35 : World),R4 x149v2 w35 -> (IFB x149v2
 (RDI PG (loadVar 3 (a5.add 1)) .i64 w35 fun x159 =>
 RDL PG (loadVar 41 (a5.add 3)) w35 fun x161 x161N x161C =>
 RD PG (Instr.build 79 #[(0,(.int .i64 (IntKind.i64.wrap (k - 19)))),(1,(.int .i64 x159)),(2,(.slice x161 x161N x161C))]) w35 fun v33 =>
 ∃ x162 : Int,∃ x162v1 : Int,∃ (x162v2 : Option Addr) (x162N x162C : Nat),v33 = (.agg #[(.int .i64 x162),(.int .i64 x162v1),(.slice x162v2 x162N x162C)]) /\
 (RUNA PG (Instr.alloc 79 true (.tuple #[])) w35 fun a11 w36 =>
 RUNU PG (storeVar 79 a11 (.agg #[(.int .i64 x162),(.int .i64 x162v1),(.slice x162v2 x162N x162C)])) w36 fun w37 =>
 RD PG (loadVar 79 a11) w37 fun v34 =>
 ∃ x164 : Int,∃ x164v1 : Int,∃ (x164v2 : Option Addr) (x164N x164C : Nat),v34 = (.agg #[(.int .i64 x164),(.int .i64 x164v1),(.slice x164v2 x164N x164C)]) /\
 (CALL PG 18 [(.pointer t),(.agg #[(.int .i64 x164),(.int .i64 x164v1),(.slice x164v2 x164N x164C)])] w37 fun v35 w38 =>
 ∃ x165 : Int,v35 = (.int .i64 x165) /\
 (IFB (x165 == 1)
 (RD PG (loadVar 79 a11) w38 fun v36 =>
 ∃ x169 : Int,∃ x169v1 : Int,∃ (x169v2 : Option Addr) (x169N x169C : Nat),v36 = (.agg #[(.int .i64 x169),(.int .i64 x169v1),(.slice x169v2 x169N x169C)]) /\
 (CALL PG 22 [(.pointer t),(.agg #[(.int .i64 x169),(.int .i64 x169v1),(.slice x169v2 x169N x169C)])] w38 fun v37 w39 =>
 ∃ x170 : Bool,v37 = (.bool x170) /\
 (IFB (!x170)
 (RDL PG (loadVar 41 (a5.add 3)) w39 fun x175 x175N x175C =>
 CALL PG 23 [(.slice x175 x175N x175C)] w39 fun v38 w40 =>
 ∃ x176 : Bool,v38 = (.bool x176) /\
 (IFB (!x176)
 (NILC t fun a180 =>
 RUNU PG (storeVar 4 (a180.add 26) (.bool true)) w40 fun w41 =>
 RD PG (loadVar 43 a4) w41 fun v39 =>
 ∃ (x219v16 : Option Addr) (x219N16 x219C16 : Nat),∃ (x219v17 : Option Addr) (x219N17 x219C17 : Nat),∃ (x219v18 : Option Addr) (x219N18 x219C18 : Nat),∃ (x219v19 : Option Addr) (x219N19 x219C19 : Nat),v39 = (.agg #[(.slice x219v16 x219N16 x219C16),(.slice x219v17 x219N17 x219C17),(.slice x219v18 x219N18 x219C18),(.slice x219v19 x219N19 x219C19)]) /\
 (RUNU PG (storeVar 43 a6 (.agg #[(.slice x219v16 x219N16 x219C16),(.slice x219v17 x219N17 x219C17),(.slice x219v18 x219N18 x219C18),(.slice x219v19 x219N19 x219C19)])) w41 fun w42 =>
 RD PG (loadVar 43 a6) w42 fun v41 =>
 ∃ (r24 : Option Addr) (rN24 rC24 : Nat),∃ (r25 : Option Addr) (rN25 rC25 : Nat),∃ (r26 : Option Addr) (rN26 rC26 : Nat),∃ (r27 : Option Addr) (rN27 rC27 : Nat),v41 = (.agg #[(.slice r24 rN24 rC24),(.slice r25 rN25 rC25),(.slice r26 rN26 rC26),(.slice r27 rN27 rC27)]) /\
 (Q (.agg #[(.slice r24 rN24 rC24),(.slice r25 rN25 rC25),(.slice r26 rN26 rC26),(.slice r27 rN27 rC27)]) w42)))
 (RD PG (loadVar 43 a4) w40 fun v42 =>
 ∃ (x219v20 : Option Addr) (x219N20 x219C20 : Nat),∃ (x219v21 : Option Addr) (x219N21 x219C21 : Nat),∃ (x219v22 : Option Addr) (x219N22 x219C22 : Nat),∃ (x219v23 : Option Addr) (x219N23 x219C23 : Nat),v42 = (.agg #[(.slice x219v20 x219N20 x219C20),(.slice x219v21 x219N21 x219C21),(.slice x219v22 x219N22 x219C22),(.slice x219v23 x219N23 x219C23)]) /\
 (RUNU PG (storeVar 43 a6 (.agg #[(.slice x219v20 x219N20 x219C20),(.slice x219v21 x219N21 x219C21),(.slice x219v22 x219N22 x219C22),(.slice x219v23 x219N23 x219C23)])) w40 fun w43 =>
 RD PG (loadVar 43 a6) w43 fun v44 =>
 ∃ (r28 : Option Addr) (rN28 rC28 : Nat),∃ (r29 : Option Addr) (rN29 rC29 : Nat),∃ (r30 : Option Addr) (rN30 rC30 : Nat),∃ (r31 : Option Addr) (rN31 rC31 : Nat),v44 = (.agg #[(.slice r28 rN28 rC28),(.slice r29 rN29 rC29),(.slice r30 rN30 rC30),(.slice r31 rN31 rC31)]) /\
 (Q (.agg #[(.slice r28 rN28 rC28),(.slice r29 rN29 rC29),(.slice r30 rN30 rC30),(.slice r31 rN31 rC31)]) w43)))))
 (RD PG (loadVar 43 a4) w39 fun v45 =>
 ∃ (x219v24 : Option Addr) (x219N24 x219C24 : Nat),∃ (x219v25 : Option Addr) (x219N25 x219C25 : Nat),∃ (x219v26 : Option Addr) (x219N26 x219C26 : Nat),∃ (x219v27 : Option Addr) (x219N27 x219C27 : Nat),v45 = (.agg #[(.slice x219v24 x219N24 x219C24),(.slice x219v25 x219N25 x219C25),(.slice x219v26 x219N26 x219C26),(.slice x219v27 x219N27 x219C27)]) /\
 (RUNU PG (storeVar 43 a6 (.agg #[(.slice x219v24 x219N24 x219C24),(.slice x219v25 x219N25 x219C25),(.slice x219v26 x219N26 x219C26),(.slice x219v27 x219N27 x219C27)])) w39 fun w44 =>
 RD PG (loadVar 43 a6) w44 fun v47 =>
 ∃ (r32 : Option Addr) (rN32 rC32 : Nat),∃ (r33 : Option Addr) (rN33 rC33 : Nat),∃ (r34 : Option Addr) (rN34 rC34 : Nat),∃ (r35 : Option Addr) (rN35 rC35 : Nat),v47 = (.agg #[(.slice r32 rN32 rC32),(.slice r33 rN33 rC33),(.slice r34 rN34 rC34),(.slice r35 rN35 rC35)]) /\
 (Q (.agg #[(.slice r32 rN32 rC32),(.slice r33 rN33 rC33),(.slice r34 rN34 rC34),(.slice r35 rN35 rC35)]) w44))))))
 (RD PG (loadVar 43 a4) w38 fun v48 =>
 ∃ (x219v28 : Option Addr) (x219N28 x219C28 : Nat),∃ (x219v29 : Option Addr) (x219N29 x219C29 : Nat),∃ (x219v30 : Option Addr) (x219N30 x219C30 : Nat),∃ (x219v31 : Option Addr) (x219N31 x219C31 : Nat),v48 = (.agg #[(.slice x219v28 x219N28 x219C28),(.slice x219v29 x219N29 x219C29),(.slice x219v30 x219N30 x219C30),(.slice x219v31 x219N31 x219C31)]) /\
 (RUNU PG (storeVar 43 a6 (.agg #[(.slice x219v28 x219N28 x219C28),(.slice x219v29 x219N29 x219C29),(.slice x219v30 x219N30 x219C30),(.slice x219v31 x219N31 x219C31)])) w38 fun w45 =>
 RD PG (loadVar 43 a6) w45 fun v50 =>
 ∃ (r36 : Option Addr) (rN36 rC36 : Nat),∃ (r37 : Option Addr) (rN37 rC37 : Nat),∃ (r38 : Option Addr) (rN38 rC38 : Nat),∃ (r39 : Option Addr) (rN39 rC39 : Nat),v50 = (.agg #[(.slice r36 rN36 rC36),(.slice r37 rN37 rC37),(.slice r38 rN38 rC38),(.slice r39 rN39 rC39)]) /\
 (Q (.agg #[(.slice r36 rN36 rC36),(.slice r37 rN37 rC37),(.slice r38 rN38 rC38),(.slice r39 rN39 rC39)]) w45)))))))
 (∃ R5 : Bool -> World -> Prop,
 (IFB (k == 21)
 (NILC t fun a187 =>
 RDL PG (loadVar 36 (a187.add 25)) w35 fun x189 x189N x189C =>
 LETB (decide ((x189N : Int) > 0)) fun x182 =>
 R5 x182 w35)
 (LETB false fun x182v1 =>
 R5 x182v1 w35)) /\
 (∀ (x182v2 : Bool) (w46 : World),R5 x182v2 w46 -> (IFB x182v2
 (∃ S5 : World -> Prop,S5 (w46.drew) /\
 (NILC t fun a194 =>
 RDSL PG (loadVar 36 (a194.add 25)) S5 fun x196 x196N x196C =>
 RDSI PG (loadVar 3 (a5.add 1)) .i64 S5 fun x198 =>
 NILC t fun a200 =>
 RDSL PG (loadVar 36 (a200.add 25)) S5 fun x202 x202N x202C =>
 (CALL PG 17 [(.int .i64 x198),(.int .i64 (x202N : Int))] (w46.drew) fun v51 w47 =>
 ∃ x204 : Int,v51 = (.int .i64 x204) /\
 (∃ S6 : World -> Prop,(∀ x,S6 x -> S5 x) /\ S6 w47 /\
 (IDX x196 x196N x204 fun a205 =>
 RDS PG (loadVar 79 (a205.add (Int.toNat x204 * 3))) S6 fun v52 =>
 ∃ x206 : Int,∃ x206v1 : Int,∃ (x206v2 : Option Addr) (x206N x206C : Nat),v52 = (.agg #[(.int .i64 x206),(.int .i64 x206v1),(.slice x206v2 x206N x206C)]) /\
 (RUNA PG (Instr.alloc 79 true (.tuple #[])) w47 fun a12 w48 =>
 ∃ S7 : World -> Prop,(∀ x,S7 x -> S6 x) /\ S7 w48 /\
 (RUNU PG (storeVar 79 a12 (.agg #[(.int .i64 x206),(.int .i64 x206v1),(.slice x206v2 x206N x206C)])) w48 fun w49 =>
 RDI PG (loadVar 3 (a5.add 2)) .i64 (w49.drew) fun x208 =>
 NILC t fun a210 =>
 RDI PG (loadVar 3 ((a210.add 2).add 7)) .i64 (w49.drew) fun x213 =>
 CALL PG 17 [(.int .i64 x208),(.int .i64 x213)] (w49.drew) fun v53 w50 =>
 ∃ x214 : Int,v53 = (.int .i64 x214) /\
 (RUNU PG (storeVar 3 (a12.add 1) (.int .i64 x214)) w50 fun w51 =>
 RD PG (loadVar 79 a12) w51 fun v54 =>
 ∃ x217 : Int,∃ x217v1 : Int,∃ (x217v2 : Option Addr) (x217N x217C : Nat),v54 = (.agg #[(.int .i64 x217),(.int .i64 x217v1),(.slice x217v2 x217N x217C)]) /\
 (CALL PG 18 [(.pointer t),(.agg #[(.int .i64 x217),(.int .i64 x217v1),(.slice x217v2 x217N x217C)])] w51 fun v55 w52 =>
 ∃ x218 : Int,v55 = (.int .i64 x218) /\
 (RD PG (loadVar 43 a4) w52 fun v56 =>
 ∃ (x219v32 : Option Addr) (x219N32 x219C32 : Nat),∃ (x219v33 : Option Addr) (x219N33 x219C33 : Nat),∃ (x219v34 : Option Addr) (x219N34 x219C34 : Nat),∃ (x219v35 : Option Addr) (x219N35 x219C35 : Nat),v56 = (.agg #[(.slice x219v32 x219N32 x219C32),(.slice x219v33 x219N33 x219C33),(.slice x219v34 x219N34 x219C34),(.slice x219v35 x219N35 x219C35)]) /\
 (RUNU PG (storeVar 43 a6 (.agg #[(.slice x219v32 x219N32 x219C32),(.slice x219v33 x219N33 x219C33),(.slice x219v34 x219N34 x219C34),(.slice x219v35 x219N35 x219C35)])) w52 fun w53 =>
 RD PG (loadVar 43 a6) w53 fun v58 =>
 ∃ (r40 : Option Addr) (rN40 rC40 : Nat),∃ (r41 : Option Addr) (rN41 rC41 : Nat),∃ (r42 : Option Addr) (rN42 rC42 : Nat),∃ (r43 : Option Addr) (rN43 rC43 : Nat),v58 = (.agg #[(.slice r40 rN40 rC40),(.slice r41 rN41 rC41),(.slice r42 rN42 rC42),(.slice r43 rN43 rC43)]) /\
 (Q (.agg #[(.slice r40 rN40 rC40),(.slice r41 rN41 rC41),(.slice r42 rN42 rC42),(.slice r43 rN43 rC43)]) w53)))))))))) /\
 (RUNA PG (Instr.alloc 79 true (.tuple #[])) (w46.drew) fun a12v1 w54 =>
 ∃ S8 : World -> Prop,(∀ x,S8 x -> S5 x) /\ S8 w54 /\
 (CALL PG 17 [(.int .i64 x198),(.int .i64 (x202N : Int))] w54 fun v59 w55 =>
 ∃ x204v1 : Int,v59 = (.int .i64 x204v1) /\
 (∃ S9 : World -> Prop,(∀ x,S9 x -> S8 x) /\ S9 w55 /\
 (IDX x196 x196N x204v1 fun a205v1 =>
 RDS PG (loadVar 79 (a205v1.add (Int.toNat x204v1 * 3))) S9 fun v60 =>
 ∃ x206v3 : Int,∃ x206v4 : Int,∃ (x206v5 : Option Addr) (x206N1 x206C1 : Nat),v60 = (.agg #[(.int .i64 x206v3),(.int .i64 x206v4),(.slice x206v5 x206N1 x206C1)]) /\
 (RUNU PG (storeVar 79 a12v1 (.agg #[(.int .i64 x206v3),(.int .i64 x206v4),(.slice x206v5 x206N1 x206C1)])) w55 fun w56 =>
 RDI PG (loadVar 3 (a5.add 2)) .i64 (w56.drew) fun x208v1 =>
 NILC t fun a210v1 =>
 RDI PG (loadVar 3 ((a210v1.add 2).add 7)) .i64 (w56.drew) fun x213v1 =>
 CALL PG 17 [(.int .i64 x208v1),(.int .i64 x213v1)] (w56.drew) fun v61 w57 =>
 ∃ x214v1 : Int,v61 = (.int .i64 x214v1) /\
 (RUNU PG (storeVar 3 (a12v1.add 1) (.int .i64 x214v1)) w57 fun w58 =>
 RD PG (loadVar 79 a12v1) w58 fun v62 =>
 ∃ x217v3 : Int,∃ x217v4 : Int,∃ (x217v5 : Option Addr) (x217N1 x217C1 : Nat),v62 = (.agg #[(.int .i64 x217v3),(.int .i64 x217v4),(.slice x217v5 x217N1 x217C1)]) /\
 (CALL PG 18 [(.pointer t),(.agg #[(.int .i64 x217v3),(.int .i64 x217v4),(.slice x217v5 x217N1 x217C1)])] w58 fun v63 w59 =>
 ∃ x218v1 : Int,v63 = (.int .i64 x218v1) /\
 (RD PG (loadVar 43 a4) w59 fun v64 =>
 ∃ (x219v36 : Option Addr) (x219N36 x219C36 : Nat),∃ (x219v37 : Option Addr) (x219N37 x219C37 : Nat),∃ (x219v38 : Option Addr) (x219N38 x219C38 : Nat),∃ (x219v39 : Option Addr) (x219N39 x219C39 : Nat),v64 = (.agg #[(.slice x219v36 x219N36 x219C36),(.slice x219v37 x219N37 x219C37),(.slice x219v38 x219N38 x219C38),(.slice x219v39 x219N39 x219C39)]) /\
 (RUNU PG (storeVar 43 a6 (.agg #[(.slice x219v36 x219N36 x219C36),(.slice x219v37 x219N37 x219C37),(.slice x219v38 x219N38 x219C38),(.slice x219v39 x219N39 x219C39)])) w59 fun w60 =>
 RD PG (loadVar 43 a6) w60 fun v66 =>
 ∃ (r44 : Option Addr) (rN44 rC44 : Nat),∃ (r45 : Option Addr) (rN45 rC45 : Nat),∃ (r46 : Option Addr) (rN46 rC46 : Nat),∃ (r47 : Option Addr) (rN47 rC47 : Nat),v66 = (.agg #[(.slice r44 rN44 rC44),(.slice r45 rN45 rC45),(.slice r46 rN46 rC46),(.slice r47 rN47 rC47)]) /\
 (Q (.agg #[(.slice r44 rN44 rC44),(.slice r45 rN45 rC45),(.slice r46 rN46 rC46),(.slice r47 rN47 rC47)]) w60))))))))))))
 (RD PG (loadVar 43 a4) w46 fun v67 =>
 ∃ (x219v40 : Option Addr) (x219N40 x219C40 : Nat),∃ (x219v41 : Option Addr) (x219N41 x219C41 : Nat),∃ (x219v42 : Option Addr) (x219N42 x219C42 : Nat),∃ (x219v43 : Option Addr) (x219N43 x219C43 : Nat),v67 = (.agg #[(.slice x219v40 x219N40 x219C40),(.slice x219v41 x219N41 x219C41),(.slice x219v42 x219N42 x219C42),(.slice x219v43 x219N43 x219C43)]) /\
 (RUNU PG (storeVar 43 a6 (.agg #[(.slice x219v40 x219N40 x219C40),(.slice x219v41 x219N41 x219C41),(.slice x219v42 x219N42 x219C42),(.slice x219v43 x219N43 x219C43)])) w46 fun w61 =>
 RD PG (loadVar 43 a6) w61 fun v69 =>
 ∃ (r48 : Option Addr) (rN48 rC48 : Nat),∃ (r49 : Option Addr) (rN49 rC49 : Nat),∃ (r50 : Option Addr) (rN50 rC50 : Nat),∃ (r51 : Option Addr) (rN51 rC51 : Nat),v69 = (.agg #[(.slice r48 rN48 rC48),(.slice r49 rN49 rC49),(.slice r50 rN50 rC50),(.slice r51 rN51 rC51)]) /\
 (Q (.agg #[(.slice r48 rN48 rC48),(.slice r49 rN49 rC49),(.slice r50 rN50 rC50),(.slice r51 rN51 rC51)]) w61))))))))))))))))))))))
theorem call7 {t : Option Addr} {h : Option Addr} {hN hC : Nat} {h1 : Option Addr} {hN1 hC1 : Nat} {h2 : Option Addr} {hN2 hC2 : Nat} {h3 : Option Addr} {hN3 hC3 : Nat} {o : Int} {o1 : Int} {o2 : Int} {o3 : Option Addr} {oN oC : Nat} {w : World} {Q : QP} (h_ : N7 t h hN hC h1 hN1 hC1 h2 hN2 hC2 h3 hN3 hC3 o o1 o2 o3 oN oC w Q) : CALL PG 7 [(.pointer t),(.agg #[(.slice h hN hC),(.slice h1 hN1 hC1),(.slice h2 hN2 hC2),(.slice h3 hN3 hC3)]),(.agg #[(.int .i64 o),(.int .i64 o1),(.int .i64 o2),(.slice o3 oN oC)])] w Q:=calls_vq (.s .nil (.s .nil (.s .nil (.s (.u (.cut [(24,4)] .nil (.c .nil (.cut [(79,4)] .nil (.c .nil (.cut [(91,4)] .nil (.c (.s .nil (.u (.loop [(10,3)] .nil))) (.cut [(130,4)] .nil (.c .nil (.cut [(149,4)] .nil (.c .nil (.cut [(182,4)] .nil .nil)))))))))))) .nil)))) tabOk Tryz.func7 (by kernel_rfl) h_
def N16 (n : Int) (w : World) (Q : QP) : Prop :=
 NEED ((22 : Int) ≠ 0)
 (NEED ((22 : Int) ≠ 0)
 (LETI (Int.tmod (IntKind.i64.wrap ((Int.tmod n 22) + 22)) 22) fun x2 =>
 Q (.int .i64 x2) w))
theorem call16 {n : Int} {w : World} {Q : QP} (h_ : N16 n w Q) : CALL PG 16 [(.int .i64 n)] w Q:=calls_vq .nil tabOk Tryz.func16 (by kernel_rfl) h_
def N17 (n : Int) (many : Int) (w : World) (Q : QP) : Prop :=
 IFB (many == 0)
 (Q (.int .i64 0) w)
 (NEED (many ≠ 0)
 (NEED (many ≠ 0)
 (LETI (Int.tmod (IntKind.i64.wrap ((Int.tmod n many) + many)) many) fun x4 =>
 Q (.int .i64 x4) w)))
theorem call17 {n : Int} {many : Int} {w : World} {Q : QP} (h_ : N17 n many w Q) : CALL PG 17 [(.int .i64 n),(.int .i64 many)] w Q:=calls_vq .nil tabOk Tryz.func17 (by kernel_rfl) h_
end Go.Br
/- Two ends: they begin; one thing arrives. -/
set_option linter.unusedVariables false
set_option linter.unusedSimpArgs false
set_option linter.unnecessarySimpa false
namespace Go.Br
open Go
instance biHandsAb : Zro PG 43 4 96 (.agg #[.slice none 0 0,.slice none 0 0,.slice none 0 0,.slice none 0 0]):=⟨tiOf (by kernel_rfl)⟩
instance biHandsAc : Zro PG 79 3 40 (.agg #[.int .i64 0,.int .i64 0,.slice none 0 0]):=⟨tiOf (by kernel_rfl)⟩
attribute [local irreducible] Addr.add RD RDS RUN RUNU NILC LETB CALL CALLX CALLV
structure Dr where
 ka : Int
 kb : Int
 fa : Int
 fb : Int
 seedK0 : Int
 seedK1 : Int
def drc (x : Dr) : List Value:=[.int .u64 x.ka,.int .u64 x.kb,.int .u32 x.fa,.int .u32 x.fb,.int .u64 x.seedK0,.int .u64 x.seedK1]
abbrev drcv (x : Dr) : Value:=.agg #[.int .u64 x.ka,.int .u64 x.kb,.int .u32 x.fa,.int .u32 x.fb,.int .u64 x.seedK0,.int .u64 x.seedK1]
theorem pickB {A : SA} {L : List SA} : ∀ {M : List SA},Pick A (M ++ A :: L) (M ++ L)
 | [] => .head
 | B :: M => .tail pickB
theorem ent_swapB : ∀ (A : List SA) {B C : List SA},Ent (all (A ++ (B ++ C))) (all (B ++ (A ++ C)))
 | [],B,C => Ent.refl _
 | X :: A,B,C => ((Ent.refl X).sep (ent_swapB A)).trans (Pick.back pickB)
def two (g : Cfg) (d : Dr) (a b src : Option Addr) (O1 : Option Addr) (N1 d1 : Nat) (O2 : Option Addr) (N2 d2 : Nat) : Tw :=
 ⟨a,b,g.ports,g.half,g.conns,g.flows,g.buffer,g.chunks,g.addrs,g.paths,g.mss,g.silence,g.keep,g.burst,g.rate,g.score,g.policy,d.ka,d.kb,d.fa,d.fb,d.seedK0,d.seedK1,src,O1,N1,d1,O2,N2,d2,false⟩
structure DrOk (d : Dr) : Prop where
 ka : 0 <= d.ka /\ d.ka < 18446744073709551616
 kb : 0 <= d.kb /\ d.kb < 18446744073709551616
 fa : 0 <= d.fa /\ d.fa < 4294967296
 fb : 0 <= d.fb /\ d.fb < 4294967296
def heard0 : List Value:=[.slice none 0 0,.slice none 0 0,.slice none 0 0,.slice none 0 0]
section
variable {c : Ctx} {w : World} {L : List SA}
theorem kind0_ok {Q : Value -> World -> Prop} (hk : Q (.int .i64 0) w) : CALL PG 16 [.int .i64 0] w Q:=by
 refine call16 ?_
 unfold N16
 exact ⟨by decide,by decide,leti (by decide) hk⟩
theorem round01_ok {Q : Value -> World -> Prop} (hk : Q (.int .i64 0) w) : CALL PG 17 [.int .i64 0,.int .i64 1] w Q:=by
 refine call17 ?_
 unfold N17
 exact iff_ rfl ⟨by decide,by decide,leti (by decide) hk⟩
theorem do0_ok {t : Nat} {T : Tw} {f : Fl22} {P0 : List SA} {Good : List SA -> Prop} (h : St c w (blk t 38 (twc { T with wayN:=1 }) :: own 79 3 T.way 1 T.wayC (([f] : List Fl22).flatMap flyc) :: (P0 ++ L))) (hC : 1 <= T.wayC) {Q : Value -> World -> Prop}
  (hk : ∀ O d w' L',St c w' (blk t 38 (twc { T with way:=O,wayN:=0,wayC:=d }) :: own 79 3 O 0 d [] :: (P0 ++ L')) -> ∀ K : World -> Prop,(∀ P w'',Good P -> St c w'' (P ++ L') -> K w'') -> CALL PG 18 [.pointer (some ⟨t,0,none⟩),flycv f] w' fun v w'' => ∃ x : Int,v = .int .i64 x /\ K w'')
  (hq : ∀ P w',Good P -> St c w' (P ++ L) -> Q (.agg heard0.toArray) w') : CALL PG 7 [.pointer (some ⟨t,0,none⟩),.agg heard0.toArray,.agg #[.int .i64 0,.int .i64 0,.int .i64 0,.slice none 0 0]] w Q:=by
 refine call7 ?_
 unfold N7
 refine h.box (vs:=heard0) fun q4 w' h => ?_
 refine h.box (vs:=[.int .i64 0,.int .i64 0,.int .i64 0,.slice none 0 0]) fun q5 w' h => ?_
 refine h.allocZ fun q6 w' h => ?_
 refine h.rdI (B:=q5) 0 ?_
 refine kind0_ok ⟨_,rfl,leti rfl ?_⟩
 have h:=h.drew
 refine h.rdI (B:=q5) 1 (nilc (h.rdL (B:=t) 24 ?_))
 refine round01_ok ⟨_,rfl,leti rfl ?_⟩
 refine ⟨fun bb w => bb = true /\ St c w (blk q6 43 heard0 :: blk q5 46 [.int .i64 0,.int .i64 0,.int .i64 0,.slice none 0 0] :: blk q4 43 heard0 :: blk t 38 (twc { T with wayN:=1 }) :: own 79 3 T.way 1 T.wayC (([f] : List Fl22).flatMap flyc) :: (P0 ++ L)),?_,?_⟩
 ·refine ifdt (by decide) (nilc (h.rdL (B:=t) 24 ?_))
  exact letb (y:=true) rfl ⟨rfl,h⟩
 clear h
 rintro bb w' ⟨rfl,h⟩
 refine ift rfl (nilc (h.rdL (B:=t) 24 ?_))
 have hr : ∀ {Z},Z = T.way -> RdIn (blk q6 43 heard0 :: blk q5 46 [.int .i64 0,.int .i64 0,.int .i64 0,.slice none 0 0] :: blk q4 43 heard0 :: blk t 38 (twc { T with wayN:=1 }) :: own 79 3 T.way 1 T.wayC (([f] : List Fl22).flatMap flyc) :: (P0 ++ L)) Z (([f] : List Fl22).flatMap flyc):=fun e => by subst e; exact RdIn.own (.tail (.tail (.tail (.tail .head))))
 refine h.ix (z:=2) (i:=0) (hr rfl) rfl (fun a ha => ?_) (by show 0 < 1; decide)
 refine h.rdEG (i:=0) (hr ha.symm) rfl ?_
 (repeat apply exi)
 apply exr
 refine h.allocZ fun q9 w' h => ?_
 refine h.stG (B:=q9) (fun w' h => ?_) (hl:=by rfl)
 refine iff_ rfl ?_
 have h:=h.drew
 refine ⟨fun w => St c w [blk t 38 (twc { T with wayN:=1 })],h.sub (.cons (.tail (.tail (.tail (.tail .head)))) (.nil)),nilc ?_⟩
 refine St.rdsL (B:=t) 24 ⟨⟨by decide,by decide,by omega⟩,nilc ?_⟩
 refine St.rdsL (B:=t) 24 ⟨⟨by decide,by show IntKind.i64.wrap (0 + 1) <= ((1 : Nat) : Int); decide,by show ((1 : Nat) : Int) <= (T.wayC : Int); omega⟩,?_⟩
 refine h.lit (n:=0) 79 3 [] fun q10 w' h => ?_
 refine ⟨_,fun _ h => h,h.sub (.cons (.tail (.tail (.tail (.tail (.tail .head))))) (.nil)),?_⟩
 refine h.append huFlys tiFly .head (fun c w _ => Row.nil w _) (m:=0) rfl (by intro v hv; cases hv) (by decide) fun O1 d1 w' h => ?_
 refine ⟨_,fun _ h => h,h.sub (.cons (.tail (.tail (.tail (.tail (.tail .head))))) (.nil)),?_⟩
 refine h.append huFlys tiFly .head (fun c w _ => Row.nil w _) (m:=0) rfl (by intro v hv; cases hv) (by decide) fun O2 d2 w' h => nilc ?_
 refine h.st (B:=t) 24 fun w' h => ?_
 refine ifdt (by decide) ?_
 refine h.rdG (B:=q9) ?_
 (repeat apply exi)
 apply exr
 have h : St c w' (blk t 38 (twc { T with way:=O2,wayN:=0,wayC:=d2 }) :: own 79 3 O2 0 d2 [] :: blk q9 79 (flyc f) :: blk q6 43 heard0 :: blk q5 46 [.int .i64 0,.int .i64 0,.int .i64 0,.slice none 0 0] :: blk q4 43 heard0 :: own 79 3 T.way 1 T.wayC (([f] : List Fl22).flatMap flyc) :: (P0 ++ L)):=h
 have h:=h.sub (show Sub _ ([blk q6 43 heard0,blk q4 43 heard0] ++ ((blk t 38 (twc { T with way:=O2,wayN:=0,wayC:=d2 }) :: own 79 3 O2 0 d2 [] :: P0) ++ L)) from (.cons (.tail (.tail (.tail .head))) (.cons (.tail (.tail (.tail (.tail .head)))) (.cons .head (.cons .head ((Sub.same _).more.more.more))))))
 have h:=h.ent (ent_swapB _)
 refine hk O2 d2 w' ([blk q6 43 heard0,blk q4 43 heard0] ++ L) h _ fun P w' hG h => ?_
 have h : St c w' (blk q6 43 heard0 :: blk q4 43 heard0 :: (P ++ L)):=h.ent (ent_swapB P)
 refine h.rdG (B:=q4) ?_
 (repeat apply exi)
 apply exr
 refine h.stG (B:=q6) fun w' h => ?_
 refine h.rdG (B:=q6) ?_
 (repeat apply exi)
 apply exr
 exact hq P _ hG h.drop.drop
end
end Go.Br
