/- SegRep, SegEnc, SegGet, SegParse, SegRound -/
import Derived.Test.YtmglifmopjedbaaGreatBrOwn
import Derived.Test.YtmglifmopjedbaaGreatBrSeat
import Derived.Test.YtmglifmopjedbaaGreatJParsePure
import Derived.Test.YtmglifmopjedbaaGreatJHostLaw
/- A segment in memory. -/
set_option linter.unusedVariables false
set_option linter.unusedSimpArgs false
set_option linter.unnecessarySimpa false
namespace Go.Br
open Go
attribute [local irreducible] Addr.add RD RDS RUN RUNU NILC LETB CALL CALLX CALLV
theorem tiOpx : TI PG 122 2 32 (.agg #[.int .u8 0,.slice none 0 0]):=tiOf (by kernel_rfl)
theorem tiU8 : TI PG 5 1 1 (.int .u8 0):=tiOf (by kernel_rfl)
theorem huOpx : PG.underlying 116 = some (.slice 122):=by kernel_rfl
theorem huBytes : PG.underlying 41 = some (.slice 5):=by kernel_rfl
structure Opx where
 kind : Int
 body : Option Addr
 bodyC : Nat
 bodys : List UInt8
def opx (x : Opx) : List Value:=[.int .u8 x.kind,.slice x.body x.bodys.length x.bodyC]
abbrev opxv (x : Opx) : Value:=.agg #[.int .u8 x.kind,.slice x.body x.bodys.length x.bodyC]
theorem opx_length (x : Opx) : (opx x).length = 2:=rfl
theorem opx_flat1 (x : Opx) : Flat (opx x):=by intro v hv; simp [opx] at hv; rcases hv with rfl | rfl <;> rfl
theorem opx_flat (L : List Opx) : Flat (L.flatMap opx):=by
 intro v hv
 simp only [List.mem_flatMap] at hv
 obtain ⟨x,_,hx⟩:=hv
 exact opx_flat1 x v hx
structure Sg where
 src : Int
 dst : Int
 seq : Int
 ack : Int
 flags : Int
 oA : Option Addr
 oC : Nat
 os : List Opx
 dA : Option Addr
 dC : Nat
 ds : List UInt8
abbrev sgv (s : Sg) : Value:=.agg #[.int .u16 s.src,.int .u16 s.dst,.int .u32 s.seq,.int .u32 s.ack,.int .u8 s.flags,.slice s.oA s.os.length s.oC,.slice s.dA s.ds.length s.dC]
def SgAt (s : Sg) (w : World) : Prop:=Row w s.oA (s.os.flatMap opx) /\ (∀ o ∈ s.os,Row w o.body (bvs o.bodys)) /\ Row w s.dA (bvs s.ds)
abbrev sgp (s : Sg) : SA:=Br.ro (SgAt s)
structure SgP where
 src : Int
 dst : Int
 seq : Int
 ack : Int
 flags : Int
 os : List (Int × List UInt8)
 ds : List UInt8
def opl (o : Opx) : Int × List UInt8:=(o.kind,o.bodys)
def Sg.pl (s : Sg) : SgP:=⟨s.src,s.dst,s.seq,s.ack,s.flags,s.os.map opl,s.ds⟩
def parseS (b : List UInt8) : Except Int SgP :=
 if b.length < 14 ∨ 7 < (b.getD 12 0).toNat then .error 70
 else if 200 < (b.getD 13 0).toNat ∨ b.length - 14 < (b.getD 13 0).toNat then .error 71
 else match optsS ((b.drop 14).take (b.getD 13 0).toNat) with
  | none => .error 71
  | some os => if 1024 < b.length - 14 - (b.getD 13 0).toNat then .error 72
   else .ok ⟨beN (b.take 2),beN ((b.drop 2).take 2),beN ((b.drop 4).take 4),beN ((b.drop 8).take 4),((b.getD 12 0).toNat : Int),os,b.drop (14 + (b.getD 13 0).toNat)⟩
section
variable {c : Ctx} {w : World} {L R : List SA}
theorem St.ro2 {φ ψ : World -> Prop} (h : St c w (Br.ro φ :: Br.ro ψ :: L)) : St c w (Br.ro (fun w => φ w /\ ψ w) :: L):=by
 refine h.ent fun F G w h => ?_
 rw [all_cons] at h
 obtain ⟨F1,G1,F2,G2,rfl,rfl,h1,h2,h3,h4⟩:=h
 rw [all_cons] at h2
 obtain ⟨F3,G3,F4,G4,rfl,rfl,k1,k2,k3,k4⟩:=h2
 rw [ro_p] at h1 k1
 obtain ⟨rfl,a1,a2⟩:=h1
 obtain ⟨rfl,b1,b2⟩:=k1
 refine ⟨[] ++ F4,(G1 ++ G3) ++ G4,all_cons.2 ⟨[],G1 ++ G3,F4,G4,rfl,rfl,ro_p.2 ⟨rfl,fun i hi => ?_,fun w' hw => ⟨a2 w' fun i hi => hw i (by simp [hi]),b2 w' fun i hi => hw i (by simp [hi])⟩⟩,k2,by simp,fun i hi hc => ?_⟩,by simp,fun i hi => ?_⟩
 ·rw [List.mem_append] at hi
  exact hi.elim (a1 i) (b1 i)
 ·rw [List.mem_append] at hc
  rcases hc with hc | hc
  ·exact h4 i (by simp [hi]) hc
  ·exact k4 i hi hc
 ·simp only [List.mem_append] at hi ⊢
  rcases hi with (hi | hi) | hi <;> simp [hi]
theorem St.roW {φ ψ : World -> Prop} (h : St c w (Br.ro φ :: L)) (hi : ∀ w,φ w -> ψ w) : St c w (Br.ro ψ :: L):=(h.addRo .head hi).swap.drop
theorem St.ownRows {e z n k : Nat} {A : Option Addr} {cs : List Value} (h : St c w (Br.own e z A n k cs :: L)) : St c w (rows A cs :: L):=h.enth own_rows
theorem pick_app0 {A : SA} {L : List SA} : ∀ {M : List SA},Pick A (M ++ A :: L) (M ++ L)
 | [] => .head
 | B :: M => .tail pick_app0
theorem St.dropM : ∀ {M : List SA} {w : World} {L : List SA},St c w (M ++ L) -> St c w L
 | [],w,L,h => h
 | A :: M,w,L,h => St.dropM (M:=M) (St.drop h)
end
end Go.Br
/- What the code of some functions says,as the core reads it; each reading is checked by the kernel. -/
set_option linter.unusedVariables false
set_option maxRecDepth 100000
namespace Go.Br
open Go Go.Proofs
def N75 (k : Int) (k1 : Bool) (k2 : Int) (w : World) (Q : QP) : Prop :=
 RUNA PG (Instr.box 128 (.agg #[(.int .u64 k),(.bool k1),(.int .u64 k2)])) w fun a1 w1 =>
 RUNA PG (Instr.alloc 122 true (.tuple #[])) w1 fun a2 w2 =>
 RDI PG (loadVar 25 (a1.add 0)) .u64 w2 fun x5 =>
 CALL PG 125 [(.int .u64 x5)] w2 fun v w3 =>
 ∃ x6 : Int,∃ x6v1 : Int,v = (.agg #[(.int .i64 x6),(.int .u64 x6v1)]) /\
 (RUNL PG (Instr.buildSlice 263 1 #[(0,(.agg #[(.int .i64 x6),(.int .u64 x6v1)]))]) w3 fun x7 x7N x7C w4 =>
 CALL PG 124 [(.slice none 0 0),(.slice x7 x7N x7C)] w4 fun v1 w5 =>
 ∃ (x8 : Option Addr) (x8N x8C : Nat),v1 = (.slice x8 x8N x8C) /\
 (RDB PG (loadVar 4 (a1.add 1)) w5 fun x10 =>
 IFB x10
 (RDI PG (loadVar 25 ((a1.add 2).add 0)) .u64 w5 fun x14 =>
 CALL PG 125 [(.int .u64 x14)] w5 fun v2 w6 =>
 ∃ x15 : Int,∃ x15v1 : Int,v2 = (.agg #[(.int .i64 x15),(.int .u64 x15v1)]) /\
 (RUNL PG (Instr.buildSlice 263 1 #[(0,(.agg #[(.int .i64 x15),(.int .u64 x15v1)]))]) w6 fun x16 x16N x16C w7 =>
 CALL PG 124 [(.slice x8 x8N x8C),(.slice x16 x16N x16C)] w7 fun v3 w8 =>
 ∃ (x17 : Option Addr) (x17N x17C : Nat),v3 = (.slice x17 x17N x17C) /\
 (RD PG (Instr.build 122 #[(0,(.int .u8 1)),(1,(.slice x17 x17N x17C))]) w8 fun v4 =>
 ∃ x19 : Int,∃ (x19v1 : Option Addr) (x19N x19C : Nat),v4 = (.agg #[(.int .u8 x19),(.slice x19v1 x19N x19C)]) /\
 (RUNU PG (storeVar 122 a2 (.agg #[(.int .u8 x19),(.slice x19v1 x19N x19C)])) w8 fun w9 =>
 RD PG (loadVar 122 a2) w9 fun v6 =>
 ∃ r : Int,∃ (r1 : Option Addr) (rN rC : Nat),v6 = (.agg #[(.int .u8 r),(.slice r1 rN rC)]) /\
 (Q (.agg #[(.int .u8 r),(.slice r1 rN rC)]) w9)))))
 (RD PG (Instr.build 122 #[(0,(.int .u8 1)),(1,(.slice x8 x8N x8C))]) w5 fun v7 =>
 ∃ x19v2 : Int,∃ (x19v3 : Option Addr) (x19N1 x19C1 : Nat),v7 = (.agg #[(.int .u8 x19v2),(.slice x19v3 x19N1 x19C1)]) /\
 (RUNU PG (storeVar 122 a2 (.agg #[(.int .u8 x19v2),(.slice x19v3 x19N1 x19C1)])) w5 fun w10 =>
 RD PG (loadVar 122 a2) w10 fun v9 =>
 ∃ r2 : Int,∃ (r3 : Option Addr) (rN1 rC1 : Nat),v9 = (.agg #[(.int .u8 r2),(.slice r3 rN1 rC1)]) /\
 (Q (.agg #[(.int .u8 r2),(.slice r3 rN1 rC1)]) w10)))))
theorem call75 {k : Int} {k1 : Bool} {k2 : Int} {w : World} {Q : QP} (h_ : N75 k k1 k2 w Q) : CALL PG 75 [(.agg #[(.int .u64 k),(.bool k1),(.int .u64 k2)])] w Q:=calls_vq .nil tabOk Tryz.func75 (by kernel_rfl) h_
def N129 (s : Int) (s1 : Int) (s2 : Int) (s3 : Int) (s4 : Int) (s5 : Option Addr) (sN sC : Nat) (s6 : Option Addr) (sN1 sC1 : Nat) (w : World) (Q : QP) : Prop :=
 RUNA PG (Instr.box 118 (.agg #[(.int .u16 s),(.int .u16 s1),(.int .u32 s2),(.int .u32 s3),(.int .u8 s4),(.slice s5 sN sC),(.slice s6 sN1 sC1)])) w fun a1 w1 =>
 RD PG (loadVar 118 a1) w1 fun v =>
 ∃ x9 : Int,∃ x9v1 : Int,∃ x9v2 : Int,∃ x9v3 : Int,∃ x9v4 : Int,∃ (x9v5 : Option Addr) (x9N x9C : Nat),∃ (x9v6 : Option Addr) (x9N1 x9C1 : Nat),v = (.agg #[(.int .u16 x9),(.int .u16 x9v1),(.int .u32 x9v2),(.int .u32 x9v3),(.int .u8 x9v4),(.slice x9v5 x9N x9C),(.slice x9v6 x9N1 x9C1)]) /\
 (CALL PG 170 [(.agg #[(.int .u16 x9),(.int .u16 x9v1),(.int .u32 x9v2),(.int .u32 x9v3),(.int .u8 x9v4),(.slice x9v5 x9N x9C),(.slice x9v6 x9N1 x9C1)])] w1 fun v1 w2 =>
 ∃ x10 : Int,v1 = (.int .i64 x10) /\
 (LETI x10 fun e =>
 IFB (e != 0)
 (LETI e fun x3 =>
 Q (.tuple #[(.slice none 0 0),(.int .i64 x3)]) w2)
 (RDL PG (loadVar 116 (a1.add 5)) w2 fun x15 x15N x15C =>
 ∃ I : Nat -> Option Addr -> Nat -> Nat -> Int -> World -> Prop,
 (∃ m,I m none 0 0 0 w2) /\
 (∀ m1 (opts : Option Addr) (optsN optsC : Nat) (x17 : Int) (w3 : World),I m1 opts optsN optsC x17 w3 -> (IFB (decide (x17 < (x15N : Int)))
 (IDX x15 x15N x17 fun a19 =>
 RD PG (loadVar 122 (a19.add (Int.toNat x17 * 2))) w3 fun v2 =>
 ∃ x20 : Int,∃ (x20v1 : Option Addr) (x20N x20C : Nat),v2 = (.agg #[(.int .u8 x20),(.slice x20v1 x20N x20C)]) /\
 (RUNA PG (Instr.alloc 122 true (.tuple #[])) w3 fun a7 w4 =>
 RUNU PG (storeVar 122 a7 (.agg #[(.int .u8 x20),(.slice x20v1 x20N x20C)])) w4 fun w5 =>
 RDI PG (loadVar 5 (a7.add 0)) .u8 w5 fun x23 =>
 RDL PG (loadVar 41 (a7.add 1)) w5 fun x25 x25N x25C =>
 RUNL PG (Instr.buildSlice 41 2 #[(0,(.int .u8 x23)),(1,(.int .u8 (IntKind.u8.wrap (x25N : Int))))]) w5 fun x28 x28N x28C w6 =>
 RUNL PG (Builtin.append_ #[41,41] 41 #[(.slice opts optsN optsC),(.slice x28 x28N x28C)]) w6 fun x29 x29N x29C w7 =>
 RDL PG (loadVar 41 (a7.add 1)) w7 fun x32 x32N x32C =>
 RUNL PG (Builtin.append_ #[41,41] 41 #[(.slice x29 x29N x29C),(.slice x32 x32N x32C)]) w7 fun x33 x33N x33C w8 =>
 ∃ m2,m2 < m1 /\ I m2 x33 x33N x33C (IntKind.i64.wrap (x17 + 1)) w8))
 (RD PG (loadVar 118 a1) w3 fun v3 =>
 ∃ x35 : Int,∃ x35v1 : Int,∃ x35v2 : Int,∃ x35v3 : Int,∃ x35v4 : Int,∃ (x35v5 : Option Addr) (x35N x35C : Nat),∃ (x35v6 : Option Addr) (x35N1 x35C1 : Nat),v3 = (.agg #[(.int .u16 x35),(.int .u16 x35v1),(.int .u32 x35v2),(.int .u32 x35v3),(.int .u8 x35v4),(.slice x35v5 x35N x35C),(.slice x35v6 x35N1 x35C1)]) /\
 (CALL PG 171 [(.agg #[(.int .u16 x35),(.int .u16 x35v1),(.int .u32 x35v2),(.int .u32 x35v3),(.int .u8 x35v4),(.slice x35v5 x35N x35C),(.slice x35v6 x35N1 x35C1)])] w3 fun v4 w9 =>
 ∃ (x36 : Option Addr) (x36N x36C : Nat),v4 = (.slice x36 x36N x36C) /\
 (CALL PG 127 [(.int .u8 (IntKind.u8.wrap (optsN : Int)))] w9 fun v5 w10 =>
 ∃ x40 : Int,∃ x40v1 : Int,v5 = (.agg #[(.int .i64 x40),(.int .u64 x40v1)]) /\
 (RUNL PG (Instr.buildSlice 263 1 #[(0,(.agg #[(.int .i64 x40),(.int .u64 x40v1)]))]) w10 fun x41 x41N x41C w11 =>
 CALL PG 124 [(.slice x36 x36N x36C),(.slice x41 x41N x41C)] w11 fun v6 w12 =>
 ∃ (x42 : Option Addr) (x42N x42C : Nat),v6 = (.slice x42 x42N x42C) /\
 (∃ S : World -> Prop,S (w12.drew) /\
 (RDSL PG (loadVar 41 (a1.add 6)) S fun x47 x47N x47C =>
 RUNL PG (Builtin.append_ #[41,41] 41 #[(.slice x42 x42N x42C),(.slice opts optsN optsC)]) (w12.drew) fun x45 x45N x45C w13 =>
 ∃ S1 : World -> Prop,(∀ x,S1 x -> S x) /\ S1 w13 /\
 (RUNL PG (Builtin.append_ #[41,41] 41 #[(.slice x45 x45N x45C),(.slice x47 x47N x47C)]) w13 fun x48 x48N x48C w14 =>
 Q (.tuple #[(.slice x48 x48N x48C),(.int .i64 0)]) w14))))))))))))
theorem call129 {s : Int} {s1 : Int} {s2 : Int} {s3 : Int} {s4 : Int} {s5 : Option Addr} {sN sC : Nat} {s6 : Option Addr} {sN1 sC1 : Nat} {w : World} {Q : QP} (h_ : N129 s s1 s2 s3 s4 s5 sN sC s6 sN1 sC1 w Q) : CALL PG 129 [(.agg #[(.int .u16 s),(.int .u16 s1),(.int .u32 s2),(.int .u32 s3),(.int .u8 s4),(.slice s5 sN sC),(.slice s6 sN1 sC1)])] w Q:=calls_vq (.s .nil (.s .nil (.s .nil (.s (.s .nil (.u (.loop [(5,41),(17,3)] .nil))) .nil)))) tabOk Tryz.func129 (by kernel_rfl) h_
def N130 (s : Int) (s1 : Int) (s2 : Int) (s3 : Int) (s4 : Int) (s5 : Option Addr) (sN sC : Nat) (s6 : Option Addr) (sN1 sC1 : Nat) (l : Option Addr) (lN lC : Nat) (w : World) (Q : QP) : Prop :=
 RUNA PG (Instr.box 118 (.agg #[(.int .u16 s),(.int .u16 s1),(.int .u32 s2),(.int .u32 s3),(.int .u8 s4),(.slice s5 sN sC),(.slice s6 sN1 sC1)])) w fun a2 w1 =>
 RUNA PG (Instr.alloc 118 true (.tuple #[])) w1 fun a4 w2 =>
 RUNL PG (Builtin.append_ #[116,116] 116 #[(.slice none 0 0),(.slice l lN lC)]) w2 fun x6 x6N x6C w3 =>
 RUNU PG (storeVar 116 (a2.add 5) (.slice x6 x6N x6C)) w3 fun w4 =>
 RD PG (loadVar 118 a2) w4 fun v =>
 ∃ x8 : Int,∃ x8v1 : Int,∃ x8v2 : Int,∃ x8v3 : Int,∃ x8v4 : Int,∃ (x8v5 : Option Addr) (x8N x8C : Nat),∃ (x8v6 : Option Addr) (x8N1 x8C1 : Nat),v = (.agg #[(.int .u16 x8),(.int .u16 x8v1),(.int .u32 x8v2),(.int .u32 x8v3),(.int .u8 x8v4),(.slice x8v5 x8N x8C),(.slice x8v6 x8N1 x8C1)]) /\
 (RUNU PG (storeVar 118 a4 (.agg #[(.int .u16 x8),(.int .u16 x8v1),(.int .u32 x8v2),(.int .u32 x8v3),(.int .u8 x8v4),(.slice x8v5 x8N x8C),(.slice x8v6 x8N1 x8C1)])) w4 fun w5 =>
 RD PG (loadVar 118 a4) w5 fun v2 =>
 ∃ r : Int,∃ r1 : Int,∃ r2 : Int,∃ r3 : Int,∃ r4 : Int,∃ (r5 : Option Addr) (rN rC : Nat),∃ (r6 : Option Addr) (rN1 rC1 : Nat),v2 = (.agg #[(.int .u16 r),(.int .u16 r1),(.int .u32 r2),(.int .u32 r3),(.int .u8 r4),(.slice r5 rN rC),(.slice r6 rN1 rC1)]) /\
 (Q (.agg #[(.int .u16 r),(.int .u16 r1),(.int .u32 r2),(.int .u32 r3),(.int .u8 r4),(.slice r5 rN rC),(.slice r6 rN1 rC1)]) w5))
theorem call130 {s : Int} {s1 : Int} {s2 : Int} {s3 : Int} {s4 : Int} {s5 : Option Addr} {sN sC : Nat} {s6 : Option Addr} {sN1 sC1 : Nat} {l : Option Addr} {lN lC : Nat} {w : World} {Q : QP} (h_ : N130 s s1 s2 s3 s4 s5 sN sC s6 sN1 sC1 l lN lC w Q) : CALL PG 130 [(.agg #[(.int .u16 s),(.int .u16 s1),(.int .u32 s2),(.int .u32 s3),(.int .u8 s4),(.slice s5 sN sC),(.slice s6 sN1 sC1)]),(.slice l lN lC)] w Q:=calls_vq .nil tabOk Tryz.func130 (by kernel_rfl) h_
def N170 (s : Int) (s1 : Int) (s2 : Int) (s3 : Int) (s4 : Int) (s5 : Option Addr) (sN sC : Nat) (s6 : Option Addr) (sN1 sC1 : Nat) (w : World) (Q : QP) : Prop :=
 RUNA PG (Instr.box 118 (.agg #[(.int .u16 s),(.int .u16 s1),(.int .u32 s2),(.int .u32 s3),(.int .u8 s4),(.slice s5 sN sC),(.slice s6 sN1 sC1)])) w fun a1 w1 =>
 RDI PG (loadVar 5 (a1.add 4)) .u8 w1 fun x7 =>
 IFB (decide (x7 > 7))
 (Q (.int .i64 70) w1)
 (RDL PG (loadVar 116 (a1.add 5)) w1 fun x10 x10N x10C =>
 ∃ I : Nat -> Int -> Int -> World -> Prop,
 (∃ m,I m 0 0 w1) /\
 (∀ m1 (n : Int) (x12 : Int) (w2 : World),I m1 n x12 w2 -> (IFB (decide (x12 < (x10N : Int)))
 (IDX x10 x10N x12 fun a14 =>
 RD PG (loadVar 122 (a14.add (Int.toNat x12 * 2))) w2 fun v =>
 ∃ x15 : Int,∃ (x15v1 : Option Addr) (x15N x15C : Nat),v = (.agg #[(.int .u8 x15),(.slice x15v1 x15N x15C)]) /\
 (RUNA PG (Instr.alloc 122 true (.tuple #[])) w2 fun a5 w3 =>
 RUNU PG (storeVar 122 a5 (.agg #[(.int .u8 x15),(.slice x15v1 x15N x15C)])) w3 fun w4 =>
 RDI PG (loadVar 5 (a5.add 0)) .u8 w4 fun x17 =>
 IFB (x17 == 0)
 (Q (.int .i64 71) w4)
 (RDL PG (loadVar 41 (a5.add 1)) w4 fun x21 x21N x21C =>
 IFB (decide ((x21N : Int) > 255))
 (Q (.int .i64 71) w4)
 (RDL PG (loadVar 41 (a5.add 1)) w4 fun x27 x27N x27C =>
 LETI (IntKind.i64.wrap (n + (IntKind.i64.wrap (2 + (x27N : Int))))) fun n1 =>
 IFB (decide (n1 > 200))
 (Q (.int .i64 71) w4)
 (∃ m2,m2 < m1 /\ I m2 n1 (IntKind.i64.wrap (x12 + 1)) w4)))))
 (RDL PG (loadVar 41 (a1.add 6)) w2 fun x35 x35N x35C =>
 IFB (decide ((x35N : Int) > 1024))
 (Q (.int .i64 72) w2)
 (Q (.int .i64 0) w2)))))
theorem call170 {s : Int} {s1 : Int} {s2 : Int} {s3 : Int} {s4 : Int} {s5 : Option Addr} {sN sC : Nat} {s6 : Option Addr} {sN1 sC1 : Nat} {w : World} {Q : QP} (h_ : N170 s s1 s2 s3 s4 s5 sN sC s6 sN1 sC1 w Q) : CALL PG 170 [(.agg #[(.int .u16 s),(.int .u16 s1),(.int .u32 s2),(.int .u32 s3),(.int .u8 s4),(.slice s5 sN sC),(.slice s6 sN1 sC1)])] w Q:=calls_vq (.s .nil (.s .nil (.s .nil (.s (.s .nil (.u (.loop [(3,3),(12,3)] .nil))) .nil)))) tabOk Tryz.func170 (by kernel_rfl) h_
def N171 (s : Int) (s1 : Int) (s2 : Int) (s3 : Int) (s4 : Int) (s5 : Option Addr) (sN sC : Nat) (s6 : Option Addr) (sN1 sC1 : Nat) (w : World) (Q : QP) : Prop :=
 RUNA PG (Instr.box 118 (.agg #[(.int .u16 s),(.int .u16 s1),(.int .u32 s2),(.int .u32 s3),(.int .u8 s4),(.slice s5 sN sC),(.slice s6 sN1 sC1)])) w fun a1 w1 =>
 ∃ S : World -> Prop,S (w1.drew) /\
 (RDSI PG (loadVar 49 (a1.add 0)) .u16 S fun x4 =>
 RDSI PG (loadVar 49 (a1.add 1)) .u16 S fun x7 =>
 RDSI PG (loadVar 26 (a1.add 2)) .u32 S fun x10 =>
 RDSI PG (loadVar 26 (a1.add 3)) .u32 S fun x13 =>
 RDSI PG (loadVar 5 (a1.add 4)) .u8 S fun x16 =>
 CALL PG 200 [(.int .u16 x4)] (w1.drew) fun v w2 =>
 ∃ x5 : Int,∃ x5v1 : Int,v = (.agg #[(.int .i64 x5),(.int .u64 x5v1)]) /\
 (∃ S1 : World -> Prop,(∀ x,S1 x -> S x) /\ S1 w2 /\
 (CALL PG 200 [(.int .u16 x7)] w2 fun v1 w3 =>
 ∃ x8 : Int,∃ x8v1 : Int,v1 = (.agg #[(.int .i64 x8),(.int .u64 x8v1)]) /\
 (∃ S2 : World -> Prop,(∀ x,S2 x -> S1 x) /\ S2 w3 /\
 (CALL PG 126 [(.int .u32 x10)] w3 fun v2 w4 =>
 ∃ x11 : Int,∃ x11v1 : Int,v2 = (.agg #[(.int .i64 x11),(.int .u64 x11v1)]) /\
 (∃ S3 : World -> Prop,(∀ x,S3 x -> S2 x) /\ S3 w4 /\
 (CALL PG 126 [(.int .u32 x13)] w4 fun v3 w5 =>
 ∃ x14 : Int,∃ x14v1 : Int,v3 = (.agg #[(.int .i64 x14),(.int .u64 x14v1)]) /\
 (∃ S4 : World -> Prop,(∀ x,S4 x -> S3 x) /\ S4 w5 /\
 (CALL PG 127 [(.int .u8 x16)] w5 fun v4 w6 =>
 ∃ x17 : Int,∃ x17v1 : Int,v4 = (.agg #[(.int .i64 x17),(.int .u64 x17v1)]) /\
 (RUNL PG (Instr.buildSlice 263 5 #[(0,(.agg #[(.int .i64 x5),(.int .u64 x5v1)])),(1,(.agg #[(.int .i64 x8),(.int .u64 x8v1)])),(2,(.agg #[(.int .i64 x11),(.int .u64 x11v1)])),(3,(.agg #[(.int .i64 x14),(.int .u64 x14v1)])),(4,(.agg #[(.int .i64 x17),(.int .u64 x17v1)]))]) w6 fun x18 x18N x18C w7 =>
 CALL PG 124 [(.slice none 0 0),(.slice x18 x18N x18C)] w7 fun v5 w8 =>
 ∃ (x19 : Option Addr) (x19N x19C : Nat),v5 = (.slice x19 x19N x19C) /\
 (Q (.slice x19 x19N x19C) w8)))))))))))
theorem call171 {s : Int} {s1 : Int} {s2 : Int} {s3 : Int} {s4 : Int} {s5 : Option Addr} {sN sC : Nat} {s6 : Option Addr} {sN1 sC1 : Nat} {w : World} {Q : QP} (h_ : N171 s s1 s2 s3 s4 s5 sN sC s6 sN1 sC1 w Q) : CALL PG 171 [(.agg #[(.int .u16 s),(.int .u16 s1),(.int .u32 s2),(.int .u32 s3),(.int .u8 s4),(.slice s5 sN sC),(.slice s6 sN1 sC1)])] w Q:=calls_vq .nil tabOk Tryz.func171 (by kernel_rfl) h_
end Go.Br
/- A segment's bytes: of the program and of the document. -/
set_option linter.unusedVariables false
set_option linter.unusedSimpArgs false
set_option linter.unnecessarySimpa false
namespace Go.Br
open Go
instance biSegEnca (x0 : Int) (x1 : Option Addr) (n1 c1 : Nat) : Bld PG (Instr.build 122 #[(0,.int .u8 x0),(1,.slice x1 n1 c1)]) (.agg #[.int .u8 x0,.slice x1 n1 c1]):=⟨fun w => by kernel_rfl⟩
instance biSegEncb : Zro PG 122 2 32 (.agg #[.int .u8 0,.slice none 0 0]):=⟨tiOf (by kernel_rfl)⟩
instance biSegEncc : Zro PG 118 7 64 (.agg #[.int .u16 0,.int .u16 0,.int .u32 0,.int .u32 0,.int .u8 0,.slice none 0 0,.slice none 0 0]):=⟨tiOf (by kernel_rfl)⟩
attribute [local irreducible] Addr.add RD RDS RUN RUNU NILC LETB CALL CALLX CALLV
def SgIn (L : List SA) (s : Sg) : Prop:=∀ c w,St c w L -> SgAt s w
theorem SgIn.more {L : List SA} {s : Sg} {X : SA} (h : SgIn L s) : SgIn (X :: L) s:=fun c w hs => h c w hs.drop
theorem SgIn.here {L R : List SA} {s : Sg} (hp : Pick (sgp s) L R) : SgIn L s:=fun c w hs => hs.ro hp
theorem SgIn.opts {L : List SA} {s : Sg} (h : SgIn L s) : RdIn L s.oA (s.os.flatMap opx):=fun c w hs => (h c w hs).1
theorem SgIn.opt {L : List SA} {s : Sg} (h : SgIn L s) {o : Opx} (ho : o ∈ s.os) : RdIn L o.body (bvs o.bodys):=fun c w hs => (h c w hs).2.1 o ho
theorem SgIn.data {L : List SA} {s : Sg} (h : SgIn L s) : RdIn L s.dA (bvs s.ds):=fun c w hs => (h c w hs).2.2
def keyB (key tag : Int) (answer : Bool) : List UInt8:=if answer then beB key 8 ++ beB tag 8 else beB key 8
def obP (o : Int × List UInt8) : List UInt8:=byteOf o.1 :: UInt8.ofNat o.2.length :: o.2
def obs (os : List (Int × List UInt8)) : List UInt8:=os.flatMap obP
def hdB (s : SgP) : List UInt8:=beB s.src 2 ++ beB s.dst 2 ++ beB s.seq 4 ++ beB s.ack 4 ++ beB s.flags 1
def encB (s : SgP) : List UInt8:=hdB s ++ [UInt8.ofNat (obs s.os).length] ++ obs s.os ++ s.ds
structure SgOk (s : SgP) : Prop where
 src : 0 <= s.src /\ s.src < 65536
 dst : 0 <= s.dst /\ s.dst < 65536
 seq : 0 <= s.seq /\ s.seq < 4294967296
 ack : 0 <= s.ack /\ s.ack < 4294967296
 flags : 0 <= s.flags /\ s.flags <= 7
 opts : ∀ o ∈ s.os,(1 <= o.1 /\ o.1 < 256) /\ o.2.length <= 255
 room : (obs s.os).length <= 200
 data : s.ds.length <= 1024
theorem obs_take {os : List Opx} {j : Nat} {o : Opx} (h : os[j]? = some o) : obs ((os.take (j + 1)).map opl) = obs ((os.take j).map opl) ++ obP (opl o):=by
 unfold obs
 rw [take_snoc' h]
 simp
theorem obs_le {os : List Opx} (j : Nat) : (obs ((os.take j).map opl)).length <= (obs (os.map opl)).length:=by
 have e : obs (os.map opl) = obs ((os.take j).map opl) ++ obs ((os.drop j).map opl):=by
  unfold obs
  rw [<- List.flatMap_append,<- List.map_append,List.take_append_drop]
 rw [e,List.length_append]
 omega
theorem obP_length (o : Int × List UInt8) : (obP o).length = 2 + o.2.length:=by simp [obP]; omega
theorem obs_two : ∀ os : List (Int × List UInt8),2 * os.length <= (obs os).length
 | [] => by simp
 | o :: r => by
  have:=obs_two r
  have h:=obP_length o
  unfold obs at this ⊢
  rw [List.flatMap_cons,List.length_append,List.length_cons]
  omega
theorem hdB_length (s : SgP) : (hdB s).length = 13:=by simp [hdB,beB_length]
theorem bv_of {n : Int} (h0 : 0 <= n) (h1 : n < 256) : Value.int .u8 n = bv (byteOf n):=by
 unfold bv
 rw [byteOf_val]
 congr 1
 omega
theorem bv_nat {n : Nat} (h1 : n < 256) : Value.int .u8 (n : Int) = bv (UInt8.ofNat n):=by
 unfold bv
 congr 1
 rw [UInt8.toNat_ofNat']
 omega
section
variable {c : Ctx} {w : World} {L R : List SA}
abbrev opp (o : Opx) : SA:=rows o.body (bvs o.bodys)
theorem okeyC_ok (h : St c w L) {key tag : Int} {ans : Bool} (h0 : 0 <= key) (h1 : key < 18446744073709551616) (h2 : 0 <= tag) (h3 : tag < 18446744073709551616) {Q : Value -> World -> Prop}
    (hk : ∀ o w',opl o = (1,keyB key tag ans) -> o.bodys.length <= o.bodyC -> St c w' (opp o :: L) -> Q (opxv o) w') : CALL PG 75 [.agg #[.int .u64 key,.bool ans,.int .u64 tag]] w Q:=by
  refine call75 ?_
  unfold N75
  repeat' (first
    | refine nilc ?_
    | refine h.rdI _ ?_
    | refine h.rdB _ ?_
    | refine h.rdP _ ?_
    | refine h.rdL _ ?_
    | refine h.rdT _ ?_
    | refine h.rdI2 _ _ ?_
    | refine h.rdB2 _ _ ?_
    | refine h.rdP2 _ _ ?_
    | refine h.rdL2 _ _ ?_
    | refine h.st2 _ _ fun w' h => ?_
    | refine h.st _ fun w' h => ?_
    | refine h.rdvI ?_
    | refine h.rdvB ?_
    | refine h.rdvP ?_
    | refine h.rdvL ?_
    | refine h.rdvT ?_
    | (refine h.rdG ?_; (repeat apply exi); apply exr)
    | refine h.stG fun w' h => ?_
    | refine h.stV fun w' h => ?_
    | refine h.box fun p w' h => ?_
    | refine h.boxV fun p w' h => ?_
    | refine h.allocZ fun p w' h => ?_
    | refine h.allocZV fun p w' h => ?_
    | (refine RD.bld ?_; (repeat apply exi); apply exr)
    | (refine RDS.bld ?_; (repeat apply exi); apply exr)
    | refine St.rdsI _ ?_
    | refine St.rdsB _ ?_
    | refine St.rdsP _ ?_
    | refine St.rdsL _ ?_
    | refine St.rdsT _ ?_
    | refine St.rdsI2 _ _ ?_
    | refine St.rdsB2 _ _ ?_
    | (refine St.rdsG ?_; (repeat apply exi); apply exr)
    | refine letb rfl ?_
    | refine sat h ?_
    | (have h:=h.drew; refine sat h ?_)
    | refine sat1 h (fun _ h => h.to) ?_)
  refine packQ_ok h fun w' h => ?_
  (repeat apply exi)
  apply exr
  refine h.lit (n:=1) 223 2 ([(⟨8,key⟩ : Fd)].flatMap fd) fun q w' h => ?_
  refine pput_ok h (A:=none) (bs:=[]) (C:=0) (fs:=[⟨8,key⟩]) RdIn.nil (RdIn.own .head) (by simp [FdOk]; omega) (by simp) (by simp) fun O k w' h => ⟨_,_,_,rfl,?_⟩
  have e1 : ([] : List UInt8) ++ [(⟨8,key⟩ : Fd)].flatMap fdb = beB key 8:=by simp [fdb]
  rw [e1] at h ⊢
  repeat' (first
    | refine nilc ?_
    | refine h.rdI _ ?_
    | refine h.rdB _ ?_
    | refine h.rdP _ ?_
    | refine h.rdL _ ?_
    | refine h.rdT _ ?_
    | refine h.rdI2 _ _ ?_
    | refine h.rdB2 _ _ ?_
    | refine h.rdP2 _ _ ?_
    | refine h.rdL2 _ _ ?_
    | refine h.st2 _ _ fun w' h => ?_
    | refine h.st _ fun w' h => ?_
    | refine h.rdvI ?_
    | refine h.rdvB ?_
    | refine h.rdvP ?_
    | refine h.rdvL ?_
    | refine h.rdvT ?_
    | (refine h.rdG ?_; (repeat apply exi); apply exr)
    | refine h.stG fun w' h => ?_
    | refine h.stV fun w' h => ?_
    | refine h.box fun p w' h => ?_
    | refine h.boxV fun p w' h => ?_
    | refine h.allocZ fun p w' h => ?_
    | refine h.allocZV fun p w' h => ?_
    | (refine RD.bld ?_; (repeat apply exi); apply exr)
    | (refine RDS.bld ?_; (repeat apply exi); apply exr)
    | refine St.rdsI _ ?_
    | refine St.rdsB _ ?_
    | refine St.rdsP _ ?_
    | refine St.rdsL _ ?_
    | refine St.rdsT _ ?_
    | refine St.rdsI2 _ _ ?_
    | refine St.rdsB2 _ _ ?_
    | (refine St.rdsG ?_; (repeat apply exi); apply exr)
    | refine letb rfl ?_
    | refine sat h ?_
    | (have h:=h.drew; refine sat h ?_)
    | refine sat1 h (fun _ h => h.to) ?_)
  refine ifb (fun ha => ?_) fun ha => ?_
  · repeat' (first
      | refine nilc ?_
      | refine h.rdI _ ?_
      | refine h.rdB _ ?_
      | refine h.rdP _ ?_
      | refine h.rdL _ ?_
      | refine h.rdT _ ?_
      | refine h.rdI2 _ _ ?_
      | refine h.rdB2 _ _ ?_
      | refine h.rdP2 _ _ ?_
      | refine h.rdL2 _ _ ?_
      | refine h.st2 _ _ fun w' h => ?_
      | refine h.st _ fun w' h => ?_
      | refine h.rdvI ?_
      | refine h.rdvB ?_
      | refine h.rdvP ?_
      | refine h.rdvL ?_
      | refine h.rdvT ?_
      | (refine h.rdG ?_; (repeat apply exi); apply exr)
      | refine h.stG fun w' h => ?_
      | refine h.stV fun w' h => ?_
      | refine h.box fun p w' h => ?_
      | refine h.boxV fun p w' h => ?_
      | refine h.allocZ fun p w' h => ?_
      | refine h.allocZV fun p w' h => ?_
      | (refine RD.bld ?_; (repeat apply exi); apply exr)
      | (refine RDS.bld ?_; (repeat apply exi); apply exr)
      | refine St.rdsI _ ?_
      | refine St.rdsB _ ?_
      | refine St.rdsP _ ?_
      | refine St.rdsL _ ?_
      | refine St.rdsT _ ?_
      | refine St.rdsI2 _ _ ?_
      | refine St.rdsB2 _ _ ?_
      | (refine St.rdsG ?_; (repeat apply exi); apply exr)
      | refine letb rfl ?_
      | refine sat h ?_
      | (have h:=h.drew; refine sat h ?_)
      | refine sat1 h (fun _ h => h.to) ?_)
    refine packQ_ok h fun w' h => ?_
    (repeat apply exi)
    apply exr
    refine h.lit (n:=1) 223 2 ([(⟨8,tag⟩ : Fd)].flatMap fd) fun q w' h => ?_
    refine pput_ok h (bs:=beB key 8) (fs:=[⟨8,tag⟩]) (RdIn.own (.tail .head)) (RdIn.own .head) (by simp [FdOk]; omega) (by rw [beB_length]; decide) (by simp) fun O2 k2 w' h => ⟨_,_,_,rfl,?_⟩
    have e2 : beB key 8 ++ [(⟨8,tag⟩ : Fd)].flatMap fdb = keyB key tag ans:=by simp [fdb,keyB,ha]
    rw [e2] at h ⊢
    repeat' (first
      | refine nilc ?_
      | refine h.rdI _ ?_
      | refine h.rdB _ ?_
      | refine h.rdP _ ?_
      | refine h.rdL _ ?_
      | refine h.rdT _ ?_
      | refine h.rdI2 _ _ ?_
      | refine h.rdB2 _ _ ?_
      | refine h.rdP2 _ _ ?_
      | refine h.rdL2 _ _ ?_
      | refine h.st2 _ _ fun w' h => ?_
      | refine h.st _ fun w' h => ?_
      | refine h.rdvI ?_
      | refine h.rdvB ?_
      | refine h.rdvP ?_
      | refine h.rdvL ?_
      | refine h.rdvT ?_
      | (refine h.rdG ?_; (repeat apply exi); apply exr)
      | refine h.stG fun w' h => ?_
      | refine h.stV fun w' h => ?_
      | refine h.box fun p w' h => ?_
      | refine h.boxV fun p w' h => ?_
      | refine h.allocZ fun p w' h => ?_
      | refine h.allocZV fun p w' h => ?_
      | (refine RD.bld ?_; (repeat apply exi); apply exr)
      | (refine RDS.bld ?_; (repeat apply exi); apply exr)
      | refine St.rdsI _ ?_
      | refine St.rdsB _ ?_
      | refine St.rdsP _ ?_
      | refine St.rdsL _ ?_
      | refine St.rdsT _ ?_
      | refine St.rdsI2 _ _ ?_
      | refine St.rdsB2 _ _ ?_
      | (refine St.rdsG ?_; (repeat apply exi); apply exr)
      | refine letb rfl ?_
      | refine sat h ?_
      | (have h:=h.drew; refine sat h ?_)
      | refine sat1 h (fun _ h => h.to) ?_)
    have h : St c _ (own 5 1 O2 (keyB key tag ans).length k2 (bvs (keyB key tag ans)) :: L):=h.to
    exact hk ⟨1,O2,k2,keyB key tag ans⟩ _ rfl (h.own .head).le (h : St c _ (own 5 1 O2 (keyB key tag ans).length k2 (bvs (keyB key tag ans)) :: L)).ownRows
  · have e2 : beB key 8 = keyB key tag ans:=by simp [keyB,ha]
    rw [e2] at h ⊢
    repeat' (first
      | refine nilc ?_
      | refine h.rdI _ ?_
      | refine h.rdB _ ?_
      | refine h.rdP _ ?_
      | refine h.rdL _ ?_
      | refine h.rdT _ ?_
      | refine h.rdI2 _ _ ?_
      | refine h.rdB2 _ _ ?_
      | refine h.rdP2 _ _ ?_
      | refine h.rdL2 _ _ ?_
      | refine h.st2 _ _ fun w' h => ?_
      | refine h.st _ fun w' h => ?_
      | refine h.rdvI ?_
      | refine h.rdvB ?_
      | refine h.rdvP ?_
      | refine h.rdvL ?_
      | refine h.rdvT ?_
      | (refine h.rdG ?_; (repeat apply exi); apply exr)
      | refine h.stG fun w' h => ?_
      | refine h.stV fun w' h => ?_
      | refine h.box fun p w' h => ?_
      | refine h.boxV fun p w' h => ?_
      | refine h.allocZ fun p w' h => ?_
      | refine h.allocZV fun p w' h => ?_
      | (refine RD.bld ?_; (repeat apply exi); apply exr)
      | (refine RDS.bld ?_; (repeat apply exi); apply exr)
      | refine St.rdsI _ ?_
      | refine St.rdsB _ ?_
      | refine St.rdsP _ ?_
      | refine St.rdsL _ ?_
      | refine St.rdsT _ ?_
      | refine St.rdsI2 _ _ ?_
      | refine St.rdsB2 _ _ ?_
      | (refine St.rdsG ?_; (repeat apply exi); apply exr)
      | refine letb rfl ?_
      | refine sat h ?_
      | (have h:=h.drew; refine sat h ?_)
      | refine sat1 h (fun _ h => h.to) ?_)
    have h : St c _ (own 5 1 O (keyB key tag ans).length k (bvs (keyB key tag ans)) :: L):=h.to
    exact hk ⟨1,O,k,keyB key tag ans⟩ _ rfl (h.own .head).le (h : St c _ (own 5 1 O (keyB key tag ans).length k (bvs (keyB key tag ans)) :: L)).ownRows
theorem okey_ok (h : St c w L) {key tag : Int} {ans : Bool} (h0 : 0 <= key) (h1 : key < 18446744073709551616) (h2 : 0 <= tag) (h3 : tag < 18446744073709551616) {Q : Value -> World -> Prop}
  (hk : ∀ o w',opl o = (1,keyB key tag ans) -> St c w' (opp o :: L) -> Q (opxv o) w') : CALL PG 75 [.agg #[.int .u64 key,.bool ans,.int .u64 tag]] w Q :=
 okeyC_ok h h0 h1 h2 h3 fun o w' e _ h => hk o w' e h
theorem sof_ok (h : St c w L) {s : Sg} {A : Option Addr} {K : Nat} {os : List Opx} (hr : RdIn L A (os.flatMap opx)) (hn : os.length <= 1000) {Q : Value -> World -> Prop}
    (hk : ∀ O k w',St c w' (own 122 2 O os.length k (os.flatMap opx) :: L) -> Q (sgv { s with oA:=O,oC:=k,os:=os }) w') : CALL PG 130 [sgv s,.slice A os.length K] w Q:=by
  refine call130 ?_
  unfold N130
  repeat' (first
    | refine nilc ?_
    | refine h.rdI _ ?_
    | refine h.rdB _ ?_
    | refine h.rdP _ ?_
    | refine h.rdL _ ?_
    | refine h.rdT _ ?_
    | refine h.rdI2 _ _ ?_
    | refine h.rdB2 _ _ ?_
    | refine h.rdP2 _ _ ?_
    | refine h.rdL2 _ _ ?_
    | refine h.st2 _ _ fun w' h => ?_
    | refine h.st _ fun w' h => ?_
    | refine h.rdvI ?_
    | refine h.rdvB ?_
    | refine h.rdvP ?_
    | refine h.rdvL ?_
    | refine h.rdvT ?_
    | (refine h.rdG ?_; (repeat apply exi); apply exr)
    | refine h.stG fun w' h => ?_
    | refine h.stV fun w' h => ?_
    | refine h.box fun p w' h => ?_
    | refine h.boxV fun p w' h => ?_
    | refine h.allocZ fun p w' h => ?_
    | refine h.allocZV fun p w' h => ?_
    | (refine RD.bld ?_; (repeat apply exi); apply exr)
    | (refine RDS.bld ?_; (repeat apply exi); apply exr)
    | refine St.rdsI _ ?_
    | refine St.rdsB _ ?_
    | refine St.rdsP _ ?_
    | refine St.rdsL _ ?_
    | refine St.rdsT _ ?_
    | refine St.rdsI2 _ _ ?_
    | refine St.rdsB2 _ _ ?_
    | (refine St.rdsG ?_; (repeat apply exi); apply exr)
    | refine letb rfl ?_
    | refine sat h ?_
    | (have h:=h.drew; refine sat h ?_)
    | refine sat1 h (fun _ h => h.to) ?_)
  refine (h.addOwnNil 122 2).append huOpx tiOpx .head hr.more.more.more (m:=os.length) (flat_length opx_length os) (opx_flat os) (by omega) fun O k w' h => ?_
  simp only [Nat.zero_add,List.nil_append] at h ⊢
  repeat' (first
    | refine nilc ?_
    | refine h.rdI _ ?_
    | refine h.rdB _ ?_
    | refine h.rdP _ ?_
    | refine h.rdL _ ?_
    | refine h.rdT _ ?_
    | refine h.rdI2 _ _ ?_
    | refine h.rdB2 _ _ ?_
    | refine h.rdP2 _ _ ?_
    | refine h.rdL2 _ _ ?_
    | refine h.st2 _ _ fun w' h => ?_
    | refine h.st _ fun w' h => ?_
    | refine h.rdvI ?_
    | refine h.rdvB ?_
    | refine h.rdvP ?_
    | refine h.rdvL ?_
    | refine h.rdvT ?_
    | (refine h.rdG ?_; (repeat apply exi); apply exr)
    | refine h.stG fun w' h => ?_
    | refine h.stV fun w' h => ?_
    | refine h.box fun p w' h => ?_
    | refine h.boxV fun p w' h => ?_
    | refine h.allocZ fun p w' h => ?_
    | refine h.allocZV fun p w' h => ?_
    | (refine RD.bld ?_; (repeat apply exi); apply exr)
    | (refine RDS.bld ?_; (repeat apply exi); apply exr)
    | refine St.rdsI _ ?_
    | refine St.rdsB _ ?_
    | refine St.rdsP _ ?_
    | refine St.rdsL _ ?_
    | refine St.rdsT _ ?_
    | refine St.rdsI2 _ _ ?_
    | refine St.rdsB2 _ _ ?_
    | (refine St.rdsG ?_; (repeat apply exi); apply exr)
    | refine letb rfl ?_
    | refine sat h ?_
    | (have h:=h.drew; refine sat h ?_)
    | refine sat1 h (fun _ h => h.to) ?_)
  exact hk O k _ h.to
theorem segright_ok (h : St c w L) {s : Sg} (hs : SgIn L s) (ok : SgOk s.pl) {Q : Value -> World -> Prop} (hk : ∀ w',St c w' L -> Q (.int .i64 0) w') : CALL PG 170 [sgv s] w Q:=by
 have hf : 0 <= s.flags /\ s.flags <= 7:=ok.flags
 have hd : s.ds.length <= 1024:=ok.data
 have hr : (obs (s.os.map opl)).length <= 200:=ok.room
 have hol:=obs_two (s.os.map opl)
 rw [List.length_map] at hol
 refine call170 ?_
 unfold N170
 refine h.box fun q w' h => ?_
 refine h.rdI 4 ?_
 refine ifdf (by omega) ?_
 refine h.rdL 5 ?_
 refine ⟨fun m n x w' => ∃ j : Nat,x = j /\ m = s.os.length - j /\ j <= s.os.length /\ n = ((obs ((s.os.take j).map opl)).length : Int) /\ St c w' (blk q 118 [.int .u16 s.src,.int .u16 s.dst,.int .u32 s.seq,.int .u32 s.ack,.int .u8 s.flags,.slice s.oA s.os.length s.oC,.slice s.dA s.ds.length s.dC] :: L),⟨_,0,rfl,rfl,by omega,rfl,h⟩,?_⟩
 clear h
 rintro m _ _ w' ⟨j,rfl,rfl,hj,rfl,h⟩
 refine ifd (fun hlt => ?_) fun hge => ?_
 ·obtain ⟨o,hy⟩:=ex_get (L:=s.os) (j:=j) (by omega)
  have ho:=ok.opts (opl o) (List.mem_map_of_mem (List.mem_of_getElem? hy))
  have ho1 : 1 <= o.kind /\ o.kind < 256:=ho.1
  have ho2 : o.bodys.length <= 255:=ho.2
  have hT:=obs_take hy
  have hle:=obs_le (os:=s.os) (j + 1)
  rw [hT,List.length_append,obP_length] at hle
  have hl2 : (opl o).2.length = o.bodys.length:=rfl
  refine h.ix (z:=1) hs.opts.more hy (fun a ha => ?_) (by omega)
  have hr1:=hs.opts
  rw [ha] at hr1
  refine h.rdEG hr1.more hy ?_
  (repeat apply exi)
  apply exr
  refine h.allocZ fun p w' h => ?_
  refine h.stG fun w' h => ?_
  refine h.rdI 0 ?_
  refine ifq (fun e => by omega) fun _ => ?_
  refine h.rdL 1 ?_
  refine ifdf (by omega) ?_
  refine h.rdL 1 ?_
  rw [wrap_i64 (n:=(2 : Int) + (o.bodys.length : Int)) (by omega) (by omega)]
  refine leti (y:=(((obs ((s.os.take (j + 1)).map opl)).length : Nat) : Int)) (by rw [hT,List.length_append,obP_length,wrap_i64 (by omega) (by omega)]; omega) ?_
  refine ifdf (by rw [hT,List.length_append,obP_length]; omega) ⟨_,?_,j + 1,by rw [wrap_i64 (by omega) (by omega)]; omega,rfl,by omega,rfl,h.drop⟩
  omega
 ·refine h.rdL 6 ?_
  refine ifdf (by omega) ?_
  exact hk _ h.drop
theorem seghead_ok (h : St c w L) {s : Sg} (ok : SgOk s.pl) {Q : Value -> World -> Prop} (hk : ∀ O k w',St c w' (own 5 1 O (hdB s.pl).length k (bvs (hdB s.pl)) :: L) -> Q (.slice O (hdB s.pl).length k) w') : CALL PG 171 [sgv s] w Q:=by
 have h1 : 0 <= s.src /\ s.src < 65536:=ok.src
 have h2 : 0 <= s.dst /\ s.dst < 65536:=ok.dst
 have h3 : 0 <= s.seq /\ s.seq < 4294967296:=ok.seq
 have h4 : 0 <= s.ack /\ s.ack < 4294967296:=ok.ack
 have h5 : 0 <= s.flags /\ s.flags <= 7:=ok.flags
 refine call171 ?_
 unfold N171
 refine h.box fun q w' h => ?_
 have h:=h.drew
 refine ⟨fun w => St c w _,h,?_⟩
 refine St.rdsI 0 (St.rdsI 1 (St.rdsI 2 (St.rdsI 3 (St.rdsI 4 ?_))))
 refine packH_ok h h1.1 h1.2 fun w' h => ?_
 (repeat apply exi)
 apply exr
 refine ⟨_,fun _ h => h,h,?_⟩
 refine packH_ok h h2.1 h2.2 fun w' h => ?_
 (repeat apply exi)
 apply exr
 refine ⟨_,fun _ h => h,h,?_⟩
 refine packW_ok h h3.1 h3.2 fun w' h => ?_
 (repeat apply exi)
 apply exr
 refine ⟨_,fun _ h => h,h,?_⟩
 refine packW_ok h h4.1 h4.2 fun w' h => ?_
 (repeat apply exi)
 apply exr
 refine ⟨_,fun _ h => h,h,?_⟩
 refine packB_ok h h5.1 (by omega) fun w' h => ?_
 (repeat apply exi)
 apply exr
 refine h.lit (n:=5) 223 2 (([⟨2,s.src⟩,⟨2,s.dst⟩,⟨4,s.seq⟩,⟨4,s.ack⟩,⟨1,s.flags⟩] : List Fd).flatMap fd) fun q2 w' h => ?_
 refine pput_ok h (A:=none) (bs:=[]) (C:=0) (fs:=[⟨2,s.src⟩,⟨2,s.dst⟩,⟨4,s.seq⟩,⟨4,s.ack⟩,⟨1,s.flags⟩]) RdIn.nil (RdIn.own .head) (fun f hf => ?_) (by simp) (by simp) fun O k w' h => ⟨_,_,_,rfl,?_⟩
 ·simp only [List.mem_cons,List.not_mem_nil,or_false] at hf
  rcases hf with rfl | rfl | rfl | rfl | rfl <;> (unfold FdOk; simp only; omega)
 have e : ([] : List UInt8) ++ ([⟨2,s.src⟩,⟨2,s.dst⟩,⟨4,s.seq⟩,⟨4,s.ack⟩,⟨1,s.flags⟩] : List Fd).flatMap fdb = hdB s.pl:=by simp [fdb,hdB,Sg.pl]
 rw [e] at h ⊢
 exact hk _ _ _ (h.sub (.cons .head (Sub.same _).more.more))
theorem senc_ok (h : St c w L) {s : Sg} (hs : SgIn L s) (ok : SgOk s.pl) {Q : Value -> World -> Prop}
  (hk : ∀ O k w',St c w' (own 5 1 O (encB s.pl).length k (bvs (encB s.pl)) :: L) -> Q (.tuple #[.slice O (encB s.pl).length k,.int .i64 0]) w') : CALL PG 129 [sgv s] w Q:=by
 have hd : s.ds.length <= 1024:=ok.data
 have hr : (obs (s.os.map opl)).length <= 200:=ok.room
 have hol:=obs_two (s.os.map opl)
 rw [List.length_map] at hol
 refine call129 ?_
 unfold N129
 refine h.box fun q w' h => ?_
 refine h.rdG ?_
 (repeat apply exi)
 apply exr
 refine segright_ok h hs.more ok fun w' h => ?_
 (repeat apply exi)
 apply exr
 refine leti rfl (ifnsame rfl (h.rdL 5 ?_))
 have h:=h.addOwnNil 5 1
 refine ⟨fun m O oN oC x w' => ∃ j : Nat,x = j /\ m = s.os.length - j /\ j <= s.os.length /\ oN = (obs ((s.os.take j).map opl)).length /\ St c w' (own 5 1 O oN oC (bvs (obs ((s.os.take j).map opl))) :: blk q 118 [.int .u16 s.src,.int .u16 s.dst,.int .u32 s.seq,.int .u32 s.ack,.int .u8 s.flags,.slice s.oA s.os.length s.oC,.slice s.dA s.ds.length s.dC] :: L),⟨_,0,rfl,rfl,by omega,rfl,h⟩,?_⟩
 clear h
 rintro m O oN oC _ w' ⟨j,rfl,rfl,hj,rfl,h⟩
 have hle0:=obs_le (os:=s.os) j
 refine ifd (fun hlt => ?_) fun hge => ?_
 ·obtain ⟨o,hy⟩:=ex_get (L:=s.os) (j:=j) (by omega)
  have hm:=List.mem_of_getElem? hy
  have ho:=ok.opts (opl o) (List.mem_map_of_mem hm)
  have ho1 : 1 <= o.kind /\ o.kind < 256:=ho.1
  have ho2 : o.bodys.length <= 255:=ho.2
  have hT:=obs_take hy
  refine h.ix (z:=1) hs.opts.more.more hy (fun a ha => ?_) (by omega)
  have hr1:=hs.opts
  rw [ha] at hr1
  refine h.rdEG hr1.more.more hy ?_
  (repeat apply exi)
  apply exr
  refine h.allocZ fun p w' h => ?_
  refine h.stG fun w' h => ?_
  refine h.rdI 0 (h.rdL 1 ?_)
  rw [show IntKind.u8.wrap (o.bodys.length : Int) = (o.bodys.length : Int) by rw [wrapU8]; omega,bv_of (n:=o.kind) (by omega) (by omega),bv_nat (n:=o.bodys.length) (by omega)]
  refine h.lit (n:=2) 5 1 (bvs [byteOf o.kind,UInt8.ofNat o.bodys.length]) fun p2 w' h => ?_
  refine h.append huPk tiPkU8 (.tail (.tail .head)) (RdIn.own .head) (m:=2) rfl (Flat.bvs _) (by omega) fun O2 d2 w' h => ?_
  refine h.rdL (B:=p) 1 ?_
  refine h.append huPk tiPkU8 .head (hs.opt hm).more.more.more.more (m:=o.bodys.length) (by rw [bvs_length]; omega) (Flat.bvs _) (by omega) fun O3 d3 w' h => ?_
  refine ⟨_,by omega,j + 1,by rw [wrap_i64 (by omega) (by omega)]; omega,rfl,by omega,?_,?_⟩
  ·rw [hT,List.length_append,obP_length]
   show _ = _ + (2 + o.bodys.length)
   omega
  ·rw [hT,<- bvs_append]
   have e : bvs (obP (opl o)) = bvs [byteOf o.kind,UInt8.ofNat o.bodys.length] ++ bvs o.bodys:=by rw [bvs_append]; rfl
   rw [e,<- List.append_assoc]
   exact h.sub (.cons .head (.cons (.tail (.tail .head)) (Sub.same _).more.more))
 have ej : s.os.take j = s.os:=List.take_of_length_le (by omega)
 rw [ej] at h ⊢
 refine h.rdG (B:=q) ?_
 (repeat apply exi)
 apply exr
 refine seghead_ok h ok fun O4 k4 w' h => ?_
 (repeat apply exi)
 apply exr
 rw [show IntKind.u8.wrap ((obs (s.os.map opl)).length : Int) = ((obs (s.os.map opl)).length : Int) by rw [wrapU8]; omega]
 refine packB_ok h (by omega) (by omega) fun w' h => ?_
 (repeat apply exi)
 apply exr
 refine h.lit (n:=1) 223 2 (([⟨1,((obs (s.os.map opl)).length : Int)⟩] : List Fd).flatMap fd) fun q2 w' h => ?_
 refine pput_ok h (bs:=hdB s.pl) (fs:=[⟨1,((obs (s.os.map opl)).length : Int)⟩]) (RdIn.own (.tail .head)) (RdIn.own .head) (fun f hf => ?_) (by rw [hdB_length]; decide) (by simp) fun O5 k5 w' h => ⟨_,_,_,rfl,?_⟩
 ·rw [List.mem_singleton] at hf
  subst hf
  unfold FdOk
  simp only
  omega
 have e1 : hdB s.pl ++ ([⟨1,((obs (s.os.map opl)).length : Int)⟩] : List Fd).flatMap fdb = hdB s.pl ++ [UInt8.ofNat (obs (s.os.map opl)).length]:=by
  have : byteOf (((obs (s.os.map opl)).length : Nat) : Int) = UInt8.ofNat (obs (s.os.map opl)).length:=by
   apply UInt8.toNat_inj.1
   have e1:=byteOf_val (((obs (s.os.map opl)).length : Nat) : Int)
   rw [UInt8.toNat_ofNat']
   omega
  simp [fdb,beB,this]
 rw [e1] at h ⊢
 have hl13:=hdB_length s.pl
 have h:=h.drew
 refine ⟨fun w => St c w (blk q 118 [.int .u16 s.src,.int .u16 s.dst,.int .u32 s.seq,.int .u32 s.ack,.int .u8 s.flags,.slice s.oA s.os.length s.oC,.slice s.dA s.ds.length s.dC] :: L),h.sub (.cons (.tail (.tail (.tail (.tail .head)))) (Sub.same _).more.more.more.more),?_⟩
 refine St.rdsL 6 ?_
 refine h.append huPk tiPkU8 .head (RdIn.own (.tail (.tail (.tail .head)))) (m:=(obs (s.os.map opl)).length) (by rw [bvs_length]; omega) (Flat.bvs _) (by simp only [List.length_append,List.length_singleton]; omega) fun O6 d6 w' h => ?_
 refine ⟨_,fun _ h => h,h.sub (.cons (.tail (.tail (.tail (.tail .head)))) (Sub.same _).more.more.more.more),?_⟩
 refine h.append huPk tiPkU8 .head hs.data.more.more.more.more.more (m:=s.ds.length) (by rw [bvs_length]; omega) (Flat.bvs _) (by simp only [List.length_append,List.length_singleton]; omega) fun O7 d7 w' h => ?_
 have e2 : (hdB s.pl ++ [UInt8.ofNat (obs (s.os.map opl)).length]).length + (obs (s.os.map opl)).length + s.ds.length = (encB s.pl).length:=by
  unfold encB
  simp only [Sg.pl,List.length_append]
 rw [e2] at h ⊢
 refine hk _ _ _ ?_
 have e3 : bvs (encB s.pl) = bvs (hdB s.pl ++ [UInt8.ofNat (obs (s.os.map opl)).length]) ++ bvs (obs (s.os.map opl)) ++ bvs s.ds:=by rw [bvs_append,bvs_append]; rfl
 rw [e3]
 exact h.sub (.cons .head (Sub.same _).more.more.more.more)
end
end Go.Br
/- What the code of some functions says,as the core reads it; each reading is checked by the kernel. -/
set_option linter.unusedVariables false
set_option maxRecDepth 100000
namespace Go.Br
open Go Go.Proofs
def N81 (b : Option Addr) (bN bC : Nat) (w : World) (Q : QP) : Prop :=
 ∃ I : Nat -> Option Addr -> Nat -> Nat -> Option Addr -> Nat -> Nat -> World -> Prop,
 (∃ m,I m b bN bC none 0 0 w) /\
 (∀ m1 (b1 : Option Addr) (bN1 bC1 : Nat) (out : Option Addr) (outN outC : Nat) (w1 : World),I m1 b1 bN1 bC1 out outN outC w1 -> (IFB (decide ((bN1 : Int) > 0))
 (IFB (decide ((bN1 : Int) < 2))
 (Q (.tuple #[(.slice none 0 0),(.bool false)]) w1)
 (IDX b1 bN1 0 fun a14 =>
 RDI PG (loadVar 5 (a14.add (Int.toNat 0 * 1))) .u8 w1 fun x15 =>
 IFB (x15 == 0)
 (Q (.tuple #[(.slice none 0 0),(.bool false)]) w1)
 (IDX b1 bN1 1 fun a20 =>
 RDI PG (loadVar 5 (a20.add (Int.toNat 1 * 1))) .u8 w1 fun x21 =>
 IFB (decide ((IntKind.i64.wrap x21) > (IntKind.i64.wrap ((bN1 : Int) - 2))))
 (Q (.tuple #[(.slice none 0 0),(.bool false)]) w1)
 (IDX b1 bN1 1 fun a29 =>
 RDI PG (loadVar 5 (a29.add (Int.toNat 1 * 1))) .u8 w1 fun x30 =>
 LETI (IntKind.i64.wrap (2 + (IntKind.i64.wrap x30))) fun n =>
 ∃ S : World -> Prop,S (w1.drew) /\
 (IDX b1 bN1 0 fun a35 =>
 RDSI PG (loadVar 5 (a35.add (Int.toNat 0 * 1))) .u8 S fun x36 =>
 NEED (0 <= (2 : Int) /\ (2 : Int) <= n /\ n <= ((bC1 : Nat) : Int))
 (RUNL PG (Builtin.append_ #[41,41] 41 #[(.slice none 0 0),(.slice (cutA b1 bC1 1 2) (Int.toNat n - Int.toNat 2) (bC1 - Int.toNat 2))]) (w1.drew) fun x40 x40N x40C w2 =>
 ∃ S1 : World -> Prop,(∀ x,S1 x -> S x) /\ S1 w2 /\
 (RDS PG (Instr.build 122 #[(0,(.int .u8 x36)),(1,(.slice x40 x40N x40C))]) S1 fun v =>
 ∃ x41 : Int,∃ (x41v1 : Option Addr) (x41N x41C : Nat),v = (.agg #[(.int .u8 x41),(.slice x41v1 x41N x41C)]) /\
 (RUNL PG (Instr.buildSlice 116 1 #[(0,(.agg #[(.int .u8 x41),(.slice x41v1 x41N x41C)]))]) w2 fun x42 x42N x42C w3 =>
 RUNL PG (Builtin.append_ #[116,116] 116 #[(.slice out outN outC),(.slice x42 x42N x42C)]) w3 fun x43 x43N x43C w4 =>
 NEED (0 <= n /\ n <= ((bN1 : Nat) : Int) /\ ((bN1 : Nat) : Int) <= ((bC1 : Nat) : Int))
 (∃ m2,m2 < m1 /\ I m2 (cutA b1 bC1 1 n) (Int.toNat ((bN1 : Nat) : Int) - Int.toNat n) (bC1 - Int.toNat n) x43 x43N x43C w4)))))))))
 (Q (.tuple #[(.slice out outN outC),(.bool true)]) w1)))
theorem call81 {b : Option Addr} {bN bC : Nat} {w : World} {Q : QP} (h_ : N81 b bN bC w Q) : CALL PG 81 [(.slice b bN bC)] w Q:=calls_vq (.s .nil (.s .nil (.s (.u (.loop [(0,41),(4,116)] .nil)) .nil))) tabOk Tryz.func81 (by kernel_rfl) h_
end Go.Br
/- Bytes are taken up as numbers; options. -/
set_option linter.unusedVariables false
set_option linter.unusedSimpArgs false
set_option linter.unnecessarySimpa false
namespace Go.Br
open Go
instance biSegGeta (x0 : Int) (x1 : Option Addr) (n1 c1 : Nat) : Bld PG (Instr.build 122 #[(0,.int .u8 x0),(1,.slice x1 n1 c1)]) (.agg #[.int .u8 x0,.slice x1 n1 c1]):=⟨fun w => by kernel_rfl⟩
attribute [local irreducible] Addr.add RD RDS RUN RUNU NILC LETB CALL CALLX CALLV
theorem tiU64 : TI PG 25 1 8 (.int .u64 0):=tiOf (by kernel_rfl)
theorem huU64s : PG.underlying 175 = some (.slice 25):=by kernel_rfl
def uv (x : Nat) : List Value:=[.int .u64 (x : Int)]
theorem uv_flat1 (x : Nat) : Flat (uv x):=by intro v hv; simp [uv] at hv; rw [hv]; rfl
def nv (x : Nat) : List Value:=[.int .i64 (x : Int)]
def byteAt (bs : List UInt8) (i : Nat) : Nat:=(bs.getD i 0).toNat
theorem byteAt_get {bs : List UInt8} {i : Nat} (h : i < bs.length) : bs[i]? = some (bs.getD i 0):=by
 rw [List.getD_eq_getElem?_getD,List.getElem?_eq_getElem h]; rfl
theorem byteAt_lt (bs : List UInt8) (i : Nat) : byteAt bs i < 256:=(bs.getD i 0).toNat_lt
theorem beN_take {bs : List UInt8} {i : Nat} (h : i < bs.length) : beN (bs.take (i + 1)) = beN (bs.take i) * 256 + byteAt bs i:=by rw [take_snoc' (byteAt_get h),beN_snoc]; rfl
theorem or8 {x b : Nat} (hb : b < 256) (hx : x < 72057594037927936) : IntKind.u64.wrap (BitVec.ofInt (IntKind.u64.bits) (shlN .u64 (x : Int) (8 : Int)) ||| BitVec.ofInt (IntKind.u64.bits) (IntKind.u64.wrap (b : Int))).toNat = ((x * 256 + b : Nat) : Int):=by
 have e1 : shlN .u64 (x : Int) 8 = ((x * 256 : Nat) : Int):=by
  unfold shlN
  rw [show (2 : Int) ^ (min (Int.toNat 8) IntKind.u64.bits) = 256 by decide,wrapU64]
  omega
 have e2 : IntKind.u64.wrap (b : Int) = (b : Int):=by rw [wrapU64]; omega
 have e3 : ∀ {y : Nat},y < 18446744073709551616 -> (BitVec.ofInt (IntKind.u64.bits) (y : Int)).toNat = y:=fun {y} hy => by
  rw [BitVec.toNat_ofInt]
  have : (2 ^ IntKind.u64.bits : Nat) = 18446744073709551616:=by decide
  rw [this]
  omega
 rw [e1,e2]
 have e4 : (BitVec.ofInt (IntKind.u64.bits) ((x * 256 : Nat) : Int) ||| BitVec.ofInt (IntKind.u64.bits) (b : Int)).toNat = x * 256 + b:=by
  rw [BitVec.toNat_or,e3 (by omega),e3 (by omega)]
  have:=Nat.shiftLeft_add_eq_or_of_lt (a:=x) (b:=b) (i:=8) (by omega)
  rw [Nat.shiftLeft_eq] at this
  exact this.symm
 rw [e4,wrapU64]
 omega
section
variable {c : Ctx} {w : World} {L R : List SA} {A B : Option Addr} {n C m d : Nat}
theorem St.byteR {bs : List UInt8} {K : Int -> Prop} (h : St c w L) (hr : RdIn L A (bvs bs)) (hn : bs.length = n) {i : Nat} (hi : i < n) (hk : K (byteAt bs i : Int)) :
  IDX A n (i : Int) fun a => RDI PG (loadVar 5 (Addr.add a (Int.toNat (i : Int) * 1))) .u8 w K:=by
 rw [bvs_flat] at hr
 exact h.ix (z:=0) hr (byteAt_get (by omega)) (fun a ha => by subst ha; exact h.rdWI hr (byteAt_get (by omega)) hk) hi
theorem cut_rd {bs : List UInt8} (hr : RdIn L A (bvs bs)) (hC : bs.length <= C) (k : Nat) : RdIn L (cutA A C 1 (k : Int)) (bvs (bs.drop k)):=by
 have:=hr.cut (c:=C) (z:=1) (by rw [bvs_length]; omega) (k : Int)
 rw [Int.toNat_natCast,Nat.mul_one,bvs_drop] at this
 exact this
theorem get_ok (h : St c w L) {bs : List UInt8} (hr : RdIn L A (bvs bs)) (hn : bs.length = n) (hC : n <= C) (hb : n <= 1000000) {Sz : List Nat} (hrs : RdIn L B (Sz.flatMap nv)) (hm : Sz.length = m) (hm2 : m <= 1000) (hz : ∀ x ∈ Sz,x <= 1000) {Q : Value -> World -> Prop}
    (hno : getS Sz bs = none -> ∀ w',St c w' L -> Q (.tuple #[.slice none 0 0,.slice none 0 0,.bool false]) w')
    (hyes : ∀ l rest,getS Sz bs = some (l,rest) -> ∀ w' O d1 O2 d2,St c w' (own 5 1 O2 rest.length d2 (bvs rest) :: own 25 1 O l.length d1 (l.flatMap uv) :: L) -> rest.length <= d2 -> Q (.tuple #[.slice O l.length d1,.slice O2 rest.length d2,.bool true]) w') :
    CALL PG 80 [.slice A n C,.slice B m d] w Q:=by
  refine call80 ?_
  unfold N80
  have h:=h.addOwnNil 25 1
  refine ⟨fun mm b bN bC O oN oC x w' => ∃ (j : Nat) (acc : List Nat) (rest : List UInt8),x = j /\ mm = m - j /\ j <= m /\ getS Sz bs = (getS (Sz.drop j) rest).map (fun p => (acc ++ p.1,p.2)) /\ rest.length = bN /\ bN <= bC /\ bN <= 1000000 /\ RdIn L b (bvs rest) /\ acc.length = oN /\ acc.length = j /\ St c w' (own 25 1 O oN oC (acc.flatMap uv) :: L),
    ⟨_,0,[],bs,rfl,rfl,by omega,by simp,hn,hC,hb,hr,rfl,rfl,h⟩,?_⟩
  clear h
  rintro mm b bN bC O oN oC _ w' ⟨j,acc,rest,rfl,rfl,hj,hg,rfl,hbC,hb1,hrb,rfl,haj,h⟩
  refine ifd (fun hlt => ?_) fun hge => ?_
  rotate_left
  · have ej : Sz.drop j = []:=List.drop_eq_nil_of_le (by omega)
    rw [ej] at hg
    simp only [getS,Option.map_some,List.append_nil] at hg
    have h:=h.addOwnNil 5 1
    refine h.append huBytes tiU8 .head hrb.more.more (m:=rest.length) (by rw [bvs_length]; omega) (Flat.bvs rest) (by omega) fun O2 d2 w' h => ?_
    simp only [Nat.zero_add,List.nil_append] at h ⊢
    exact hyes acc rest hg w' _ _ _ _ h (h.own .head).le
  obtain ⟨s,hs⟩:=ex_get (L:=Sz) (j:=j) (by omega)
  have hsz:=hz s (List.mem_of_getElem? hs)
  have ed:=drop_cons' hs
  rw [ed] at hg
  have bad : (s < 1 ∨ 8 < s ∨ rest.length < s) -> getS Sz bs = none:=fun hx => by rw [hg,getS,if_pos hx]; rfl
  refine h.ix (z:=0) (i:=j) hrs.more hs (fun a ha => ?_) (by omega)
  have hrs1:=hrs
  rw [ha] at hrs1
  refine h.rdWI (i:=j) hrs1.more hs (leti rfl ?_)
  refine ifd (fun h1 => hno (bad (by omega)) _ h.drop) fun h1 => ifd (fun h2 => hno (bad (by omega)) _ h.drop) fun h2 => ifd (fun h3 => hno (bad (by omega)) _ h.drop) fun h3 => ⟨by omega,?_⟩
  have hg2 : getS Sz bs = (getS (Sz.drop (j + 1)) (rest.drop s)).map fun p => (acc ++ beN (rest.take s) :: p.1,p.2):=by
    rw [hg,getS,if_neg (by omega),Option.map_map]
    rfl
  rw [cutA_zero]
  simp only [Int.toNat_natCast,Int.toNat_zero,Nat.sub_zero]
  refine ⟨fun m3 x y w' => ∃ q : Nat,y = q /\ m3 = s - q /\ q <= s /\ x = (beN (rest.take q) : Int) /\ St c w' (own 25 1 O acc.length oC (acc.flatMap uv) :: L),⟨_,0,rfl,rfl,by omega,rfl,h⟩,?_⟩
  clear h
  rintro m3 _ _ w' ⟨q,rfl,rfl,hq,rfl,h⟩
  refine ifd (fun hlt2 => ?_) fun hge2 => ?_
  · have hr2 : RdIn (own 25 1 O acc.length oC (acc.flatMap uv) :: L) b (bvs (rest.take s)):=by
      have:=hrb.more (X:=own 25 1 O acc.length oC (acc.flatMap uv)) |>.take s
      rwa [bvs_take] at this
    have etk : byteAt (rest.take s) q = byteAt rest q:=by
      unfold byteAt
      rw [List.getD_eq_getElem?_getD,List.getD_eq_getElem?_getD,List.getElem?_take,if_pos (by omega)]
    refine h.byteR hr2 (by rw [List.length_take]; omega) (by omega) (leti rfl ⟨by decide,?_⟩)
    rw [etk]
    have hlt3:=beN_lt (rest.take q)
    rw [List.length_take,Nat.min_eq_left (by omega)] at hlt3
    have h7 : 256 ^ q <= 256 ^ 7:=Nat.pow_le_pow_right (by decide) (by omega)
    have hbl:=byteAt_lt rest q
    refine leti (or8 hbl (by have : (256 : Nat) ^ 7 = 72057594037927936:=by decide
                             omega)) ⟨_,by omega,q + 1,by rw [wrap_i64 (by omega) (by omega)]; omega,rfl,by omega,by rw [beN_take (by omega)],h⟩
  have eq : q = s:=by omega
  rw [eq]
  refine h.app1 huU64s tiU64 (uv (beN (rest.take s))) .head (uv_flat1 _) (by omega) fun O2 d2 w' h => ?_
  refine ⟨by omega,_,by omega,j + 1,acc ++ [beN (rest.take s)],rest.drop s,by rw [wrap_i64 (by omega) (by omega)]; omega,rfl,by omega,by rw [hg2]; congr 1; funext p; simp,by rw [List.length_drop],by omega,by omega,cut_rd hrb hbC s,by simp,by simp; omega,?_⟩
  rw [List.flatMap_append]
  simpa using h
theorem St.addRo0 (h : St c w L) {φ : World -> Prop} (hφ : ∀ w,φ w) : St c w (Br.ro φ :: L):=h.new (F:=[]) (G:=[]) (Kp.refl w) (ro_p.2 ⟨rfl,by simp,fun w _ => hφ w⟩) (by simp) (by simp)
abbrev bods (os : List Opx) : SA:=Br.ro fun w => ∀ o ∈ os,Row w o.body (bvs o.bodys)
theorem optsS_two (k m : UInt8) (r : List UInt8) : optsS (k :: m :: r) = if k = 0 ∨ r.length < m.toNat then none else (optsS (r.drop m.toNat)).map fun l => ((k.toNat : Int),r.take m.toNat) :: l:=by rw [optsS]
theorem options_ok (h : St c w L) {bs : List UInt8} (hr : RdIn L A (bvs bs)) (hn : bs.length = n) (hC : n <= C) (hb : n <= 1000000) {Q : Value -> World -> Prop}
  (hno : optsS bs = none -> ∀ w',St c w' L -> Q (.tuple #[.slice none 0 0,.bool false]) w')
  (hyes : ∀ os : List Opx,optsS bs = some (os.map opl) -> (∀ o ∈ os,o.bodys.length <= o.bodyC) -> ∀ w' O d,St c w' (bods os :: own 122 2 O os.length d (os.flatMap opx) :: L) -> Q (.tuple #[.slice O os.length d,.bool true]) w') :
  CALL PG 81 [.slice A n C] w Q:=by
 refine call81 ?_
 unfold N81
 have h:=(h.addOwnNil 122 2).addRo0 (φ:=fun w => ∀ o ∈ ([] : List Opx),Row w o.body (bvs o.bodys)) (fun w o ho => by cases ho)
 refine ⟨fun mm b bN bC O oN oC w' => ∃ (acc : List Opx) (rest : List UInt8),mm = rest.length /\ optsS bs = (optsS rest).map (fun l => acc.map opl ++ l) /\ rest.length = bN /\ bN <= bC /\ RdIn L b (bvs rest) /\ acc.length = oN /\ acc.length + rest.length <= n /\ (∀ o ∈ acc,o.bodys.length <= o.bodyC) /\ St c w' (bods acc :: own 122 2 O oN oC (acc.flatMap opx) :: L),
  ⟨_,[],bs,rfl,by simp,hn,hC,hr,rfl,by simp; omega,by simp,h⟩,?_⟩
 clear h
 rintro mm b bN bC O oN oC w' ⟨acc,rest,rfl,hg,rfl,hbC,hrb,rfl,hle,hcap,h⟩
 refine ifd (fun hpos => ?_) fun hz => ?_
 rotate_left
 ·have e : rest = []:=List.length_eq_zero_iff.1 (by omega)
  subst e
  rw [optsS] at hg
  simp only [Option.map_some,List.append_nil] at hg
  exact hyes acc hg hcap _ _ _ h
 refine ifd (fun h1 => hno ?_ _ h.drop.drop) fun h1 => ?_
 ·obtain ⟨x,rfl⟩ : ∃ x,rest = [x]:=by
   match rest,hpos,h1 with
   | [x],_,_ => exact ⟨x,rfl⟩
   | _ :: _ :: _,_,h1 => simp at h1; omega
  rw [hg,optsS]
  rfl
 obtain ⟨k,m,r,rfl⟩ : ∃ k m r,rest = k :: m :: r:=by
  match rest,h1 with
  | k :: m :: r,_ => exact ⟨k,m,r,rfl⟩
  | [x],h1 => simp at h1
  | [],h1 => simp at hpos
 have hlr : (k :: m :: r).length = r.length + 2:=rfl
 have b0 : byteAt (k :: m :: r) 0 = k.toNat:=rfl
 have b1 : byteAt (k :: m :: r) 1 = m.toNat:=rfl
 have hml:=m.toNat_lt
 rw [optsS_two] at hg
 refine h.byteR (i:=0) hrb.more.more rfl (by omega) ?_
 rw [b0]
 refine ifq (fun e0 => hno ?_ _ h.drop.drop) fun e0 => ?_
 ·have ek : k = 0:=by apply UInt8.toNat_inj.1; show k.toNat = 0; omega
  rw [hg,if_pos (.inl ek)]
  rfl
 refine h.byteR (i:=1) hrb.more.more rfl (by omega) ?_
 rw [b1,wrap_i64 (n:=(m.toNat : Int)) (by omega) (by omega),wrap_i64 (n:=((k :: m :: r).length : Int) - 2) (by omega) (by omega)]
 refine ifd (fun e1 => hno ?_ _ h.drop.drop) fun e1 => ?_
 ·rw [hg,if_pos (.inr (by omega))]
  rfl
 have ek : k ≠ 0:=fun e => e0 (by rw [e]; rfl)
 rw [if_neg (by rintro (e | e) <;> first | exact ek e | omega)] at hg
 refine h.byteR (i:=1) hrb.more.more rfl (by omega) ?_
 rw [b1,wrap_i64 (n:=(m.toNat : Int)) (by omega) (by omega)]
 refine leti (y:=((m.toNat + 2 : Nat) : Int)) (by rw [wrap_i64 (by omega) (by omega)]; omega) ?_
 have h:=h.drew
 refine ⟨fun w => St c w L,h.drop.drop,?_⟩
 have hrb2:=hrb
 rw [bvs_flat] at hrb2
 refine h.ix (z:=0) (i:=0) (y:=k) hrb2.more.more rfl (fun a ha => ?_) (by omega)
 rw [ha] at hrb2
 refine St.rdsWI (i:=0) (y:=k) hrb2 rfl ⟨⟨by decide,by omega,by omega⟩,?_⟩
 have hbody : RdIn L (cutA b bC 1 ((2 : Nat) : Int)) (bvs (r.take m.toNat)):=by
  have:=(cut_rd hrb hbC 2).take m.toNat
  rw [bvs_take] at this
  exact this
 have h:=h.addOwnNil 5 1
 have el : Int.toNat ((m.toNat + 2 : Nat) : Int) - Int.toNat (2 : Int) = m.toNat:=by omega
 rw [el]
 have ltk : (r.take m.toNat).length = m.toNat:=by rw [List.length_take]; omega
 refine h.append huBytes tiU8 .head hbody.more.more.more (m:=m.toNat) (by rw [bvs_length]; omega) (Flat.bvs _) (by omega) fun O2 d2 w' h => ?_
 simp only [Nat.zero_add,List.nil_append] at h ⊢
 refine ⟨_,fun _ h => h,h.drop.drop.drop,?_⟩
 refine RDS.bld ?_
 (repeat apply exi)
 apply exr
 have hcap2 : m.toNat <= d2:=(h.own .head).le
 have h:=(h.ownRows.ro2).roW (ψ:=fun w => ∀ o ∈ acc ++ [(⟨k.toNat,O2,d2,r.take m.toNat⟩ : Opx)],Row w o.body (bvs o.bodys)) (fun w ⟨h1,h2⟩ o ho => by
  rw [List.mem_append,List.mem_singleton] at ho
  rcases ho with ho | rfl
  ·exact h2 o ho
  ·exact h1)
 have eo : opx (⟨k.toNat,O2,d2,r.take m.toNat⟩ : Opx) = [.int .u8 (k.toNat : Int),.slice O2 m.toNat d2]:=by
  show [Value.int .u8 (k.toNat : Int),.slice O2 (r.take m.toNat).length d2] = _
  rw [ltk]
 refine h.app1 huOpx tiOpx [.int .u8 (k.toNat : Int),.slice O2 m.toNat d2] (.tail .head) (by rw [<- eo]; exact opx_flat1 _) (by omega) fun O3 d3 w' h => ?_
 rw [<- eo] at h
 refine ⟨by omega,_,?_,acc ++ [⟨k.toNat,O2,d2,r.take m.toNat⟩],r.drop m.toNat,rfl,?_,by rw [List.length_drop]; omega,by omega,?_,by simp,?_,?_,?_⟩
 ·rw [List.length_drop]; omega
 ·rw [hg,Option.map_map]
  congr 1
  funext l
  simp [opl]
 ·have:=cut_rd hrb hbC (m.toNat + 2)
  exact this
 ·rw [List.length_append,List.length_singleton,List.length_drop]; omega
 ·intro o ho
  rw [List.mem_append,List.mem_singleton] at ho
  rcases ho with ho | rfl
  ·exact hcap o ho
  ·show (r.take m.toNat).length <= d2
   omega
 ·rw [List.flatMap_append]
  have e2 : ([⟨k.toNat,O2,d2,r.take m.toNat⟩] : List Opx).flatMap opx = opx ⟨k.toNat,O2,d2,r.take m.toNat⟩:=by simp
  rw [e2]
  exact h.swap
end
end Go.Br
/- The segment of some bytes. -/
set_option linter.unusedVariables false
set_option linter.unusedSimpArgs false
set_option linter.unnecessarySimpa false
namespace Go.Br
open Go
attribute [local irreducible] Addr.add RD RDS RUN RUNU NILC LETB CALL CALLX CALLV
theorem getS_short : ∀ (Sz : List Nat) (b : List UInt8),b.length < Sz.sum -> getS Sz b = none
 | [],b,h => by simp at h
 | n :: r,b,h => by
  rw [getS]
  split
  ·rfl
  ·rename_i hn
   rw [getS_short r (b.drop n) (by rw [List.length_drop]; rw [List.sum_cons] at h; omega)]
   rfl
theorem beN_one {bs : List UInt8} {i : Nat} (h : i < bs.length) : beN ((bs.drop i).take 1) = byteAt bs i:=by
 rw [drop_cons' (byteAt_get h)]
 simp [beN,byteAt]
theorem get6 {bs : List UInt8} (h : 14 <= bs.length) : getS [2,2,4,4,1,1] bs = some ([beN (bs.take 2),beN ((bs.drop 2).take 2),beN ((bs.drop 4).take 4),beN ((bs.drop 8).take 4),byteAt bs 12,byteAt bs 13],bs.drop 14):=by
 simp only [getS,List.drop_drop,List.length_drop]
 rw [if_neg (by omega),if_neg (by omega),if_neg (by omega),if_neg (by omega),if_neg (by omega),if_neg (by omega)]
 simp only [Option.map_some]
 rw [show 2 + 2 + 4 + 4 = 12 by rfl,beN_one (by omega),show 12 + 1 = 13 by rfl,beN_one (by omega)]
abbrev zsg : List Value:=[.int .u16 0,.int .u16 0,.int .u32 0,.int .u32 0,.int .u8 0,.slice none 0 0,.slice none 0 0]
section
variable {c : Ctx} {w : World} {L R : List SA} {A B : Option Addr} {n C m d : Nat}
theorem own_takeI {X : SA} {O : Option Addr} {m d : Nat} {rest : List UInt8} (k : Nat) : RdIn (X :: own 5 1 O m d (bvs rest) :: L) O (bvs (rest.take k)):=by
 have:=(RdIn.own (L:=X :: own 5 1 O m d (bvs rest) :: L) (.tail .head)).take k
 rwa [bvs_take] at this
theorem own_cutI {X Y Z V : SA} {O : Option Addr} {m d : Nat} {rest : List UInt8} (hd : rest.length <= d) (k : Nat) : RdIn (X :: Y :: Z :: V :: own 5 1 O m d (bvs rest) :: L) (cutA O d 1 (k : Int)) (bvs (rest.drop k)):=cut_rd (RdIn.own (.tail (.tail (.tail (.tail .head))))) hd k
theorem parseC_ok (h : St c w L) {bs : List UInt8} (hr : RdIn L A (bvs bs)) (hn : bs.length = n) (hC : n <= C) (hb : n <= 1000000) {Q : Value -> World -> Prop}
    (hno : ∀ e,parseS bs = .error e -> ∀ w',St c w' L -> Q (.tuple #[.agg #[.int .u16 0,.int .u16 0,.int .u32 0,.int .u32 0,.int .u8 0,.slice none 0 0,.slice none 0 0],.int .i64 e]) w')
    (hyes : ∀ s : Sg,parseS bs = .ok s.pl -> (∀ o ∈ s.os,o.bodys.length <= o.bodyC) -> ∀ w',St c w' (sgp s :: L) -> Q (.tuple #[sgv s,.int .i64 0]) w') :
    CALL PG 41 [.slice A n C] w Q:=by
  refine call41 ?_
  unfold N41
  refine h.allocZ fun p w' h => ?_
  refine h.lit (n:=6) 3 1 (([2,2,4,4,1,1] : List Nat).flatMap nv) fun q w' h => ?_
  have bad : ∀ {e : Int} {w' : World} {M : List SA},parseS bs = .error e -> St c w' (M ++ blk p 118 zsg :: L) -> RD PG (Instr.build 118 #[]) w' fun v => ∃ (a b x y z : Int) (s : Option Addr) (sn sd : Nat) (t : Option Addr) (tn td : Nat),v = .agg #[.int .u16 a,.int .u16 b,.int .u32 x,.int .u32 y,.int .u8 z,.slice s sn sd,.slice t tn td] /\
      RUNU PG (storeVar 118 ⟨p,0,none⟩ (.agg #[.int .u16 a,.int .u16 b,.int .u32 x,.int .u32 y,.int .u8 z,.slice s sn sd,.slice t tn td])) w' fun w'' => RD PG (loadVar 118 ⟨p,0,none⟩) w'' fun v => ∃ (a b x y z : Int) (s : Option Addr) (sn sd : Nat) (t : Option Addr) (tn td : Nat),v = .agg #[.int .u16 a,.int .u16 b,.int .u32 x,.int .u32 y,.int .u8 z,.slice s sn sd,.slice t tn td] /\
        Q (.tuple #[.agg #[.int .u16 a,.int .u16 b,.int .u32 x,.int .u32 y,.int .u8 z,.slice s sn sd,.slice t tn td],.int .i64 e]) w'':=fun {e w' M} he h => by
    refine RD.bld ⟨_,_,_,_,_,_,_,_,_,_,_,rfl,?_⟩
    have h:=h.pick pick_app0
    refine h.stG fun w' h => ?_
    refine h.rdG ⟨_,_,_,_,_,_,_,_,_,_,_,rfl,?_⟩
    exact hno e he _ (h.drop.dropM)
  have hlt13:=byteAt_lt bs 13
  refine get_ok h hr.more.more hn hC hb (Sz:=[2,2,4,4,1,1]) (RdIn.own .head) rfl (by decide) (by decide) (fun hg w' h => ?_) fun l rest hg w' O d1 O2 d2 h hd2 => ?_
  · (repeat apply exi)
    apply exr
    refine letb rfl (ift rfl ?_)
    refine bad (M:=[_]) ?_ h
    unfold parseS
    rw [if_pos]
    left
    rcases Nat.lt_or_ge bs.length 14 with hl | hl
    · exact hl
    · rw [get6 hl] at hg; cases hg
  have h14 : 14 <= bs.length:=by
    rcases Nat.lt_or_ge bs.length 14 with hl | hl
    · rw [getS_short _ _ (by simpa using hl)] at hg; cases hg
    · exact hl
  rw [get6 h14] at hg
  injection hg with hg
  injection hg with e1 e2
  subst e1
  subst e2
  have hbl12:=byteAt_lt bs 12
  have p12 : (bs.getD 12 0).toNat = byteAt bs 12:=rfl
  have p13 : (bs.getD 13 0).toNat = byteAt bs 13:=rfl
  (repeat apply exi)
  apply exr
  refine letb rfl (iff_ rfl ?_)
  refine h.ix (z:=0) (i:=4) (y:=byteAt bs 12) (RdIn.own (.tail .head)) rfl (fun a ha => ?_) (by simp)
  subst ha
  refine h.rdWI (i:=4) (y:=byteAt bs 12) (RdIn.own (.tail .head)) rfl ?_
  refine ifd (fun hbig => ?_) fun hsm => ?_
  · refine bad (M:=[_,_,_]) ?_ h
    unfold parseS
    rw [if_pos (.inr (by omega))]
  have h:=h.drew
  refine ⟨fun w => St c w [own 25 1 _ _ d1 _],h.sub (.cons (.tail .head) .nil),?_⟩
  refine h.ix (z:=0) (i:=0) (y:=beN (bs.take 2)) (RdIn.own (.tail .head)) rfl (fun a ha => ?_) (by simp)
  injection ha with ha
  subst ha
  refine St.rdsWI (i:=0) (y:=beN (bs.take 2)) (RdIn.own .head) rfl ?_
  refine h.ix (z:=0) (i:=1) (y:=beN ((bs.drop 2).take 2)) (RdIn.own (.tail .head)) rfl (fun a ha => ?_) (by simp)
  injection ha with ha
  subst ha
  refine St.rdsWI (i:=1) (y:=beN ((bs.drop 2).take 2)) (RdIn.own .head) rfl ?_
  refine h.ix (z:=0) (i:=2) (y:=beN ((bs.drop 4).take 4)) (RdIn.own (.tail .head)) rfl (fun a ha => ?_) (by simp)
  injection ha with ha
  subst ha
  refine St.rdsWI (i:=2) (y:=beN ((bs.drop 4).take 4)) (RdIn.own .head) rfl ?_
  refine h.ix (z:=0) (i:=3) (y:=beN ((bs.drop 8).take 4)) (RdIn.own (.tail .head)) rfl (fun a ha => ?_) (by simp)
  injection ha with ha
  subst ha
  refine St.rdsWI (i:=3) (y:=beN ((bs.drop 8).take 4)) (RdIn.own .head) rfl ?_
  refine h.ix (z:=0) (i:=4) (y:=byteAt bs 12) (RdIn.own (.tail .head)) rfl (fun a ha => ?_) (by simp)
  injection ha with ha
  subst ha
  refine St.rdsWI (i:=4) (y:=byteAt bs 12) (RdIn.own .head) rfl ?_
  have b2:=beN_lt (bs.take 2)
  have b4:=beN_lt ((bs.drop 2).take 2)
  have b8:=beN_lt ((bs.drop 4).take 4)
  have b12:=beN_lt ((bs.drop 8).take 4)
  rw [List.length_take,Nat.min_eq_left (by omega)] at b2
  rw [List.length_take,List.length_drop,Nat.min_eq_left (by omega)] at b4 b8 b12
  rw [show IntKind.u16.wrap (beN (bs.take 2) : Int) = (beN (bs.take 2) : Int) by rw [wrapU16]; omega,show IntKind.u16.wrap (beN ((bs.drop 2).take 2) : Int) = (beN ((bs.drop 2).take 2) : Int) by rw [wrapU16]; omega,
    show IntKind.u32.wrap (beN ((bs.drop 4).take 4) : Int) = (beN ((bs.drop 4).take 4) : Int) by rw [wrapU32]; omega,show IntKind.u32.wrap (beN ((bs.drop 8).take 4) : Int) = (beN ((bs.drop 8).take 4) : Int) by rw [wrapU32]; omega,
    show IntKind.u8.wrap (byteAt bs 12 : Int) = (byteAt bs 12 : Int) by rw [wrapU8]; omega]
  refine RDS.bld ?_
  (repeat apply exi)
  apply exr
  refine h.allocZ fun p2 w' h => ?_
  refine ⟨_,fun _ h => h,h.sub (.cons (.tail (.tail .head)) .nil),?_⟩
  refine h.stG fun w' h => ?_
  refine h.ix (z:=0) (i:=5) (y:=byteAt bs 13) (RdIn.own (.tail (.tail .head))) rfl (fun a ha => ?_) (by simp)
  injection ha with ha
  subst ha
  refine h.rdWI (i:=5) (y:=byteAt bs 13) (RdIn.own (.tail (.tail .head))) rfl ?_
  refine leti (y:=(byteAt bs 13 : Int)) (by rw [wrap_i64 (by omega) (by omega)]) ?_
  refine ifd (fun hbig => ?_) fun hsm2 => ?_
  · refine bad (M:=[_,_,_,_]) ?_ h
    unfold parseS
    rw [if_neg (by omega),if_pos (.inl (by omega))]
  have hdl : (bs.drop 14).length = bs.length - 14:=by rw [List.length_drop]
  refine ifd (fun hbig => ?_) fun hsm3 => ?_
  · refine bad (M:=[_,_,_,_]) ?_ h
    unfold parseS
    rw [if_neg (by omega),if_pos (.inr (by omega))]
  refine RDL.slice0 huBytes (z:=1) (by kernel_rfl) (Nat.le_refl _) (by omega) ?_
  refine options_ok h (own_takeI (byteAt bs 13)) (by rw [List.length_take]; omega) (Nat.le_refl _) (by omega) (fun hos w' h => ?_) fun os hos hcap w' O3 d3 h => ?_
  · (repeat apply exi)
    apply exr
    refine letb rfl (ift rfl ?_)
    refine bad (M:=[_,_,_,_]) ?_ h
    unfold parseS
    rw [if_neg (by omega),if_neg (by omega),p13,hos]
  (repeat apply exi)
  apply exr
  refine letb rfl (iff_ rfl ?_)
  rw [wrap_i64 (n:=((bs.drop 14).length : Int) - (byteAt bs 13 : Int)) (by omega) (by omega)]
  refine ifd (fun hbig => ?_) fun hsm4 => ⟨by omega,?_⟩
  · refine bad (M:=[_,_,_,_,_,_]) ?_ h
    unfold parseS
    rw [if_neg (by omega),if_neg (by omega),p13,hos]
    simp only
    rw [if_pos (by omega)]
  have h:=h.addOwnNil 5 1
  have el : Int.toNat ((bs.drop 14).length : Int) - Int.toNat (byteAt bs 13 : Int) = ((bs.drop 14).drop (byteAt bs 13)).length:=by simp only [Int.toNat_natCast,List.length_drop]
  rw [el]
  have hdd : ((bs.drop 14).drop (byteAt bs 13)).length <= bs.length:=by simp only [List.length_drop]; omega
  have hdd2 : ((bs.drop 14).drop (byteAt bs 13)).length <= 1000000:=by omega
  refine h.append huBytes tiU8 .head (own_cutI hd2 (byteAt bs 13)) (m:=((bs.drop 14).drop (byteAt bs 13)).length) (by rw [bvs_length]; omega) (Flat.bvs _) (by omega) fun O4 d4 w' h => ?_
  simp only [Nat.zero_add,List.nil_append] at h ⊢
  refine h.st 5 fun w' h => ?_
  refine h.st 6 fun w' h => ?_
  refine h.rdG ?_
  (repeat apply exi)
  apply exr
  refine h.stG fun w' h => ?_
  refine h.rdG ?_
  (repeat apply exi)
  apply exr
  have h : St c w' (own 5 1 O4 _ d4 (bvs ((bs.drop 14).drop (byteAt bs 13))) :: bods os :: own 122 2 O3 os.length d3 (os.flatMap opx) :: L):=h.sub (.cons (.tail (.tail .head)) (.cons (.tail (.tail .head)) (.cons (.tail (.tail .head)) (Sub.same _).more.more.more.more.more)))
  have h:=h.ownRows.ro2
  have h:=h.swap.ownRows.ro2
  let s : Sg:=⟨beN (bs.take 2),beN ((bs.drop 2).take 2),beN ((bs.drop 4).take 4),beN ((bs.drop 8).take 4),(byteAt bs 12 : Int),O3,d3,os,O4,d4,(bs.drop 14).drop (byteAt bs 13)⟩
  have h : St c w' (sgp s :: L):=h.roW fun w ⟨h1,h2,h3⟩ => ⟨h1,h3,h2⟩
  refine hyes s ?_ hcap _ h
  unfold parseS
  rw [if_neg (by omega),if_neg (by omega),p13,hos]
  simp only
  rw [if_neg (by omega)]
  show _ = Except.ok (SgP.mk _ _ _ _ _ _ ((bs.drop 14).drop (byteAt bs 13)))
  rw [List.drop_drop]
  rfl
end
end Go.Br
/- What was encoded is parsed as what it was. -/
set_option linter.unusedVariables false
set_option linter.unusedSimpArgs false
set_option linter.unnecessarySimpa false
namespace Go.Br
open Go
attribute [local irreducible] Addr.add RD RDS RUN RUNU NILC LETB CALL CALLX CALLV
theorem beN_beB : ∀ (k : Nat) {n : Int},0 <= n -> n < 256 ^ k -> (beN (beB n k) : Int) = n
 | 0,n,h0,h1 => by simp at h1; simp [beB,beN]; omega
 | k + 1,n,h0,h1 => by
  have ih:=beN_beB k (n:=n / 256) (by omega) (by rw [Int.pow_succ] at h1; omega)
  rw [beB,beN_snoc]
  have:=byteOf_val n
  omega
theorem byteOf_toNat {n : Int} (h0 : 0 <= n) (h1 : n < 256) : ((byteOf n).toNat : Int) = n:=by rw [byteOf_val]; omega
theorem optsS_obs : ∀ {os : List (Int × List UInt8)},(∀ o ∈ os,(1 <= o.1 /\ o.1 < 256) /\ o.2.length <= 255) -> optsS (obs os) = some os
 | [],_ => by simp [obs,optsS]
 | o :: r,h => by
  have ho:=h o (by simp)
  have ih:=optsS_obs (os:=r) fun x hx => h x (by simp [hx])
  have e : obs (o :: r) = byteOf o.1 :: UInt8.ofNat o.2.length :: (o.2 ++ obs r):=by simp [obs,obP]
  have hk : ((byteOf o.1).toNat : Int) = o.1:=byteOf_toNat (by omega) (by omega)
  have hm : (UInt8.ofNat o.2.length).toNat = o.2.length:=by rw [UInt8.toNat_ofNat']; omega
  have hk0 : byteOf o.1 ≠ 0:=by
   intro e
   rw [e] at hk
   simp at hk
   omega
  rw [e,optsS_two,hm]
  rw [if_neg (by rintro (q | q); exact hk0 q; simp at q; omega)]
  rw [List.drop_left' rfl,List.take_left' rfl,ih]
  simp [hk]
theorem parse_enc {s : SgP} (h : SgOk s) : parseS (encB s) = .ok s:=by
 obtain ⟨h1,h2,h3,h4,h5,h6,h7,h8⟩:=h
 have hl : (UInt8.ofNat (obs s.os).length).toNat = (obs s.os).length:=by rw [UInt8.toNat_ofNat']; omega
 have hf : ((byteOf s.flags).toNat : Int) = s.flags:=byteOf_toNat (by omega) (by omega)
 have hfb : beB s.flags 1 = [byteOf s.flags]:=by simp [beB]
 generalize hA : beB s.src 2 = A
 generalize hB : beB s.dst 2 = B
 generalize hC : beB s.seq 4 = C
 generalize hD : beB s.ack 4 = D
 have lA : A.length = 2:=by rw [<- hA,beB_length]
 have lB : B.length = 2:=by rw [<- hB,beB_length]
 have lC : C.length = 4:=by rw [<- hC,beB_length]
 have lD : D.length = 4:=by rw [<- hD,beB_length]
 generalize hb : encB s = b
 generalize hO : obs s.os = O at *
 have e0 : b = A ++ (B ++ C ++ D ++ [byteOf s.flags] ++ [UInt8.ofNat O.length] ++ O ++ s.ds):=by rw [<- hb,encB,hdB,hA,hB,hC,hD,hfb,hO]; simp
 have e1 : b = (A) ++ (B ++ (C ++ D ++ [byteOf s.flags] ++ [UInt8.ofNat O.length] ++ O ++ s.ds)):=by rw [e0]; simp
 have e2 : b = (A ++ B) ++ (C ++ (D ++ [byteOf s.flags] ++ [UInt8.ofNat O.length] ++ O ++ s.ds)):=by rw [e0]; simp
 have e3 : b = (A ++ B ++ C) ++ (D ++ ([byteOf s.flags] ++ [UInt8.ofNat O.length] ++ O ++ s.ds)):=by rw [e0]; simp
 have e4 : b = (A ++ B ++ C ++ D) ++ (byteOf s.flags :: (UInt8.ofNat O.length :: (O ++ s.ds))):=by rw [e0]; simp
 have e5 : b = (A ++ B ++ C ++ D ++ [byteOf s.flags]) ++ (UInt8.ofNat O.length :: (O ++ s.ds)):=by rw [e0]; simp
 have e6 : b = (A ++ B ++ C ++ D ++ [byteOf s.flags] ++ [UInt8.ofNat O.length]) ++ (O ++ s.ds):=by rw [e0]; simp
 have e7 : b = (A ++ B ++ C ++ D ++ [byteOf s.flags] ++ [UInt8.ofNat O.length] ++ O) ++ s.ds:=by rw [e0]; simp
 have lb : b.length = 14 + O.length + s.ds.length:=by rw [e0]; simp [lA,lB,lC,lD]; omega
 have g12 : b.getD 12 0 = byteOf s.flags:=by
  rw [List.getD_eq_getElem?_getD,e4,List.getElem?_append_right (by simp [lA,lB,lC,lD])]
  simp [lA,lB,lC,lD]
 have g13 : b.getD 13 0 = UInt8.ofNat O.length:=by
  rw [List.getD_eq_getElem?_getD,e5,List.getElem?_append_right (by simp [lA,lB,lC,lD])]
  simp [lA,lB,lC,lD]
 have t0 : b.take 2 = A:=by rw [e1]; exact List.take_left' lA
 have t2 : (b.drop 2).take 2 = B:=by rw [e1,List.drop_left' lA]; exact List.take_left' lB
 have t4 : (b.drop 4).take 4 = C:=by rw [e2,List.drop_left' (by simp [lA,lB])]; exact List.take_left' lC
 have t8 : (b.drop 8).take 4 = D:=by rw [e3,List.drop_left' (by simp [lA,lB,lC])]; exact List.take_left' lD
 have t14 : (b.drop 14).take O.length = O:=by rw [e6,List.drop_left' (by simp [lA,lB,lC,lD])]; exact List.take_left' rfl
 have td : b.drop (14 + O.length) = s.ds:=by rw [e7]; exact List.drop_left' (by simp [lA,lB,lC,lD]; omega)
 unfold parseS
 rw [g12,g13,hl]
 rw [if_neg (by omega),if_neg (by omega),t14,<- hO,optsS_obs h6,hO]
 show (if 1024 < b.length - 14 - O.length then _ else _) = _
 rw [if_neg (by omega),t0,t2,t4,t8,td]
 rw [<- hA,<- hB,<- hC,<- hD,beN_beB 2 (by omega) (by omega),beN_beB 2 (by omega) (by omega),beN_beB 4 (by omega) (by omega),beN_beB 4 (by omega) (by omega),hf]
end Go.Br
