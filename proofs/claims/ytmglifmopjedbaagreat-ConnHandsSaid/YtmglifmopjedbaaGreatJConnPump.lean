/- ConnWord, ConnPump -/
import Derived.Test.YtmglifmopjedbaaGreatBrSeat
import Derived.Test.YtmglifmopjedbaaGreatJFlowFn
import Derived.Test.YtmglifmopjedbaaGreatJMacOpen
import Derived.Test.YtmglifmopjedbaaGreatJInlet2
import Derived.Test.YtmglifmopjedbaaGreatJConnAsk2
/- What the code of some functions says,as the core reads it; each reading is checked by the kernel. -/
set_option linter.unusedVariables false
set_option maxRecDepth 100000
namespace Go.Br
open Go Go.Proofs
def N92 (x : Option Addr) (f : Option Addr) (probe : Bool) (words : Option Addr) (wordsN wordsC : Nat) (w : World) (Q : QP) : Prop :=
 CALL PG 146 [(.pointer f),(.slice none 0 0)] w fun v w1 =>
 ∃ x15 : Int,∃ x15v1 : Int,∃ x15v2 : Int,∃ x15v3 : Int,∃ x15v4 : Int,∃ (x15v5 : Option Addr) (x15N x15C : Nat),∃ (x15v6 : Option Addr) (x15N1 x15C1 : Nat),v = (.agg #[(.int .u16 x15),(.int .u16 x15v1),(.int .u32 x15v2),(.int .u32 x15v3),(.int .u8 x15v4),(.slice x15v5 x15N x15C),(.slice x15v6 x15N1 x15C1)]) /\
 (RUNA PG (Instr.alloc 118 true (.tuple #[])) w1 fun a8 w2 =>
 RUNU PG (storeVar 118 a8 (.agg #[(.int .u16 x15),(.int .u16 x15v1),(.int .u32 x15v2),(.int .u32 x15v3),(.int .u8 x15v4),(.slice x15v5 x15N x15C),(.slice x15v6 x15N1 x15C1)])) w2 fun w3 =>
 CALL PG 147 [(.pointer x),(.pointer f)] w3 fun v1 w4 =>
 ∃ x18 : Int,∃ x18v1 : Int,v1 = (.agg #[(.int .u64 x18),(.int .u64 x18v1)]) /\
 (RUNA PG (Instr.alloc 28 true (.tuple #[])) w4 fun a9 w5 =>
 RUNU PG (storeVar 28 a9 (.agg #[(.int .u64 x18),(.int .u64 x18v1)])) w5 fun w6 =>
 CALL PG 148 [(.pointer x)] w6 fun v2 w7 =>
 ∃ x20 : Bool,∃ x20v1 : Bool,∃ x20v2 : Int,∃ x20v3 : Int,∃ x20v4 : Int,∃ x20v5 : Int,v2 = (.agg #[(.bool x20),(.bool x20v1),(.int .u64 x20v2),(.int .u64 x20v3),(.int .u32 x20v4),(.int .u64 x20v5)]) /\
 (RUNA PG (Instr.alloc 185 true (.tuple #[])) w7 fun a10 w8 =>
 RUNU PG (storeVar 185 a10 (.agg #[(.bool x20),(.bool x20v1),(.int .u64 x20v2),(.int .u64 x20v3),(.int .u32 x20v4),(.int .u64 x20v5)])) w8 fun w9 =>
 RUNU PG (storeVar 4 (a10.add 1) (.bool probe)) w9 fun w10 =>
 RD PG (loadVar 28 a9) w10 fun v3 =>
 ∃ x23 : Int,∃ x23v1 : Int,v3 = (.agg #[(.int .u64 x23),(.int .u64 x23v1)]) /\
 (RD PG (loadVar 118 a8) w10 fun v4 =>
 ∃ x24 : Int,∃ x24v1 : Int,∃ x24v2 : Int,∃ x24v3 : Int,∃ x24v4 : Int,∃ (x24v5 : Option Addr) (x24N x24C : Nat),∃ (x24v6 : Option Addr) (x24N1 x24C1 : Nat),v4 = (.agg #[(.int .u16 x24),(.int .u16 x24v1),(.int .u32 x24v2),(.int .u32 x24v3),(.int .u8 x24v4),(.slice x24v5 x24N x24C),(.slice x24v6 x24N1 x24C1)]) /\
 (RD PG (loadVar 185 a10) w10 fun v5 =>
 ∃ x25 : Bool,∃ x25v1 : Bool,∃ x25v2 : Int,∃ x25v3 : Int,∃ x25v4 : Int,∃ x25v5 : Int,v5 = (.agg #[(.bool x25),(.bool x25v1),(.int .u64 x25v2),(.int .u64 x25v3),(.int .u32 x25v4),(.int .u64 x25v5)]) /\
 (CALL PG 149 [(.agg #[(.int .u64 x23),(.int .u64 x23v1)]),(.agg #[(.int .u16 x24),(.int .u16 x24v1),(.int .u32 x24v2),(.int .u32 x24v3),(.int .u8 x24v4),(.slice x24v5 x24N x24C),(.slice x24v6 x24N1 x24C1)]),(.agg #[(.bool x25),(.bool x25v1),(.int .u64 x25v2),(.int .u64 x25v3),(.int .u32 x25v4),(.int .u64 x25v5)])] w10 fun v6 w11 =>
 ∃ x26 : Int,∃ (x26v1 : Option Addr) (x26N x26C : Nat),v6 = (.agg #[(.int .u8 x26),(.slice x26v1 x26N x26C)]) /\
 (RUNL PG (Instr.buildSlice 116 1 #[(0,(.agg #[(.int .u8 x26),(.slice x26v1 x26N x26C)]))]) w11 fun x27 x27N x27C w12 =>
 ∃ I : Nat -> Option Addr -> Nat -> Nat -> Int -> World -> Prop,
 (∃ m,I m x27 x27N x27C 0 w12) /\
 (∀ m1 (l : Option Addr) (lN lC : Nat) (x30 : Int) (w13 : World),I m1 l lN lC x30 w13 -> (IFB (decide (x30 < (wordsN : Int)))
 (IDX words wordsN x30 fun a32 =>
 RD PG (loadVar 152 (a32.add (Int.toNat x30 * 6))) w13 fun v7 =>
 ∃ x33 : Int,∃ x33v1 : Int,∃ x33v2 : Int,∃ x33v3 : Int,∃ x33v4 : Bool,∃ x33v5 : Int,v7 = (.agg #[(.int .u8 x33),(.int .u32 x33v1),(.int .u8 x33v2),(.int .u8 x33v3),(.bool x33v4),(.int .u64 x33v5)]) /\
 (RUNA PG (Instr.alloc 152 true (.tuple #[])) w13 fun a13 w14 =>
 RUNU PG (storeVar 152 a13 (.agg #[(.int .u8 x33),(.int .u32 x33v1),(.int .u8 x33v2),(.int .u8 x33v3),(.bool x33v4),(.int .u64 x33v5)])) w14 fun w15 =>
 RD PG (loadVar 28 a9) w15 fun v8 =>
 ∃ x35 : Int,∃ x35v1 : Int,v8 = (.agg #[(.int .u64 x35),(.int .u64 x35v1)]) /\
 (RD PG (loadVar 118 a8) w15 fun v9 =>
 ∃ x36 : Int,∃ x36v1 : Int,∃ x36v2 : Int,∃ x36v3 : Int,∃ x36v4 : Int,∃ (x36v5 : Option Addr) (x36N x36C : Nat),∃ (x36v6 : Option Addr) (x36N1 x36C1 : Nat),v9 = (.agg #[(.int .u16 x36),(.int .u16 x36v1),(.int .u32 x36v2),(.int .u32 x36v3),(.int .u8 x36v4),(.slice x36v5 x36N x36C),(.slice x36v6 x36N1 x36C1)]) /\
 (RD PG (loadVar 152 a13) w15 fun v10 =>
 ∃ x37 : Int,∃ x37v1 : Int,∃ x37v2 : Int,∃ x37v3 : Int,∃ x37v4 : Bool,∃ x37v5 : Int,v10 = (.agg #[(.int .u8 x37),(.int .u32 x37v1),(.int .u8 x37v2),(.int .u8 x37v3),(.bool x37v4),(.int .u64 x37v5)]) /\
 (CALL PG 150 [(.agg #[(.int .u64 x35),(.int .u64 x35v1)]),(.agg #[(.int .u16 x36),(.int .u16 x36v1),(.int .u32 x36v2),(.int .u32 x36v3),(.int .u8 x36v4),(.slice x36v5 x36N x36C),(.slice x36v6 x36N1 x36C1)]),(.agg #[(.int .u8 x37),(.int .u32 x37v1),(.int .u8 x37v2),(.int .u8 x37v3),(.bool x37v4),(.int .u64 x37v5)])] w15 fun v11 w16 =>
 ∃ x38 : Int,∃ (x38v1 : Option Addr) (x38N x38C : Nat),v11 = (.agg #[(.int .u8 x38),(.slice x38v1 x38N x38C)]) /\
 (RUNL PG (Instr.buildSlice 116 1 #[(0,(.agg #[(.int .u8 x38),(.slice x38v1 x38N x38C)]))]) w16 fun x39 x39N x39C w17 =>
 RUNL PG (Builtin.append_ #[116,116] 116 #[(.slice l lN lC),(.slice x39 x39N x39C)]) w17 fun x40 x40N x40C w18 =>
 ∃ m2,m2 < m1 /\ I m2 x40 x40N x40C (IntKind.i64.wrap (x30 + 1)) w18))))))
 (RD PG (loadVar 118 a8) w13 fun v12 =>
 ∃ x44 : Int,∃ x44v1 : Int,∃ x44v2 : Int,∃ x44v3 : Int,∃ x44v4 : Int,∃ (x44v5 : Option Addr) (x44N x44C : Nat),∃ (x44v6 : Option Addr) (x44N1 x44C1 : Nat),v12 = (.agg #[(.int .u16 x44),(.int .u16 x44v1),(.int .u32 x44v2),(.int .u32 x44v3),(.int .u8 x44v4),(.slice x44v5 x44N x44C),(.slice x44v6 x44N1 x44C1)]) /\
 (CALL PG 130 [(.agg #[(.int .u16 x44),(.int .u16 x44v1),(.int .u32 x44v2),(.int .u32 x44v3),(.int .u8 x44v4),(.slice x44v5 x44N x44C),(.slice x44v6 x44N1 x44C1)]),(.slice l lN lC)] w13 fun v13 w19 =>
 ∃ x46 : Int,∃ x46v1 : Int,∃ x46v2 : Int,∃ x46v3 : Int,∃ x46v4 : Int,∃ (x46v5 : Option Addr) (x46N x46C : Nat),∃ (x46v6 : Option Addr) (x46N1 x46C1 : Nat),v13 = (.agg #[(.int .u16 x46),(.int .u16 x46v1),(.int .u32 x46v2),(.int .u32 x46v3),(.int .u8 x46v4),(.slice x46v5 x46N x46C),(.slice x46v6 x46N1 x46C1)]) /\
 (CALL PG 78 [(.pointer x),(.pointer f),(.agg #[(.int .u16 x46),(.int .u16 x46v1),(.int .u32 x46v2),(.int .u32 x46v3),(.int .u8 x46v4),(.slice x46v5 x46N x46C),(.slice x46v6 x46N1 x46C1)])] w19 fun v14 w20 =>
 v14 = (.tuple #[]) /\
 (RD PG (loadVar 118 a8) w20 fun v15 =>
 ∃ x49 : Int,∃ x49v1 : Int,∃ x49v2 : Int,∃ x49v3 : Int,∃ x49v4 : Int,∃ (x49v5 : Option Addr) (x49N x49C : Nat),∃ (x49v6 : Option Addr) (x49N1 x49C1 : Nat),v15 = (.agg #[(.int .u16 x49),(.int .u16 x49v1),(.int .u32 x49v2),(.int .u32 x49v3),(.int .u8 x49v4),(.slice x49v5 x49N x49C),(.slice x49v6 x49N1 x49C1)]) /\
 (CALL PG 151 [(.pointer f),(.agg #[(.int .u16 x49),(.int .u16 x49v1),(.int .u32 x49v2),(.int .u32 x49v3),(.int .u8 x49v4),(.slice x49v5 x49N x49C),(.slice x49v6 x49N1 x49C1)])] w20 fun v16 w21 =>
 ∃ x50 : Int,v16 = (.int .u32 x50) /\
 (Q (.tuple #[]) w21)))))))))))))))
theorem call92 {x : Option Addr} {f : Option Addr} {probe : Bool} {words : Option Addr} {wordsN wordsC : Nat} {w : World} {Q : QP} (h_ : N92 x f probe words wordsN wordsC w Q) : CALL PG 92 [(.pointer x),(.pointer f),(.bool probe),(.slice words wordsN wordsC)] w Q:=calls_vq (.s .nil (.s .nil (.s .nil (.s .nil (.s .nil (.s (.s .nil (.u (.loop [(11,116),(30,3)] .nil))) .nil)))))) tabOk Tryz.func92 (by kernel_rfl) h_
def N99 (x : Option Addr) (w : World) (Q : QP) : Prop :=
 NILC x fun a4 =>
 RDP PG (loadVar 90 (a4.add 0)) w fun x6 =>
 CALL PG 157 [(.pointer x6)] w fun v w1 =>
 ∃ x7 : Int,v = (.int .i64 x7) /\
 (LETI (IntKind.u32.wrap x7) fun x2 =>
 Q (.int .u32 x2) w1)
theorem call99 {x : Option Addr} {w : World} {Q : QP} (h_ : N99 x w Q) : CALL PG 99 [(.pointer x)] w Q:=calls_vq .nil tabOk Tryz.func99 (by kernel_rfl) h_
def N148 (x : Option Addr) (w : World) (Q : QP) : Prop :=
 RUNA PG (Instr.alloc 185 true (.tuple #[])) w fun a2 w1 =>
 ∃ S : World -> Prop,S (w1.drew) /\
 (NILC x fun a4 =>
 RDSI PG (loadVar 25 (a4.add 40)) .u64 S fun x6 =>
 NILC x fun a8 =>
 RDSP PG (loadVar 61 (a8.add 36)) S fun x10 =>
 NILC x fun a13 =>
 RDSP PG (loadVar 61 (a13.add 36)) S fun x15 =>
 CALL PG 178 [(.pointer x10)] (w1.drew) fun v w2 =>
 ∃ x11 : Int,v = (.int .u64 x11) /\
 (∃ S1 : World -> Prop,(∀ x,S1 x -> S x) /\ S1 w2 /\
 (CALL PG 99 [(.pointer x15)] w2 fun v1 w3 =>
 ∃ x16 : Int,v1 = (.int .u32 x16) /\
 (∃ S2 : World -> Prop,(∀ x,S2 x -> S1 x) /\ S2 w3 /\
 (RDS PG (Instr.build 185 #[(2,(.int .u64 x6)),(3,(.int .u64 x11)),(4,(.int .u32 x16))]) S2 fun v2 =>
 ∃ x17 : Bool,∃ x17v1 : Bool,∃ x17v2 : Int,∃ x17v3 : Int,∃ x17v4 : Int,∃ x17v5 : Int,v2 = (.agg #[(.bool x17),(.bool x17v1),(.int .u64 x17v2),(.int .u64 x17v3),(.int .u32 x17v4),(.int .u64 x17v5)]) /\
 (RUNU PG (storeVar 185 a2 (.agg #[(.bool x17),(.bool x17v1),(.int .u64 x17v2),(.int .u64 x17v3),(.int .u32 x17v4),(.int .u64 x17v5)])) w3 fun w4 =>
 RD PG (loadVar 185 a2) w4 fun v4 =>
 ∃ r : Bool,∃ r1 : Bool,∃ r2 : Int,∃ r3 : Int,∃ r4 : Int,∃ r5 : Int,v4 = (.agg #[(.bool r),(.bool r1),(.int .u64 r2),(.int .u64 r3),(.int .u32 r4),(.int .u64 r5)]) /\
 (Q (.agg #[(.bool r),(.bool r1),(.int .u64 r2),(.int .u64 r3),(.int .u32 r4),(.int .u64 r5)]) w4)))))))
theorem call148 {x : Option Addr} {w : World} {Q : QP} (h_ : N148 x w Q) : CALL PG 148 [(.pointer x)] w Q:=calls_vq .nil tabOk Tryz.func148 (by kernel_rfl) h_
def N178 (x : Option Addr) (w : World) (Q : QP) : Prop :=
 CALL PG 26 [(.pointer x)] w fun v w1 =>
 ∃ x5 : Int,v = (.int .u64 x5) /\
 (LETI x5 fun n =>
 NILC x fun a7 =>
 RDB PG (loadVar 4 (a7.add 4)) w1 fun x9 =>
 IFB x9
 (NILC x fun a13 =>
 RDI PG (loadVar 25 (a13.add 3)) .u64 w1 fun x15 =>
 IFB (n == x15)
 (LETI (IntKind.u64.wrap (n + 1)) fun n1 =>
 LETI n1 fun x2 =>
 Q (.int .u64 x2) w1)
 (LETI n fun x2v1 =>
 Q (.int .u64 x2v1) w1))
 (LETI n fun x2v2 =>
 Q (.int .u64 x2v2) w1))
theorem call178 {x : Option Addr} {w : World} {Q : QP} (h_ : N178 x w Q) : CALL PG 178 [(.pointer x)] w Q:=calls_vq .nil tabOk Tryz.func178 (by kernel_rfl) h_
end Go.Br
/- Word goes out on a path. -/
set_option linter.unusedVariables false
set_option linter.unusedSimpArgs false
set_option linter.unnecessarySimpa false
namespace Go.Br
open Go
instance biConnWorda : Zro PG 28 2 16 (.agg #[.int .u64 0,.int .u64 0]):=⟨tiOf (by kernel_rfl)⟩
instance biConnWordb : Zro PG 118 7 64 (.agg #[.int .u16 0,.int .u16 0,.int .u32 0,.int .u32 0,.int .u8 0,.slice none 0 0,.slice none 0 0]):=⟨tiOf (by kernel_rfl)⟩
instance biConnWordd : Zro PG 185 6 40 (.agg #[.bool false,.bool false,.int .u64 0,.int .u64 0,.int .u32 0,.int .u64 0]):=⟨tiOf (by kernel_rfl)⟩
instance biConnWorde (x0 : Int) (x1 : Int) (x2 : Int) : Bld PG (Instr.build 185 #[(2,.int .u64 x0),(3,.int .u64 x1),(4,.int .u32 x2)]) (.agg #[.bool false,.bool false,.int .u64 x0,.int .u64 x1,.int .u32 x2,.int .u64 0]):=⟨fun w => by kernel_rfl⟩
attribute [local irreducible] Addr.add RD RDS RUN RUNU NILC LETB CALL CALLX CALLV
def ackI (base e : Int) (kn : Bool) (n : Nat) : Int:=if kn = true /\ base + n = e then IntKind.u64.wrap (base + n + 1) else base + n
def winI (v : List UInt8) (n : Nat) : Int:=IntKind.u32.wrap ((v.length : Int) - n)
def headD (X : Cn) (base e : Int) (kn : Bool) (v : List UInt8) (n : Nat) (probe : Bool) : Dt:=⟨false,probe,X.sent,ackI base e kn n,winI v n,0⟩
def wordS (X : Cn) (F : Fw) (d : Dt) : SgP:={ plainS F [] with os:=[(3,dataB { d with tgTag:=tagS (sendK0 X F) (sendK1 X F) (plainS F []) (3,dataB d) })] }
structure FwU (F : Fw) : Prop where
 loc : 0 <= F.loc /\ F.loc < 65536
 rem : 0 <= F.rem /\ F.rem < 65536
 next : 0 <= F.numNext /\ F.numNext < 4294967296
 wait : 0 <= F.numWait /\ F.numWait < 4294967296
theorem plainS_ok {F : Fw} (h : FwU F) {ds : List UInt8} (hd : ds.length <= 1024) : SgOk (plainS F ds):=⟨h.loc,h.rem,h.next,h.wait,⟨show (0 : Int) <= 2 by decide,show (2 : Int) <= 7 by decide⟩,fun o ho => by simp [plainS] at ho,by simp [plainS,obs],hd⟩
theorem wordS_ok {X : Cn} {F : Fw} (h : FwU F) {d : Dt} : SgOk (wordS X F d):=by
 refine ⟨h.loc,h.rem,h.next,h.wait,⟨show (0 : Int) <= 2 by decide,show (2 : Int) <= 7 by decide⟩,fun o ho => ?_,?_,by simp [wordS,plainS]⟩
 ·simp only [wordS,List.mem_singleton] at ho
  subst ho
  exact ⟨⟨show (1 : Int) <= 3 by decide,show (3 : Int) < 256 by decide⟩,by rw [dataB_length]; decide⟩
 ·simp [wordS,obs,obP,dataB_length]
section
variable {c : Ctx} {w : World} {L R : List SA} {i r D sp n : Nat} {base e most : Int} {kn : Bool} {v : List UInt8} {S : List Sp}
theorem xfree_ok {p : Nat} (h : St c w L) (hp : Pick (rng p D v n) L R) {Q : Value -> World -> Prop} (hk : St c w.drew L -> Q (.int .i64 ((v.length : Int) - n)) w.drew) : CALL PG 157 [.pointer (some ⟨p,0,none⟩)] w Q:=by
 have hd:=h.drew
 obtain ⟨bs,a,h1,rfl,_⟩:=h.rngO hp
 rw [rot_length] at hk
 exact free_ok h1 (hk hd)
theorem iack_ok (h : St c w (il i r D sp base e kn v n most S R)) (hb : 0 <= base) (hb2 : base + v.length < 18446744073709551616) {Q : Value -> World -> Prop}
  (hk : ∀ w',St c w' (il i r D sp base e kn v n most S R) -> Q (.int .u64 (ackI base e kn n)) w') : CALL PG 178 [.pointer (some ⟨i,0,none⟩)] w Q:=by
 refine call178 ?_
 unfold N178
 refine next_ok h hb hb2 fun w' h => ?_
 (repeat apply exi)
 apply exr
 unfold ackI at hk
 refine leti rfl (nilc (h.rdB (B:=i) 4 ?_))
 refine ifb (fun hkn => nilc ?_) fun hkn => ?_
 ·refine h.rdI (B:=i) 3 ?_
  refine ifq (fun he => leti rfl (leti rfl ?_)) fun he => leti rfl ?_
  ·rw [if_pos ⟨hkn,he⟩] at hk; exact hk _ h
  ·rw [if_neg fun hc => he hc.2] at hk; exact hk _ h
 ·refine leti rfl ?_
  rw [if_neg fun hc => by rw [hkn] at hc; cases hc.1] at hk
  exact hk _ h
theorem iwin_ok (h : St c w (il i r D sp base e kn v n most S R)) {Q : Value -> World -> Prop}
  (hk : ∀ w',St c w' (il i r D sp base e kn v n most S R) -> Q (.int .u32 (winI v n)) w') : CALL PG 99 [.pointer (some ⟨i,0,none⟩)] w Q:=by
 refine call99 ?_
 unfold N99
 refine nilc (h.rdP (B:=i) 0 ?_)
 refine xfree_ok h (.tail .head) fun h => ?_
 (repeat apply exi)
 apply exr
 exact leti rfl (hk _ h)
theorem head_ok {x : Nat} {X : Cn} (h : St c w (blk x 67 (cnc { X with inn:=some ⟨i,0,none⟩ }) :: il i r D sp base e kn v n most S R)) (hb : 0 <= base) (hb2 : base + v.length < 18446744073709551616) {Q : Value -> World -> Prop}
  (hk : ∀ w',St c w' (blk x 67 (cnc { X with inn:=some ⟨i,0,none⟩ }) :: il i r D sp base e kn v n most S R) -> Q (dtcv (headD X base e kn v n false)) w') : CALL PG 148 [.pointer (some ⟨x,0,none⟩)] w Q:=by
 refine call148 ?_
 unfold N148
 refine h.allocZ fun q w' h => ?_
 have h:=h.drew
 refine ⟨fun w => St c w [blk x 67 (cnc { X with inn:=some ⟨i,0,none⟩ })],h.sub (.cons (.tail .head) (.nil)),nilc ?_⟩
 refine St.rdsI (B:=x) 40 (nilc ?_)
 refine St.rdsP (B:=x) 36 (nilc ?_)
 refine St.rdsP (B:=x) 36 ?_
 refine iack_ok (h.sub (show Sub _ (il i r D sp base e kn v n most S (blk q 185 (dtc dt0) :: blk x 67 (cnc { X with inn:=some ⟨i,0,none⟩ }) :: R)) from (.cons (.tail (.tail .head)) (.cons (.tail (.tail .head)) (.cons (.tail (.tail .head)) (.cons .head (.cons .head ((Sub.same _))))))))) hb hb2 fun w' h => ?_
 (repeat apply exi)
 apply exr
 refine ⟨_,fun _ h => h,h.sub (.cons (.tail (.tail (.tail (.tail .head)))) (.nil)),?_⟩
 refine iwin_ok h fun w' h => ?_
 (repeat apply exi)
 apply exr
 refine ⟨_,fun _ h => h,h.sub (.cons (.tail (.tail (.tail (.tail .head)))) (.nil)),?_⟩
 refine RDS.bld ?_
 (repeat apply exi)
 apply exr
 refine h.stG (B:=q) (fun w' h => ?_) (hl:=by rfl)
 refine h.rdG (B:=q) ?_
 (repeat apply exi)
 apply exr
 exact hk _ (h.sub (.cons (.tail (.tail (.tail (.tail .head)))) (.cons (.tail .head) (.cons (.tail .head) (.cons (.tail .head) ((Sub.same _).more))))))
theorem headD_ok {X : Cn} (hs : 0 <= X.sent /\ X.sent < 18446744073709551616) (hb : 0 <= base) (hb2 : base + n < 18446744073709551616) {probe : Bool} : DtOk (headD X base e kn v n probe):=by
 refine ⟨hs,?_,?_,⟨show (0 : Int) <= 0 by decide,show (0 : Int) < 18446744073709551616 by decide⟩⟩
 ·show 0 <= ackI base e kn n /\ ackI base e kn n < 18446744073709551616
  unfold ackI
  split
  ·rw [wrapU64]; omega
  ·omega
 ·show 0 <= winI v n /\ winI v n < 4294967296
  unfold winI
  rw [wrapU32]; omega
theorem word0_ok {x f : Nat} {X : Cn} {F : Fw} {ps : List Pkt} {probe : Bool} (h : St c w (blk x 67 (cnc { X with inn:=some ⟨i,0,none⟩ }) :: blk f 111 (fwc F) :: own 115 2 X.post X.postN X.postC (ps.flatMap pkc) :: bodP ps :: il i r D sp base e kn v n most S L)) (hF : FwU F) (hs : 0 <= X.sent /\ X.sent < 18446744073709551616) (hn : X.postN <= 100000) (hb : 0 <= base) (hb2 : base + v.length < 18446744073709551616) {Q : Value -> World -> Prop}
  (hk : ∀ O d p w',p.path = F.path -> PkEq p (encB (wordS X F (headD X base e kn v n probe))) ->
   St c w' (blk x 67 (cnc { X with inn:=some ⟨i,0,none⟩,post:=O,postN:=X.postN + 1,postC:=d }) :: blk f 111 (fwc (sentF F (plainS F []))) :: own 115 2 O (X.postN + 1) d ((ps ++ [p]).flatMap pkc) :: bodP (ps ++ [p]) :: il i r D sp base e kn v n most S L) -> Q (.tuple #[]) w') :
  CALL PG 92 [.pointer (some ⟨x,0,none⟩),.pointer (some ⟨f,0,none⟩),.bool probe,.slice none 0 0] w Q:=by
 have hf:=h.rngF (.tail (.tail (.tail (.tail (.tail .head)))))
 have okP : SgOk (plainS F []):=plainS_ok hF (by simp)
 have okW : SgOk (wordS X F (headD X base e kn v n probe)):=wordS_ok hF
 have okD : DtOk (headD X base e kn v n probe):=headD_ok hs hb (by omega)
 refine call92 ?_
 unfold N92
 refine plain_ok (h.sub (show Sub _ (blk f 111 (fwc F) :: _) from (.cons (.tail .head) (.cons .head ((Sub.same _)))))) fun w' h => ?_
 (repeat apply exi)
 apply exr
 refine h.allocZ fun q1 w' h => ?_
 refine h.stG (B:=q1) fun w' h => ?_
 refine sends_ok (X:={ X with inn:=some ⟨i,0,none⟩ }) (F:=F) (h.sub (show Sub _ (blk x 67 (cnc { X with inn:=some ⟨i,0,none⟩ }) :: blk f 111 (fwc F) :: _) from (.cons (.tail (.tail .head)) (.cons (.tail .head) (.cons .head ((Sub.same _))))))) fun w' h => ?_
 have hW : wordS X F (headD X base e kn v n probe) = { plainS F [] with os:=[(3,dataB { headD X base e kn v n probe with tgTag:=tagS (sendK0 X F) (sendK1 X F) (plainS F []) (3,dataB (headD X base e kn v n probe)) })] }:=rfl
 rw [show sendK0 { X with inn:=some ⟨i,0,none⟩ } F = sendK0 X F from rfl,show sendK1 { X with inn:=some ⟨i,0,none⟩ } F = sendK1 X F from rfl]
 rw [hW] at hk okW
 clear hW
 generalize sendK0 X F = k0 at hk okW ⊢
 generalize sendK1 X F = k1 at hk okW ⊢
 (repeat apply exi)
 apply exr
 refine h.allocZ fun q2 w' h => ?_
 refine h.stG (B:=q2) (fun w' h => ?_) (hl:=by simp)
 refine head_ok (X:=X) (h.sub (show Sub _ (blk x 67 (cnc { X with inn:=some ⟨i,0,none⟩ }) :: il i r D sp base e kn v n most S (blk q2 28 [.int .u64 k0,.int .u64 k1] :: blk f 111 (fwc F) :: blk q1 118 [.int .u16 F.loc,.int .u16 F.rem,.int .u32 F.numNext,.int .u32 F.numWait,.int .u8 2,.slice none 0 0,.slice none 0 0] :: own 115 2 X.post X.postN X.postC (ps.flatMap pkc) :: bodP ps :: L)) from (.cons (.tail .head) (.cons (.tail (.tail (.tail (.tail (.tail .head))))) (.cons (.tail (.tail (.tail (.tail (.tail .head))))) (.cons (.tail (.tail (.tail (.tail (.tail .head))))) (.cons .head (.cons .head (.cons .head (.cons .head (.cons .head ((Sub.same _))))))))))))) hb hb2 fun w' h => ?_
 have hD : headD X base e kn v n probe = { headD X base e kn v n false with probe:=probe }:=rfl
 rw [hD] at hk okD okW
 clear hD
 generalize headD X base e kn v n false = d at hk okD okW ⊢
 (repeat apply exi)
 apply exr
 refine h.allocZ fun q3 w' h => ?_
 refine h.stG (B:=q3) (fun w' h => ?_) (hl:=by rfl)
 refine h.st (B:=q3) 1 fun w' h => ?_
 have h : St c w' (blk q3 185 (dtc { d with probe:=probe }) :: _):=h
 generalize hd1 : ({ d with probe:=probe } : Dt) = d1 at hk okD okW h ⊢
 refine h.rdG (B:=q2) ?_
 (repeat apply exi)
 apply exr
 refine h.rdG (B:=q1) ?_
 (repeat apply exi)
 apply exr
 refine h.rdG (B:=q3) ?_
 (repeat apply exi)
 apply exr
 refine macdata_ok (s:=⟨F.loc,F.rem,F.numNext,F.numWait,2,none,0,[],none,0,[]⟩) (d:=d1) h (fun c w h => ⟨Row.nil w none,(fun o ho => by cases ho),Row.nil w none⟩) okP okD fun o w' eo hc h => ?_
 have ek : o.kind = 3:=congrArg Prod.fst eo
 (repeat apply exi)
 apply exr
 refine h.lit (n:=1) 122 2 (([o] : List Opx).flatMap opx) fun q4 w' h => ?_
 have h:=h.sub (show Sub _ (own 122 2 (some ⟨q4,0,none⟩) 1 1 (([o] : List Opx).flatMap opx) :: opp o :: blk q1 118 [.int .u16 F.loc,.int .u16 F.rem,.int .u32 F.numNext,.int .u32 F.numWait,.int .u8 2,.slice none 0 0,.slice none 0 0] :: blk x 67 (cnc { X with inn:=some ⟨i,0,none⟩ }) :: blk f 111 (fwc F) :: own 115 2 X.post X.postN X.postC (ps.flatMap pkc) :: bodP ps :: il i r D sp base e kn v n most S L) from (.cons .head (.cons .head (.cons (.tail (.tail (.tail (.tail (.tail (.tail (.tail .head))))))) (.cons (.tail .head) (.cons (.tail (.tail (.tail (.tail (.tail .head))))) (.cons (.tail (.tail (.tail (.tail (.tail .head))))) (.cons (.tail (.tail (.tail (.tail (.tail .head))))) (.cons (.tail .head) (.cons (.tail .head) (.cons (.tail .head) ((Sub.same _).more.more))))))))))))
 refine ⟨fun m l lN lC y w => m = 0 /\ l = some ⟨q4,0,none⟩ /\ lN = 1 /\ lC = 1 /\ y = 0 /\ St c w (own 122 2 (some ⟨q4,0,none⟩) 1 1 (([o] : List Opx).flatMap opx) :: opp o :: blk q1 118 [.int .u16 F.loc,.int .u16 F.rem,.int .u32 F.numNext,.int .u32 F.numWait,.int .u8 2,.slice none 0 0,.slice none 0 0] :: blk x 67 (cnc { X with inn:=some ⟨i,0,none⟩ }) :: blk f 111 (fwc F) :: own 115 2 X.post X.postN X.postC (ps.flatMap pkc) :: bodP ps :: il i r D sp base e kn v n most S L),⟨0,rfl,rfl,rfl,rfl,rfl,h⟩,?_⟩
 clear h
 rintro m l lN lC y w' ⟨rfl,rfl,rfl,rfl,rfl,h⟩
 refine ifdf (by show ¬ ((0 : Int) < 0); decide) ?_
 refine h.rdG (B:=q1) ?_
 (repeat apply exi)
 apply exr
 refine sof_ok (s:=⟨F.loc,F.rem,F.numNext,F.numWait,2,none,0,[],none,0,[]⟩) (os:=[o]) h (RdIn.own .head) (by simp) fun O k w' h => ?_
 (repeat apply exi)
 apply exr
 have eW : (⟨F.loc,F.rem,F.numNext,F.numWait,2,O,k,[o],none,0,[]⟩ : Sg).pl = { plainS F [] with os:=[(3,dataB { d1 with tgTag:=tagS k0 k1 (plainS F []) (3,dataB d1) })] }:=by
  show SgP.mk _ _ _ _ _ [opl o] _ = _
  rw [eo]
  rfl
 refine send_ok (s:=⟨F.loc,F.rem,F.numNext,F.numWait,2,O,k,[o],none,0,[]⟩) (ps:=ps) (h.sub (show Sub _ (blk x 67 (cnc { X with inn:=some ⟨i,0,none⟩ }) :: blk f 111 (fwc F) :: own 115 2 X.post X.postN X.postC (ps.flatMap pkc) :: bodP ps :: own 122 2 O 1 k (([o] : List Opx).flatMap opx) :: own 122 2 (some ⟨q4,0,none⟩) 1 1 (([o] : List Opx).flatMap opx) :: opp o :: blk q1 118 [.int .u16 F.loc,.int .u16 F.rem,.int .u32 F.numNext,.int .u32 F.numWait,.int .u8 2,.slice none 0 0,.slice none 0 0] :: il i r D sp base e kn v n most S L) from (.cons (.tail (.tail (.tail (.tail .head)))) (.cons (.tail (.tail (.tail (.tail .head)))) (.cons (.tail (.tail (.tail (.tail .head)))) (.cons (.tail (.tail (.tail (.tail .head)))) (.cons .head (.cons .head (.cons .head (.cons .head ((Sub.same _)))))))))))) hn (fun c w h => ⟨RdIn.own .head c w h,(fun o' ho => by
  rw [List.mem_singleton] at ho
  subst ho
  exact RdIn.rows (.tail (.tail .head)) c w h),Row.nil w none⟩) (by rw [eW]; exact okW) fun O2 d2 p w' e1 e2 h => ⟨rfl,?_⟩
 rw [eW] at e2
 refine h.rdG (B:=q1) ?_
 (repeat apply exi)
 apply exr
 refine sent_ok (s:=⟨F.loc,F.rem,F.numNext,F.numWait,2,none,0,[],none,0,[]⟩) (h.sub (show Sub _ (blk f 111 (fwc F) :: _) from (.cons (.tail .head) (.cons .head ((Sub.same _)))))) okP fun w' h => ?_
 (repeat apply exi)
 apply exr
 exact hk O2 d2 p _ e1 e2 (h.sub (.cons (.tail .head) (.cons .head (.cons .head (.cons .head ((Sub.same _).more.more.more.more))))))
end
end Go.Br
/- What the code of some functions says,as the core reads it; each reading is checked by the kernel. -/
set_option linter.unusedVariables false
set_option maxRecDepth 100000
namespace Go.Br
open Go Go.Proofs
def N24 (o : Option Addr) (w : World) (Q : QP) : Prop :=
 ∃ S : World -> Prop,S (w.drew) /\
 (NILC o fun a4 =>
 RDSI PG (loadVar 25 (a4.add 1)) .u64 S fun x6 =>
 NILC o fun a8 =>
 RDSP PG (loadVar 90 (a8.add 0)) S fun x10 =>
 CALL PG 64 [(.pointer x10)] (w.drew) fun v w1 =>
 ∃ x11 : Int,v = (.int .i64 x11) /\
 (∃ S1 : World -> Prop,(∀ x,S1 x -> S x) /\ S1 w1 /\
 (LETI (IntKind.u64.wrap (x6 + (IntKind.u64.wrap x11))) fun x2 =>
 Q (.int .u64 x2) w1)))
theorem call24 {o : Option Addr} {w : World} {Q : QP} (h_ : N24 o w Q) : CALL PG 24 [(.pointer o)] w Q:=calls_vq .nil tabOk Tryz.func24 (by kernel_rfl) h_
def N28 (o : Option Addr) (w : World) (Q : QP) : Prop :=
 NILC o fun a4 =>
 RDB PG (loadVar 4 (a4.add 2)) w fun x6 =>
 LETB x6 fun x2 =>
 Q (.bool x2) w
theorem call28 {o : Option Addr} {w : World} {Q : QP} (h_ : N28 o w Q) : CALL PG 28 [(.pointer o)] w Q:=calls_vq .nil tabOk Tryz.func28 (by kernel_rfl) h_
def N62 (x : Option Addr) (w : World) (Q : QP) : Prop :=
 NILC x fun a5 =>
 RDI PG (loadVar 39 (a5.add 25)) .i64 w fun x7 =>
 IFB (x7 != 3)
 (Q (.tuple #[]) w)
 (∃ I : Nat -> World -> Prop,
 (∃ m,I m w) /\
 (∀ m1  (w1 : World),I m1 w1 -> (NILC x fun a11 =>
 RDP PG (loadVar 62 (a11.add 37)) w1 fun x13 =>
 CALL PG 117 [(.pointer x13)] w1 fun v w2 =>
 ∃ x14 : Int,∃ x14v1 : Int,∃ x14v2 : Bool,∃ x14v3 : Int,∃ x14v4 : Int,∃ x14v5 : Int,∃ x14v6 : Int,∃ x14v7 : Bool,∃ x14v8 : Bool,∃ x14v9 : Bool,v = (.tuple #[(.agg #[(.int .u64 x14),(.int .i64 x14v1),(.bool x14v2),(.int .i64 x14v3),(.int .u32 x14v4),(.int .i64 x14v5),(.int .i64 x14v6),(.bool x14v7),(.bool x14v8)]),(.bool x14v9)]) /\
 (RUNA PG (Instr.alloc 202 true (.tuple #[])) w2 fun a2 w3 =>
 RUNU PG (storeVar 202 a2 (.agg #[(.int .u64 x14),(.int .i64 x14v1),(.bool x14v2),(.int .i64 x14v3),(.int .u32 x14v4),(.int .i64 x14v5),(.int .i64 x14v6),(.bool x14v7),(.bool x14v8)])) w3 fun w4 =>
 LETB x14v9 fun okv =>
 IFB (!okv)
 (∃ I1 : Nat -> World -> Prop,
 (∃ m2,I1 m2 w4) /\
 (∀ m3  (w5 : World),I1 m3 w5 -> (CALL PG 119 [(.pointer x)] w5 fun v1 w6 =>
 ∃ x26 : Bool,v1 = (.bool x26) /\
 (IFB x26
 (∃ m4,m4 < m3 /\ I1 m4 w6)
 (Q (.tuple #[]) w6)))))
 (RD PG (loadVar 202 a2) w4 fun v2 =>
 ∃ x21 : Int,∃ x21v1 : Int,∃ x21v2 : Bool,∃ x21v3 : Int,∃ x21v4 : Int,∃ x21v5 : Int,∃ x21v6 : Int,∃ x21v7 : Bool,∃ x21v8 : Bool,v2 = (.agg #[(.int .u64 x21),(.int .i64 x21v1),(.bool x21v2),(.int .i64 x21v3),(.int .u32 x21v4),(.int .i64 x21v5),(.int .i64 x21v6),(.bool x21v7),(.bool x21v8)]) /\
 (CALL PG 118 [(.pointer x),(.agg #[(.int .u64 x21),(.int .i64 x21v1),(.bool x21v2),(.int .i64 x21v3),(.int .u32 x21v4),(.int .i64 x21v5),(.int .i64 x21v6),(.bool x21v7),(.bool x21v8)])] w4 fun v3 w7 =>
 ∃ x22 : Bool,v3 = (.bool x22) /\
 (IFB (!x22)
 (∃ I2 : Nat -> World -> Prop,
 (∃ m5,I2 m5 w7) /\
 (∀ m6  (w8 : World),I2 m6 w8 -> (CALL PG 119 [(.pointer x)] w8 fun v4 w9 =>
 ∃ x26v1 : Bool,v4 = (.bool x26v1) /\
 (IFB x26v1
 (∃ m7,m7 < m6 /\ I2 m7 w9)
 (Q (.tuple #[]) w9)))))
 (∃ m8,m8 < m1 /\ I m8 w7))))))))
theorem call62 {x : Option Addr} {w : World} {Q : QP} (h_ : N62 x w Q) : CALL PG 62 [(.pointer x)] w Q:=calls_vq (.s .nil (.s (.u (.loop [] .nil)) (.u (.loop [] .nil)))) tabOk Tryz.func62 (by kernel_rfl) h_
def N117 (x : Option Addr) (w : World) (Q : QP) : Prop :=
 RUNA PG (Instr.alloc 202 true (.tuple #[])) w fun a2 w1 =>
 NILC x fun a7 =>
 RDL PG (loadVar 153 (a7.add 1)) w1 fun x9 x9N x9C =>
 ∃ I : Nat -> Int -> World -> Prop,
 (∃ m,I m 0 w1) /\
 (∀ m1 (x11 : Int) (w2 : World),I m1 x11 w2 -> (IFB (decide (x11 < (x9N : Int)))
 (IDX x9 x9N x11 fun a13 =>
 RD PG (loadVar 202 (a13.add (Int.toNat x11 * 9))) w2 fun v =>
 ∃ x14 : Int,∃ x14v1 : Int,∃ x14v2 : Bool,∃ x14v3 : Int,∃ x14v4 : Int,∃ x14v5 : Int,∃ x14v6 : Int,∃ x14v7 : Bool,∃ x14v8 : Bool,v = (.agg #[(.int .u64 x14),(.int .i64 x14v1),(.bool x14v2),(.int .i64 x14v3),(.int .u32 x14v4),(.int .i64 x14v5),(.int .i64 x14v6),(.bool x14v7),(.bool x14v8)]) /\
 (RUNA PG (Instr.alloc 202 true (.tuple #[])) w2 fun a5 w3 =>
 RUNU PG (storeVar 202 a5 (.agg #[(.int .u64 x14),(.int .i64 x14v1),(.bool x14v2),(.int .i64 x14v3),(.int .u32 x14v4),(.int .i64 x14v5),(.int .i64 x14v6),(.bool x14v7),(.bool x14v8)])) w3 fun w4 =>
 RDB PG (loadVar 4 (a5.add 8)) w4 fun x16 =>
 IFB x16
 (RD PG (loadVar 202 a5) w4 fun v1 =>
 ∃ x17 : Int,∃ x17v1 : Int,∃ x17v2 : Bool,∃ x17v3 : Int,∃ x17v4 : Int,∃ x17v5 : Int,∃ x17v6 : Int,∃ x17v7 : Bool,∃ x17v8 : Bool,v1 = (.agg #[(.int .u64 x17),(.int .i64 x17v1),(.bool x17v2),(.int .i64 x17v3),(.int .u32 x17v4),(.int .i64 x17v5),(.int .i64 x17v6),(.bool x17v7),(.bool x17v8)]) /\
 (RUNU PG (storeVar 202 a2 (.agg #[(.int .u64 x17),(.int .i64 x17v1),(.bool x17v2),(.int .i64 x17v3),(.int .u32 x17v4),(.int .i64 x17v5),(.int .i64 x17v6),(.bool x17v7),(.bool x17v8)])) w4 fun w5 =>
 RD PG (loadVar 202 a2) w5 fun v3 =>
 ∃ r : Int,∃ r1 : Int,∃ r2 : Bool,∃ r3 : Int,∃ r4 : Int,∃ r5 : Int,∃ r6 : Int,∃ r7 : Bool,∃ r8 : Bool,v3 = (.agg #[(.int .u64 r),(.int .i64 r1),(.bool r2),(.int .i64 r3),(.int .u32 r4),(.int .i64 r5),(.int .i64 r6),(.bool r7),(.bool r8)]) /\
 (Q (.tuple #[(.agg #[(.int .u64 r),(.int .i64 r1),(.bool r2),(.int .i64 r3),(.int .u32 r4),(.int .i64 r5),(.int .i64 r6),(.bool r7),(.bool r8)]),(.bool true)]) w5)))
 (∃ m2,m2 < m1 /\ I m2 (IntKind.i64.wrap (x11 + 1)) w4)))
 (RD PG (Instr.build 202 #[]) w2 fun v4 =>
 ∃ x19 : Int,∃ x19v1 : Int,∃ x19v2 : Bool,∃ x19v3 : Int,∃ x19v4 : Int,∃ x19v5 : Int,∃ x19v6 : Int,∃ x19v7 : Bool,∃ x19v8 : Bool,v4 = (.agg #[(.int .u64 x19),(.int .i64 x19v1),(.bool x19v2),(.int .i64 x19v3),(.int .u32 x19v4),(.int .i64 x19v5),(.int .i64 x19v6),(.bool x19v7),(.bool x19v8)]) /\
 (RUNU PG (storeVar 202 a2 (.agg #[(.int .u64 x19),(.int .i64 x19v1),(.bool x19v2),(.int .i64 x19v3),(.int .u32 x19v4),(.int .i64 x19v5),(.int .i64 x19v6),(.bool x19v7),(.bool x19v8)])) w2 fun w6 =>
 RD PG (loadVar 202 a2) w6 fun v6 =>
 ∃ r9 : Int,∃ r10 : Int,∃ r11 : Bool,∃ r12 : Int,∃ r13 : Int,∃ r14 : Int,∃ r15 : Int,∃ r16 : Bool,∃ r17 : Bool,v6 = (.agg #[(.int .u64 r9),(.int .i64 r10),(.bool r11),(.int .i64 r12),(.int .u32 r13),(.int .i64 r14),(.int .i64 r15),(.bool r16),(.bool r17)]) /\
 (Q (.tuple #[(.agg #[(.int .u64 r9),(.int .i64 r10),(.bool r11),(.int .i64 r12),(.int .u32 r13),(.int .i64 r14),(.int .i64 r15),(.bool r16),(.bool r17)]),(.bool false)]) w6)))))
theorem call117 {x : Option Addr} {w : World} {Q : QP} (h_ : N117 x w Q) : CALL PG 117 [(.pointer x)] w Q:=calls_vq (.s .nil (.s (.s .nil (.u (.loop [(11,3)] .nil))) .nil)) tabOk Tryz.func117 (by kernel_rfl) h_
def N119 (x : Option Addr) (w : World) (Q : QP) : Prop :=
 ∃ S : World -> Prop,S (w.drew) /\
 (NILC x fun a10 =>
 RDSI PG (loadVar 25 (a10.add 40)) .u64 S fun x12 =>
 NILC x fun a14 =>
 RDSI PG (loadVar 3 (a14.add 48)) .i64 S fun x16 =>
 RDS PG (Instr.build 202 #[(0,(.int .u64 x12)),(5,(.int .i64 x16)),(6,(.int .i64 1))]) S fun v =>
 ∃ x17 : Int,∃ x17v1 : Int,∃ x17v2 : Bool,∃ x17v3 : Int,∃ x17v4 : Int,∃ x17v5 : Int,∃ x17v6 : Int,∃ x17v7 : Bool,∃ x17v8 : Bool,v = (.agg #[(.int .u64 x17),(.int .i64 x17v1),(.bool x17v2),(.int .i64 x17v3),(.int .u32 x17v4),(.int .i64 x17v5),(.int .i64 x17v6),(.bool x17v7),(.bool x17v8)]) /\
 (RUNA PG (Instr.alloc 202 true (.tuple #[])) (w.drew) fun a3 w1 =>
 ∃ S1 : World -> Prop,(∀ x,S1 x -> S x) /\ S1 w1 /\
 (RUNU PG (storeVar 202 a3 (.agg #[(.int .u64 x17),(.int .i64 x17v1),(.bool x17v2),(.int .i64 x17v3),(.int .u32 x17v4),(.int .i64 x17v5),(.int .i64 x17v6),(.bool x17v7),(.bool x17v8)])) w1 fun w2 =>
 NILC x fun a19 =>
 RDP PG (loadVar 60 (a19.add 35)) w2 fun x21 =>
 CALL PG 24 [(.pointer x21)] w2 fun v1 w3 =>
 ∃ x22 : Int,v1 = (.int .u64 x22) /\
 (LETI x22 fun endv =>
 ∃ R : World -> Prop,
 (∃ R1 : Bool -> World -> Prop,
 (NILC x fun a24 =>
 RDI PG (loadVar 25 (a24.add 40)) .u64 (w3.drew) fun x26 =>
 IFB (decide (x26 < endv))
 (NILC x fun a31 =>
 RDI PG (loadVar 25 (a31.add 40)) .u64 (w3.drew) fun x33 =>
 NILC x fun a35 =>
 RDI PG (loadVar 25 (a35.add 41)) .u64 (w3.drew) fun x37 =>
 R1 (decide (x33 < x37)) (w3.drew))
 (R1 false (w3.drew))) /\
 (∀ (x39 : Bool) (w4 : World),R1 x39 w4 -> (IFB x39
 (NILC x fun a42 =>
 RDI PG (loadVar 25 (a42.add 40)) .u64 (w4.drew) fun x44 =>
 NILC x fun a47 =>
 RDI PG (loadVar 25 (a47.add 41)) .u64 (w4.drew) fun x49 =>
 NILC x fun a51 =>
 RDI PG (loadVar 25 (a51.add 40)) .u64 (w4.drew) fun x53 =>
 NILC x fun a56 =>
 RDI PG (loadVar 3 ((a56.add 9).add 8)) .i64 (w4.drew) fun x59 =>
 RDI PG (Builtin.min_ #[25,25,25] 25 #[(.int .u64 (IntKind.u64.wrap (endv - x44))),(.int .u64 (IntKind.u64.wrap (x49 - x53))),(.int .u64 (IntKind.u64.wrap x59))]) .u64 (w4.drew) fun x61 =>
 RUNU PG (storeVar 3 (a3.add 1) (.int .i64 (IntKind.i64.wrap x61))) (w4.drew) fun w5 =>
 R w5)
 (R w4)))) /\
 (∀  (w6 : World),R w6 -> (∃ R2 : World -> Prop,
 (NILC x fun a65 =>
 RDP PG (loadVar 60 (a65.add 35)) w6 fun x67 =>
 CALL PG 28 [(.pointer x67)] w6 fun v2 w7 =>
 ∃ x68 : Bool,v2 = (.bool x68) /\
 (IFB x68
 (RDI PG (loadVar 25 (a3.add 0)) .u64 w7 fun x71 =>
 RDI PG (loadVar 3 (a3.add 1)) .i64 w7 fun x73 =>
 IFB ((IntKind.u64.wrap (x71 + (IntKind.u64.wrap x73))) == endv)
 (NILC x fun a81 =>
 RDI PG (loadVar 25 (a81.add 40)) .u64 w7 fun x83 =>
 RUNU PG (storeVar 4 (a3.add 2) (.bool (decide (x83 <= endv)))) w7 fun w8 =>
 R2 w8)
 (RUNU PG (storeVar 4 (a3.add 2) (.bool false)) w7 fun w9 =>
 R2 w9))
 (RUNU PG (storeVar 4 (a3.add 2) (.bool false)) w7 fun w10 =>
 R2 w10))) /\
 (∀  (w11 : World),R2 w11 -> (∃ R3 : World -> Prop,
 (RDI PG (loadVar 3 (a3.add 1)) .i64 w11 fun x89 =>
 IFB (x89 == 0)
 (RDB PG (loadVar 4 (a3.add 2)) w11 fun x93 =>
 IFB (!x93)
 (Q (.bool false) w11)
 (NILC x fun a98 =>
 RDP PG (loadVar 62 (a98.add 37)) w11 fun x100 =>
 CALL PG 166 [(.pointer x100)] w11 fun v3 w12 =>
 ∃ x101 : Int,v3 = (.int .i64 x101) /\
 (IFB (x101 == 0)
 (Q (.bool false) w12)
 (R3 w12))))
 (NILC x fun a98v1 =>
 RDP PG (loadVar 62 (a98v1.add 37)) w11 fun x100v1 =>
 CALL PG 166 [(.pointer x100v1)] w11 fun v4 w13 =>
 ∃ x101v1 : Int,v4 = (.int .i64 x101v1) /\
 (IFB (x101v1 == 0)
 (Q (.bool false) w13)
 (R3 w13)))) /\
 (∀  (w14 : World),R3 w14 -> (RDI PG (loadVar 3 (a3.add 1)) .i64 w14 fun x106 =>
 CALL PG 165 [(.pointer x),(.int .i64 x106)] w14 fun v5 w15 =>
 ∃ (x107 : Option Addr) (x107N x107C : Nat),v5 = (.slice x107 x107N x107C) /\
 (IFB ((x107N : Int) == 0)
 (Q (.bool false) w15)
 (∃ I : Nat -> Int -> World -> Prop,
 (∃ m,I m 0 w15) /\
 (∀ m1 (x113 : Int) (w16 : World),I m1 x113 w16 -> (IFB (decide (x113 < (x107N : Int)))
 (IDX x107 x107N x113 fun a116 =>
 RDP PG (loadVar 99 (a116.add (Int.toNat x113 * 1))) w16 fun x117 =>
 LETI x113 fun i =>
 RD PG (loadVar 202 a3) w16 fun v6 =>
 ∃ x120 : Int,∃ x120v1 : Int,∃ x120v2 : Bool,∃ x120v3 : Int,∃ x120v4 : Int,∃ x120v5 : Int,∃ x120v6 : Int,∃ x120v7 : Bool,∃ x120v8 : Bool,v6 = (.agg #[(.int .u64 x120),(.int .i64 x120v1),(.bool x120v2),(.int .i64 x120v3),(.int .u32 x120v4),(.int .i64 x120v5),(.int .i64 x120v6),(.bool x120v7),(.bool x120v8)]) /\
 (CALL PG 113 [(.pointer x),(.pointer x117),(.agg #[(.int .u64 x120),(.int .i64 x120v1),(.bool x120v2),(.int .i64 x120v3),(.int .u32 x120v4),(.int .i64 x120v5),(.int .i64 x120v6),(.bool x120v7),(.bool x120v8)])] w16 fun v7 w17 =>
 ∃ x121 : Int,v7 = (.int .u32 x121) /\
 (LETI x121 fun tov =>
 IFB (i == 0)
 (NILC x117 fun a125 =>
 RDI PG (loadVar 3 (a125.add 9)) .i64 w17 fun x127 =>
 RUNU PG (storeVar 3 (a3.add 3) (.int .i64 x127)) w17 fun w18 =>
 RUNU PG (storeVar 26 (a3.add 4) (.int .u32 tov)) w18 fun w19 =>
 NILC x117 fun a132 =>
 RDP PG (loadVar 107 (a132.add 17)) (w19.drew) fun x134 =>
 RDI PG (loadVar 3 (a3.add 1)) .i64 (w19.drew) fun x136 =>
 CALL PG 115 [(.pointer x134),(.int .i64 x136)] (w19.drew) fun v8 w20 =>
 v8 = (.tuple #[]) /\
 (NILC x117 fun a140 =>
 RDI PG (loadVar 3 (a140.add 9)) .i64 w20 fun x142 =>
 NILC x fun a143 =>
 RUNU PG (storeVar 3 (a143.add 44) (.int .i64 x142)) w20 fun w21 =>
 ∃ m2,m2 < m1 /\ I m2 (IntKind.i64.wrap (x113 + 1)) w21))
 (∃ m3,m3 < m1 /\ I m3 (IntKind.i64.wrap (x113 + 1)) w17))))
 (NILC x fun a147 =>
 RDP PG (loadVar 62 (a147.add 37)) (w16.drew) fun x149 =>
 RD PG (loadVar 202 a3) (w16.drew) fun v9 =>
 ∃ x150 : Int,∃ x150v1 : Int,∃ x150v2 : Bool,∃ x150v3 : Int,∃ x150v4 : Int,∃ x150v5 : Int,∃ x150v6 : Int,∃ x150v7 : Bool,∃ x150v8 : Bool,v9 = (.agg #[(.int .u64 x150),(.int .i64 x150v1),(.bool x150v2),(.int .i64 x150v3),(.int .u32 x150v4),(.int .i64 x150v5),(.int .i64 x150v6),(.bool x150v7),(.bool x150v8)]) /\
 (CALL PG 167 [(.pointer x149),(.agg #[(.int .u64 x150),(.int .i64 x150v1),(.bool x150v2),(.int .i64 x150v3),(.int .u32 x150v4),(.int .i64 x150v5),(.int .i64 x150v6),(.bool x150v7),(.bool x150v8)])] (w16.drew) fun v10 w22 =>
 ∃ x151 : Bool,v10 = (.bool x151) /\
 (RD PG (loadVar 202 a3) w22 fun v11 =>
 ∃ x153 : Int,∃ x153v1 : Int,∃ x153v2 : Bool,∃ x153v3 : Int,∃ x153v4 : Int,∃ x153v5 : Int,∃ x153v6 : Int,∃ x153v7 : Bool,∃ x153v8 : Bool,v11 = (.agg #[(.int .u64 x153),(.int .i64 x153v1),(.bool x153v2),(.int .i64 x153v3),(.int .u32 x153v4),(.int .i64 x153v5),(.int .i64 x153v6),(.bool x153v7),(.bool x153v8)]) /\
 (CALL PG 168 [(.agg #[(.int .u64 x153),(.int .i64 x153v1),(.bool x153v2),(.int .i64 x153v3),(.int .u32 x153v4),(.int .i64 x153v5),(.int .i64 x153v6),(.bool x153v7),(.bool x153v8)])] w22 fun v12 w23 =>
 ∃ x154 : Int,v12 = (.int .u64 x154) /\
 (NILC x fun a155 =>
 RUNU PG (storeVar 25 (a155.add 40) (.int .u64 x154)) w23 fun w24 =>
 Q (.bool true) w24)))))))))))))))))))
theorem call119 {x : Option Addr} {w : World} {Q : QP} (h_ : N119 x w Q) : CALL PG 119 [(.pointer x)] w Q:=calls_vq (.s .nil (.s .nil (.s .nil (.cut [] (.cut [(39,4)] .nil .nil) (.cut [] .nil (.cut [] .nil (.s .nil (.s .nil (.s (.s .nil (.u (.loop [(113,3)] .nil))) .nil))))))))) tabOk Tryz.func119 (by kernel_rfl) h_
def N188 (x : Option Addr) (d : Bool) (d1 : Bool) (d2 : Int) (d3 : Int) (d4 : Int) (d5 : Int) (w : World) (Q : QP) : Prop :=
 RUNA PG (Instr.box 185 (.agg #[(.bool d),(.bool d1),(.int .u64 d2),(.int .u64 d3),(.int .u32 d4),(.int .u64 d5)])) w fun a3 w1 =>
 ∃ R : World -> Prop,
 (RDI PG (loadVar 25 (a3.add 3)) .u64 (w1.drew) fun x8 =>
 NILC x fun a10 =>
 RDI PG (loadVar 25 (a10.add 40)) .u64 (w1.drew) fun x12 =>
 IFB (decide (x8 <= x12))
 (NILC x fun a16 =>
 RDI PG (loadVar 25 (a16.add 41)) .u64 ((w1.drew).drew) fun x18 =>
 RDI PG (loadVar 25 (a3.add 3)) .u64 ((w1.drew).drew) fun x20 =>
 RDI PG (loadVar 26 (a3.add 4)) .u32 ((w1.drew).drew) fun x22 =>
 NILC x fun a26 =>
 RUNU PG (storeVar 25 (a26.add 41) (.int .u64 (maxN x18 (IntKind.u64.wrap (x20 + (IntKind.u64.wrap x22)))))) ((w1.drew).drew) fun w2 =>
 R w2)
 (R (w1.drew))) /\
 (∀  (w3 : World),R w3 -> (RDI PG (loadVar 25 (a3.add 3)) .u64 (w3.drew) fun x29 =>
 NILC x fun a31 =>
 RDI PG (loadVar 25 (a31.add 40)) .u64 (w3.drew) fun x33 =>
 IFB (decide (x29 > x33))
 (Q (.tuple #[]) (w3.drew))
 (NILC x fun a37 =>
 RDP PG (loadVar 60 (a37.add 35)) (w3.drew) fun x39 =>
 RDI PG (loadVar 25 (a3.add 3)) .u64 (w3.drew) fun x41 =>
 CALL PG 209 [(.pointer x39),(.int .u64 x41)] (w3.drew) fun v w4 =>
 ∃ x42 : Bool,v = (.bool x42) /\
 (IFB (!x42)
 (Q (.tuple #[]) w4)
 (NILC x fun a46 =>
 RUNU PG (storeVar 3 (a46.add 46) (.int .i64 0)) w4 fun w5 =>
 NILC x fun a49 =>
 RDP PG (loadVar 62 (a49.add 37)) (w5.drew) fun x51 =>
 RDI PG (loadVar 25 (a3.add 3)) .u64 (w5.drew) fun x53 =>
 CALL PG 210 [(.pointer x51),(.int .u64 x53)] (w5.drew) fun v1 w6 =>
 ∃ (x54 : Option Addr) (x54N x54C : Nat),v1 = (.slice x54 x54N x54C) /\
 (∃ I : Nat -> Int -> World -> Prop,
 (∃ m,I m 0 w6) /\
 (∀ m1 (x56 : Int) (w7 : World),I m1 x56 w7 -> (IFB (decide (x56 < (x54N : Int)))
 (IDX x54 x54N x56 fun a58 =>
 RD PG (loadVar 202 (a58.add (Int.toNat x56 * 9))) w7 fun v2 =>
 ∃ x59 : Int,∃ x59v1 : Int,∃ x59v2 : Bool,∃ x59v3 : Int,∃ x59v4 : Int,∃ x59v5 : Int,∃ x59v6 : Int,∃ x59v7 : Bool,∃ x59v8 : Bool,v2 = (.agg #[(.int .u64 x59),(.int .i64 x59v1),(.bool x59v2),(.int .i64 x59v3),(.int .u32 x59v4),(.int .i64 x59v5),(.int .i64 x59v6),(.bool x59v7),(.bool x59v8)]) /\
 (RUNA PG (Instr.alloc 202 true (.tuple #[])) w7 fun a5 w8 =>
 RUNU PG (storeVar 202 a5 (.agg #[(.int .u64 x59),(.int .i64 x59v1),(.bool x59v2),(.int .i64 x59v3),(.int .u32 x59v4),(.int .i64 x59v5),(.int .i64 x59v6),(.bool x59v7),(.bool x59v8)])) w8 fun w9 =>
 RDI PG (loadVar 3 (a5.add 3)) .i64 w9 fun x62 =>
 CALL PG 96 [(.pointer x),(.int .i64 x62)] w9 fun v3 w10 =>
 ∃ x63 : Option Addr,v3 = (.pointer x63) /\
 (IFB (!x63.isNone)
 (RDB PG (loadVar 4 (a5.add 7)) w10 fun x68 =>
 IFB (!x68)
 (RDB PG (loadVar 4 (a5.add 8)) w10 fun x73 =>
 IFB (!x73)
 (NILC x63 fun a77 =>
 RDP PG (loadVar 107 (a77.add 17)) (w10.drew) fun x79 =>
 RDI PG (loadVar 3 (a5.add 1)) .i64 (w10.drew) fun x81 =>
 CALL PG 109 [(.pointer x79),(.int .i64 x81)] (w10.drew) fun v4 w11 =>
 v4 = (.tuple #[]) /\
 (∃ m2,m2 < m1 /\ I m2 (IntKind.i64.wrap (x56 + 1)) w11))
 (∃ m3,m3 < m1 /\ I m3 (IntKind.i64.wrap (x56 + 1)) w10))
 (∃ m4,m4 < m1 /\ I m4 (IntKind.i64.wrap (x56 + 1)) w10))
 (∃ m5,m5 < m1 /\ I m5 (IntKind.i64.wrap (x56 + 1)) w10))))
 (Q (.tuple #[]) w7)))))))))
theorem call188 {x : Option Addr} {d : Bool} {d1 : Bool} {d2 : Int} {d3 : Int} {d4 : Int} {d5 : Int} {w : World} {Q : QP} (h_ : N188 x d d1 d2 d3 d4 d5 w Q) : CALL PG 188 [(.pointer x),(.agg #[(.bool d),(.bool d1),(.int .u64 d2),(.int .u64 d3),(.int .u32 d4),(.int .u64 d5)])] w Q:=calls_vq (.s .nil (.cut [] .nil (.s .nil (.s .nil (.s .nil (.u (.loop [(56,3)] .nil))))))) tabOk Tryz.func188 (by kernel_rfl) h_
def N209 (o : Option Addr) (tov : Int) (w : World) (Q : QP) : Prop :=
 NILC o fun a7 =>
 RDI PG (loadVar 25 (a7.add 1)) .u64 w fun x9 =>
 IFB (decide (tov <= x9))
 (Q (.bool false) w)
 (CALL PG 239 [(.pointer o)] w fun v w1 =>
 ∃ x14 : Int,v = (.int .u64 x14) /\
 (IFB (decide (tov > x14))
 (Q (.bool false) w1)
 (NILC o fun a19 =>
 RDB PG (loadVar 4 (a19.add 3)) w1 fun x21 =>
 IFB x21
 (Q (.bool false) w1)
 (∃ R : Int -> World -> Prop,
 (CALL PG 239 [(.pointer o)] w1 fun v1 w2 =>
 ∃ x25 : Int,v1 = (.int .u64 x25) /\
 (IFB (tov == x25)
 (NILC o fun a29 =>
 RDB PG (loadVar 4 (a29.add 2)) w2 fun x31 =>
 IFB x31
 (NILC o fun a34 =>
 RUNU PG (storeVar 4 (a34.add 3) (.bool true)) w2 fun w3 =>
 LETI (IntKind.u64.wrap (tov - 1)) fun tov1 =>
 R tov1 w3)
 (R tov w2))
 (R tov w2))) /\
 (∀ (tov2 : Int) (w4 : World),R tov2 w4 -> (NILC o fun a39 =>
 RDP PG (loadVar 90 (a39.add 0)) (w4.drew) fun x41 =>
 NILC o fun a44 =>
 RDI PG (loadVar 25 (a44.add 1)) .u64 (w4.drew) fun x46 =>
 CALL PG 195 [(.pointer x41),(.int .i64 (IntKind.i64.wrap (IntKind.u64.wrap (tov2 - x46))))] (w4.drew) fun v2 w5 =>
 ∃ x49 : Int,v2 = (.int .i64 x49) /\
 (NILC o fun a52 =>
 RUNU PG (storeVar 25 (a52.add 1) (.int .u64 tov2)) w5 fun w6 =>
 Q (.bool true) w6)))))))
theorem call209 {o : Option Addr} {tov : Int} {w : World} {Q : QP} (h_ : N209 o tov w Q) : CALL PG 209 [(.pointer o),(.int .u64 tov)] w Q:=calls_vq (.s .nil (.s .nil (.cut [(1,25)] .nil .nil))) tabOk Tryz.func209 (by kernel_rfl) h_
end Go.Br
/- What goes out,where there is nothing to send; word of what came. -/
set_option linter.unusedVariables false
set_option linter.unusedSimpArgs false
set_option linter.unnecessarySimpa false
namespace Go.Br
open Go
instance biConnPumpa : Zro PG 202 9 64 (.agg #[.int .u64 0,.int .i64 0,.bool false,.int .i64 0,.int .u32 0,.int .i64 0,.int .i64 0,.bool false,.bool false]):=⟨tiOf (by kernel_rfl)⟩
instance biConnPumpb : Bld PG (Instr.build 202 #[]) (.agg #[.int .u64 0,.int .i64 0,.bool false,.int .i64 0,.int .u32 0,.int .i64 0,.int .i64 0,.bool false,.bool false]):=⟨fun w => by kernel_rfl⟩
instance biConnPumpc (x0 : Int) (x1 : Int) (x2 : Int) : Bld PG (Instr.build 202 #[(0,.int .u64 x0),(5,.int .i64 x1),(6,.int .i64 x2)]) (.agg #[.int .u64 x0,.int .i64 0,.bool false,.int .i64 0,.int .u32 0,.int .i64 x1,.int .i64 x2,.bool false,.bool false]):=⟨fun w => by kernel_rfl⟩
attribute [local irreducible] Addr.add RD RDS RUN RUNU NILC LETB CALL CALLX CALLV
structure Ck where
 frm : Int
 len : Int
 fin : Bool
 flow : Int
 endn : Int
 sent : Int
 tries : Int
 came : Bool
 lost : Bool
def ckc (x : Ck) : List Value:=[.int .u64 x.frm,.int .i64 x.len,.bool x.fin,.int .i64 x.flow,.int .u32 x.endn,.int .i64 x.sent,.int .i64 x.tries,.bool x.came,.bool x.lost]
abbrev ckcv (x : Ck) : Value:=.agg #[.int .u64 x.frm,.int .i64 x.len,.bool x.fin,.int .i64 x.flow,.int .u32 x.endn,.int .i64 x.sent,.int .i64 x.tries,.bool x.came,.bool x.lost]
def ck0 : Ck:=⟨0,0,false,0,0,0,0,false,false⟩
abbrev wyP (y : Nat) (most : Int) (A : Option Addr) (k : Nat) (C : List Ck) (L : List SA) : List SA:=blk y 155 [.int .i64 most,.slice A C.length k] :: own 202 9 A C.length k (C.flatMap ckc) :: L
abbrev otP (o r D : Nat) (base : Int) (cl gn : Bool) (v : List UInt8) (n : Nat) (L : List SA) : List SA:=blk o 92 [.pointer (some ⟨r,0,none⟩),.int .u64 base,.bool cl,.bool gn] :: rng r D v n :: L
section
variable {c : Ctx} {w : World} {L R : List SA}
theorem again_ok {y k : Nat} {most : Int} {A : Option Addr} {C : List Ck} (h : St c w (wyP y most A k C L)) (hC : C.length <= 1000) {Q : Value -> World -> Prop}
  (hk : ∀ w',St c w' (wyP y most A k C L) -> Q (.tuple #[ckcv ((C.find? Ck.lost).getD ck0),.bool (C.find? Ck.lost).isSome]) w') : CALL PG 117 [.pointer (some ⟨y,0,none⟩)] w Q:=by
 refine call117 ?_
 unfold N117
 refine h.allocZ fun q w' h => nilc ?_
 refine h.rdL (B:=y) 1 ?_
 refine ⟨fun m x w => ∃ j : Nat,x = j /\ m = C.length - j /\ j <= C.length /\ (C.take j).find? Ck.lost = none /\ St c w (blk q 202 (ckc ck0) :: wyP y most A k C L),⟨_,0,rfl,rfl,Nat.zero_le _,rfl,h⟩,?_⟩
 clear h
 rintro m x w' ⟨j,rfl,rfl,hj,hn,h⟩
 by_cases hlt : j < C.length
 rotate_left
 ·refine ifdf (by omega) ?_
  rw [List.take_of_length_le (by omega)] at hn
  rw [hn] at hk
  refine RD.bld ?_
  (repeat apply exi)
  apply exr
  refine h.stG (B:=q) fun w' h => ?_
  refine h.rdG (B:=q) ?_
  (repeat apply exi)
  apply exr
  exact hk _ h.drop
 refine ifdt (by omega) ?_
 obtain ⟨z,hz⟩ : ∃ z,C[j]? = some z:=⟨_,List.getElem?_eq_getElem hlt⟩
 have hr : ∀ {B},B = A -> RdIn (blk q 202 (ckc ck0) :: wyP y most A k C L) B (C.flatMap ckc):=fun e => by subst e; exact RdIn.own (.tail (.tail .head))
 refine h.ix (z:=8) (i:=j) (hr rfl) hz (fun a ha => ?_) hlt
 refine h.rdEG (i:=j) (hr ha.symm) hz ?_
 (repeat apply exi)
 apply exr
 refine h.allocZ fun q2 w' h => ?_
 refine h.stG (B:=q2) (fun w' h => ?_) (hl:=by rfl)
 refine h.rdB (B:=q2) 8 ?_
 have hf : C.find? Ck.lost = if z.lost = true then some z else (C.drop (j + 1)).find? Ck.lost:=by
  have e : C = C.take j ++ z :: C.drop (j + 1):=by
   have:=List.getElem?_eq_some_iff.1 hz
   obtain ⟨h1,h2⟩:=this
   rw [<- h2,List.getElem_cons_drop,List.take_append_drop]
  conv => lhs; rw [e]
  rw [List.find?_append,hn,Option.none_or,List.find?_cons]
  cases z.lost <;> rfl
 refine ifb (fun hl => ?_) fun hl => ?_
 ·rw [if_pos hl] at hf
  rw [hf] at hk
  refine h.rdG (B:=q2) ?_
  (repeat apply exi)
  apply exr
  refine h.stG (B:=q) (fun w' h => ?_) (hl:=by rfl)
  refine h.rdG (B:=q) ?_
  (repeat apply exi)
  apply exr
  exact hk _ (h.sub ((Sub.same _).more.more))
 ·refine ⟨_,by omega,j + 1,by rw [wrap_i64 (by omega) (by omega)]; omega,rfl,by omega,?_,h.drop⟩
  rw [take_snoc' hz,List.find?_append,hn,Option.none_or,List.find?_cons,hl]
  rfl
theorem oend_ok {o r D n : Nat} {base : Int} {cl gn : Bool} {v : List UInt8} (h : St c w (otP o r D base cl gn v n L)) (hb : 0 <= base) (hb2 : base + n < 18446744073709551616) {Q : Value -> World -> Prop}
  (hk : ∀ w',St c w' (otP o r D base cl gn v n L) -> Q (.int .u64 (base + n)) w') : CALL PG 24 [.pointer (some ⟨o,0,none⟩)] w Q:=by
 refine call24 ?_
 unfold N24
 have h:=h.drew
 refine ⟨fun w => St c w [blk o 92 [.pointer (some ⟨r,0,none⟩),.int .u64 base,.bool cl,.bool gn]],h.sub (.cons .head (.nil)),nilc ?_⟩
 refine St.rdsI (B:=o) 1 (nilc ?_)
 refine St.rdsP (B:=o) 0 ?_
 refine xlen_ok h (.tail .head) ?_
 (repeat apply exi)
 apply exr
 refine ⟨_,fun _ h => h,h.sub (.cons .head (.nil)),?_⟩
 exact leti (y:=base + n) (by rw [wrapU64,wrapU64]; omega) (hk _ h)
theorem oclosed_ok {o : Nat} {base : Int} {cl gn : Bool} {P : Value} (h : St c w (blk o 92 [P,.int .u64 base,.bool cl,.bool gn] :: L)) {Q : Value -> World -> Prop}
  (hk : ∀ w',St c w' (blk o 92 [P,.int .u64 base,.bool cl,.bool gn] :: L) -> Q (.bool cl) w') : CALL PG 28 [.pointer (some ⟨o,0,none⟩)] w Q:=by
 refine call28 ?_
 unfold N28
 exact nilc (h.rdB (B:=o) 2 (letb rfl (hk _ h)))
theorem oacked0_ok {o : Nat} {base t : Int} {cl gn : Bool} {P : Value} (h : St c w (blk o 92 [P,.int .u64 base,.bool cl,.bool gn] :: L)) (ht : t <= base) {Q : Value -> World -> Prop}
  (hk : ∀ w',St c w' (blk o 92 [P,.int .u64 base,.bool cl,.bool gn] :: L) -> Q (.bool false) w') : CALL PG 209 [.pointer (some ⟨o,0,none⟩),.int .u64 t] w Q:=by
 refine call209 ?_
 unfold N209
 exact nilc (h.rdI (B:=o) 1 (ifdt ht (hk _ h)))
theorem more0_ok {x o r D n : Nat} {X : Cn} {base : Int} {gn : Bool} {v : List UInt8} (h : St c w (blk x 67 (cnc { X with out:=some ⟨o,0,none⟩ }) :: otP o r D base false gn v n L)) (hb : 0 <= base) (hb2 : base + n < 18446744073709551616) (hs : base + n <= X.sent) {Q : Value -> World -> Prop}
  (hk : ∀ w',St c w' (blk x 67 (cnc { X with out:=some ⟨o,0,none⟩ }) :: otP o r D base false gn v n L) -> Q (.bool false) w') : CALL PG 119 [.pointer (some ⟨x,0,none⟩)] w Q:=by
 refine call119 ?_
 unfold N119
 have h:=h.drew
 refine ⟨fun w => St c w [blk x 67 (cnc { X with out:=some ⟨o,0,none⟩ })],h.sub (.cons .head (.nil)),nilc ?_⟩
 refine St.rdsI (B:=x) 40 (nilc (St.rdsI (B:=x) 48 ?_))
 refine RDS.bld ?_
 (repeat apply exi)
 apply exr
 refine h.allocZ fun q w' h => ?_
 refine ⟨_,fun _ h => h,h.sub (.cons (.tail .head) (.nil)),?_⟩
 refine h.stG (B:=q) (fun w' h => nilc ?_) (hl:=by rfl)
 have h : St c w' (blk q 202 (ckc ⟨X.sent,0,false,0,0,X.now,1,false,false⟩) :: blk x 67 (cnc { X with out:=some ⟨o,0,none⟩ }) :: otP o r D base false gn v n L):=h
 refine h.rdP (B:=x) 35 ?_
 refine oend_ok (h.sub (show Sub _ (otP o r D base false gn v n (blk q 202 (ckc ⟨X.sent,0,false,0,0,X.now,1,false,false⟩) :: blk x 67 (cnc { X with out:=some ⟨o,0,none⟩ }) :: L)) from (.cons (.tail (.tail .head)) (.cons (.tail (.tail .head)) (.cons .head (.cons .head ((Sub.same _)))))))) hb hb2 fun w' h => ?_
 (repeat apply exi)
 apply exr
 have h : St c w' (blk q 202 (ckc ⟨X.sent,0,false,0,0,X.now,1,false,false⟩) :: blk x 67 (cnc { X with out:=some ⟨o,0,none⟩ }) :: otP o r D base false gn v n L):=h.sub (.cons (.tail (.tail .head)) (.cons (.tail (.tail .head)) (.cons .head (.cons .head ((Sub.same _))))))
 refine leti rfl ?_
 refine ⟨fun w => St c w (blk q 202 (ckc ⟨X.sent,0,false,0,0,X.now,1,false,false⟩) :: blk x 67 (cnc { X with out:=some ⟨o,0,none⟩ }) :: otP o r D base false gn v n L),?_,?_⟩
 ·refine ⟨fun b w => b = false /\ St c w (blk q 202 (ckc ⟨X.sent,0,false,0,0,X.now,1,false,false⟩) :: blk x 67 (cnc { X with out:=some ⟨o,0,none⟩ }) :: otP o r D base false gn v n L),?_,?_⟩
  ·have h:=h.drew
   refine nilc (h.rdI (B:=x) 40 ?_)
   exact ifdf (by show ¬ (X.sent < base + n); omega) ⟨rfl,h⟩
  ·clear h
   rintro b w' ⟨rfl,h⟩
   exact iff_ rfl h
 clear h
 intro w' h
 refine ⟨fun w => St c w (blk q 202 (ckc ⟨X.sent,0,false,0,0,X.now,1,false,false⟩) :: blk x 67 (cnc { X with out:=some ⟨o,0,none⟩ }) :: otP o r D base false gn v n L),?_,?_⟩
 ·refine nilc (h.rdP (B:=x) 35 ?_)
  refine oclosed_ok (h.sub (show Sub _ (blk o 92 [.pointer (some ⟨r,0,none⟩),.int .u64 base,.bool false,.bool gn] :: _) from (.cons (.tail (.tail .head)) (.cons .head (.cons .head ((Sub.same _))))))) fun w' h => ?_
  (repeat apply exi)
  apply exr
  refine iff_ rfl ?_
  refine h.st (B:=q) 2 fun w' h => ?_
  exact h.sub (.cons .head (.cons (.tail .head) (.cons .head ((Sub.same _)))))
 clear h
 intro w' h
 refine ⟨fun _ => False,?_,fun _ h => h.elim⟩
 ·refine h.rdI (B:=q) 1 ?_
  refine ift rfl ?_
  refine h.rdB (B:=q) 2 ?_
  exact ift rfl (hk _ h.drop)
theorem pump0_ok {x o r D n y k : Nat} {X : Cn} {base most : Int} {gn : Bool} {v : List UInt8} {A : Option Addr} {C : List Ck} (h : St c w (blk x 67 (cnc { X with out:=some ⟨o,0,none⟩,way:=some ⟨y,0,none⟩ }) :: otP o r D base false gn v n (wyP y most A k C L))) (hb : 0 <= base) (hb2 : base + n < 18446744073709551616) (hs : base + n <= X.sent) (hC : C.length <= 1000) (hl : C.find? Ck.lost = none) {Q : Value -> World -> Prop}
  (hk : ∀ w',St c w' (blk x 67 (cnc { X with out:=some ⟨o,0,none⟩,way:=some ⟨y,0,none⟩ }) :: otP o r D base false gn v n (wyP y most A k C L)) -> Q (.tuple #[]) w') : CALL PG 62 [.pointer (some ⟨x,0,none⟩)] w Q:=by
 refine call62 ?_
 unfold N62
 refine nilc (h.rdI (B:=x) 25 ?_)
 refine ifn (fun _ => hk _ h) fun h3 => ?_
 refine ⟨fun m w => m = 0 /\ St c w (blk x 67 (cnc { X with out:=some ⟨o,0,none⟩,way:=some ⟨y,0,none⟩ }) :: otP o r D base false gn v n (wyP y most A k C L)),⟨0,rfl,h⟩,?_⟩
 clear h
 rintro m w' ⟨rfl,h⟩
 refine nilc (h.rdP (B:=x) 37 ?_)
 refine again_ok (h.sub (show Sub _ (wyP y most A k C (blk x 67 (cnc { X with out:=some ⟨o,0,none⟩,way:=some ⟨y,0,none⟩ }) :: otP o r D base false gn v n L)) from (.cons (.tail (.tail (.tail .head))) (.cons (.tail (.tail (.tail .head))) (.cons .head (.cons .head (.cons .head ((Sub.same _))))))))) hC fun w' h => ?_
 rw [hl]
 (repeat apply exi)
 apply exr
 refine h.allocZ fun q w' h => ?_
 refine h.stG (B:=q) (fun w' h => ?_) (hl:=by rfl)
 refine letb rfl (ift rfl ?_)
 have h : St c w' (blk x 67 (cnc { X with out:=some ⟨o,0,none⟩,way:=some ⟨y,0,none⟩ }) :: otP o r D base false gn v n (wyP y most A k C L)):=h.sub (.cons (.tail (.tail (.tail .head))) (.cons (.tail (.tail (.tail .head))) (.cons (.tail (.tail (.tail .head))) (.cons (.tail .head) (.cons (.tail .head) ((Sub.same _).more))))))
 refine ⟨fun m w => m = 0 /\ St c w (blk x 67 (cnc { X with out:=some ⟨o,0,none⟩,way:=some ⟨y,0,none⟩ }) :: otP o r D base false gn v n (wyP y most A k C L)),⟨0,rfl,h⟩,?_⟩
 clear h
 rintro m w' ⟨rfl,h⟩
 refine more0_ok (X:={ X with way:=some ⟨y,0,none⟩ }) h hb hb2 hs fun w' h => ?_
 (repeat apply exi)
 apply exr
 exact iff_ rfl (hk _ h)
theorem cacked0_ok {x o : Nat} {X : Cn} {base : Int} {cl gn : Bool} {P : Value} {d : Dt} (h : St c w (blk x 67 (cnc { X with out:=some ⟨o,0,none⟩ }) :: blk o 92 [P,.int .u64 base,.bool cl,.bool gn] :: L)) (hd : d.ack <= X.sent) (hd2 : d.ack <= base) {Q : Value -> World -> Prop}
  (hk : ∀ w',St c w' (blk x 67 (cnc { X with out:=some ⟨o,0,none⟩,edge:=maxN X.edge (IntKind.u64.wrap (d.ack + IntKind.u64.wrap d.win)) }) :: blk o 92 [P,.int .u64 base,.bool cl,.bool gn] :: L) -> Q (.tuple #[]) w') : CALL PG 188 [.pointer (some ⟨x,0,none⟩),dtcv d] w Q:=by
 refine call188 ?_
 unfold N188
 refine h.box (vs:=dtc d) fun q w' h => ?_
 refine ⟨fun w => St c w (blk x 67 (cnc { X with out:=some ⟨o,0,none⟩,edge:=maxN X.edge (IntKind.u64.wrap (d.ack + IntKind.u64.wrap d.win)) }) :: blk q 185 (dtc d) :: blk o 92 [P,.int .u64 base,.bool cl,.bool gn] :: L),?_,?_⟩
 ·have h:=h.drew
  refine h.rdI (B:=q) 3 (nilc (h.rdI (B:=x) 40 ?_))
  refine ifdt hd ?_
  have h:=h.drew
  refine nilc (h.rdI (B:=x) 41 (h.rdI (B:=q) 3 (h.rdI (B:=q) 4 (nilc ?_))))
  refine h.st (B:=x) 41 fun w' h => ?_
  exact h
 clear h
 intro w' h
 have h:=h.drew
 refine h.rdI (B:=q) 3 (nilc (h.rdI (B:=x) 40 ?_))
 refine ifdf (by show ¬ (X.sent < d.ack); omega) ?_
 refine nilc (h.rdP (B:=x) 35 (h.rdI (B:=q) 3 ?_))
 refine oacked0_ok (h.sub (show Sub _ (blk o 92 [P,.int .u64 base,.bool cl,.bool gn] :: _) from (.cons (.tail (.tail .head)) (.cons .head (.cons .head ((Sub.same _))))))) hd2 fun w' h => ?_
 (repeat apply exi)
 apply exr
 exact ift rfl (hk _ (h.sub (.cons (.tail .head) (.cons .head ((Sub.same _).more)))))
end
end Go.Br
