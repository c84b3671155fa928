/- HandsH, HandsT -/
import Derived.Test.YtmglifmopjedbaaGreatBrSeat
import Derived.Test.YtmglifmopjedbaaGreatJHandsF
/- What the code of some functions says,as the core reads it; each reading is checked by the kernel. -/
set_option linter.unusedVariables false
set_option maxRecDepth 100000
namespace Go.Br
open Go Go.Proofs
def N12  (w : World) (Q : QP) : Prop :=
 CALL PG 35 [] w fun v w1 =>
 ∃ x3 : Int,∃ x3v1 : Int,∃ x3v2 : Int,∃ x3v3 : Int,∃ x3v4 : Int,∃ x3v5 : Int,∃ x3v6 : Int,∃ x3v7 : Int,∃ x3v8 : Int,∃ x3v9 : Int,∃ x3v10 : Int,∃ x3v11 : Int,∃ x3v12 : Int,∃ x3v13 : Int,∃ x3v14 : Int,v = (.agg #[(.int .i64 x3),(.int .i64 x3v1),(.int .i64 x3v2),(.int .i64 x3v3),(.int .i64 x3v4),(.int .i64 x3v5),(.int .i64 x3v6),(.int .i64 x3v7),(.int .i64 x3v8),(.int .i64 x3v9),(.int .i64 x3v10),(.int .i64 x3v11),(.int .i64 x3v12),(.int .i64 x3v13),(.int .i64 x3v14)]) /\
 (RD PG (Instr.build 30 #[(0,(.int .u64 1)),(1,(.int .u64 2)),(2,(.int .u32 3)),(3,(.int .u32 4))]) w1 fun v1 =>
 ∃ x4 : Int,∃ x4v1 : Int,∃ x4v2 : Int,∃ x4v3 : Int,∃ x4v4 : Int,∃ x4v5 : Int,v1 = (.agg #[(.int .u64 x4),(.int .u64 x4v1),(.int .u32 x4v2),(.int .u32 x4v3),(.int .u64 x4v4),(.int .u64 x4v5)]) /\
 (CALL PG 5 [(.agg #[(.int .i64 x3),(.int .i64 x3v1),(.int .i64 x3v2),(.int .i64 x3v3),(.int .i64 x3v4),(.int .i64 x3v5),(.int .i64 x3v6),(.int .i64 x3v7),(.int .i64 x3v8),(.int .i64 x3v9),(.int .i64 x3v10),(.int .i64 x3v11),(.int .i64 x3v12),(.int .i64 x3v13),(.int .i64 x3v14)]),(.agg #[(.int .u64 x4),(.int .u64 x4v1),(.int .u32 x4v2),(.int .u32 x4v3),(.int .u64 x4v4),(.int .u64 x4v5)])] w1 fun v2 w2 =>
 ∃ x5 : Option Addr,v2 = (.pointer x5) /\
 (IFB (x5.isNone)
 (Q (.bool false) w2)
 (NILC x5 fun a10 =>
 RDL PG (loadVar 36 (a10.add 24)) w2 fun x12 x12N x12C =>
 IFB ((x12N : Int) != 1)
 (Q (.bool false) w2)
 (∃ R : World -> Prop,
 (∃ I : Nat -> Int -> World -> Prop,
 (∃ m,I m 0 w2) /\
 (∀ m1 (i : Int) (w3 : World),I m1 i w3 -> (IFB (decide (i < 3))
 (NILC x5 fun a20 =>
 RDL PG (loadVar 36 (a20.add 24)) w3 fun x22 x22N x22C =>
 IFB (decide ((x22N : Int) > 0))
 (RD PG (Instr.build 43 #[]) w3 fun v3 =>
 ∃ (x29 : Option Addr) (x29N x29C : Nat),∃ (x29v1 : Option Addr) (x29N1 x29C1 : Nat),∃ (x29v2 : Option Addr) (x29N2 x29C2 : Nat),∃ (x29v3 : Option Addr) (x29N3 x29C3 : Nat),v3 = (.agg #[(.slice x29 x29N x29C),(.slice x29v1 x29N1 x29C1),(.slice x29v2 x29N2 x29C2),(.slice x29v3 x29N3 x29C3)]) /\
 (RD PG (Instr.build 46 #[]) w3 fun v4 =>
 ∃ x30 : Int,∃ x30v1 : Int,∃ x30v2 : Int,∃ (x30v3 : Option Addr) (x30N x30C : Nat),v4 = (.agg #[(.int .i64 x30),(.int .i64 x30v1),(.int .i64 x30v2),(.slice x30v3 x30N x30C)]) /\
 (CALL PG 7 [(.pointer x5),(.agg #[(.slice x29 x29N x29C),(.slice x29v1 x29N1 x29C1),(.slice x29v2 x29N2 x29C2),(.slice x29v3 x29N3 x29C3)]),(.agg #[(.int .i64 x30),(.int .i64 x30v1),(.int .i64 x30v2),(.slice x30v3 x30N x30C)])] w3 fun v5 w4 =>
 ∃ (x31 : Option Addr) (x31N x31C : Nat),∃ (x31v1 : Option Addr) (x31N1 x31C1 : Nat),∃ (x31v2 : Option Addr) (x31N2 x31C2 : Nat),∃ (x31v3 : Option Addr) (x31N3 x31C3 : Nat),v5 = (.agg #[(.slice x31 x31N x31C),(.slice x31v1 x31N1 x31C1),(.slice x31v2 x31N2 x31C2),(.slice x31v3 x31N3 x31C3)]) /\
 (LETI (IntKind.i64.wrap (i + 1)) fun i1 =>
 ∃ m2,m2 < m1 /\ I m2 i1 w4))))
 (R w3))
 (R w3)))) /\
 (∀  (w5 : World),R w5 -> (NILC x5 fun a33 =>
 RDP PG (loadVar 34 (a33.add 1)) (w5.drew) fun x35 =>
 IFB (!x35.isNone)
 (NILC x5 fun a39 =>
 RDP PG (loadVar 34 (a39.add 0)) (w5.drew) fun x41 =>
 CALL PG 6 [(.pointer x41)] (w5.drew) fun v6 w6 =>
 ∃ x42 : Int,v6 = (.int .i64 x42) /\
 (IFB (x42 == 3)
 (NILC x5 fun a47 =>
 RDP PG (loadVar 34 (a47.add 1)) w6 fun x49 =>
 CALL PG 6 [(.pointer x49)] w6 fun v7 w7 =>
 ∃ x50 : Int,v7 = (.int .i64 x50) /\
 (∃ S : World -> Prop,S w7 /\
 (IFB (x50 == 3)
 (NILC x5 fun a55 =>
 RDSP PG (loadVar 34 (a55.add 0)) S fun x57 =>
 NILC x5 fun a61 =>
 RDSP PG (loadVar 34 (a61.add 1)) S fun x63 =>
 CALL PG 8 [(.pointer x57)] w7 fun v8 w8 =>
 ∃ x58 : Int,∃ x58v1 : Int,∃ x58v2 : Int,∃ x58v3 : Int,∃ x58v4 : Int,∃ x58v5 : Int,∃ x58v6 : Int,∃ x58v7 : Int,∃ x58v8 : Int,∃ x58v9 : Int,∃ x58v10 : Int,∃ x58v11 : Int,∃ x58v12 : Bool,∃ x58v13 : Bool,∃ x58v14 : Int,∃ x58v15 : Int,∃ x58v16 : Int,∃ x58v17 : Int,v8 = (.agg #[(.int .i64 x58),(.int .i64 x58v1),(.int .i64 x58v2),(.int .u64 x58v3),(.int .u64 x58v4),(.int .i64 x58v5),(.int .u16 x58v6),(.int .u16 x58v7),(.int .u64 x58v8),(.int .u64 x58v9),(.int .u64 x58v10),(.int .u64 x58v11),(.bool x58v12),(.bool x58v13),(.int .i64 x58v14),(.int .i64 x58v15),(.int .i64 x58v16),(.int .i64 x58v17)]) /\
 (∃ S1 : World -> Prop,(∀ x,S1 x -> S x) /\ S1 w8 /\
 (CALL PG 8 [(.pointer x63)] w8 fun v9 w9 =>
 ∃ x64 : Int,∃ x64v1 : Int,∃ x64v2 : Int,∃ x64v3 : Int,∃ x64v4 : Int,∃ x64v5 : Int,∃ x64v6 : Int,∃ x64v7 : Int,∃ x64v8 : Int,∃ x64v9 : Int,∃ x64v10 : Int,∃ x64v11 : Int,∃ x64v12 : Bool,∃ x64v13 : Bool,∃ x64v14 : Int,∃ x64v15 : Int,∃ x64v16 : Int,∃ x64v17 : Int,v9 = (.agg #[(.int .i64 x64),(.int .i64 x64v1),(.int .i64 x64v2),(.int .u64 x64v3),(.int .u64 x64v4),(.int .i64 x64v5),(.int .u16 x64v6),(.int .u16 x64v7),(.int .u64 x64v8),(.int .u64 x64v9),(.int .u64 x64v10),(.int .u64 x64v11),(.bool x64v12),(.bool x64v13),(.int .i64 x64v14),(.int .i64 x64v15),(.int .i64 x64v16),(.int .i64 x64v17)]) /\
 (∃ S2 : World -> Prop,(∀ x,S2 x -> S1 x) /\ S2 w9 /\
 (RDSB PG (do eqGuard .eql 28 (.tmp 59) (.tmp 65) (.agg #[(.int .u64 x58v3),(.int .u64 x58v4)]) (.agg #[(.int .u64 x64v3),(.int .u64 x64v4)]); binOp .eql 28 (.agg #[(.int .u64 x58v3),(.int .u64 x58v4)]) (.agg #[(.int .u64 x64v3),(.int .u64 x64v4)])) S2 fun x66 =>
 IFB x66
 (NILC x5 fun a70 =>
 RDSP PG (loadVar 34 (a70.add 0)) S2 fun x72 =>
 NILC x72 fun a73 =>
 RDS PG (loadVar 28 ((a73.add 0).add 0)) S2 fun v10 =>
 ∃ x76 : Int,∃ x76v1 : Int,v10 = (.agg #[(.int .u64 x76),(.int .u64 x76v1)]) /\
 (CALL PG 9 [(.int .u64 1),(.int .u64 2)] w9 fun v11 w10 =>
 ∃ x77 : Int,∃ x77v1 : Int,∃ x77v2 : Int,∃ x77v3 : Int,∃ x77v4 : Int,∃ x77v5 : Int,∃ x77v6 : Int,∃ x77v7 : Int,∃ x77v8 : Int,v11 = (.agg #[(.int .u64 x77),(.int .u64 x77v1),(.int .u64 x77v2),(.int .u64 x77v3),(.int .u64 x77v4),(.int .u64 x77v5),(.int .u64 x77v6),(.int .u64 x77v7),(.int .u32 x77v8)]) /\
 (∃ S3 : World -> Prop,(∀ x,S3 x -> S2 x) /\ S3 w10 /\
 (RDSB PG (do eqGuard .eql 28 (.tmp 76) (.tmp 78) (.agg #[(.int .u64 x76),(.int .u64 x76v1)]) (.agg #[(.int .u64 x77),(.int .u64 x77v1)]); binOp .eql 28 (.agg #[(.int .u64 x76),(.int .u64 x76v1)]) (.agg #[(.int .u64 x77),(.int .u64 x77v1)])) S3 fun x79 =>
 IFB x79
 (NILC x5 fun a83 =>
 RDSP PG (loadVar 34 (a83.add 0)) S3 fun x85 =>
 CALL PG 36 [(.pointer x85)] w10 fun v12 w11 =>
 ∃ x86 : Int,v12 = (.int .i64 x86) /\
 (IFB (x86 == 1)
 (NILC x5 fun a91 =>
 RDP PG (loadVar 34 (a91.add 1)) w11 fun x93 =>
 CALL PG 36 [(.pointer x93)] w11 fun v13 w12 =>
 ∃ x94 : Int,v13 = (.int .i64 x94) /\
 (LETB (x94 == 2) fun x0 =>
 Q (.bool x0) w12))
 (LETB false fun x0v1 =>
 Q (.bool x0v1) w11)))
 (LETB false fun x0v2 =>
 Q (.bool x0v2) w10)))))
 (LETB false fun x0v3 =>
 Q (.bool x0v3) w9))))))
 (LETB false fun x0v4 =>
 Q (.bool x0v4) w7))))
 (∃ S4 : World -> Prop,S4 w6 /\
 (LETB false fun x0v5 =>
 Q (.bool x0v5) w6))))
 (∃ S5 : World -> Prop,S5 (w5.drew) /\
 (LETB false fun x0v6 =>
 Q (.bool x0v6) (w5.drew))))))))))
theorem call12  {w : World} {Q : QP} (h_ : N12  w Q) : CALL PG 12 [] w Q:=calls_vq (.s .nil (.s .nil (.s .nil (.cut [] (.s .nil (.u (.loop [(2,3)] .nil))) .nil)))) tabOk Tryz.func12 (by kernel_rfl) h_
end Go.Br
/- The handshake: the chapter's example. -/
set_option linter.unusedVariables false
set_option linter.unusedSimpArgs false
set_option linter.unnecessarySimpa false
namespace Go.Br
open Go
instance biHandsHa (x0 : Int) (x1 : Int) (x2 : Int) (x3 : Int) : Bld PG (Instr.build 30 #[(0,.int .u64 x0),(1,.int .u64 x1),(2,.int .u32 x2),(3,.int .u32 x3)]) (.agg #[.int .u64 x0,.int .u64 x1,.int .u32 x2,.int .u32 x3,.int .u64 0,.int .u64 0]):=⟨fun w => by kernel_rfl⟩
instance biHandsHb : Bld PG (Instr.build 43 #[]) (.agg #[.slice none 0 0,.slice none 0 0,.slice none 0 0,.slice none 0 0]):=⟨fun w => by kernel_rfl⟩
instance biHandsHc : Bld PG (Instr.build 46 #[]) (.agg #[.int .i64 0,.int .i64 0,.int .i64 0,.slice none 0 0]):=⟨fun w => by kernel_rfl⟩
attribute [local irreducible] Addr.add RD RDS RUN RUNU NILC LETB CALL CALLX CALLV
theorem usualOk : CfgOk ⟨2,2,4,3,64,16,4,3,8,200,20,3,1,8,1⟩:=by
 unfold CfgOk CfgS CfgR
 decide
section
variable {c : Ctx} {w : World} {L R : List SA}
set_option maxRecDepth 10000 in
theorem alive_ok (h : St c w L) {Q : Value -> World -> Prop} (hk : ∀ w' L',St c w' L' -> Q (.bool true) w') : CALL PG 12 [] w Q:=by
 refine call12 ?_
 unfold N12
 refine usual22_ok h fun w' h => ?_
 (repeat apply exi)
 apply exr
 refine RD.bld ?_
 (repeat apply exi)
 apply exr
 refine begin22_ok (g:=⟨2,2,4,3,64,16,4,3,8,200,20,3,1,8,1⟩) (d:=⟨1,2,3,4,0,0⟩) h usualOk ⟨by decide,by decide,by decide,by decide⟩ fun t n fA fC q O1 d1 O2 d2 f w' e1 e2 e3 e4 h => ?_
 have hg:=usualOk
 generalize (⟨2,2,4,3,64,16,4,3,8,200,20,3,1,8,1⟩ : Cfg) = g at h hg
 have hd : DrOk ⟨1,2,3,4,0,0⟩:=⟨by decide,by decide,by decide,by decide⟩
 have ha : (⟨1,2,3,4,0,0⟩ : Dr).ka = 1:=rfl
 have hb : (⟨1,2,3,4,0,0⟩ : Dr).kb = 2:=rfl
 generalize (⟨1,2,3,4,0,0⟩ : Dr) = d at h hd e3 ha hb
 (repeat apply exi)
 apply exr
 refine iff_ rfl (nilc (h.rdL (B:=t) 24 (iff_ rfl ?_)))
 refine ⟨fun w => ∃ n' fA' fC' O1 d1 O3 d3 f' G F0 XA FA XB FB,UpC g n fA fC 1 1000 80 (sessK 1 2) XA /\ UpC g n' fA' fC' 2 80 1000 (sessK 1 2) XB /\ St c w (sAB g d t q n n' fA fC fA' fC' O1 d1 O3 d3 f' G F0 XA FA XB FB L),⟨fun m i w =>
  (m = 3 /\ i = 0 /\ St c w (blk t 38 (twc (two g d (some ⟨n.x,0,none⟩) none (some ⟨q,0,none⟩) O1 1 d1 O2 1 d2)) :: own 79 3 O1 1 d1 (([f] : List Fl22).flatMap flyc) :: own 79 3 O2 1 d2 (([f] : List Fl22).flatMap flyc) :: bodF [f,f] :: blk q 73 (srcC d 0) :: stP g n (XA0 g d n fA fC) (FA0 d n) [] 0 fA fC 0 L)) ∨
  (m = 2 /\ i = 1 /\ ∃ n' fA' fC' O1 d1 O3 d3 f',f'.to = 0 /\ f'.path = 0 /\ f'.bs = encB (ansS (FB0 d n') d.kb d.ka) /\ f'.bs.length <= f'.bC /\ St c w (sAB g d t q n n' fA fC fA' fC' O1 d1 O3 d3 f' [f,f'] [f',f,f'] (XA0 g d n fA fC) (FA0 d n) (XB0 g d n' fA' fC') (FB0 d n') L)) ∨
  (m = 1 /\ i = 2 /\ ∃ n' fA' fC' O1 d1 O3 d3 f' G,f'.to = 1 /\ f'.path = 0 /\ f'.bs = encB (wordS (XA1 g d n fA fC) (FAa d n) (dA g)) /\ f'.bs.length <= f'.bC /\ G.length <= 10 /\ St c w (sAB g d t q n n' fA fC fA' fC' O1 d1 O3 d3 f' (G ++ [f']) ([f'] ++ (G ++ [f'])) (XA1 g d n fA fC) (FA1 d n) (XB0 g d n' fA' fC') (FB0 d n') L)) ∨
  (m = 0 /\ i = 3 /\ ∃ n' fA' fC' O1 d1 O3 d3 f' G F0 XA FA XB FB,UpC g n fA fC 1 1000 80 (sessK 1 2) XA /\ UpC g n' fA' fC' 2 80 1000 (sessK 1 2) XB /\ St c w (sAB g d t q n n' fA fC fA' fC' O1 d1 O3 d3 f' G F0 XA FA XB FB L)),⟨3,.inl ⟨rfl,rfl,h⟩⟩,?_⟩,?_⟩
 ·clear h
  rintro m i w' (⟨rfl,hi,h⟩ | ⟨rfl,hi,n',fA',fC',O1,d1,O3,d3,f',g1,g2,g3,g4,h⟩ | ⟨rfl,hi,n',fA',fC',O1,d1,O3,d3,f',G,g1,g2,g3,g4,gl,h⟩ | ⟨rfl,hi,hh⟩)
  ·subst hi
   refine ift rfl (nilc (h.rdL (B:=t) 24 (ift rfl ?_)))
   refine RD.bld ?_
   (repeat apply exi)
   apply exr
   refine RD.bld ?_
   (repeat apply exi)
   apply exr
   refine step1_ok hg hd e1 e2 e3 e4 h fun n' fA' fC' O1 d1 O3 d3 f' w' g1 g2 g3 g4 h => ?_
   (repeat apply exi)
   apply exr
   exact leti rfl ⟨2,by decide,.inr (.inl ⟨rfl,rfl,n',fA',fC',O1,d1,O3,d3,f',g1,g2,g3,g4,h⟩)⟩
  ·subst hi
   refine ift rfl (nilc (h.rdL (B:=t) 24 (ift rfl ?_)))
   refine RD.bld ?_
   (repeat apply exi)
   apply exr
   refine RD.bld ?_
   (repeat apply exi)
   apply exr
   refine step2_ok hg hd g1 g2 g3 g4 (F0:=[f',f,f']) (G:=[f,f']) (by simp) (by simp) (by simp) h fun O1 d1 O3 d3 f' w' g1 g2 g3 g4 h => ?_
   (repeat apply exi)
   apply exr
   exact leti rfl ⟨1,by decide,.inr (.inr (.inl ⟨rfl,rfl,n',fA',fC',O1,d1,O3,d3,f',_,g1,g2,g3,g4,by simp,h⟩))⟩
  ·subst hi
   refine ift rfl (nilc (h.rdL (B:=t) 24 (ift rfl ?_)))
   refine RD.bld ?_
   (repeat apply exi)
   apply exr
   refine RD.bld ?_
   (repeat apply exi)
   apply exr
   refine step3_ok hg hd g1 g2 g3 g4 (F0:=[f'] ++ (G ++ [f'])) (G:=G ++ [f']) (by simp) (fun z hz => List.mem_append.2 (.inr hz)) (by simp; omega) h fun O1 d1 O3 d3 f' w' h => ?_
   (repeat apply exi)
   apply exr
   have uA:=upA (g:=g) (d:=d) (n:=n) (fA:=fA) (fC:=fC)
   have uB:=upB (g:=g) (d:=d) (n:=n) (n':=n') (fA:=fA) (fC:=fC) (fA':=fA') (fC':=fC')
   rw [ha,hb] at uA uB
   exact leti rfl ⟨0,by decide,.inr (.inr (.inr ⟨rfl,rfl,n',fA',fC',O1,d1,O3,d3,f',_,_,_,_,_,_,uA,uB,h⟩))⟩
  ·subst hi
   exact iff_ rfl hh
 clear h
 rintro w' ⟨n',fA',fC',O1,d1,O3,d3,f',G,F0,XA,FA,XB,FB,uA,uB,h⟩
 have h:=h.drew
 refine nilc (h.rdP (B:=t) 1 (ift rfl (nilc (h.rdP (B:=t) 0 ?_))))
 refine cstate_ok h (.tail (.tail (.tail (.tail (.tail .head))))) ⟨_,rfl,ift (by rw [uA.st]; rfl) ?_⟩
 refine nilc (h.rdP (B:=t) 1 ?_)
 refine cstate_ok h (.tail (.tail (.tail (.tail (.tail (.tail (.tail (.tail (.tail (.tail (.tail (.tail (.tail (.tail (.tail (.tail (.tail (.tail (.tail (.tail (.tail (.tail (.tail .head))))))))))))))))))))))) ⟨_,rfl,?_⟩
 refine ⟨fun w => St c w [blk t 38 (twc (two g d (some ⟨n.x,0,none⟩) (some ⟨n'.x,0,none⟩) (some ⟨q,0,none⟩) O1 1 d1 O3 G.length d3)),blk n.x 67 (cnc XA)],h.sub (.cons .head (.cons (.tail (.tail (.tail (.tail .head)))) (.nil))),?_⟩
 refine ift (by rw [uB.st]; rfl) ?_
 refine nilc (St.rdsP (B:=t) 0 (nilc (St.rdsP (B:=t) 1 ?_)))
 have h:=h.sub (show Sub _ ([blk t 38 (twc (two g d (some ⟨n.x,0,none⟩) (some ⟨n'.x,0,none⟩) (some ⟨q,0,none⟩) O1 1 d1 O3 G.length d3))] ++ stP g n XA FA [] 0 fA fC 0 (stP g n' XB FB [] 0 fA' fC' 0 L)) from (.cons .head (.cons (.tail (.tail (.tail (.tail .head)))) (.cons (.tail (.tail (.tail (.tail .head)))) (.cons (.tail (.tail (.tail (.tail .head)))) (.cons (.tail (.tail (.tail (.tail .head)))) (.cons (.tail (.tail (.tail (.tail .head)))) (.cons (.tail (.tail (.tail (.tail .head)))) (.cons (.tail (.tail (.tail (.tail .head)))) (.cons (.tail (.tail (.tail (.tail .head)))) (.cons (.tail (.tail (.tail (.tail .head)))) (.cons (.tail (.tail (.tail (.tail .head)))) (.cons (.tail (.tail (.tail (.tail .head)))) (.cons (.tail (.tail (.tail (.tail .head)))) (.cons (.tail (.tail (.tail (.tail .head)))) (.cons (.tail (.tail (.tail (.tail .head)))) (.cons (.tail (.tail (.tail (.tail .head)))) (.cons (.tail (.tail (.tail (.tail .head)))) (.cons (.tail (.tail (.tail (.tail .head)))) (.cons (.tail (.tail (.tail (.tail .head)))) (.cons (.tail (.tail (.tail (.tail .head)))) (.cons (.tail (.tail (.tail (.tail .head)))) (.cons (.tail (.tail (.tail (.tail .head)))) (.cons (.tail (.tail (.tail (.tail .head)))) (.cons (.tail (.tail (.tail (.tail .head)))) (.cons (.tail (.tail (.tail (.tail .head)))) (.cons (.tail (.tail (.tail (.tail .head)))) (.cons (.tail (.tail (.tail (.tail .head)))) (.cons (.tail (.tail (.tail (.tail .head)))) (.cons (.tail (.tail (.tail (.tail .head)))) (.cons (.tail (.tail (.tail (.tail .head)))) (.cons (.tail (.tail (.tail (.tail .head)))) (.cons (.tail (.tail (.tail (.tail .head)))) (.cons (.tail (.tail (.tail (.tail .head)))) (.cons (.tail (.tail (.tail (.tail .head)))) (.cons (.tail (.tail (.tail (.tail .head)))) (.cons (.tail (.tail (.tail (.tail .head)))) (.cons (.tail (.tail (.tail (.tail .head)))) ((Sub.same _).more.more.more.more)))))))))))))))))))))))))))))))))))))))
 refine upinfo_ok hg uA h fun I w' ui h => ?_
 (repeat apply exi)
 apply exr
 refine ⟨_,fun _ h => h,h.sub (.cons .head (.cons .head (.nil))),?_⟩
 refine upinfo_ok hg uB (M:=[blk t 38 (twc (two g d (some ⟨n.x,0,none⟩) (some ⟨n'.x,0,none⟩) (some ⟨q,0,none⟩) O1 1 d1 O3 G.length d3)),blk n.x 67 (cnc XA),own 99 1 fA 1 fC [.pointer (some ⟨n.f,0,none⟩)]]) h fun J w' uj h => ?_
 have h : St c w' (blk t 38 (twc (two g d (some ⟨n.x,0,none⟩) (some ⟨n'.x,0,none⟩) (some ⟨q,0,none⟩) O1 1 d1 O3 G.length d3)) :: blk n.x 67 (cnc XA) :: own 99 1 fA 1 fC [.pointer (some ⟨n.f,0,none⟩)] :: blk n'.x 67 (cnc XB) :: own 99 1 fA' 1 fC' [.pointer (some ⟨n'.f,0,none⟩)] :: L):=h
 (repeat apply exi)
 apply exr
 refine ⟨_,fun _ h => h,h.sub (.cons .head (.cons .head (.nil))),?_⟩
 refine RDSB.eqN (I.idK0 == J.idK0 && (I.idK1 == J.idK1 && true)) ?_
 refine ift (by rw [ui.i0,ui.i1,uj.i0,uj.i1]; simp) ?_
 refine nilc (St.rdsP (B:=t) 0 (nilc ?_))
 simp only [add_add,Nat.reduceAdd]
 refine St.rdsGo (B:=n.x) 0 2 ?_
 (repeat apply exi)
 apply exr
 have hK : keysOf XA = sessK 1 2:=uA.keys
 refine session_ok h fun w' h => ?_
 generalize sessK 1 2 = K at hK
 (repeat apply exi)
 apply exr
 refine ⟨_,fun _ h => h,h.sub (.cons .head (.cons .head (.nil))),?_⟩
 refine RDSB.eqN (XA.keysIDK0 == K.idK0 && (XA.keysIDK1 == K.idK1 && true)) ?_
 refine ift (by rw [<- hK]; simp [keysOf]) ?_
 refine nilc (St.rdsP (B:=t) 0 ?_)
 refine crole_ok h (.tail .head) ⟨_,rfl,ift (by rw [uA.role]; rfl) ?_⟩
 refine nilc (h.rdP (B:=t) 1 ?_)
 refine crole_ok h (.tail (.tail (.tail .head))) ⟨_,rfl,?_⟩
 exact letb (y:=true) (by rw [uB.role]; rfl) (hk _ _ h)
end
end Go.Br
/- The handshake: what is done once both ends were looked at. -/
set_option linter.unusedVariables false
set_option linter.unusedSimpArgs false
set_option linter.unnecessarySimpa false
namespace Go.Br
open Go
attribute [local irreducible] Addr.add RD RDS RUN RUNU NILC LETB CALL CALLX CALLV
def HandsTl2 (a2 a3 a6 a7 : Addr) (x15 : Option Addr) (Q : Value -> World -> Prop) (v19 : Value) (w17 : World) : Prop :=
∃ x95 : Int,∃ x95v1 : Int,∃ x95v2 : Int,∃ x95v3 : Int,∃ x95v4 : Int,∃ x95v5 : Int,∃ x95v6 : Int,∃ x95v7 : Int,∃ x95v8 : Int,v19 = (.agg #[(.int .u64 x95),(.int .u64 x95v1),(.int .u64 x95v2),(.int .u64 x95v3),(.int .u64 x95v4),(.int .u64 x95v5),(.int .u64 x95v6),(.int .u64 x95v7),(.int .u32 x95v8)]) /\
(RUNA PG (Instr.alloc 56 true (.tuple #[])) w17 fun a8 w18 =>
RUNU PG (storeVar 56 a8 (.agg #[(.int .u64 x95),(.int .u64 x95v1),(.int .u64 x95v2),(.int .u64 x95v3),(.int .u64 x95v4),(.int .u64 x95v5),(.int .u64 x95v6),(.int .u64 x95v7),(.int .u32 x95v8)])) w18 fun w19 =>
∃ R : Bool -> World -> Prop,
(∃ S5 : World -> Prop,S5 (w19.drew) /\
(RDSI PG (loadVar 49 (Addr.add (Addr.add a6 5) 1)) .u16 S5 fun x98 =>
RDSI PG (loadVar 49 (Addr.add (Addr.add a7 5) 2)) .u16 S5 fun x101 =>
IFB (x98 == x101)
(RDSI PG (loadVar 49 (Addr.add (Addr.add a6 5) 2)) .u16 S5 fun x106 =>
RDSI PG (loadVar 49 (Addr.add (Addr.add a7 5) 1)) .u16 S5 fun x109 =>
IFB (x106 == x109)
(RDSI PG (loadVar 3 (Addr.add a6 15)) .i64 S5 fun x114 =>
IFB (x114 == (1 : Int))
(RDSI PG (loadVar 3 (Addr.add a7 15)) .i64 S5 fun x119 =>
IFB (x119 == (1 : Int))
(NILC x15 fun a124 =>
RDSP PG (loadVar 34 (Addr.add a124 0)) S5 fun x126 =>
RDS PG (loadVar 24 a2) S5 fun v20 =>
∃ x128 : Int,∃ x128v1 : Int,∃ x128v2 : Int,∃ x128v3 : Int,∃ x128v4 : Int,∃ x128v5 : Int,∃ x128v6 : Int,∃ x128v7 : Int,∃ x128v8 : Int,∃ x128v9 : Int,∃ x128v10 : Int,∃ x128v11 : Int,∃ x128v12 : Int,∃ x128v13 : Int,∃ x128v14 : Int,v20 = (.agg #[(.int .i64 x128),(.int .i64 x128v1),(.int .i64 x128v2),(.int .i64 x128v3),(.int .i64 x128v4),(.int .i64 x128v5),(.int .i64 x128v6),(.int .i64 x128v7),(.int .i64 x128v8),(.int .i64 x128v9),(.int .i64 x128v10),(.int .i64 x128v11),(.int .i64 x128v12),(.int .i64 x128v13),(.int .i64 x128v14)]) /\
(CALL PG 10 [(.pointer x126)] (w19.drew) fun v21 w20 =>
∃ x127 : Int,∃ x127v1 : Int,∃ x127v2 : Int,∃ x127v3 : Int,∃ x127v4 : Int,∃ x127v5 : Int,∃ x127v6 : Int,∃ x127v7 : Int,∃ x127v8 : Int,∃ x127v9 : Int,∃ x127v10 : Int,∃ x127v11 : Int,∃ x127v12 : Int,∃ x127v13 : Int,∃ x127v14 : Int,v21 = (.agg #[(.int .i64 x127),(.int .i64 x127v1),(.int .i64 x127v2),(.int .i64 x127v3),(.int .i64 x127v4),(.int .i64 x127v5),(.int .i64 x127v6),(.int .i64 x127v7),(.int .i64 x127v8),(.int .i64 x127v9),(.int .i64 x127v10),(.int .i64 x127v11),(.int .i64 x127v12),(.int .i64 x127v13),(.int .i64 x127v14)]) /\
(∃ S6 : World -> Prop,(∀ x,S6 x -> S5 x) /\ S6 w20 /\
(RDSB PG (do eqGuard .eql 24 (.tmp 127) (.tmp 128) (.agg #[(.int .i64 x127),(.int .i64 x127v1),(.int .i64 x127v2),(.int .i64 x127v3),(.int .i64 x127v4),(.int .i64 x127v5),(.int .i64 x127v6),(.int .i64 x127v7),(.int .i64 x127v8),(.int .i64 x127v9),(.int .i64 x127v10),(.int .i64 x127v11),(.int .i64 x127v12),(.int .i64 x127v13),(.int .i64 x127v14)]) (.agg #[(.int .i64 x128),(.int .i64 x128v1),(.int .i64 x128v2),(.int .i64 x128v3),(.int .i64 x128v4),(.int .i64 x128v5),(.int .i64 x128v6),(.int .i64 x128v7),(.int .i64 x128v8),(.int .i64 x128v9),(.int .i64 x128v10),(.int .i64 x128v11),(.int .i64 x128v12),(.int .i64 x128v13),(.int .i64 x128v14)]); binOp .eql 24 (.agg #[(.int .i64 x127),(.int .i64 x127v1),(.int .i64 x127v2),(.int .i64 x127v3),(.int .i64 x127v4),(.int .i64 x127v5),(.int .i64 x127v6),(.int .i64 x127v7),(.int .i64 x127v8),(.int .i64 x127v9),(.int .i64 x127v10),(.int .i64 x127v11),(.int .i64 x127v12),(.int .i64 x127v13),(.int .i64 x127v14)]) (.agg #[(.int .i64 x128),(.int .i64 x128v1),(.int .i64 x128v2),(.int .i64 x128v3),(.int .i64 x128v4),(.int .i64 x128v5),(.int .i64 x128v6),(.int .i64 x128v7),(.int .i64 x128v8),(.int .i64 x128v9),(.int .i64 x128v10),(.int .i64 x128v11),(.int .i64 x128v12),(.int .i64 x128v13),(.int .i64 x128v14)])) S6 fun x129 =>
LETB x129 fun fits =>
R fits w20))))
(LETB false fun fits1 =>
R fits1 (w19.drew)))
(LETB false fun fits2 =>
R fits2 (w19.drew)))
(LETB false fun fits3 =>
R fits3 (w19.drew)))
(LETB false fun fits4 =>
R fits4 (w19.drew)))) /\
(∀ (fits5 : Bool) (w21 : World),R fits5 w21 -> (RDI PG (loadVar 39 (Addr.add a7 0)) .i64 (w21.drew) fun x132 =>
IFB (x132 == (3 : Int))
(RDI PG (loadVar 48 (Addr.add a6 2)) .i64 (w21.drew) fun x136 =>
IFB (x136 == (1 : Int))
(RDI PG (loadVar 48 (Addr.add a7 2)) .i64 (w21.drew) fun x141 =>
IFB (x141 == (2 : Int))
(RD PG (loadVar 28 (Addr.add a6 3)) (w21.drew) fun v22 =>
∃ x146 : Int,∃ x146v1 : Int,v22 = (.agg #[(.int .u64 x146),(.int .u64 x146v1)]) /\
(RD PG (loadVar 28 (Addr.add a8 0)) (w21.drew) fun v23 =>
∃ x148 : Int,∃ x148v1 : Int,v23 = (.agg #[(.int .u64 x148),(.int .u64 x148v1)]) /\
(RDB PG (do eqGuard .eql 28 (.tmp 146) (.tmp 148) (.agg #[(.int .u64 x146),(.int .u64 x146v1)]) (.agg #[(.int .u64 x148),(.int .u64 x148v1)]); binOp .eql 28 (.agg #[(.int .u64 x146),(.int .u64 x146v1)]) (.agg #[(.int .u64 x148),(.int .u64 x148v1)])) (w21.drew) fun x149 =>
IFB x149
(RD PG (loadVar 28 (Addr.add a7 3)) (w21.drew) fun v24 =>
∃ x153 : Int,∃ x153v1 : Int,v24 = (.agg #[(.int .u64 x153),(.int .u64 x153v1)]) /\
(RD PG (loadVar 28 (Addr.add a8 0)) (w21.drew) fun v25 =>
∃ x155 : Int,∃ x155v1 : Int,v25 = (.agg #[(.int .u64 x155),(.int .u64 x155v1)]) /\
(RDB PG (do eqGuard .eql 28 (.tmp 153) (.tmp 155) (.agg #[(.int .u64 x153),(.int .u64 x153v1)]) (.agg #[(.int .u64 x155),(.int .u64 x155v1)]); binOp .eql 28 (.agg #[(.int .u64 x153),(.int .u64 x153v1)]) (.agg #[(.int .u64 x155),(.int .u64 x155v1)])) (w21.drew) fun x156 =>
IFB x156
(NILC x15 fun a160 =>
RDP PG (loadVar 34 (Addr.add a160 0)) (w21.drew) fun x162 =>
NILC x162 fun a163 =>
RD PG (loadVar 56 (Addr.add a163 0)) (w21.drew) fun v26 =>
∃ x165 : Int,∃ x165v1 : Int,∃ x165v2 : Int,∃ x165v3 : Int,∃ x165v4 : Int,∃ x165v5 : Int,∃ x165v6 : Int,∃ x165v7 : Int,∃ x165v8 : Int,v26 = (.agg #[(.int .u64 x165),(.int .u64 x165v1),(.int .u64 x165v2),(.int .u64 x165v3),(.int .u64 x165v4),(.int .u64 x165v5),(.int .u64 x165v6),(.int .u64 x165v7),(.int .u32 x165v8)]) /\
(RD PG (loadVar 56 a8) (w21.drew) fun v27 =>
∃ x166 : Int,∃ x166v1 : Int,∃ x166v2 : Int,∃ x166v3 : Int,∃ x166v4 : Int,∃ x166v5 : Int,∃ x166v6 : Int,∃ x166v7 : Int,∃ x166v8 : Int,v27 = (.agg #[(.int .u64 x166),(.int .u64 x166v1),(.int .u64 x166v2),(.int .u64 x166v3),(.int .u64 x166v4),(.int .u64 x166v5),(.int .u64 x166v6),(.int .u64 x166v7),(.int .u32 x166v8)]) /\
(RDB PG (do eqGuard .eql 56 (.tmp 165) (.tmp 166) (.agg #[(.int .u64 x165),(.int .u64 x165v1),(.int .u64 x165v2),(.int .u64 x165v3),(.int .u64 x165v4),(.int .u64 x165v5),(.int .u64 x165v6),(.int .u64 x165v7),(.int .u32 x165v8)]) (.agg #[(.int .u64 x166),(.int .u64 x166v1),(.int .u64 x166v2),(.int .u64 x166v3),(.int .u64 x166v4),(.int .u64 x166v5),(.int .u64 x166v6),(.int .u64 x166v7),(.int .u32 x166v8)]); binOp .eql 56 (.agg #[(.int .u64 x165),(.int .u64 x165v1),(.int .u64 x165v2),(.int .u64 x165v3),(.int .u64 x165v4),(.int .u64 x165v5),(.int .u64 x165v6),(.int .u64 x165v7),(.int .u32 x165v8)]) (.agg #[(.int .u64 x166),(.int .u64 x166v1),(.int .u64 x166v2),(.int .u64 x166v3),(.int .u64 x166v4),(.int .u64 x166v5),(.int .u64 x166v6),(.int .u64 x166v7),(.int .u32 x166v8)])) (w21.drew) fun x167 =>
IFB x167
(NILC x15 fun a171 =>
RDP PG (loadVar 34 (Addr.add a171 1)) (w21.drew) fun x173 =>
NILC x173 fun a174 =>
RD PG (loadVar 56 (Addr.add a174 0)) (w21.drew) fun v28 =>
∃ x176 : Int,∃ x176v1 : Int,∃ x176v2 : Int,∃ x176v3 : Int,∃ x176v4 : Int,∃ x176v5 : Int,∃ x176v6 : Int,∃ x176v7 : Int,∃ x176v8 : Int,v28 = (.agg #[(.int .u64 x176),(.int .u64 x176v1),(.int .u64 x176v2),(.int .u64 x176v3),(.int .u64 x176v4),(.int .u64 x176v5),(.int .u64 x176v6),(.int .u64 x176v7),(.int .u32 x176v8)]) /\
(RD PG (loadVar 56 a8) (w21.drew) fun v29 =>
∃ x177 : Int,∃ x177v1 : Int,∃ x177v2 : Int,∃ x177v3 : Int,∃ x177v4 : Int,∃ x177v5 : Int,∃ x177v6 : Int,∃ x177v7 : Int,∃ x177v8 : Int,v29 = (.agg #[(.int .u64 x177),(.int .u64 x177v1),(.int .u64 x177v2),(.int .u64 x177v3),(.int .u64 x177v4),(.int .u64 x177v5),(.int .u64 x177v6),(.int .u64 x177v7),(.int .u32 x177v8)]) /\
(RDB PG (do eqGuard .eql 56 (.tmp 176) (.tmp 177) (.agg #[(.int .u64 x176),(.int .u64 x176v1),(.int .u64 x176v2),(.int .u64 x176v3),(.int .u64 x176v4),(.int .u64 x176v5),(.int .u64 x176v6),(.int .u64 x176v7),(.int .u32 x176v8)]) (.agg #[(.int .u64 x177),(.int .u64 x177v1),(.int .u64 x177v2),(.int .u64 x177v3),(.int .u64 x177v4),(.int .u64 x177v5),(.int .u64 x177v6),(.int .u64 x177v7),(.int .u32 x177v8)]); binOp .eql 56 (.agg #[(.int .u64 x176),(.int .u64 x176v1),(.int .u64 x176v2),(.int .u64 x176v3),(.int .u64 x176v4),(.int .u64 x176v5),(.int .u64 x176v6),(.int .u64 x176v7),(.int .u32 x176v8)]) (.agg #[(.int .u64 x177),(.int .u64 x177v1),(.int .u64 x177v2),(.int .u64 x177v3),(.int .u64 x177v4),(.int .u64 x177v5),(.int .u64 x177v6),(.int .u64 x177v7),(.int .u32 x177v8)])) (w21.drew) fun x178 =>
IFB x178
(IFB fits5
(NILC x15 fun a185 =>
RDP PG (loadVar 34 (Addr.add a185 0)) (w21.drew) fun x187 =>
CALL PG 11 [(.pointer x187)] (w21.drew) fun v30 w22 =>
∃ (x188 : Option Addr) (x188N x188C : Nat),v30 = (.slice x188 x188N x188C) /\
(IFB ((x188N : Int) == (1 : Int))
(CALL PG 12 [] w22 fun v31 w23 =>
∃ x193 : Bool,v31 = (.bool x193) /\
(LETB x193 fun x4v1 =>
Q (.bool x4v1) w23))
(LETB false fun x4v2 =>
Q (.bool x4v2) w22)))
(LETB false fun x4v3 =>
Q (.bool x4v3) (w21.drew)))
(LETB false fun x4v4 =>
Q (.bool x4v4) (w21.drew)))))
(LETB false fun x4v5 =>
Q (.bool x4v5) (w21.drew)))))
(LETB false fun x4v6 =>
Q (.bool x4v6) (w21.drew)))))
(LETB false fun x4v7 =>
Q (.bool x4v7) (w21.drew)))))
(LETB false fun x4v8 =>
Q (.bool x4v8) (w21.drew)))
(LETB false fun x4v9 =>
Q (.bool x4v9) (w21.drew)))
(LETB false fun x4v10 =>
Q (.bool x4v10) (w21.drew)))))
def HandsTl (a2 a3 a6 a7 : Addr) (x15 : Option Addr) (w16 : World) (Q : Value -> World -> Prop) : Prop :=
RDI PG (loadVar 25 (Addr.add a3 0)) .u64 w16 fun x92 =>
RDI PG (loadVar 25 (Addr.add a3 1)) .u64 w16 fun x94 =>
CALL PG 9 [(.int .u64 x92),(.int .u64 x94)] w16 (HandsTl2 a2 a3 a6 a7 x15 Q)
section
variable {c : Ctx} {w : World} {L R : List SA}
set_option maxRecDepth 10000 in
theorem tl2_ok {g : Cfg} (hg : CfgOk g) {d : Dr} {t q q2 q3 a6 a7 : Nat} {n n' : Nms} {fA fA' : Option Addr} {fC fC' : Nat} {O1 O3 : Option Addr} {d1 k3 d3 : Nat} {XA XB : Cn} {I J : Inf} {K : Ks} (uA : UpC g n fA fC 1 1000 80 K XA) (uB : UpC g n' fA' fC' 2 80 1000 K XB) (ui : UpI 1 1000 80 K I) (uj : UpI 2 80 1000 K J)
  (h : St c w (blk a6 53 (inf I) :: blk a7 53 (inf J) :: blk t 38 (twc (two g d (some ⟨n.x,0,none⟩) (some ⟨n'.x,0,none⟩) (some ⟨q,0,none⟩) O1 1 d1 O3 k3 d3)) :: blk q2 24 (cfg g) :: blk q3 30 (drc d) :: blk n.x 67 (cnc XA) :: own 99 1 fA 1 fC [.pointer (some ⟨n.f,0,none⟩)] :: blk n'.x 67 (cnc XB) :: L)) {Q : Value -> World -> Prop} (hk : ∀ w' L',St c w' L' -> Q (.bool true) w') : HandsTl2 ⟨q2,0,none⟩ ⟨q3,0,none⟩ ⟨a6,0,none⟩ ⟨a7,0,none⟩ (some ⟨t,0,none⟩) Q (kscv K) w:=by
 unfold HandsTl2
 have kA : keysOf XA = K:=uA.keys
 have kB : keysOf XB = K:=uB.keys
 (repeat apply exi)
 apply exr
 refine h.allocZ fun a8 w' h => ?_
 refine h.stG (B:=a8) (fun w' h => ?_) (hl:=by rfl)
 have h:=h.drew
 have h : St c w'.drew (blk a8 56 (ksc K) :: blk a6 53 (inf I) :: blk a7 53 (inf J) :: blk t 38 (twc (two g d (some ⟨n.x,0,none⟩) (some ⟨n'.x,0,none⟩) (some ⟨q,0,none⟩) O1 1 d1 O3 k3 d3)) :: blk q2 24 (cfg g) :: blk q3 30 (drc d) :: blk n.x 67 (cnc XA) :: own 99 1 fA 1 fC [.pointer (some ⟨n.f,0,none⟩)] :: blk n'.x 67 (cnc XB) :: L):=h
 refine ⟨fun bb w => bb = true /\ St c w (blk a8 56 (ksc K) :: blk a6 53 (inf I) :: blk a7 53 (inf J) :: blk t 38 (twc (two g d (some ⟨n.x,0,none⟩) (some ⟨n'.x,0,none⟩) (some ⟨q,0,none⟩) O1 1 d1 O3 k3 d3)) :: blk q2 24 (cfg g) :: blk q3 30 (drc d) :: blk n.x 67 (cnc XA) :: own 99 1 fA 1 fC [.pointer (some ⟨n.f,0,none⟩)] :: blk n'.x 67 (cnc XB) :: L),?_,?_⟩
 ·refine ⟨fun w => St c w [blk a6 53 (inf I),blk a7 53 (inf J),blk t 38 (twc (two g d (some ⟨n.x,0,none⟩) (some ⟨n'.x,0,none⟩) (some ⟨q,0,none⟩) O1 1 d1 O3 k3 d3)),blk q2 24 (cfg g)],h.sub (.cons (.tail .head) (.cons (.tail .head) (.cons (.tail .head) (.cons (.tail .head) (.nil))))),?_⟩
  refine St.rdsI2 (B:=a6) 5 1 (St.rdsI2 (B:=a7) 5 2 ?_)
  refine ift (by rw [ui.loc,uj.rem]; rfl) ?_
  refine St.rdsI2 (B:=a6) 5 2 (St.rdsI2 (B:=a7) 5 1 ?_)
  refine ift (by rw [ui.rem,uj.loc]; rfl) ?_
  refine St.rdsI (B:=a6) 15 ?_
  refine ift (by rw [ui.fl]; rfl) (St.rdsI (B:=a7) 15 ?_)
  refine ift (by rw [uj.fl]; rfl) (nilc (St.rdsP (B:=t) 0 ?_))
  refine St.rdsG (B:=q2) ?_
  (repeat apply exi)
  apply exr
  refine cconfig_ok (x:=n.x) (X:=XA) (h.sub (.cons (.tail (.tail (.tail (.tail (.tail (.tail .head)))))) (.cons .head (.cons .head (.cons .head (.cons .head (.cons .head (.cons .head (.cons .head (.cons .head ((Sub.same _)))))))))))) fun w' h => ?_
  rw [uA.cfg]
  (repeat apply exi)
  apply exr
  refine ⟨_,fun _ h => h,h.sub (.cons (.tail (.tail .head)) (.cons (.tail (.tail .head)) (.cons (.tail (.tail .head)) (.cons (.tail (.tail .head)) (.nil))))),?_⟩
  refine RDSB.eqN (g.ports == g.ports && (g.half == g.half && (g.conns == g.conns && (g.flows == g.flows && (g.buffer == g.buffer && (g.chunks == g.chunks && (g.addrs == g.addrs && (g.paths == g.paths && (g.mss == g.mss && (g.silence == g.silence && (g.keep == g.keep && (g.burst == g.burst && (g.rate == g.rate && (g.score == g.score && (g.policy == g.policy && true))))))))))))))) ?_
  exact letb (y:=true) (by simp) ⟨rfl,h.sub (.cons (.tail .head) (.cons (.tail .head) (.cons (.tail .head) (.cons (.tail .head) (.cons (.tail .head) (.cons (.tail .head) (.cons .head (.cons .head (.cons .head ((Sub.same _)))))))))))⟩
 clear h
 rintro bb w' ⟨rfl,h⟩
 have h:=h.drew
 refine h.rdI (B:=a7) 0 ?_
 refine ift (by rw [uj.st]; rfl) ?_
 refine h.rdI (B:=a6) 2 ?_
 refine ift (by rw [ui.role]; rfl) ?_
 refine h.rdI (B:=a7) 2 ?_
 refine ift (by rw [uj.role]; rfl) ?_
 refine h.rdGo (B:=a6) 3 2 ?_
 (repeat apply exi)
 apply exr
 refine h.rdGo (B:=a8) 0 2 ?_
 (repeat apply exi)
 apply exr
 refine RDB.eqN (I.idK0 == K.idK0 && (I.idK1 == K.idK1 && true)) (ift (by rw [ui.i0,ui.i1]; simp) ?_)
 refine h.rdGo (B:=a7) 3 2 ?_
 (repeat apply exi)
 apply exr
 refine h.rdGo (B:=a8) 0 2 ?_
 (repeat apply exi)
 apply exr
 refine RDB.eqN (J.idK0 == K.idK0 && (J.idK1 == K.idK1 && true)) (ift (by rw [uj.i0,uj.i1]; simp) ?_)
 refine nilc (h.rdP (B:=t) 0 (nilc (h.rdGo (B:=n.x) 0 9 ?_)))
 (repeat apply exi)
 apply exr
 refine h.rdG (B:=a8) ?_
 (repeat apply exi)
 apply exr
 refine RDB.eqN ((XA.keysIDK0 == K.idK0 && (XA.keysIDK1 == K.idK1 && true)) && ((XA.keysClientK0 == K.clientK0 && (XA.keysClientK1 == K.clientK1 && true)) && ((XA.keysServerK0 == K.serverK0 && (XA.keysServerK1 == K.serverK1 && true)) && ((XA.keysJoinK0 == K.joinK0 && (XA.keysJoinK1 == K.joinK1 && true)) && (XA.keysToken == K.token && true))))) (ift (by rw [<- kA]; simp [keysOf]) ?_)
 refine nilc (h.rdP (B:=t) 1 (nilc (h.rdGo (B:=n'.x) 0 9 ?_)))
 (repeat apply exi)
 apply exr
 refine h.rdG (B:=a8) ?_
 (repeat apply exi)
 apply exr
 refine RDB.eqN ((XB.keysIDK0 == K.idK0 && (XB.keysIDK1 == K.idK1 && true)) && ((XB.keysClientK0 == K.clientK0 && (XB.keysClientK1 == K.clientK1 && true)) && ((XB.keysServerK0 == K.serverK0 && (XB.keysServerK1 == K.serverK1 && true)) && ((XB.keysJoinK0 == K.joinK0 && (XB.keysJoinK1 == K.joinK1 && true)) && (XB.keysToken == K.token && true))))) (ift (by rw [<- kB]; simp [keysOf]) ?_)
 refine ift rfl (nilc (h.rdP (B:=t) 0 ?_))
 refine cflows_ok (x:=n.x) (X:=XA) (h.sub (.cons (.tail (.tail (.tail (.tail (.tail (.tail .head)))))) (.cons (.tail (.tail (.tail (.tail (.tail (.tail .head)))))) (.cons .head (.cons .head (.cons .head (.cons .head (.cons .head (.cons .head (.cons .head ((Sub.same _)))))))))))) uA.fl uA.flN fun O dd w' h => ?_
 (repeat apply exi)
 apply exr
 refine ift rfl ?_
 exact alive_ok h fun w' L' h => ⟨_,rfl,letb rfl (hk _ _ h)⟩
theorem tl_ok {g : Cfg} (hg : CfgOk g) {d : Dr} {t q q2 q3 a6 a7 : Nat} {n n' : Nms} {fA fA' : Option Addr} {fC fC' : Nat} {O1 O3 : Option Addr} {d1 k3 d3 : Nat} {XA XB : Cn} {I J : Inf} (uA : UpC g n fA fC 1 1000 80 (sessK d.ka d.kb) XA) (uB : UpC g n' fA' fC' 2 80 1000 (sessK d.ka d.kb) XB) (ui : UpI 1 1000 80 (sessK d.ka d.kb) I) (uj : UpI 2 80 1000 (sessK d.ka d.kb) J)
  (h : St c w (blk a6 53 (inf I) :: blk a7 53 (inf J) :: blk t 38 (twc (two g d (some ⟨n.x,0,none⟩) (some ⟨n'.x,0,none⟩) (some ⟨q,0,none⟩) O1 1 d1 O3 k3 d3)) :: blk q2 24 (cfg g) :: blk q3 30 (drc d) :: blk n.x 67 (cnc XA) :: own 99 1 fA 1 fC [.pointer (some ⟨n.f,0,none⟩)] :: blk n'.x 67 (cnc XB) :: L)) {Q : Value -> World -> Prop} (hk : ∀ w' L',St c w' L' -> Q (.bool true) w') : HandsTl ⟨q2,0,none⟩ ⟨q3,0,none⟩ ⟨a6,0,none⟩ ⟨a7,0,none⟩ (some ⟨t,0,none⟩) w Q:=by
 unfold HandsTl
 refine h.rdI (B:=q3) 0 (h.rdI (B:=q3) 1 ?_)
 exact session_ok h fun w' h => tl2_ok hg uA uB ui uj h hk
end
end Go.Br
