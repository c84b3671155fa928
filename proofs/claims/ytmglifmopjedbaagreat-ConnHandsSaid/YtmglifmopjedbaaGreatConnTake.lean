/- A segment that counts, with nothing new in it; the handshake's segments. -/
import Derived.Test.YtmglifmopjedbaaGreatNConnTake
import Derived.Test.YtmglifmopjedbaaGreatJConnPump
import Derived.Test.YtmglifmopjedbaaGreatSession
import Derived.Test.YtmglifmopjedbaaGreatJOptRead
set_option linter.unusedVariables false
set_option linter.unusedSimpArgs false
set_option linter.unnecessarySimpa false
namespace Go.Br
open Go
instance biConnTakea : Bld PG (Instr.build 185 #[]) (.agg #[.bool false,.bool false,.int .u64 0,.int .u64 0,.int .u32 0,.int .u64 0]):=⟨fun w => by kernel_rfl⟩
instance biConnTakeb : Zro PG 122 2 32 (.agg #[.int .u8 0,.slice none 0 0]):=⟨tiOf (by kernel_rfl)⟩
instance biConnTakec : Zro PG 185 6 40 (.agg #[.bool false,.bool false,.int .u64 0,.int .u64 0,.int .u32 0,.int .u64 0]):=⟨tiOf (by kernel_rfl)⟩
instance biConnTaked : Zro PG 128 3 24 (.agg #[.int .u64 0,.bool false,.int .u64 0]):=⟨tiOf (by kernel_rfl)⟩
attribute [local irreducible] Addr.add RD RDS RUN RUNU NILC LETB CALL CALLX CALLV
def coU (X : Cn) (i o y : Nat) : Cn:={ X with out:=some ⟨o,0,none⟩,inn:=some ⟨i,0,none⟩,way:=some ⟨y,0,none⟩ }
def fwU (F : Fw) (b : Nat) : Fw:={ F with trust:=some ⟨b,0,none⟩ }
structure Plain0 (X : Cn) (F : Fw) (s : Sg) (d : Dt) (ob : Int) : Prop where
 ok : SgOk s.pl
 cap : CapOk s
 ds : s.ds = []
 words : wordsS (hearK0 X F) (hearK1 X F) s.pl = []
 fin : d.fin = false
 probe : d.probe = false
 came : betweenN s.ack F.numAcked F.numNext = false
 ack : d.ack <= X.sent /\ d.ack <= ob
 seq : 0 <= d.seq /\ d.seq < 18446744073709551616
def edgeX (X : Cn) (d : Dt) : Int:=maxN X.edge (IntKind.u64.wrap (d.ack + IntKind.u64.wrap d.win))
section
variable {c : Ctx} {w : World} {L R : List SA} {i r D sp n o r2 D2 on y k x f b : Nat} {base e most obase ymost : Int} {kn gn : Bool} {v ov : List UInt8} {S : List Sp} {A : Option Addr} {C : List Ck} {X : Cn} {F : Fw} {qn ql qp : Int}
theorem putV_nil {base e f : Int} {kn : Bool} {v : List UInt8} {n : Nat} {most : Int} {S : List Sp} (hf : f < 18446744073709551616) : putV base e kn v n most S f [] = (v,n,S,true):=by
 unfold putV
 rw [if_neg (by simp; omega)]
 have hw : (!(decide (topI base e kn v.length < f + (([] : List UInt8).length : Int)) && decide (0 < (([] : List UInt8).length : Int)))) = true:=by simp
 simp only [hw,if_true]
 rw [if_pos]
 unfold maxN
 simp
 split <;> omega
theorem flowing0_ok {s : Sg} {d : Dt} (h : St c w (blk x 67 (cnc (coU X i o y)) :: blk f 111 (fwc (fwU F b)) :: blk b 220 [.int .i64 qn,.int .i64 ql,.int .i64 qp] :: il i r D sp base e kn v n most S (otP o r2 D2 obase false gn ov on (wyP y ymost A k C L))))
  (p0 : Plain0 X F s d obase) (hx3 : X.state = 3) (hs : SgIn L s) (hb : 0 <= base) (hb2 : base + v.length < 9223372036854775808) (hS : Sep S) (hl : S.length <= 1000) (hSt : ∀ x ∈ S,x.t <= base + v.length) (ho : 0 <= obase) (ho2 : obase + on < 18446744073709551616) (hse : obase + on <= X.sent) (hC : C.length <= 1000) (hL : C.find? Ck.lost = none) {Q : Value -> World -> Prop}
  (hk : ∀ w',St c w' (blk x 67 (cnc (coU { X with silence:=0,edge:=edgeX X d } i o y)) :: blk f 111 (fwc (fwU (cameF { F with quiet:=0,heard:=true } s.pl) b)) :: blk b 220 [.int .i64 (IntKind.i64.wrap (Int.tdiv qn 2)),.int .i64 ql,.int .i64 qp] :: il i r D sp base e kn v n most S (otP o r2 D2 obase false gn ov on (wyP y ymost A k C L))) -> Q (.tuple #[]) w') :
  CALL PG 154 [.pointer (some ⟨x,0,none⟩),.pointer (some ⟨f,0,none⟩),sgv s,dtcv d] w Q:=by
 obtain ⟨ok,cap,ds,words,fin,probe,came,ack,seq⟩:=p0
 refine call154 ?_
 unfold N154
 refine h.box (vs:=sgc s) fun q1 w' h => ?_
 refine h.box (vs:=dtc d) fun q2 w' h => nilc ?_
 refine h.st (B:=x) 45 fun w' h => nilc ?_
 refine h.st (B:=f) 21 fun w' h => nilc ?_
 refine h.st (B:=f) 22 fun w' h => nilc ?_
 have h : St c w' (blk f 111 (fwc (fwU { F with quiet:=0,heard:=true } b)) :: blk x 67 (cnc (coU { X with silence:=0 } i o y)) :: blk q2 185 (dtc d) :: blk q1 118 (sgc s) :: blk b 220 [.int .i64 qn,.int .i64 ql,.int .i64 qp] :: il i r D sp base e kn v n most S (otP o r2 D2 obase false gn ov on (wyP y ymost A k C L))):=h
 refine h.rdP (B:=f) 18 ?_
 refine good_ok2 (h.sub (show Sub _ (blk b 220 [.int .i64 qn,.int .i64 ql,.int .i64 qp] :: _) from (.cons (.tail (.tail (.tail (.tail .head)))) (.cons .head (.cons .head (.cons .head (.cons .head ((Sub.same _))))))))) fun w' h => ?_
 (repeat apply exi)
 apply exr
 generalize IntKind.i64.wrap (Int.tdiv qn 2) = qn' at hk h
 refine ⟨fun w => St c w (blk f 111 (fwc (fwU (cameF { F with quiet:=0,heard:=true } s.pl) b)) :: blk b 220 [.int .i64 qn',.int .i64 ql,.int .i64 qp] :: blk x 67 (cnc (coU { X with silence:=0 } i o y)) :: blk q2 185 (dtc d) :: blk q1 118 (sgc s) :: il i r D sp base e kn v n most S (otP o r2 D2 obase false gn ov on (wyP y ymost A k C L))),?_,?_⟩
 ·refine h.rdG (B:=q1) ?_
  (repeat apply exi)
  apply exr
  refine Go.Br.came_ok (F:=fwU { F with quiet:=0,heard:=true } b) (s:=s) (h.sub (show Sub _ (blk f 111 (fwc (fwU { F with quiet:=0,heard:=true } b)) :: _) from (.cons (.tail .head) (.cons .head (.cons .head (.cons .head (.cons .head ((Sub.same _))))))))) ok fun w' h => ?_
  (repeat apply exi)
  apply exr
  refine iff_ came ?_
  have e : cameF (fwU { F with quiet:=0,heard:=true } b) s.pl = fwU (cameF { F with quiet:=0,heard:=true } s.pl) b:=by
   unfold cameF fwU
   show (if betweenN s.ack F.numAcked F.numNext = true then _ else _) = _
   rw [if_neg (by rw [came]; decide)]
   show _ = { (if betweenN s.ack F.numAcked F.numNext = true then _ else _ : Fw) with trust:=some ⟨b,0,none⟩ }
   rw [if_neg (by rw [came]; decide)]
   rfl
  rw [e] at h
  exact h
 clear h
 intro w' h
 generalize hF' : fwU (cameF { F with quiet:=0,heard:=true } s.pl) b = F' at hk h ⊢
 refine h.rdG (B:=q2) ?_
 (repeat apply exi)
 apply exr
 refine cacked0_ok (X:={ X with silence:=0,inn:=some ⟨i,0,none⟩,way:=some ⟨y,0,none⟩ }) (o:=o) (d:=d) (base:=obase) (cl:=false) (gn:=gn) (P:=.pointer (some ⟨r2,0,none⟩)) (h.sub (show Sub _ (blk x 67 (cnc (coU { X with silence:=0 } i o y)) :: blk o 92 [.pointer (some ⟨r2,0,none⟩),.int .u64 obase,.bool false,.bool gn] :: blk q2 185 (dtc d) :: blk q1 118 (sgc s) :: blk f 111 (fwc F') :: blk b 220 [.int .i64 qn',.int .i64 ql,.int .i64 qp] :: il i r D sp base e kn v n most S (rng r2 D2 ov on :: wyP y ymost A k C L)) from (.cons (.tail (.tail .head)) (.cons (.tail (.tail (.tail (.tail (.tail (.tail (.tail .head))))))) (.cons (.tail (.tail .head)) (.cons (.tail (.tail .head)) (.cons .head (.cons .head (.cons .head (.cons .head (.cons .head ((Sub.same _))))))))))))) ack.1 ack.2 fun w' h => ?_
 (repeat apply exi)
 apply exr
 have h:=h.drew
 have h : St c _ (blk x 67 (cnc (coU { X with silence:=0,edge:=edgeX X d } i o y)) :: blk o 92 [.pointer (some ⟨r2,0,none⟩),.int .u64 obase,.bool false,.bool gn] :: blk q2 185 (dtc d) :: blk q1 118 (sgc s) :: blk f 111 (fwc F') :: blk b 220 [.int .i64 qn',.int .i64 ql,.int .i64 qp] :: il i r D sp base e kn v n most S (rng r2 D2 ov on :: wyP y ymost A k C L)):=h
 refine nilc (h.rdP (B:=x) 36 (h.rdI (B:=q2) 2 (h.rdL (B:=q1) 6 ?_)))
 rw [show s.ds.length = ([] : List UInt8).length by rw [ds]]
 have hdA : RdIn (blk x 67 (cnc (coU { X with silence:=0,edge:=edgeX X d } i o y)) :: blk o 92 [.pointer (some ⟨r2,0,none⟩),.int .u64 obase,.bool false,.bool gn] :: blk q2 185 (dtc d) :: blk q1 118 (sgc s) :: blk f 111 (fwc F') :: blk b 220 [.int .i64 qn',.int .i64 ql,.int .i64 qp] :: rng r2 D2 ov on :: wyP y ymost A k C L) s.dA (bvs []):=fun c w _ => Row.nil w _
 refine put_ok (h.sub (show Sub _ (il i r D sp base e kn v n most S (blk x 67 (cnc (coU { X with silence:=0,edge:=edgeX X d } i o y)) :: blk o 92 [.pointer (some ⟨r2,0,none⟩),.int .u64 obase,.bool false,.bool gn] :: blk q2 185 (dtc d) :: blk q1 118 (sgc s) :: blk f 111 (fwc F') :: blk b 220 [.int .i64 qn',.int .i64 ql,.int .i64 qp] :: rng r2 D2 ov on :: wyP y ymost A k C L)) from (.cons (.tail (.tail (.tail (.tail (.tail (.tail .head)))))) (.cons (.tail (.tail (.tail (.tail (.tail (.tail .head)))))) (.cons (.tail (.tail (.tail (.tail (.tail (.tail .head)))))) (.cons .head (.cons .head (.cons .head (.cons .head (.cons .head (.cons .head ((Sub.same _))))))))))))) hb hb2 hS hl hSt seq.1 seq.2 hdA (Nat.zero_le _) (by simp) fun w' h => ?_
 rw [putV_nil seq.2] at h ⊢
 (repeat apply exi)
 apply exr
 have h : St c w' (blk x 67 (cnc (coU { X with silence:=0,edge:=edgeX X d } i o y)) :: blk f 111 (fwc F') :: blk q2 185 (dtc d) :: blk q1 118 (sgc s) :: blk b 220 [.int .i64 qn',.int .i64 ql,.int .i64 qp] :: il i r D sp base e kn v n most S (otP o r2 D2 obase false gn ov on (wyP y ymost A k C L))):=h.sub (.cons (.tail (.tail (.tail .head))) (.cons (.tail (.tail (.tail (.tail (.tail (.tail .head)))))) (.cons (.tail (.tail (.tail (.tail .head)))) (.cons (.tail (.tail (.tail (.tail .head)))) (.cons (.tail (.tail (.tail (.tail .head)))) (.cons .head (.cons .head (.cons .head (.cons .head (.cons .head ((Sub.same _))))))))))))
 refine ⟨fun w => St c w (blk x 67 (cnc (coU { X with silence:=0,edge:=edgeX X d } i o y)) :: blk f 111 (fwc F') :: blk q2 185 (dtc d) :: blk q1 118 (sgc s) :: blk b 220 [.int .i64 qn',.int .i64 ql,.int .i64 qp] :: il i r D sp base e kn v n most S (otP o r2 D2 obase false gn ov on (wyP y ymost A k C L))),?_,?_⟩
 ·refine h.rdB (B:=q2) 0 ?_
  exact iff_ fin h
 clear h
 intro w' h
 have h:=h.drew
 refine ⟨fun w => St c w [blk q1 118 (sgc s)],h.sub (.cons (.tail (.tail (.tail .head))) (.nil)),?_⟩
 refine St.rdsG (B:=q1) ?_
 (repeat apply exi)
 apply exr
 refine hears_ok (X:=coU { X with silence:=0,edge:=edgeX X d } i o y) (F:=F') h fun w' h => ?_
 have eK : hearK0 (coU { X with silence:=0,edge:=edgeX X d } i o y) F' = hearK0 X F /\ hearK1 (coU { X with silence:=0,edge:=edgeX X d } i o y) F' = hearK1 X F:=by
  have hi : F'.id = F.id:=by
   rw [<- hF']
   unfold cameF fwU
   split <;> rfl
  unfold hearK0 hearK1
  rw [hi]
  exact ⟨rfl,rfl⟩
 rw [eK.1,eK.2]
 generalize hearK0 X F = k0 at words ⊢
 generalize hearK1 X F = k1 at words ⊢
 (repeat apply exi)
 apply exr
 refine ⟨_,fun _ h => h,h.sub (.cons (.tail (.tail (.tail .head))) (.nil)),?_⟩
 refine words_ok (s:=s) (k0:=k0) (k1:=k1) h hs.more.more.more.more.more.more.more.more.more.more.more.more ok cap fun O dd w' h => ?_
 rw [words] at h ⊢
 (repeat apply exi)
 apply exr
 refine ⟨fun m z w => m = 0 /\ z = 0 /\ St c w (blk x 67 (cnc (coU { X with silence:=0,edge:=edgeX X d } i o y)) :: blk f 111 (fwc F') :: blk q2 185 (dtc d) :: blk q1 118 (sgc s) :: blk b 220 [.int .i64 qn',.int .i64 ql,.int .i64 qp] :: il i r D sp base e kn v n most S (otP o r2 D2 obase false gn ov on (wyP y ymost A k C L))),⟨0,rfl,rfl,h.drop⟩,?_⟩
 clear h
 rintro m z w' ⟨rfl,rfl,h⟩
 refine ifdf (by show ¬ ((0 : Int) < 0); decide) (nilc ?_)
 refine h.rdI (B:=x) 25 ?_
 refine ifq (fun e => ?_) fun _ => ?_
 ·have e : X.state = 4:=e
  omega
 refine h.rdL (B:=q1) 6 ?_
 refine ifdf (by rw [ds]; decide) ?_
 refine h.rdB (B:=q2) 0 (iff_ fin ?_)
 refine h.rdB (B:=q2) 1 (iff_ probe ?_)
 refine pump0_ok (X:={ X with silence:=0,edge:=edgeX X d,inn:=some ⟨i,0,none⟩ }) (h.sub (show Sub _ (blk x 67 (cnc (coU { X with silence:=0,edge:=edgeX X d } i o y)) :: otP o r2 D2 obase false gn ov on (wyP y ymost A k C (blk f 111 (fwc F') :: blk b 220 [.int .i64 qn',.int .i64 ql,.int .i64 qp] :: il i r D sp base e kn v n most S L))) from (.cons .head (.cons (.tail (.tail (.tail (.tail (.tail (.tail (.tail .head))))))) (.cons (.tail (.tail (.tail (.tail (.tail (.tail (.tail .head))))))) (.cons (.tail (.tail (.tail (.tail (.tail (.tail (.tail .head))))))) (.cons (.tail (.tail (.tail (.tail (.tail (.tail (.tail .head))))))) (.cons .head (.cons (.tail (.tail .head)) (.cons (.tail (.tail .head)) (.cons (.tail (.tail .head)) (.cons (.tail (.tail .head)) ((Sub.same _).more.more))))))))))))) ho ho2 hse hC hL fun w' h => ?_
 (repeat apply exi)
 apply exr
 exact hk _ (h.sub (.cons .head (.cons (.tail (.tail (.tail (.tail .head)))) (.cons (.tail (.tail (.tail (.tail .head)))) (.cons (.tail (.tail (.tail (.tail .head)))) (.cons (.tail (.tail (.tail (.tail .head)))) (.cons (.tail (.tail (.tail (.tail .head)))) (.cons .head (.cons .head (.cons .head (.cons .head ((Sub.same _)))))))))))))
structure Std (base obase : Int) (v ov : List UInt8) (on : Nat) (S : List Sp) (C : List Ck) (X : Cn) : Prop where
 base0 : 0 <= base
 base1 : base + v.length < 9223372036854775808
 sep : Sep S
 len : S.length <= 1000
 top : ∀ x ∈ S,x.t <= base + v.length
 obase0 : 0 <= obase
 obase1 : obase + on < 18446744073709551616
 all : obase + on <= X.sent
 sent : 0 <= X.sent /\ X.sent < 18446744073709551616
 many : C.length <= 1000
 lost : C.find? Ck.lost = none
theorem passHalf_ok {s : Sg} {d : Dt} {ps : List Pkt} (h : St c w (blk x 67 (cnc (coU X i o y)) :: blk f 111 (fwc (fwU F b)) :: own 115 2 X.post X.postN X.postC (ps.flatMap pkc) :: bodP ps :: blk b 220 [.int .i64 qn,.int .i64 ql,.int .i64 qp] :: il i r D sp base e kn v n most S (otP o r2 D2 obase false gn ov on (wyP y ymost A k C L))))
  (h2 : F.numState = 2) (hsy : hasF s.flags 1 = false) (p0 : Plain0 X (sentF (riseF F) (plainS (riseF F) [])) s d obase) (hs : SgIn L s) (std : Std base obase v ov on S C X) (hF : FwU (riseF F)) (hn : X.postN <= 100000) {Q : Value -> World -> Prop}
  (hk : ∀ O dd p w',p.path = F.path -> PkEq p (encB (wordS X (riseF F) (headD X base e kn v n false))) ->
   St c w' (blk x 67 (cnc (coU { X with state:=3,silence:=0,edge:=edgeX X d,post:=O,postN:=X.postN + 1,postC:=dd } i o y)) :: blk f 111 (fwc (fwU (cameF { sentF (riseF F) (plainS (riseF F) []) with quiet:=0,heard:=true } s.pl) b)) :: own 115 2 O (X.postN + 1) dd ((ps ++ [p]).flatMap pkc) :: bodP (ps ++ [p]) :: blk b 220 [.int .i64 (IntKind.i64.wrap (Int.tdiv qn 2)),.int .i64 ql,.int .i64 qp] :: il i r D sp base e kn v n most S (otP o r2 D2 obase false gn ov on (wyP y ymost A k C L))) -> Q (.int .i64 1) w') :
  CALL PG 94 [.pointer (some ⟨x,0,none⟩),.pointer (some ⟨f,0,none⟩),sgv s,dtcv d] w Q:=by
 have hfl : 0 <= s.flags /\ s.flags <= 7:=p0.ok.flags
 obtain ⟨f1,_,_⟩:=and_flag (x:=s.flags) hfl.1 (by omega)
 refine call94 ?_
 unfold N94
 refine h.box (vs:=sgc s) fun q1 w' h => ?_
 refine h.box (vs:=dtc d) fun q2 w' h => nilc ?_
 refine h.rdI2 (B:=f) 0 0 ?_
 refine letb rfl (ifq (fun e => ?_) fun _ => ?_)
 ·have e : F.numState = 1:=e
  omega
 refine letb rfl (ifq (fun _ => ?_) fun e => absurd h2 e)
 refine h.rdI (B:=q1) 4 ?_
 rw [f1,hsy]
 refine iff_ rfl ?_
 refine rise_ok (F:=fwU F b) (h.sub (show Sub _ (blk f 111 (fwc (fwU F b)) :: _) from (.cons (.tail (.tail (.tail .head))) (.cons .head (.cons .head (.cons .head ((Sub.same _)))))))) fun w' h => ?_
 (repeat apply exi)
 apply exr
 refine nilc ?_
 refine h.st (B:=x) 25 fun w' h => ?_
 have h : St c w' (blk x 67 (cnc { coU { X with state:=3 } i o y with inn:=some ⟨i,0,none⟩ }) :: blk f 111 (fwc (fwU (riseF F) b)) :: blk q2 185 (dtc d) :: blk q1 118 (sgc s) :: own 115 2 X.post X.postN X.postC (ps.flatMap pkc) :: bodP ps :: blk b 220 [.int .i64 qn,.int .i64 ql,.int .i64 qp] :: il i r D sp base e kn v n most S (otP o r2 D2 obase false gn ov on (wyP y ymost A k C L))):=h
 generalize hR : riseF F = F1 at p0 hF hk h
 have hp1 : F1.path = F.path:=by rw [<- hR]; rfl
 refine word0_ok (X:=coU { X with state:=3 } i o y) (F:=fwU F1 b) (probe:=false) (h.sub (show Sub _ (blk x 67 (cnc { coU { X with state:=3 } i o y with inn:=some ⟨i,0,none⟩ }) :: blk f 111 (fwc (fwU F1 b)) :: own 115 2 X.post X.postN X.postC (ps.flatMap pkc) :: bodP ps :: il i r D sp base e kn v n most S (blk q2 185 (dtc d) :: blk q1 118 (sgc s) :: blk b 220 [.int .i64 qn,.int .i64 ql,.int .i64 qp] :: otP o r2 D2 obase false gn ov on (wyP y ymost A k C L))) from (.cons .head (.cons .head (.cons (.tail (.tail .head)) (.cons (.tail (.tail .head)) (.cons (.tail (.tail (.tail .head))) (.cons (.tail (.tail (.tail .head))) (.cons (.tail (.tail (.tail .head))) (.cons .head (.cons .head (.cons .head ((Sub.same _)))))))))))))) ⟨hF.loc,hF.rem,hF.next,hF.wait⟩ std.sent hn std.base0 (by have:=std.base1; omega) fun O dd p w' e1 e2 h => ⟨rfl,?_⟩
 have e2 : PkEq p (encB (wordS X F1 (headD X base e kn v n false))):=e2
 have h : St c w' (blk x 67 (cnc (coU { X with state:=3,post:=O,postN:=X.postN + 1,postC:=dd } i o y)) :: blk f 111 (fwc (fwU (sentF F1 (plainS F1 [])) b)) :: own 115 2 O (X.postN + 1) dd ((ps ++ [p]).flatMap pkc) :: bodP (ps ++ [p]) :: il i r D sp base e kn v n most S (blk q2 185 (dtc d) :: blk q1 118 (sgc s) :: blk b 220 [.int .i64 qn,.int .i64 ql,.int .i64 qp] :: otP o r2 D2 obase false gn ov on (wyP y ymost A k C L))):=h
 refine h.rdG (B:=q1) ?_
 (repeat apply exi)
 apply exr
 refine h.rdG (B:=q2) ?_
 (repeat apply exi)
 apply exr
 refine flowing0_ok (X:={ X with state:=3,post:=O,postN:=X.postN + 1,postC:=dd }) (F:=sentF F1 (plainS F1 [])) (s:=s) (d:=d) (h.sub (show Sub _ (blk x 67 (cnc (coU { X with state:=3,post:=O,postN:=X.postN + 1,postC:=dd } i o y)) :: blk f 111 (fwc (fwU (sentF F1 (plainS F1 [])) b)) :: blk b 220 [.int .i64 qn,.int .i64 ql,.int .i64 qp] :: il i r D sp base e kn v n most S (otP o r2 D2 obase false gn ov on (wyP y ymost A k C (own 115 2 O (X.postN + 1) dd ((ps ++ [p]).flatMap pkc) :: bodP (ps ++ [p]) :: L)))) from (.cons .head (.cons .head (.cons (.tail (.tail (.tail (.tail (.tail (.tail (.tail .head))))))) (.cons (.tail (.tail .head)) (.cons (.tail (.tail .head)) (.cons (.tail (.tail .head)) (.cons (.tail (.tail (.tail (.tail .head)))) (.cons (.tail (.tail (.tail (.tail .head)))) (.cons (.tail (.tail (.tail (.tail .head)))) (.cons (.tail (.tail (.tail (.tail .head)))) (.cons .head (.cons .head ((Sub.same _).more.more))))))))))))))) ⟨p0.ok,p0.cap,p0.ds,p0.words,p0.fin,p0.probe,p0.came,p0.ack,p0.seq⟩ rfl hs.more.more std.base0 std.base1 std.sep std.len std.top std.obase0 std.obase1 std.all std.many std.lost fun w' h => ⟨rfl,?_⟩
 exact hk O dd p _ (e1.trans hp1) e2 (h.sub (.cons .head (.cons .head (.cons (.tail (.tail (.tail (.tail (.tail (.tail (.tail (.tail .head)))))))) (.cons (.tail (.tail (.tail (.tail (.tail (.tail (.tail (.tail .head)))))))) (.cons .head (.cons .head (.cons .head (.cons .head (.cons .head (.cons .head (.cons .head (.cons .head ((Sub.same _)))))))))))))))
def coK (X : Cn) (K : Ks) (kB : Int) : Cn:={ X with theirs:=kB,keyed:=true,state:=3,keysIDK0:=K.idK0,keysIDK1:=K.idK1,keysClientK0:=K.clientK0,keysClientK1:=K.clientK1,keysServerK0:=K.serverK0,keysServerK1:=K.serverK1,keysJoinK0:=K.joinK0,keysJoinK1:=K.joinK1,keysToken:=K.token }
structure Ans0 (X : Cn) (s : Sg) (kB : Int) : Prop where
 ok : SgOk s.pl
 cap : CapOk s
 key : 0 <= kB /\ kB < 18446744073709551616
 os : ∃ t,(0 <= t /\ t < 18446744073709551616) /\ s.pl.os = [(1,keyB kB t true)] /\ tagS (pair1 X.mine kB ansB) (pair2 X.mine kB ansB) s.pl (1,keyB kB t true) = t
theorem canswered_ok {s : Sg} {kB : Int} {ps : List Pkt} (h : St c w (blk x 67 (cnc (coU X i o y)) :: blk f 111 (fwc F) :: own 115 2 X.post X.postN X.postC (ps.flatMap pkc) :: bodP ps :: il i r D sp base e kn v n most S (otP o r2 D2 obase false gn ov on (wyP y ymost A k C L))))
  (hf : F.fst = true) (a0 : Ans0 X s kB) (hs : SgIn L s) (std : Std base obase v ov on S C X) (hF : FwU (answF F s.seq)) (hn : X.postN <= 100000) {Q : Value -> World -> Prop}
  (hk : ∀ O dd p w',p.path = F.path -> PkEq p (encB (wordS (coK X (sessK X.mine kB) kB) (answF F s.seq) (headD X base e kn v n false))) ->
   St c w' (blk x 67 (cnc (coU (coK { X with silence:=0,post:=O,postN:=X.postN + 1,postC:=dd } (sessK X.mine kB) kB) i o y)) :: blk f 111 (fwc (sentF (answF F s.seq) (plainS (answF F s.seq) []))) :: own 115 2 O (X.postN + 1) dd ((ps ++ [p]).flatMap pkc) :: bodP (ps ++ [p]) :: il i r D sp base e kn v n most S (otP o r2 D2 obase false gn ov on (wyP y ymost A k C L))) -> Q (.int .i64 1) w') :
  CALL PG 152 [.pointer (some ⟨x,0,none⟩),.pointer (some ⟨f,0,none⟩),sgv s] w Q:=by
 obtain ⟨ok,cap,hkB,t,ht,hos,htag⟩:=a0
 obtain ⟨ko,so⟩ : ∃ ko,s.os = [ko]:=by
  have hos : s.os.map opl = [(1,keyB kB t true)]:=hos
  cases hc : s.os with
  | nil => rw [hc] at hos; cases hos
  | cons z l =>
   rw [hc] at hos
   cases l with
   | nil => exact ⟨z,rfl⟩
   | cons z2 l => simp at hos
 have ho2 : opl ko = (1,keyB kB t true):=by
  have hos : s.os.map opl = [(1,keyB kB t true)]:=hos
  rw [so] at hos
  injection hos
 have o1 : ko.kind = 1:=congrArg Prod.fst ho2
 have o2 : ko.bodys = keyB kB t true:=congrArg Prod.snd ho2
 have hl16 : ko.bodys.length = 16:=by rw [o2]; simp [keyB,beB_length]
 have hom : ko ∈ s.os:=by rw [so]; exact List.mem_singleton.2 rfl
 have d1 : (beN (ko.bodys.take 8) : Int) = kB:=by
  rw [o2]
  unfold keyB
  rw [if_pos rfl,List.take_left' (by simp [beB_length])]
  exact beN_beB 8 hkB.1 (by simpa using hkB.2)
 have d2 : (beN (ko.bodys.drop 8) : Int) = t:=by
  rw [o2]
  unfold keyB
  rw [if_pos rfl,List.drop_left' (by simp [beB_length])]
  exact beN_beB 8 ht.1 (by simpa using ht.2)
 refine call152 ?_
 unfold N152
 refine h.box (vs:=sgc s) fun q1 w' h => ?_
 refine ⟨fun w => St c w (blk q1 118 (sgc s) :: blk x 67 (cnc (coU (coK X (sessK X.mine kB) kB) i o y)) :: blk f 111 (fwc F) :: own 115 2 X.post X.postN X.postC (ps.flatMap pkc) :: bodP ps :: il i r D sp base e kn v n most S (otP o r2 D2 obase false gn ov on (wyP y ymost A k C L))),?_,?_⟩
 ·refine nilc (h.rdB (B:=f) 14 (ift hf ?_))
  refine h.rdG (B:=q1) ?_
  (repeat apply exi)
  apply exr
  have hs1:=hs.more (X:=own 202 9 A C.length k (C.flatMap ckc)) |>.more (X:=blk y 155 [.int .i64 ymost,.slice A C.length k]) |>.more (X:=rng r2 D2 ov on) |>.more (X:=blk o 92 [.pointer (some ⟨r2,0,none⟩),.int .u64 obase,.bool false,.bool gn]) |>.more (X:=sset sp most S) |>.more (X:=rng r D v n) |>.more (X:=Br.blk i 95 [.pointer (some ⟨r,0,none⟩),.pointer (some ⟨sp,0,none⟩),.int .u64 base,.int .u64 e,.bool kn]) |>.more (X:=bodP ps) |>.more (X:=own 115 2 X.post X.postN X.postC (ps.flatMap pkc)) |>.more (X:=blk f 111 (fwc F)) |>.more (X:=blk x 67 (cnc (coU X i o y))) |>.more (X:=blk q1 118 (sgc s))
  refine one_ok (s:=s) h hs1 (by rw [so]; simp) (fun o' w' ho h => ?_) (fun hno => absurd (by rw [so]; simp [ofKind,o1]) hno)
  obtain rfl : o' = ko:=by
   rw [so] at ho
   simp [ofKind,o1] at ho
   exact ho.symm
  (repeat apply exi)
  apply exr
  refine h.allocZ fun q2 w' h => ?_
  refine h.stG (B:=q2) (fun w' h => ?_) (hl:=by rfl)
  refine letb rfl (h.rdG (B:=q2) ?_)
  (repeat apply exi)
  apply exr
  have hbo:=(hs1.opt hom).more (X:=blk q2 122 (opx o'))
  refine pkey_ok h hbo (cap o' hom) (by omega) (fun _ e => by omega) (fun _ _ w' h => ?_) (fun e => by omega)
  (repeat apply exi)
  apply exr
  refine h.allocZ fun q3 w' h => ?_
  refine h.stG (B:=q3) (fun w' h => ?_) (hl:=by rfl)
  rw [d1,d2] at h
  refine letb rfl ?_
  have h:=h.drew
  refine ⟨fun w => St c w [blk q3 128 [.int .u64 kB,.bool true,.int .u64 t],blk q2 122 (opx o'),blk q1 118 (sgc s),blk x 67 (cnc (coU X i o y))],h.sub (.cons .head (.cons .head (.cons .head (.cons .head (.nil))))),?_⟩
  refine iff_ rfl (iff_ rfl ?_)
  refine St.rdsB (B:=q3) 1 (iff_ rfl (nilc ?_))
  refine St.rdsI (B:=x) 27 (St.rdsI (B:=q3) 0 ?_)
  refine St.rdsG (B:=q1) ?_
  (repeat apply exi)
  apply exr
  refine St.rdsG (B:=q2) ?_
  (repeat apply exi)
  apply exr
  refine St.rdsI2 (B:=q3) 2 0 ?_
  refine handshake_ok h fun w' h => ?_
  have htag' : tagS (pair1 (coU X i o y).mine kB ansB) (pair2 (coU X i o y).mine kB ansB) s.pl (opl o') = t:=by rw [ho2]; exact htag
  generalize pair1 (coU X i o y).mine kB ansB = u at htag' ⊢
  generalize pair2 (coU X i o y).mine kB ansB = u2 at htag' ⊢
  (repeat apply exi)
  apply exr
  refine ⟨_,fun _ h => h,h.sub (.cons .head (.cons .head (.cons .head (.cons .head (.nil))))),?_⟩
  refine right_ok2 (s:=s) h hs1.more.more ok hbo.more (cap o' hom) (by rw [o1]; decide) (by omega) fun w' h => ?_
  (repeat apply exi)
  apply exr
  refine iff_ (by rw [htag']; simp) ?_
  refine h.rdI (B:=q3) 0 (nilc ?_)
  refine h.st (B:=x) 28 fun w' h => nilc ?_
  refine h.st (B:=x) 29 fun w' h => nilc ?_
  have h:=h.drew
  refine h.rdI (B:=x) 27 (h.rdI (B:=q3) 0 ?_)
  refine session_ok h fun w' h => ?_
  rw [show (coU X i o y).mine = X.mine from rfl]
  generalize sessK X.mine kB = K at hk ⊢
  (repeat apply exi)
  apply exr
  refine nilc ?_
  refine h.stGo (B:=x) 0 (vs:=ksc K) (fun w' h => nilc ?_)
  refine h.st (B:=x) 25 fun w' h => ?_
  exact h.sub (.cons (.tail (.tail (.tail .head))) (.cons .head ((Sub.same _).more.more)))
 clear h
 intro w' h
 refine h.rdI (B:=q1) 2 ?_
 refine answered_ok (F:=F) (h.sub (show Sub _ (blk f 111 (fwc F) :: _) from (.cons (.tail (.tail .head)) (.cons .head (.cons .head ((Sub.same _))))))) fun w' h => ⟨rfl,nilc ?_⟩
 refine h.st (B:=x) 45 fun w' h => ?_
 generalize hA : answF F s.seq = F1 at hF hk h
 generalize sessK X.mine kB = K at hk h
 have hp1 : F1.path = F.path:=by rw [<- hA]; rfl
 have h : St c w' (blk x 67 (cnc { coU (coK { X with silence:=0 } K kB) i o y with inn:=some ⟨i,0,none⟩ }) :: blk f 111 (fwc F1) :: blk q1 118 (sgc s) :: own 115 2 X.post X.postN X.postC (ps.flatMap pkc) :: bodP ps :: il i r D sp base e kn v n most S (otP o r2 D2 obase false gn ov on (wyP y ymost A k C L))):=h
 refine word0_ok (X:=coU (coK { X with silence:=0 } K kB) i o y) (F:=F1) (ps:=ps) (probe:=false) (h.sub (show Sub _ (blk x 67 (cnc { coU (coK { X with silence:=0 } K kB) i o y with inn:=some ⟨i,0,none⟩ }) :: blk f 111 (fwc F1) :: own 115 2 X.post X.postN X.postC (ps.flatMap pkc) :: bodP ps :: il i r D sp base e kn v n most S (blk q1 118 (sgc s) :: otP o r2 D2 obase false gn ov on (wyP y ymost A k C L))) from (.cons .head (.cons .head (.cons (.tail .head) (.cons (.tail .head) (.cons (.tail .head) (.cons (.tail .head) (.cons (.tail .head) (.cons .head ((Sub.same _)))))))))))) hF std.sent hn std.base0 (by have:=std.base1; omega) fun O dd p w' e1 e2 h => ⟨rfl,?_⟩
 have e2 : PkEq p (encB (wordS (coK X K kB) F1 (headD X base e kn v n false))):=e2
 have h : St c w' (blk x 67 (cnc (coU (coK { X with silence:=0,post:=O,postN:=X.postN + 1,postC:=dd } K kB) i o y)) :: blk f 111 (fwc (sentF F1 (plainS F1 []))) :: own 115 2 O (X.postN + 1) dd ((ps ++ [p]).flatMap pkc) :: bodP (ps ++ [p]) :: il i r D sp base e kn v n most S (blk q1 118 (sgc s) :: otP o r2 D2 obase false gn ov on (wyP y ymost A k C L))):=h
 refine pump0_ok (X:=coU (coK { X with silence:=0,post:=O,postN:=X.postN + 1,postC:=dd } K kB) i o y) (h.sub (show Sub _ (blk x 67 (cnc (coU (coK { X with silence:=0,post:=O,postN:=X.postN + 1,postC:=dd } K kB) i o y)) :: otP o r2 D2 obase false gn ov on (wyP y ymost A k C (blk f 111 (fwc (sentF F1 (plainS F1 []))) :: own 115 2 O (X.postN + 1) dd ((ps ++ [p]).flatMap pkc) :: bodP (ps ++ [p]) :: il i r D sp base e kn v n most S L))) from (.cons .head (.cons (.tail (.tail (.tail (.tail (.tail (.tail (.tail .head))))))) (.cons (.tail (.tail (.tail (.tail (.tail (.tail (.tail .head))))))) (.cons (.tail (.tail (.tail (.tail (.tail (.tail (.tail .head))))))) (.cons (.tail (.tail (.tail (.tail (.tail (.tail (.tail .head))))))) (.cons .head (.cons .head (.cons .head (.cons .head (.cons .head (.cons .head ((Sub.same _).more)))))))))))))) std.obase0 std.obase1 std.all std.many std.lost fun w' h => ⟨rfl,?_⟩
 exact hk O dd p _ (e1.trans hp1) e2 (h.sub (.cons .head (.cons (.tail (.tail (.tail (.tail .head)))) (.cons (.tail (.tail (.tail (.tail .head)))) (.cons (.tail (.tail (.tail (.tail .head)))) (.cons (.tail (.tail (.tail (.tail .head)))) (.cons (.tail (.tail (.tail (.tail .head)))) (.cons (.tail (.tail (.tail (.tail .head)))) (.cons .head (.cons .head (.cons .head (.cons .head ((Sub.same _))))))))))))))
def nmOf (F : Fw) : Nm:=⟨F.numState,F.numFirst,F.numAcked,F.numNext,F.numWait⟩
theorem sgNm {s : Sg} (ok : SgOk s.pl) : SgNm s:=⟨ok.seq,ok.ack,ok.flags.1,by have : s.flags <= 7:=ok.flags.2; omega⟩
theorem takeOpen_ok {s : Sg} {kB : Int} {ps : List Pkt} (h : St c w (blk x 67 (cnc (coU X i o y)) :: blk f 111 (fwc F) :: own 115 2 X.post X.postN X.postC (ps.flatMap pkc) :: bodP ps :: il i r D sp base e kn v n most S (otP o r2 D2 obase false gn ov on (wyP y ymost A k C L))))
  (hky : X.keyed = false) (hj : jd (nmOf F) s false = 1) (h1 : F.numState = 1) (hf : F.fst = true) (a0 : Ans0 X s kB) (hs : SgIn L s) (std : Std base obase v ov on S C X) (hF : FwU (answF F s.seq)) (hn : X.postN <= 100000) {Q : Value -> World -> Prop}
  (hk : ∀ O dd p w',p.path = F.path -> PkEq p (encB (wordS (coK X (sessK X.mine kB) kB) (answF F s.seq) (headD X base e kn v n false))) ->
   St c w' (blk x 67 (cnc (coU (coK { X with silence:=0,post:=O,postN:=X.postN + 1,postC:=dd } (sessK X.mine kB) kB) i o y)) :: blk f 111 (fwc (sentF (answF F s.seq) (plainS (answF F s.seq) []))) :: own 115 2 O (X.postN + 1) dd ((ps ++ [p]).flatMap pkc) :: bodP (ps ++ [p]) :: il i r D sp base e kn v n most S (otP o r2 D2 obase false gn ov on (wyP y ymost A k C L))) -> Q (.int .i64 1) w') :
  CALL PG 46 [.pointer (some ⟨x,0,none⟩),.pointer (some ⟨f,0,none⟩),sgv s] w Q:=by
 refine call46 ?_
 unfold N46
 refine h.box (vs:=sgc s) fun q1 w' h => ?_
 refine RD.bld ?_
 (repeat apply exi)
 apply exr
 refine h.allocZ fun q2 w' h => ?_
 refine h.stG (B:=q2) fun w' h => ?_
 have h : St c w' (blk q2 185 (dtc dt0) :: blk q1 118 (sgc s) :: blk x 67 (cnc (coU X i o y)) :: blk f 111 (fwc F) :: own 115 2 X.post X.postN X.postC (ps.flatMap pkc) :: bodP ps :: il i r D sp base e kn v n most S (otP o r2 D2 obase false gn ov on (wyP y ymost A k C L))):=h
 refine ⟨fun b w => b = false /\ St c w (blk q2 185 (dtc dt0) :: blk q1 118 (sgc s) :: blk x 67 (cnc (coU X i o y)) :: blk f 111 (fwc F) :: own 115 2 X.post X.postN X.postC (ps.flatMap pkc) :: bodP ps :: il i r D sp base e kn v n most S (otP o r2 D2 obase false gn ov on (wyP y ymost A k C L))),?_,?_⟩
 ·exact nilc (h.rdB (B:=x) 29 (iff_ hky ⟨rfl,h⟩))
 clear h
 rintro bb w' ⟨rfl,h⟩
 have h:=h.drew
 refine nilc (h.rdGo (B:=f) 0 5 ?_)
 (repeat apply exi)
 apply exr
 refine h.rdG (B:=q1) ?_
 (repeat apply exi)
 apply exr
 refine judge_ok (n:=nmOf F) (s:=s) (b:=false) h (sgNm a0.ok) fun w' h => ?_
 rw [hj]
 (repeat apply exi)
 apply exr
 refine letb rfl (iff_ rfl (letb rfl (iff_ rfl (letb rfl (iff_ rfl (letb rfl (ift rfl ?_)))))))
 refine h.rdG (B:=q1) ?_
 (repeat apply exi)
 apply exr
 refine h.rdG (B:=q2) ?_
 (repeat apply exi)
 apply exr
 refine call94 ?_
 unfold N94
 refine h.box (vs:=sgc s) fun q3 w' h => ?_
 refine h.box (vs:=dtc dt0) fun q4 w' h => nilc ?_
 refine h.rdI2 (B:=f) 0 0 ?_
 refine letb rfl (ifq (fun _ => ?_) fun e => absurd h1 e)
 refine h.rdG (B:=q3) ?_
 (repeat apply exi)
 apply exr
 refine canswered_ok (X:=X) (F:=F) (s:=s) (kB:=kB) (ps:=ps) (h.sub (show Sub _ (blk x 67 (cnc (coU X i o y)) :: blk f 111 (fwc F) :: own 115 2 X.post X.postN X.postC (ps.flatMap pkc) :: bodP ps :: il i r D sp base e kn v n most S (otP o r2 D2 obase false gn ov on (wyP y ymost A k C L))) from (.cons (.tail (.tail (.tail (.tail .head)))) (.cons (.tail (.tail (.tail (.tail .head)))) (.cons (.tail (.tail (.tail (.tail .head)))) (.cons (.tail (.tail (.tail (.tail .head)))) ((Sub.same _).more.more.more.more))))))) hf a0 hs std hF hn fun O dd p w' e1 e2 h => ⟨_,rfl,leti rfl ⟨_,rfl,leti rfl (hk O dd p _ e1 e2 h)⟩⟩
theorem takeHalf_ok {s : Sg} {d : Dt} {ps : List Pkt} (h : St c w (blk x 67 (cnc (coU X i o y)) :: blk f 111 (fwc (fwU F b)) :: own 115 2 X.post X.postN X.postC (ps.flatMap pkc) :: bodP ps :: blk b 220 [.int .i64 qn,.int .i64 ql,.int .i64 qp] :: il i r D sp base e kn v n most S (otP o r2 D2 obase false gn ov on (wyP y ymost A k C L))))
  (hky : X.keyed = true) (hop : openS (hearK0 X F) (hearK1 X F) s.pl = some d) (hj : jd (nmOf F) s true = 1)
  (h2 : F.numState = 2) (hsy : hasF s.flags 1 = false) (p0 : Plain0 X (sentF (riseF F) (plainS (riseF F) [])) s d obase) (hs : SgIn L s) (std : Std base obase v ov on S C X) (hF : FwU (riseF F)) (hn : X.postN <= 100000) {Q : Value -> World -> Prop}
  (hk : ∀ O dd p w',p.path = F.path -> PkEq p (encB (wordS X (riseF F) (headD X base e kn v n false))) ->
   St c w' (blk x 67 (cnc (coU { X with state:=3,silence:=0,edge:=edgeX X d,post:=O,postN:=X.postN + 1,postC:=dd } i o y)) :: blk f 111 (fwc (fwU (cameF { sentF (riseF F) (plainS (riseF F) []) with quiet:=0,heard:=true } s.pl) b)) :: own 115 2 O (X.postN + 1) dd ((ps ++ [p]).flatMap pkc) :: bodP (ps ++ [p]) :: blk b 220 [.int .i64 (IntKind.i64.wrap (Int.tdiv qn 2)),.int .i64 ql,.int .i64 qp] :: il i r D sp base e kn v n most S (otP o r2 D2 obase false gn ov on (wyP y ymost A k C L))) -> Q (.int .i64 1) w') :
  CALL PG 46 [.pointer (some ⟨x,0,none⟩),.pointer (some ⟨f,0,none⟩),sgv s] w Q:=by
 refine call46 ?_
 unfold N46
 refine h.box (vs:=sgc s) fun q1 w' h => ?_
 refine RD.bld ?_
 (repeat apply exi)
 apply exr
 refine h.allocZ fun q2 w' h => ?_
 refine h.stG (B:=q2) fun w' h => ?_
 have h : St c w' (blk q2 185 (dtc dt0) :: blk q1 118 (sgc s) :: blk x 67 (cnc (coU X i o y)) :: blk f 111 (fwc (fwU F b)) :: own 115 2 X.post X.postN X.postC (ps.flatMap pkc) :: bodP ps :: blk b 220 [.int .i64 qn,.int .i64 ql,.int .i64 qp] :: il i r D sp base e kn v n most S (otP o r2 D2 obase false gn ov on (wyP y ymost A k C L))):=h
 refine ⟨fun bb w => bb = true /\ St c w (blk q2 185 (dtc d) :: blk q1 118 (sgc s) :: blk x 67 (cnc (coU X i o y)) :: blk f 111 (fwc (fwU F b)) :: own 115 2 X.post X.postN X.postC (ps.flatMap pkc) :: bodP ps :: blk b 220 [.int .i64 qn,.int .i64 ql,.int .i64 qp] :: il i r D sp base e kn v n most S (otP o r2 D2 obase false gn ov on (wyP y ymost A k C L))),?_,?_⟩
 ·refine nilc (h.rdB (B:=x) 29 (ift hky ?_))
  have h:=h.drew
  refine ⟨fun w => St c w [blk q1 118 (sgc s)],h.sub (.cons (.tail .head) (.nil)),?_⟩
  refine St.rdsG (B:=q1) ?_
  (repeat apply exi)
  apply exr
  refine hears_ok (X:=coU X i o y) (F:=fwU F b) (h.sub (show Sub _ (blk x 67 (cnc (coU X i o y)) :: blk f 111 (fwc (fwU F b)) :: _) from (.cons (.tail (.tail .head)) (.cons (.tail (.tail .head)) (.cons .head (.cons .head ((Sub.same _)))))))) fun w' h => ?_
  rw [show hearK0 (coU X i o y) (fwU F b) = hearK0 X F from rfl,show hearK1 (coU X i o y) (fwU F b) = hearK1 X F from rfl]
  generalize hearK0 X F = k0 at hop ⊢
  generalize hearK1 X F = k1 at hop ⊢
  (repeat apply exi)
  apply exr
  refine ⟨_,fun _ h => h,h.sub (.cons (.tail (.tail (.tail .head))) (.nil)),?_⟩
  refine open_ok (s:=s) (k0:=k0) (k1:=k1) h hs.more.more.more.more.more.more.more.more.more.more.more.more.more.more p0.ok p0.cap fun w' h => ?_
  rw [hop]
  (repeat apply exi)
  apply exr
  refine ⟨fun _ => True,trivial,?_⟩
  refine h.stG (B:=q2) (fun w' h => ?_) (hl:=by rfl)
  refine ⟨_,fun _ h => h,trivial,?_⟩
  exact letb rfl ⟨rfl,h.sub (.cons .head (.cons (.tail (.tail .head)) (.cons .head (.cons .head ((Sub.same _))))))⟩
 clear h
 rintro bb w' ⟨rfl,h⟩
 have h:=h.drew
 refine nilc (h.rdGo (B:=f) 0 5 ?_)
 (repeat apply exi)
 apply exr
 refine h.rdG (B:=q1) ?_
 (repeat apply exi)
 apply exr
 refine judge_ok (n:=nmOf F) (s:=s) (b:=true) h (sgNm p0.ok) fun w' h => ?_
 rw [hj]
 (repeat apply exi)
 apply exr
 refine letb rfl (iff_ rfl (letb rfl (iff_ rfl (letb rfl (iff_ rfl (letb rfl (ift rfl ?_)))))))
 refine h.rdG (B:=q1) ?_
 (repeat apply exi)
 apply exr
 refine h.rdG (B:=q2) ?_
 (repeat apply exi)
 apply exr
 refine passHalf_ok (X:=X) (F:=F) (s:=s) (d:=d) (ps:=ps) (h.sub (show Sub _ (blk x 67 (cnc (coU X i o y)) :: blk f 111 (fwc (fwU F b)) :: own 115 2 X.post X.postN X.postC (ps.flatMap pkc) :: bodP ps :: blk b 220 [.int .i64 qn,.int .i64 ql,.int .i64 qp] :: il i r D sp base e kn v n most S (otP o r2 D2 obase false gn ov on (wyP y ymost A k C L))) from ((Sub.same _).more.more))) h2 hsy p0 hs std hF hn fun O dd p w' e1 e2 h => ⟨_,rfl,leti rfl (hk O dd p _ e1 e2 h)⟩
end
end Go.Br
