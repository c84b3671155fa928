/- HandsC, HandsD -/
import Derived.Test.YtmglifmopjedbaaGreatHandsB
/- Two ends: the answer arrives,and the word behind it. -/
set_option linter.unusedVariables false
set_option linter.unusedSimpArgs false
set_option linter.unnecessarySimpa false
namespace Go.Br
open Go
attribute [local irreducible] Addr.add RD RDS RUN RUNU NILC LETB CALL CALLX CALLV
theorem tagS_same {k0 k1 : Int} {s s' : SgP} {o o' : Int × List UInt8} (h1 : hdB s = hdB s') (h2 : s.ds = s'.ds) (h3 : o.1 = o'.1) (h4 : o.2.length = o'.2.length) (h5 : o.2.take (o.2.length - 8) = o'.2.take (o'.2.length - 8)) : tagS k0 k1 s o = tagS k0 k1 s' o':=by
 unfold tagS coverB
 rw [h1,h2,h3,h5,h4]
abbrev XA1 (g : Cfg) (d : Dr) (n : Nms) (fA : Option Addr) (fC : Nat) : Cn:=coK (XA0 g d n fA fC) (sessK d.ka d.kb) d.kb
abbrev FAa (d : Dr) (n : Nms) : Fw:=answF (FA0 d n) d.fb
abbrev FA1 (d : Dr) (n : Nms) : Fw:=sentF (FAa d n) (plainS (FAa d n) [])
def dA (g : Cfg) : Dt:=⟨false,false,0,0,winI (zb g) 0,0⟩
theorem fwB_ok {d : Dr} (hd : DrOk d) {n : Nms} : FwOk (FB0 d n):=by
 refine ⟨?_,?_,?_,?_⟩
 ·exact ⟨show (0 : Int) <= 80 by decide,show (80 : Int) < 65536 by decide⟩
 ·exact ⟨show (0 : Int) <= 1000 by decide,show (1000 : Int) < 65536 by decide⟩
 ·exact hd.fb
 ·show 0 <= IntKind.u32.wrap (d.fa + 1) /\ IntKind.u32.wrap (d.fa + 1) < 4294967296
  rw [wrapU32]; omega
theorem fwA_ok {d : Dr} (hd : DrOk d) {n : Nms} : FwU (FAa d n):=by
 refine ⟨?_,?_,?_,?_⟩
 ·exact ⟨show (0 : Int) <= 1000 by decide,show (1000 : Int) < 65536 by decide⟩
 ·exact ⟨show (0 : Int) <= 80 by decide,show (80 : Int) < 65536 by decide⟩
 ·show 0 <= IntKind.u32.wrap (d.fa + 1) /\ IntKind.u32.wrap (d.fa + 1) < 4294967296
  rw [wrapU32]; omega
 ·show 0 <= IntKind.u32.wrap (d.fb + 1) /\ IntKind.u32.wrap (d.fb + 1) < 4294967296
  rw [wrapU32]; omega
theorem std0 {g : Cfg} (hg : CfgOk g) {X : Cn} (hX : X.sent = 0) : Std 0 0 (zb g) (zb g) 0 [] [] X:=by
 have hb2 : g.buffer <= 4096:=hg.2.1.1.2
 have hl : (zb g).length = g.buffer.toNat:=List.length_replicate
 exact ⟨by decide,by rw [hl]; omega,by simp [Sep],by decide,by simp,by decide,by decide,by rw [hX]; decide,by rw [hX]; decide,by decide,rfl⟩
section
variable {c : Ctx} {w : World} {L : List SA}
theorem ans0_of {g : Cfg} {d : Dr} (hd : DrOk d) {n n' : Nms} {fA : Option Addr} {fC : Nat} {s : Sg} (hs : s.pl = ansS (FB0 d n') d.kb d.ka) (cap : CapOk s) : Ans0 (XA0 g d n fA fC) s d.kb:=by
 have ok : SgOk s.pl:=by rw [hs]; exact ansS_ok (fwB_ok hd)
 refine ⟨ok,cap,hd.kb,ansT (FB0 d n') d.kb d.ka,ansT_range _ _ _,by rw [hs]; rfl,?_⟩
 rw [hs]
 show tagS (pair1 d.ka d.kb ansB) (pair2 d.ka d.kb ansB) _ _ = tagS (pair1 d.ka d.kb ansB) (pair2 d.ka d.kb ansB) _ _
 refine tagS_same rfl rfl rfl (by simp [keyB,beB_length]) ?_
 simp [keyB,beB_length]
theorem jd2 {d : Dr} (hd : DrOk d) {n n' : Nms} {s : Sg} (hs : s.pl = ansS (FB0 d n') d.kb d.ka) : jd (nmOf (FA0 d n)) s false = 1:=by
 have h1 : s.flags = 3:=congrArg SgP.flags hs
 have h2 : s.ack = IntKind.u32.wrap (d.fa + 1):=congrArg SgP.ack hs
 have h3 : (nmOf (FA0 d n)).state = 1:=rfl
 have h4 : (nmOf (FA0 d n)).first = d.fa:=rfl
 unfold jd
 rw [h1,h2,h3,h4,if_pos rfl,if_pos ⟨by decide,wrapU32 _⟩,if_neg (by decide),if_pos (by decide)]
theorem arrive2_ok {t q : Nat} {n n' : Nms} {fA fA' : Option Addr} {fC fC' : Nat} {O O2 : Option Addr} {dd d2 : Nat} {g : Cfg} (hg : CfgOk g) {d : Dr} (hd : DrOk d) {f : Fl22} {F0 G : List Fl22} (e1 : f.to = 0) (e2 : f.path = 0) (e3 : f.bs = encB (ansS (FB0 d n') d.kb d.ka)) (hC : f.bs.length <= f.bC) (hfF : f ∈ F0) (hGF : ∀ z ∈ G,z ∈ F0) (hGl : G.length <= 1000)
  (h : St c w (blk t 38 (twc (two g d (some ⟨n.x,0,none⟩) (some ⟨n'.x,0,none⟩) (some ⟨q,0,none⟩) O 0 dd O2 G.length d2)) :: own 79 3 O 0 dd [] :: own 79 3 O2 G.length d2 (G.flatMap flyc) :: bodF F0 :: blk q 73 (srcC d 0) :: stP g n (XA0 g d n fA fC) (FA0 d n) [] 0 fA fC 0 (stP g n' (XB0 g d n' fA' fC') (FB0 d n') [] 0 fA' fC' 0 L))) {Q : Value -> World -> Prop}
  (hk : ∀ O1 d1 O3 d3 f' w',f'.to = 1 -> f'.path = 0 -> f'.bs = encB (wordS (XA1 g d n fA fC) (FAa d n) (dA g)) -> f'.bs.length <= f'.bC ->
   St c w' (blk t 38 (twc (two g d (some ⟨n.x,0,none⟩) (some ⟨n'.x,0,none⟩) (some ⟨q,0,none⟩) O1 1 d1 O3 (G ++ [f']).length d3)) :: own 79 3 O1 1 d1 (([f'] : List Fl22).flatMap flyc) :: own 79 3 O3 (G ++ [f']).length d3 ((G ++ [f']).flatMap flyc) :: bodF ([f'] ++ (G ++ [f'])) :: blk q 73 (srcC d 0) :: stP g n (XA1 g d n fA fC) (FA1 d n) [] 0 fA fC 0 (stP g n' (XB0 g d n' fA' fC') (FB0 d n') [] 0 fA' fC' 0 L)) -> Q (.int .i64 1) w') :
  CALL PG 18 [.pointer (some ⟨t,0,none⟩),flycv f] w Q:=by
 have okS : SgOk (ansS (FB0 d n') d.kb d.ka):=ansS_ok (fwB_ok hd)
 have he:=parse_enc okS
 rw [<- e3] at he
 have h24 : f.bs.length <= 1000000:=by rw [e3]; simp [encB,ansS,hdB,obs,obP,keyB,beB_length]
 have hf0 : ∀ {R : List SA},RdIn (bodF F0 :: R) f.b (bvs f.bs):=fun {R} c w h => h.ro .head f hfF
 refine call18 ?_
 unfold N18
 refine h.box (vs:=flyc f) fun q3 w' h => ?_
 refine h.rdL (B:=q3) 2 ?_
 refine parseC_ok h hf0.more.more.more.more rfl hC h24 (fun e e2 => by rw [he] at e2; cases e2) fun s hs cap w' h => ?_
 rw [he] at hs
 injection hs with hs
 have hs : s.pl = ansS (FB0 d n') d.kb d.ka:=hs.symm
 have s1 : s.src = 80:=congrArg SgP.src hs
 have s2 : s.dst = 1000:=congrArg SgP.dst hs
 have s5 : s.seq = d.fb:=congrArg SgP.seq hs
 (repeat apply exi)
 apply exr
 refine h.allocZ fun q5 w' h => ?_
 refine h.stG (B:=q5) (fun w' h => ?_) (hl:=by rfl)
 refine leti rfl (ifnsame rfl (nilc ?_))
 refine h.rdP (B:=t) 0 ?_
 refine ⟨fun z w => z = some ⟨n.x,0,none⟩ /\ St c w (blk q5 118 (sgc s) :: sgp s :: blk q3 79 (flyc f) :: blk t 38 (twc (two g d (some ⟨n.x,0,none⟩) (some ⟨n'.x,0,none⟩) (some ⟨q,0,none⟩) O 0 dd O2 G.length d2)) :: own 79 3 O 0 dd [] :: own 79 3 O2 G.length d2 (G.flatMap flyc) :: bodF F0 :: blk q 73 (srcC d 0) :: stP g n (XA0 g d n fA fC) (FA0 d n) [] 0 fA fC 0 (stP g n' (XB0 g d n' fA' fC') (FB0 d n') [] 0 fA' fC' 0 L)),?_,?_⟩
 ·refine h.rdI (B:=q3) 0 ?_
  exact iff_ (by rw [e1]; rfl) ⟨rfl,h⟩
 clear h
 rintro z w' ⟨rfl,h⟩
 refine h.rdI (B:=q3) 1 (h.rdI (B:=q5) 1 (h.rdI (B:=q5) 0 ?_))
 rw [e2,s1,s2]
 refine RD.bld ?_
 (repeat apply exi)
 apply exr
 refine h.allocZ fun q8 w' h => ?_
 refine h.stG (B:=q8) fun w' h => ?_
 refine iff_ rfl ?_
 refine h.rdG (B:=q8) ?_
 (repeat apply exi)
 apply exr
 refine on1_ok (X:=XA0 g d n fA fC) (F:=FA0 d n) (A:=fA) (d:=fC) (f:=n.f) (h.sub (show Sub _ (blk n.x 67 (cnc { XA0 g d n fA fC with flows:=fA,flowsN:=1,flowsC:=fC }) :: own 99 1 fA 1 fC [.pointer (some ⟨n.f,0,none⟩)] :: blk n.f 111 (fwc (FA0 d n)) :: _) from (.cons (.tail (.tail (.tail (.tail (.tail (.tail (.tail (.tail (.tail .head))))))))) (.cons (.tail (.tail (.tail (.tail (.tail (.tail (.tail (.tail (.tail (.tail (.tail (.tail (.tail (.tail (.tail (.tail (.tail (.tail (.tail (.tail .head)))))))))))))))))))) (.cons (.tail (.tail (.tail (.tail (.tail (.tail (.tail (.tail (.tail .head))))))))) (.cons .head (.cons .head (.cons .head (.cons .head (.cons .head (.cons .head (.cons .head (.cons .head (.cons .head (.cons .head (.cons .head (.cons .head (.cons .head (.cons .head (.cons .head (.cons .head (.cons .head (.cons .head (.cons .head ((Sub.same _)))))))))))))))))))))))))) fun w' h => ?_
 (repeat apply exi)
 apply exr
 rw [if_pos ⟨rfl,rfl,rfl⟩]
 refine ift rfl ?_
 refine h.rdG (B:=q5) ?_
 (repeat apply exi)
 apply exr
 refine takeOpen_ok (X:=XA0 g d n fA fC) (F:=FA0 d n) (s:=s) (kB:=d.kb) (ps:=[]) (i:=n.i) (o:=n.o) (y:=n.y) (r:=n.r2) (D:=n.b2) (sp:=n.s) (r2:=n.r) (D2:=n.bb) (base:=0) (e:=0) (kn:=false) (v:=zb g) (n:=0) (most:=g.chunks) (S:=[]) (obase:=0) (gn:=false) (ov:=zb g) (on:=0) (ymost:=g.chunks) (A:=none) (k:=0) (C:=[]) (h.sub (show Sub _ (blk n.x 67 (cnc (coU (XA0 g d n fA fC) n.i n.o n.y)) :: blk n.f 111 (fwc (FA0 d n)) :: own 115 2 none 0 0 [] :: bodP [] :: il n.i n.r2 n.b2 n.s 0 0 false (zb g) 0 g.chunks [] (otP n.o n.r n.bb 0 false false (zb g) 0 (wyP n.y g.chunks none 0 [] _))) from (.cons .head (.cons (.tail .head) (.cons (.tail (.tail (.tail (.tail (.tail (.tail (.tail (.tail (.tail (.tail .head)))))))))) (.cons (.tail (.tail (.tail (.tail (.tail (.tail (.tail (.tail (.tail (.tail .head)))))))))) (.cons (.tail (.tail (.tail (.tail (.tail (.tail (.tail (.tail (.tail (.tail (.tail .head))))))))))) (.cons (.tail (.tail (.tail (.tail (.tail (.tail (.tail (.tail (.tail (.tail (.tail .head))))))))))) (.cons (.tail (.tail (.tail (.tail (.tail (.tail (.tail (.tail (.tail (.tail (.tail .head))))))))))) (.cons (.tail (.tail (.tail (.tail (.tail (.tail (.tail (.tail (.tail (.tail (.tail .head))))))))))) (.cons (.tail (.tail (.tail (.tail (.tail (.tail (.tail (.tail (.tail (.tail (.tail .head))))))))))) (.cons (.tail (.tail (.tail (.tail (.tail (.tail (.tail (.tail (.tail (.tail (.tail .head))))))))))) (.cons (.tail (.tail (.tail (.tail (.tail (.tail (.tail (.tail (.tail (.tail (.tail .head))))))))))) (.cons .head (.cons .head (.cons .head (.cons .head (.cons .head (.cons .head (.cons .head (.cons .head (.cons .head (.cons .head (.cons .head ((Sub.same _)))))))))))))))))))))))))) rfl (jd2 hd hs) rfl rfl (ans0_of hd hs cap) (SgIn.here (.tail (.tail (.tail .head)))) (std0 hg rfl) (by rw [s5]; exact fwA_ok hd) (show 0 <= 100000 by decide) fun O9 d9 p w' f1 f2 h => ?_
 rw [s5] at f2 h
 (repeat apply exi)
 apply exr
 refine leti rfl ?_
 have hD : headD (XA0 g d n fA fC) 0 0 false (zb g) 0 false = dA g:=by
  unfold headD ackI dA
  rw [if_neg (by rintro ⟨h,_⟩; cases h)]
  rfl
 have f2 : PkEq p (encB (wordS (XA1 g d n fA fC) (FAa d n) (dA g))):=by rw [<- hD]; exact f2
 have h:=h.sub (show Sub _ (bodF F0 :: _) from (.cons (.tail (.tail (.tail (.tail (.tail (.tail (.tail (.tail (.tail (.tail (.tail (.tail (.tail (.tail (.tail (.tail (.tail (.tail (.tail .head))))))))))))))))))) (.cons .head (.cons .head (.cons .head (.cons .head (.cons .head (.cons .head (.cons .head (.cons .head (.cons .head (.cons .head (.cons .head (.cons .head (.cons .head (.cons .head (.cons .head (.cons .head (.cons .head (.cons .head (.cons .head ((Sub.same _)))))))))))))))))))))))
 have h:=h.roW (ψ:=fun w => ∀ z ∈ (([] : List Fl22) ++ G),Row w z.b (bvs z.bs)) fun w a z hz => a z (hGF z (by simpa using hz))
 refine gatherAB_ok (T:=two g d (some ⟨n.x,0,none⟩) (some ⟨n'.x,0,none⟩) (some ⟨q,0,none⟩) O 0 dd O2 G.length d2) (W:=[]) (G:=G) (XA:=coU (coK { XA0 g d n fA fC with silence:=0,post:=O9,postN:=0 + 1,postC:=d9 } (sessK d.ka d.kb) d.kb) n.i n.o n.y) (XB:=XB0 g d n' fA' fC') (psA:=[p]) (psB:=[]) (h.sub (show Sub _ (blk t 38 (twc (two g d (some ⟨n.x,0,none⟩) (some ⟨n'.x,0,none⟩) (some ⟨q,0,none⟩) O 0 dd O2 G.length d2)) :: own 79 3 O 0 dd [] :: own 79 3 O2 G.length d2 (G.flatMap flyc) :: blk n.x 67 (cnc (coU (coK { XA0 g d n fA fC with silence:=0,post:=O9,postN:=0 + 1,postC:=d9 } (sessK d.ka d.kb) d.kb) n.i n.o n.y)) :: own 115 2 O9 (0 + 1) d9 (([] ++ [p] : List Pkt).flatMap pkc) :: bodP ([] ++ [p]) :: blk n'.x 67 (cnc (XB0 g d n' fA' fC')) :: own 115 2 none 0 0 [] :: bodP [] :: bodF ([] ++ G) :: _) from (.cons (.tail (.tail (.tail (.tail (.tail (.tail (.tail (.tail (.tail (.tail (.tail (.tail (.tail (.tail (.tail (.tail (.tail .head))))))))))))))))) (.cons (.tail (.tail (.tail (.tail (.tail (.tail (.tail (.tail (.tail (.tail (.tail (.tail (.tail (.tail (.tail (.tail (.tail .head))))))))))))))))) (.cons (.tail (.tail (.tail (.tail (.tail (.tail (.tail (.tail (.tail (.tail (.tail (.tail (.tail (.tail (.tail (.tail (.tail .head))))))))))))))))) (.cons (.tail .head) (.cons (.tail (.tail .head)) (.cons (.tail (.tail .head)) (.cons (.tail (.tail (.tail (.tail (.tail (.tail (.tail (.tail (.tail (.tail (.tail (.tail (.tail (.tail (.tail (.tail (.tail (.tail (.tail (.tail (.tail .head))))))))))))))))))))) (.cons (.tail (.tail (.tail (.tail (.tail (.tail (.tail (.tail (.tail (.tail (.tail (.tail (.tail (.tail (.tail (.tail (.tail (.tail (.tail (.tail (.tail (.tail .head)))))))))))))))))))))) (.cons (.tail (.tail (.tail (.tail (.tail (.tail (.tail (.tail (.tail (.tail (.tail (.tail (.tail (.tail (.tail (.tail (.tail (.tail (.tail (.tail (.tail (.tail .head)))))))))))))))))))))) (.cons .head (.cons .head (.cons .head (.cons .head (.cons .head (.cons .head (.cons .head (.cons .head (.cons .head (.cons .head (.cons (.tail (.tail (.tail (.tail .head)))) (.cons (.tail (.tail (.tail (.tail .head)))) (.cons (.tail (.tail (.tail (.tail .head)))) (.cons (.tail (.tail (.tail (.tail .head)))) (.cons (.tail (.tail (.tail (.tail .head)))) (.cons (.tail (.tail (.tail (.tail .head)))) (.cons (.tail (.tail (.tail (.tail .head)))) (.cons (.tail (.tail (.tail (.tail .head)))) ((Sub.same _).more.more.more.more)))))))))))))))))))))))))))))) rfl (by simp) rfl (by simp) (by simp) (by omega) fun O1 O3 d1 d3 w' h => ⟨rfl,leti rfl ?_⟩
 have h:=(((h.addOwnNil 115 2).addBod0).addOwnNil 115 2).addBod0
 have h:=h.sub (show Sub _ (blk t 38 _ :: own 79 3 O1 _ d1 _ :: own 79 3 O3 _ d3 _ :: bodF _ :: blk q 73 (srcC d 0) :: stP g n (XA1 g d n fA fC) (FA1 d n) [] 0 fA fC 0 (stP g n' (XB0 g d n' fA' fC') (FB0 d n') [] 0 fA' fC' 0 L)) from (.cons (.tail (.tail (.tail (.tail .head)))) (.cons (.tail (.tail (.tail (.tail .head)))) (.cons (.tail (.tail (.tail (.tail .head)))) (.cons (.tail (.tail (.tail (.tail (.tail (.tail .head)))))) (.cons (.tail (.tail (.tail (.tail (.tail (.tail (.tail (.tail (.tail (.tail (.tail (.tail (.tail (.tail (.tail .head))))))))))))))) (.cons (.tail (.tail (.tail (.tail .head)))) (.cons (.tail (.tail (.tail (.tail (.tail .head))))) (.cons (.tail .head) (.cons .head (.cons (.tail (.tail (.tail (.tail (.tail (.tail (.tail (.tail (.tail (.tail (.tail .head))))))))))) (.cons (.tail (.tail (.tail .head))) (.cons (.tail (.tail (.tail .head))) (.cons (.tail (.tail (.tail .head))) (.cons (.tail (.tail (.tail .head))) (.cons (.tail (.tail (.tail .head))) (.cons (.tail (.tail (.tail .head))) (.cons (.tail (.tail (.tail .head))) (.cons (.tail (.tail (.tail .head))) (.cons (.tail (.tail (.tail .head))) (.cons (.tail (.tail (.tail .head))) (.cons (.tail (.tail (.tail .head))) (.cons (.tail (.tail (.tail .head))) (.cons (.tail (.tail (.tail .head))) (.cons (.tail (.tail .head)) (.cons (.tail (.tail .head)) (.cons (.tail .head) (.cons .head (.cons .head (.cons .head (.cons .head (.cons .head (.cons .head (.cons .head (.cons .head (.cons .head (.cons .head (.cons .head (.cons .head (.cons .head (.cons .head (.cons .head ((Sub.same _))))))))))))))))))))))))))))))))))))))))))))
 simp only [List.map_nil,List.append_nil,List.map_cons,List.nil_append] at h
 exact hk O1 d1 O3 d3 (fly22 1 p) _ rfl f1 f2.1 f2.2 h
end
end Go.Br
/- Two ends: the word behind the answer arrives. -/
set_option linter.unusedVariables false
set_option linter.unusedSimpArgs false
set_option linter.unnecessarySimpa false
namespace Go.Br
open Go
attribute [local irreducible] Addr.add RD RDS RUN RUNU NILC LETB CALL CALLX CALLV
def dW (g : Cfg) (d : Dr) (n : Nms) (fA : Option Addr) (fC : Nat) : Dt:={ dA g with tgTag:=tagS (sendK0 (XA1 g d n fA fC) (FAa d n)) (sendK1 (XA1 g d n fA fC) (FAa d n)) (plainS (FAa d n) []) (3,dataB (dA g)) }
theorem dA_ok (g : Cfg) : DtOk (dA g):=⟨show (0 : Int) <= 0 /\ (0 : Int) < 18446744073709551616 by decide,show (0 : Int) <= 0 /\ (0 : Int) < 18446744073709551616 by decide,by show 0 <= winI (zb g) 0 /\ winI (zb g) 0 < 4294967296; unfold winI; rw [wrapU32]; omega,show (0 : Int) <= 0 /\ (0 : Int) < 18446744073709551616 by decide⟩
theorem dt_tag {d : Dt} {t : Int} (h : DtOk d) (ht : 0 <= t /\ t < 18446744073709551616) : DtOk { d with tgTag:=t }:=⟨h.seq,h.ack,h.win,ht⟩
theorem dW_ok {g : Cfg} {d : Dr} {n : Nms} {fA : Option Addr} {fC : Nat} : DtOk (dW g d n fA fC):=dt_tag (dA_ok g) (sipS_range _ _ _)
theorem dataB_take (d : Dt) : (dataB d).take (29 - 8) = beB (bitsD d) 1 ++ (beB d.seq 8 ++ (beB d.ack 8 ++ beB d.win 4)):=by
 have e : dataB d = (beB (bitsD d) 1 ++ (beB d.seq 8 ++ (beB d.ack 8 ++ beB d.win 4))) ++ beB d.tgTag 8:=by simp [dataB]
 rw [e,List.take_left' (by simp [beB_length])]
theorem dataB_tag (d : Dt) (t : Int) : (dataB { d with tgTag:=t }).take (29 - 8) = (dataB d).take (29 - 8):=by
 rw [dataB_take,dataB_take]
 rfl
theorem hear_send {g : Cfg} {d : Dr} {n n' : Nms} {fA fA' : Option Addr} {fC fC' : Nat} : hearK0 (XB0 g d n' fA' fC') (FB0 d n') = sendK0 (XA1 g d n fA fC) (FAa d n) /\ hearK1 (XB0 g d n' fA' fC') (FB0 d n') = sendK1 (XA1 g d n fA fC) (FAa d n):=by
 have h1 : (XB0 g d n' fA' fC').role = 2:=rfl
 have h2 : (XA1 g d n fA fC).role = 1:=rfl
 unfold hearK0 hearK1 sendK0 sendK1 inK outK
 rw [h1,h2,if_neg (by decide),if_pos rfl]
 exact ⟨rfl,rfl⟩
theorem open3 {g : Cfg} {d : Dr} {n n' : Nms} {fA fA' : Option Addr} {fC fC' : Nat} : openS (hearK0 (XB0 g d n' fA' fC') (FB0 d n')) (hearK1 (XB0 g d n' fA' fC') (FB0 d n')) (wordS (XA1 g d n fA fC) (FAa d n) (dA g)) = some (dW g d n fA fC):=by
 rw [(hear_send (n:=n) (fA:=fA) (fC:=fC)).1,(hear_send (n:=n) (fA:=fA) (fC:=fC)).2]
 generalize hk0 : sendK0 (XA1 g d n fA fC) (FAa d n) = k0
 generalize hk1 : sendK1 (XA1 g d n fA fC) (FAa d n) = k1
 have h1 : (wordS (XA1 g d n fA fC) (FAa d n) (dA g)).os = [(3,dataB (dW g d n fA fC))]:=rfl
 have ht : tagS k0 k1 (wordS (XA1 g d n fA fC) (FAa d n) (dA g)) (3,dataB (dW g d n fA fC)) = (dW g d n fA fC).tgTag:=by
  have h2 : dW g d n fA fC = { dA g with tgTag:=tagS k0 k1 (plainS (FAa d n) []) (3,dataB (dA g)) }:=by rw [<- hk0,<- hk1]; rfl
  rw [h2]
  generalize hT : tagS k0 k1 (plainS (FAa d n) []) (3,dataB (dA g)) = T
  show tagS k0 k1 _ _ = T
  rw [<- hT]
  have hq : hdB (wordS (XA1 g d n fA fC) (FAa d n) (dA g)) = hdB (plainS (FAa d n) []):=rfl
  have hq2 : (wordS (XA1 g d n fA fC) (FAa d n) (dA g)).ds = (plainS (FAa d n) []).ds:=rfl
  generalize wordS (XA1 g d n fA fC) (FAa d n) (dA g) = S at hq hq2 ⊢
  refine tagS_same hq hq2 rfl (by rw [dataB_length,dataB_length]) ?_
  rw [dataB_length,dataB_length,dataB_tag]
 have hp : parseD (3,dataB (dW g d n fA fC)) = some (dW g d n fA fC):=parseD_dataB dW_ok
 unfold openS
 rw [h1]
 generalize dW g d n fA fC = D at ht hp ⊢
 generalize wordS (XA1 g d n fA fC) (FAa d n) (dA g) = S at ht ⊢
 rw [List.filter_cons_of_pos (by rfl),List.filter_nil]
 simp only [hp]
 exact if_pos ht
theorem riseB {d : Dr} (hd : DrOk d) {n : Nms} : (riseF (FB0 d n)).numAcked = IntKind.u32.wrap (d.fb + 1):=by
 show maxU d.fb (IntKind.u32.wrap (d.fb + 1)) = _
 have h:=hd.fb
 unfold maxU
 rw [if_pos]
 rw [wrapU32]
 omega
theorem fwR_ok {d : Dr} (hd : DrOk d) {n : Nms} : FwU (riseF (FB0 d n)):=by
 refine ⟨?_,?_,?_,?_⟩
 ·exact ⟨show (0 : Int) <= 80 by decide,show (80 : Int) < 65536 by decide⟩
 ·exact ⟨show (0 : Int) <= 1000 by decide,show (1000 : Int) < 65536 by decide⟩
 ·show 0 <= IntKind.u32.wrap (d.fb + 1) /\ IntKind.u32.wrap (d.fb + 1) < 4294967296
  rw [wrapU32]; omega
 ·show 0 <= IntKind.u32.wrap (d.fa + 1) /\ IntKind.u32.wrap (d.fa + 1) < 4294967296
  rw [wrapU32]; omega
abbrev FBr (d : Dr) (n : Nms) : Fw:=sentF (riseF (FB0 d n)) (plainS (riseF (FB0 d n)) [])
section
variable {c : Ctx} {w : World} {L : List SA}
theorem jd3 {g : Cfg} {d : Dr} (hd : DrOk d) {n n' : Nms} {fA : Option Addr} {fC : Nat} {s : Sg} (hs : s.pl = wordS (XA1 g d n fA fC) (FAa d n) (dA g)) : jd (nmOf (FB0 d n')) s true = 1:=by
 have h1 : s.flags = 2:=congrArg SgP.flags hs
 have h2 : s.ack = IntKind.u32.wrap (d.fb + 1):=congrArg SgP.ack hs
 have h2s : s.seq = IntKind.u32.wrap (d.fa + 1):=congrArg SgP.seq hs
 have h3 : (nmOf (FB0 d n')).state = 2:=rfl
 have h4 : (nmOf (FB0 d n')).acked = d.fb:=rfl
 have h5 : (nmOf (FB0 d n')).next = IntKind.u32.wrap (d.fb + 1):=rfl
 have h6 : (nmOf (FB0 d n')).wait = IntKind.u32.wrap (d.fa + 1):=rfl
 have hfb:=hd.fb
 have ha : acksN (nmOf (FB0 d n')) s.ack = true:=by
  unfold acksN
  rw [h2,h4,h5]
  have : betweenN (IntKind.u32.wrap (d.fb + 1)) d.fb (IntKind.u32.wrap (d.fb + 1)) = true:=by
   unfold betweenN
   rw [decide_eq_true_iff,wrapU32]
   omega
  rw [this]
  simp
 have hn : nearN (nmOf (FB0 d n')) s.seq = true:=by
  unfold nearN withinN
  rw [h2s,h6]
  simp
 have hf : fitsN (nmOf (FB0 d n')) s true = true:=by
  unfold fitsN
  rw [ha,hn,h1]
  rfl
 unfold jd
 rw [h3,if_neg (by decide),if_pos (.inl rfl),h1,if_neg (by decide),if_neg (by decide),if_pos hf]
theorem plain3 {g : Cfg} {d : Dr} (hd : DrOk d) {n n' : Nms} {fA fA' : Option Addr} {fC fC' : Nat} {s : Sg} (hs : s.pl = wordS (XA1 g d n fA fC) (FAa d n) (dA g)) (cap : CapOk s) : Plain0 (XB0 g d n' fA' fC') (FBr d n') s (dW g d n fA fC) 0:=by
 refine ⟨by rw [hs]; exact wordS_ok (fwA_ok hd),cap,congrArg SgP.ds hs,?_,rfl,rfl,?_,⟨by show (0 : Int) <= 0; decide,by show (0 : Int) <= 0; decide⟩,by show (0 : Int) <= 0 /\ (0 : Int) < 18446744073709551616; decide⟩
 ·rw [hs]
  unfold wordsS
  rw [show (wordS (XA1 g d n fA fC) (FAa d n) (dA g)).os = [(3,dataB (dW g d n fA fC))] from rfl,List.filterMap_cons]
  have hn : ∀ k0 k1 sp,wordOf k0 k1 sp (3,dataB (dW g d n fA fC)) = none:=fun k0 k1 sp => by
   unfold wordOf parseW
   rw [if_neg (by rintro ⟨⟨h,_⟩,_⟩; have h : (4 : Int) <= 3:=h; omega)]
  rw [hn]
  rfl
 ·have h2 : s.ack = IntKind.u32.wrap (d.fb + 1):=congrArg SgP.ack hs
  have h3 : (FBr d n').numAcked = IntKind.u32.wrap (d.fb + 1):=riseB hd
  rw [h2,h3]
  unfold betweenN
  simp
abbrev XB3 (g : Cfg) (d : Dr) (n n' : Nms) (fA : Option Addr) (fC : Nat) (fA' : Option Addr) (fC' : Nat) : Cn:={ XB0 g d n' fA' fC' with state:=3,silence:=0,edge:=edgeX (XB0 g d n' fA' fC') (dW g d n fA fC) }
abbrev FB3 (g : Cfg) (d : Dr) (n n' : Nms) (fA : Option Addr) (fC : Nat) : Fw:=fwU (cameF { FBr d n' with quiet:=0,heard:=true } (wordS (XA1 g d n fA fC) (FAa d n) (dA g))) n'.b
theorem arrive3_ok {t q : Nat} {n n' : Nms} {fA fA' : Option Addr} {fC fC' : Nat} {O O2 : Option Addr} {dd d2 : Nat} {g : Cfg} (hg : CfgOk g) {d : Dr} (hd : DrOk d) {f : Fl22} {F0 G : List Fl22} (e1 : f.to = 1) (e2 : f.path = 0) (e3 : f.bs = encB (wordS (XA1 g d n fA fC) (FAa d n) (dA g))) (hC : f.bs.length <= f.bC) (hfF : f ∈ F0) (hGF : ∀ z ∈ G,z ∈ F0) (hGl : G.length <= 1000)
  (h : St c w (blk t 38 (twc (two g d (some ⟨n.x,0,none⟩) (some ⟨n'.x,0,none⟩) (some ⟨q,0,none⟩) O 0 dd O2 G.length d2)) :: own 79 3 O 0 dd [] :: own 79 3 O2 G.length d2 (G.flatMap flyc) :: bodF F0 :: blk q 73 (srcC d 0) :: stP g n (XA1 g d n fA fC) (FA1 d n) [] 0 fA fC 0 (stP g n' (XB0 g d n' fA' fC') (FB0 d n') [] 0 fA' fC' 0 L))) {Q : Value -> World -> Prop}
  (hk : ∀ O1 d1 O3 d3 f' w',St c w' (blk t 38 (twc (two g d (some ⟨n.x,0,none⟩) (some ⟨n'.x,0,none⟩) (some ⟨q,0,none⟩) O1 1 d1 O3 (G ++ [f']).length d3)) :: own 79 3 O1 1 d1 (([f'] : List Fl22).flatMap flyc) :: own 79 3 O3 (G ++ [f']).length d3 ((G ++ [f']).flatMap flyc) :: bodF ([f'] ++ (G ++ [f'])) :: blk q 73 (srcC d 0) :: stP g n (XA1 g d n fA fC) (FA1 d n) [] 0 fA fC 0 (stP g n' (XB3 g d n n' fA fC fA' fC') (FB3 g d n n' fA fC) [] 0 fA' fC' 0 L)) -> Q (.int .i64 1) w') :
  CALL PG 18 [.pointer (some ⟨t,0,none⟩),flycv f] w Q:=by
 have okS : SgOk (wordS (XA1 g d n fA fC) (FAa d n) (dA g)):=wordS_ok (fwA_ok hd)
 have he:=parse_enc okS
 rw [<- e3] at he
 have hd29 : ∀ D : Dt,(dataB D).length = 29:=dataB_length
 have h24 : f.bs.length <= 1000000:=by
  rw [e3]
  have h1:=okS.room
  have h2 : (wordS (XA1 g d n fA fC) (FAa d n) (dA g)).ds = []:=rfl
  unfold encB
  simp only [List.length_append,List.length_cons,hdB_length,h2,List.length_nil]
  omega
 have hf0 : ∀ {R : List SA},RdIn (bodF F0 :: R) f.b (bvs f.bs):=fun {R} c w h => h.ro .head f hfF
 refine call18 ?_
 unfold N18
 refine h.box (vs:=flyc f) fun q3 w' h => ?_
 refine h.rdL (B:=q3) 2 ?_
 refine parseC_ok h hf0.more.more.more.more rfl hC h24 (fun e e2 => by rw [he] at e2; cases e2) fun s hs cap w' h => ?_
 rw [he] at hs
 injection hs with hs
 have hs : s.pl = wordS (XA1 g d n fA fC) (FAa d n) (dA g):=hs.symm
 have s1 : s.src = 1000:=congrArg SgP.src hs
 have s2 : s.dst = 80:=congrArg SgP.dst hs
 have s3 : s.flags = 2:=congrArg SgP.flags hs
 (repeat apply exi)
 apply exr
 refine h.allocZ fun q5 w' h => ?_
 refine h.stG (B:=q5) (fun w' h => ?_) (hl:=by rfl)
 refine leti rfl (ifnsame rfl (nilc ?_))
 refine h.rdP (B:=t) 0 ?_
 refine ⟨fun z w => z = some ⟨n'.x,0,none⟩ /\ St c w (blk q5 118 (sgc s) :: sgp s :: blk q3 79 (flyc f) :: blk t 38 (twc (two g d (some ⟨n.x,0,none⟩) (some ⟨n'.x,0,none⟩) (some ⟨q,0,none⟩) O 0 dd O2 G.length d2)) :: own 79 3 O 0 dd [] :: own 79 3 O2 G.length d2 (G.flatMap flyc) :: bodF F0 :: blk q 73 (srcC d 0) :: stP g n (XA1 g d n fA fC) (FA1 d n) [] 0 fA fC 0 (stP g n' (XB0 g d n' fA' fC') (FB0 d n') [] 0 fA' fC' 0 L)),?_,?_⟩
 ·refine h.rdI (B:=q3) 0 ?_
  refine ift (by rw [e1]; rfl) (nilc ?_)
  exact h.rdP (B:=t) 1 ⟨rfl,h⟩
 clear h
 rintro z w' ⟨rfl,h⟩
 refine h.rdI (B:=q3) 1 (h.rdI (B:=q5) 1 (h.rdI (B:=q5) 0 ?_))
 rw [e2,s1,s2]
 refine RD.bld ?_
 (repeat apply exi)
 apply exr
 refine h.allocZ fun q8 w' h => ?_
 refine h.stG (B:=q8) fun w' h => ?_
 refine iff_ rfl ?_
 refine h.rdG (B:=q8) ?_
 (repeat apply exi)
 apply exr
 refine on1_ok (X:=XB0 g d n' fA' fC') (F:=FB0 d n') (A:=fA') (d:=fC') (f:=n'.f) (h.sub (show Sub _ (blk n'.x 67 (cnc { XB0 g d n' fA' fC' with flows:=fA',flowsN:=1,flowsC:=fC' }) :: own 99 1 fA' 1 fC' [.pointer (some ⟨n'.f,0,none⟩)] :: blk n'.f 111 (fwc (FB0 d n')) :: _) from (.cons (.tail (.tail (.tail (.tail (.tail (.tail (.tail (.tail (.tail (.tail (.tail (.tail (.tail (.tail (.tail (.tail (.tail (.tail (.tail (.tail (.tail (.tail (.tail (.tail (.tail (.tail (.tail .head))))))))))))))))))))))))))) (.cons (.tail (.tail (.tail (.tail (.tail (.tail (.tail (.tail (.tail (.tail (.tail (.tail (.tail (.tail (.tail (.tail (.tail (.tail (.tail (.tail (.tail (.tail (.tail (.tail (.tail (.tail (.tail (.tail (.tail (.tail (.tail (.tail (.tail (.tail (.tail (.tail (.tail (.tail .head)))))))))))))))))))))))))))))))))))))) (.cons (.tail (.tail (.tail (.tail (.tail (.tail (.tail (.tail (.tail (.tail (.tail (.tail (.tail (.tail (.tail (.tail (.tail (.tail (.tail (.tail (.tail (.tail (.tail (.tail (.tail (.tail (.tail .head))))))))))))))))))))))))))) (.cons .head (.cons .head (.cons .head (.cons .head (.cons .head (.cons .head (.cons .head (.cons .head (.cons .head (.cons .head (.cons .head (.cons .head (.cons .head (.cons .head (.cons .head (.cons .head (.cons .head (.cons .head (.cons .head (.cons .head (.cons .head (.cons .head (.cons .head (.cons .head (.cons .head (.cons .head (.cons .head (.cons .head (.cons .head (.cons .head (.cons .head (.cons .head (.cons .head (.cons .head (.cons .head (.cons .head (.cons .head (.cons .head (.cons .head (.cons .head (.cons .head (.cons .head ((Sub.same _))))))))))))))))))))))))))))))))))))))))))))))))) fun w' h => ?_
 (repeat apply exi)
 apply exr
 rw [if_pos ⟨rfl,rfl,rfl⟩]
 refine ift rfl ?_
 refine h.rdG (B:=q5) ?_
 (repeat apply exi)
 apply exr
 refine takeHalf_ok (X:=XB0 g d n' fA' fC') (F:=FB0 d n') (b:=n'.b) (s:=s) (d:=dW g d n fA fC) (ps:=[]) (i:=n'.i) (o:=n'.o) (y:=n'.y) (r:=n'.r2) (D:=n'.b2) (sp:=n'.s) (r2:=n'.r) (D2:=n'.bb) (base:=0) (e:=0) (kn:=false) (v:=zb g) (n:=0) (most:=g.chunks) (S:=[]) (obase:=0) (gn:=false) (ov:=zb g) (on:=0) (ymost:=g.chunks) (A:=none) (k:=0) (C:=[]) (qn:=0) (ql:=g.score) (qp:=0) (h.sub (show Sub _ (blk n'.x 67 (cnc (coU (XB0 g d n' fA' fC') n'.i n'.o n'.y)) :: blk n'.f 111 (fwc (fwU (FB0 d n') n'.b)) :: own 115 2 none 0 0 [] :: bodP [] :: blk n'.b 220 [.int .i64 0,.int .i64 g.score,.int .i64 0] :: il n'.i n'.r2 n'.b2 n'.s 0 0 false (zb g) 0 g.chunks [] (otP n'.o n'.r n'.bb 0 false false (zb g) 0 (wyP n'.y g.chunks none 0 [] _))) from (.cons .head (.cons (.tail .head) (.cons (.tail (.tail (.tail (.tail (.tail (.tail (.tail (.tail (.tail (.tail (.tail (.tail (.tail (.tail (.tail (.tail (.tail (.tail (.tail (.tail (.tail (.tail (.tail (.tail (.tail (.tail (.tail (.tail .head)))))))))))))))))))))))))))) (.cons (.tail (.tail (.tail (.tail (.tail (.tail (.tail (.tail (.tail (.tail (.tail (.tail (.tail (.tail (.tail (.tail (.tail (.tail (.tail (.tail (.tail (.tail (.tail (.tail (.tail (.tail (.tail (.tail .head)))))))))))))))))))))))))))) (.cons (.tail (.tail (.tail (.tail (.tail (.tail (.tail (.tail (.tail (.tail (.tail (.tail (.tail (.tail (.tail (.tail (.tail (.tail (.tail (.tail (.tail (.tail (.tail (.tail (.tail (.tail (.tail (.tail .head)))))))))))))))))))))))))))) (.cons (.tail (.tail (.tail (.tail (.tail (.tail (.tail (.tail (.tail (.tail (.tail (.tail (.tail (.tail (.tail (.tail (.tail (.tail (.tail (.tail (.tail (.tail (.tail (.tail (.tail (.tail (.tail (.tail .head)))))))))))))))))))))))))))) (.cons (.tail (.tail (.tail (.tail (.tail (.tail (.tail (.tail (.tail (.tail (.tail (.tail (.tail (.tail (.tail (.tail (.tail (.tail (.tail (.tail (.tail (.tail (.tail (.tail (.tail (.tail (.tail (.tail .head)))))))))))))))))))))))))))) (.cons (.tail (.tail (.tail (.tail (.tail (.tail (.tail (.tail (.tail (.tail (.tail (.tail (.tail (.tail (.tail (.tail (.tail (.tail (.tail (.tail (.tail (.tail (.tail (.tail (.tail (.tail (.tail (.tail .head)))))))))))))))))))))))))))) (.cons (.tail (.tail (.tail (.tail (.tail (.tail (.tail (.tail (.tail (.tail (.tail (.tail (.tail (.tail (.tail (.tail (.tail (.tail (.tail (.tail (.tail (.tail (.tail (.tail (.tail (.tail (.tail (.tail .head)))))))))))))))))))))))))))) (.cons (.tail (.tail (.tail (.tail (.tail (.tail (.tail (.tail (.tail (.tail (.tail (.tail (.tail (.tail (.tail (.tail (.tail (.tail (.tail (.tail (.tail (.tail (.tail (.tail (.tail (.tail (.tail (.tail .head)))))))))))))))))))))))))))) (.cons (.tail (.tail (.tail (.tail (.tail (.tail (.tail (.tail (.tail (.tail (.tail (.tail (.tail (.tail (.tail (.tail (.tail (.tail (.tail (.tail (.tail (.tail (.tail (.tail (.tail (.tail (.tail (.tail .head)))))))))))))))))))))))))))) (.cons (.tail (.tail (.tail (.tail (.tail (.tail (.tail (.tail (.tail (.tail (.tail (.tail (.tail (.tail (.tail (.tail (.tail (.tail (.tail (.tail (.tail (.tail (.tail (.tail (.tail (.tail (.tail (.tail .head)))))))))))))))))))))))))))) (.cons .head (.cons .head (.cons .head (.cons .head (.cons .head (.cons .head (.cons .head (.cons .head (.cons .head (.cons .head (.cons .head (.cons .head (.cons .head (.cons .head (.cons .head (.cons .head (.cons .head (.cons .head (.cons .head (.cons .head (.cons .head (.cons .head (.cons .head (.cons .head (.cons .head (.cons .head (.cons .head (.cons .head (.cons .head (.cons .head (.cons .head (.cons .head (.cons .head ((Sub.same _))))))))))))))))))))))))))))))))))))))))))))))))) rfl (by rw [hs]; exact open3) (jd3 hd hs) rfl (by rw [s3]; decide) (plain3 hd hs cap) (SgIn.here (.tail (.tail (.tail .head)))) (std0 hg rfl) (fwR_ok hd) (show 0 <= 100000 by decide) fun O9 d9 p w' f1 f2 h => ?_
 (repeat apply exi)
 apply exr
 refine leti rfl ?_
 rw [hs] at h
 have h:=h.sub (show Sub _ (bodF F0 :: _) from (.cons (.tail (.tail (.tail (.tail (.tail (.tail (.tail (.tail (.tail (.tail (.tail (.tail (.tail (.tail (.tail (.tail (.tail (.tail (.tail (.tail .head)))))))))))))))))))) (.cons .head (.cons .head (.cons .head (.cons .head (.cons .head (.cons .head (.cons .head (.cons .head (.cons .head (.cons .head (.cons .head (.cons .head (.cons .head (.cons .head (.cons .head (.cons .head (.cons .head (.cons .head (.cons .head (.cons .head ((Sub.same _))))))))))))))))))))))))
 have h:=h.roW (ψ:=fun w => ∀ z ∈ (([] : List Fl22) ++ G),Row w z.b (bvs z.bs)) fun w a z hz => a z (hGF z (by simpa using hz))
 refine gatherAB_ok (T:=two g d (some ⟨n.x,0,none⟩) (some ⟨n'.x,0,none⟩) (some ⟨q,0,none⟩) O 0 dd O2 G.length d2) (W:=[]) (G:=G) (XA:=XA1 g d n fA fC) (XB:=coU { XB0 g d n' fA' fC' with state:=3,silence:=0,edge:=edgeX (XB0 g d n' fA' fC') (dW g d n fA fC),post:=O9,postN:=0 + 1,postC:=d9 } n'.i n'.o n'.y) (psA:=[]) (psB:=[p]) (h.sub (show Sub _ (blk t 38 (twc (two g d (some ⟨n.x,0,none⟩) (some ⟨n'.x,0,none⟩) (some ⟨q,0,none⟩) O 0 dd O2 G.length d2)) :: own 79 3 O 0 dd [] :: own 79 3 O2 G.length d2 (G.flatMap flyc) :: blk n.x 67 (cnc (XA1 g d n fA fC)) :: own 115 2 none 0 0 [] :: bodP [] :: blk n'.x 67 (cnc (coU { XB0 g d n' fA' fC' with state:=3,silence:=0,edge:=edgeX (XB0 g d n' fA' fC') (dW g d n fA fC),post:=O9,postN:=0 + 1,postC:=d9 } n'.i n'.o n'.y)) :: own 115 2 O9 (0 + 1) d9 (([] ++ [p] : List Pkt).flatMap pkc) :: bodP ([] ++ [p]) :: bodF ([] ++ G) :: _) from (.cons (.tail (.tail (.tail (.tail (.tail (.tail (.tail (.tail (.tail (.tail (.tail (.tail (.tail (.tail (.tail (.tail (.tail (.tail .head)))))))))))))))))) (.cons (.tail (.tail (.tail (.tail (.tail (.tail (.tail (.tail (.tail (.tail (.tail (.tail (.tail (.tail (.tail (.tail (.tail (.tail .head)))))))))))))))))) (.cons (.tail (.tail (.tail (.tail (.tail (.tail (.tail (.tail (.tail (.tail (.tail (.tail (.tail (.tail (.tail (.tail (.tail (.tail .head)))))))))))))))))) (.cons (.tail (.tail (.tail (.tail (.tail (.tail (.tail (.tail (.tail (.tail (.tail (.tail (.tail (.tail (.tail (.tail (.tail (.tail (.tail .head))))))))))))))))))) (.cons (.tail (.tail (.tail (.tail (.tail (.tail (.tail (.tail (.tail (.tail (.tail (.tail (.tail (.tail (.tail (.tail (.tail (.tail (.tail (.tail .head)))))))))))))))))))) (.cons (.tail (.tail (.tail (.tail (.tail (.tail (.tail (.tail (.tail (.tail (.tail (.tail (.tail (.tail (.tail (.tail (.tail (.tail (.tail (.tail .head)))))))))))))))))))) (.cons (.tail .head) (.cons (.tail (.tail .head)) (.cons (.tail (.tail .head)) (.cons .head (.cons .head (.cons .head (.cons .head (.cons .head (.cons .head (.cons .head (.cons .head (.cons .head (.cons .head (.cons .head (.cons (.tail (.tail (.tail (.tail .head)))) (.cons (.tail (.tail (.tail (.tail .head)))) (.cons (.tail (.tail (.tail (.tail .head)))) (.cons (.tail (.tail (.tail (.tail .head)))) (.cons (.tail (.tail (.tail (.tail .head)))) (.cons (.tail (.tail (.tail (.tail .head)))) (.cons (.tail (.tail (.tail (.tail .head)))) (.cons (.tail (.tail (.tail (.tail .head)))) (.cons (.tail (.tail (.tail (.tail .head)))) (.cons (.tail (.tail (.tail (.tail .head)))) (.cons (.tail (.tail (.tail (.tail .head)))) (.cons (.tail (.tail (.tail (.tail .head)))) (.cons (.tail (.tail (.tail (.tail .head)))) (.cons (.tail (.tail (.tail (.tail .head)))) (.cons (.tail (.tail (.tail (.tail .head)))) (.cons (.tail (.tail (.tail (.tail .head)))) (.cons (.tail (.tail (.tail (.tail .head)))) (.cons (.tail (.tail (.tail (.tail .head)))) (.cons (.tail (.tail (.tail (.tail .head)))) (.cons (.tail (.tail (.tail (.tail .head)))) (.cons (.tail (.tail (.tail (.tail .head)))) ((Sub.same _).more.more.more.more)))))))))))))))))))))))))))))))))))))))))))) rfl (by simp) rfl (by simp) (by simp) (by omega) fun O1 O3 d1 d3 w' h => ⟨rfl,leti rfl ?_⟩
 have h:=(((h.addOwnNil 115 2).addBod0).addOwnNil 115 2).addBod0
 have h:=h.sub (show Sub _ (blk t 38 _ :: own 79 3 O1 _ d1 _ :: own 79 3 O3 _ d3 _ :: bodF _ :: blk q 73 (srcC d 0) :: stP g n (XA1 g d n fA fC) (FA1 d n) [] 0 fA fC 0 (stP g n' (XB3 g d n n' fA fC fA' fC') (FB3 g d n n' fA fC) [] 0 fA' fC' 0 L)) from (.cons (.tail (.tail (.tail (.tail .head)))) (.cons (.tail (.tail (.tail (.tail .head)))) (.cons (.tail (.tail (.tail (.tail .head)))) (.cons (.tail (.tail (.tail (.tail (.tail (.tail .head)))))) (.cons (.tail (.tail (.tail (.tail (.tail (.tail (.tail (.tail (.tail (.tail (.tail (.tail (.tail (.tail (.tail (.tail .head)))))))))))))))) (.cons (.tail (.tail (.tail (.tail .head)))) (.cons (.tail (.tail (.tail (.tail (.tail (.tail (.tail (.tail (.tail (.tail (.tail (.tail (.tail (.tail (.tail .head))))))))))))))) (.cons (.tail .head) (.cons .head (.cons (.tail (.tail (.tail (.tail (.tail (.tail (.tail (.tail (.tail (.tail (.tail (.tail (.tail .head))))))))))))) (.cons (.tail (.tail (.tail (.tail (.tail (.tail (.tail (.tail (.tail (.tail (.tail (.tail (.tail .head))))))))))))) (.cons (.tail (.tail (.tail (.tail (.tail (.tail (.tail (.tail (.tail (.tail (.tail (.tail (.tail .head))))))))))))) (.cons (.tail (.tail (.tail (.tail (.tail (.tail (.tail (.tail (.tail (.tail (.tail (.tail (.tail .head))))))))))))) (.cons (.tail (.tail (.tail (.tail (.tail (.tail (.tail (.tail (.tail (.tail (.tail (.tail (.tail .head))))))))))))) (.cons (.tail (.tail (.tail (.tail (.tail (.tail (.tail (.tail (.tail (.tail (.tail (.tail (.tail .head))))))))))))) (.cons (.tail (.tail (.tail (.tail (.tail (.tail (.tail (.tail (.tail (.tail (.tail (.tail (.tail .head))))))))))))) (.cons (.tail (.tail (.tail (.tail (.tail (.tail (.tail (.tail (.tail (.tail (.tail (.tail (.tail .head))))))))))))) (.cons (.tail (.tail (.tail (.tail (.tail (.tail (.tail (.tail (.tail (.tail (.tail (.tail (.tail .head))))))))))))) (.cons (.tail (.tail (.tail (.tail (.tail (.tail (.tail (.tail (.tail (.tail (.tail (.tail (.tail .head))))))))))))) (.cons (.tail (.tail (.tail (.tail (.tail (.tail (.tail (.tail (.tail (.tail (.tail (.tail (.tail .head))))))))))))) (.cons (.tail (.tail (.tail (.tail (.tail (.tail (.tail (.tail (.tail (.tail (.tail (.tail (.tail .head))))))))))))) (.cons (.tail (.tail (.tail (.tail (.tail (.tail (.tail (.tail (.tail (.tail (.tail (.tail (.tail .head))))))))))))) (.cons (.tail (.tail (.tail (.tail (.tail (.tail (.tail (.tail (.tail (.tail (.tail (.tail (.tail .head))))))))))))) (.cons (.tail (.tail .head)) (.cons (.tail (.tail .head)) (.cons (.tail .head) (.cons .head (.cons .head (.cons .head (.cons .head (.cons .head (.cons .head (.cons .head (.cons .head (.cons .head (.cons .head (.cons .head (.cons .head (.cons .head (.cons .head (.cons .head ((Sub.same _))))))))))))))))))))))))))))))))))))))))))))
 simp only [List.map_nil,List.append_nil,List.map_cons,List.nil_append] at h
 exact hk O1 d1 O3 d3 (fly22 0 p) _ h
end
end Go.Br
