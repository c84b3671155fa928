/- The handshake: the law. -/
import Derived.Test.YtmglifmopjedbaaGreatNHandsLaw
import Derived.Test.YtmglifmopjedbaaGreatJHandsT
set_option linter.unusedVariables false
set_option linter.unusedSimpArgs false
set_option linter.unnecessarySimpa false
namespace Go.Br
open Go
instance biHandsLawa : Bld PG (Instr.build 43 #[]) (.agg #[.slice none 0 0,.slice none 0 0,.slice none 0 0,.slice none 0 0]):=⟨fun w => by kernel_rfl⟩
instance biHandsLawb : Bld PG (Instr.build 46 #[]) (.agg #[.int .i64 0,.int .i64 0,.int .i64 0,.slice none 0 0]):=⟨fun w => by kernel_rfl⟩
instance biHandsLawc : Zro PG 53 18 128 (.agg #[.int .i64 0,.int .i64 0,.int .i64 0,.int .u64 0,.int .u64 0,.int .i64 0,.int .u16 0,.int .u16 0,.int .u64 0,.int .u64 0,.int .u64 0,.int .u64 0,.bool false,.bool false,.int .i64 0,.int .i64 0,.int .i64 0,.int .i64 0]):=⟨tiOf (by kernel_rfl)⟩
attribute [local irreducible] Addr.add RD RDS RUN RUNU NILC LETB CALL CALLX CALLV
section
variable {c : Ctx} {w : World} {L R : List SA}
set_option maxRecDepth 10000 in
theorem hands_ok (h : St c w L) {g : Cfg} {d : Dr} (hd : DrOk d) {Q : Value -> World -> Prop} (hk : ∀ w' L',St c w' L' -> Q (.bool true) w') : CALL PG 3 [cfgv g,drcv d] w Q:=by
 refine call3 ?_
 unfold N3
 refine h.box (vs:=cfg g) fun q2 w' h => ?_
 refine h.box (vs:=drc d) fun q3 w' h => ?_
 refine h.rdG (B:=q2) ?_
 (repeat apply exi)
 apply exr
 refine rright_ok h g fun w' h => ⟨_,rfl,?_⟩
 refine ifb (fun e => hk _ _ h) fun e => ?_
 have hg : CfgOk g:=by simpa using e
 refine h.rdG (B:=q2) ?_
 (repeat apply exi)
 apply exr
 refine h.rdG (B:=q3) ?_
 (repeat apply exi)
 apply exr
 refine begin22_ok (g:=g) (d:=d) h hg hd fun t n fA fC q O1 d1 O2 d2 f w' e1 e2 e3 e4 h => ?_
 (repeat apply exi)
 apply exr
 refine iff_ rfl (nilc (h.rdL (B:=t) 24 (iff_ rfl (nilc (h.rdP (B:=t) 0 ?_)))))
 refine cstate_ok (X:=XA0 g d n fA fC) h (.tail (.tail (.tail (.tail (.tail .head))))) ⟨_,rfl,iff_ rfl ?_⟩
 refine RD.bld ?_
 (repeat apply exi)
 apply exr
 refine RD.bld ?_
 (repeat apply exi)
 apply exr
 refine step1_ok hg hd e1 e2 e3 e4 h fun n' fA' fC' O1 d1 O3 d3 f1 w' g1 g2 g3 g4 h => ?_
 (repeat apply exi)
 apply exr
 refine nilc (h.rdP (B:=t) 1 (iff_ rfl (nilc (h.rdL (B:=t) 24 (iff_ rfl (nilc (h.rdP (B:=t) 1 ?_)))))))
 refine cstate_ok (X:=XB0 g d n' fA' fC') h (.tail (.tail (.tail (.tail (.tail (.tail (.tail (.tail (.tail (.tail (.tail (.tail (.tail (.tail (.tail (.tail (.tail (.tail (.tail (.tail (.tail (.tail (.tail .head))))))))))))))))))))))) ⟨_,rfl,iff_ rfl ?_⟩
 refine RD.bld ?_
 (repeat apply exi)
 apply exr
 refine RD.bld ?_
 (repeat apply exi)
 apply exr
 refine step2_ok hg hd g1 g2 g3 g4 (F0:=[f1,f,f1]) (G:=[f,f1]) (by simp) (by simp) (by simp) h fun O1 d1 O3 d3 f2 w' g1 g2 g3 g4 h => ?_
 (repeat apply exi)
 apply exr
 refine nilc (h.rdP (B:=t) 0 ?_)
 refine cstate_ok (X:=XA1 g d n fA fC) h (.tail (.tail (.tail (.tail (.tail .head))))) ⟨_,rfl,iff_ rfl ?_⟩
 refine nilc (h.rdL (B:=t) 24 (iff_ rfl ?_))
 refine RD.bld ?_
 (repeat apply exi)
 apply exr
 refine RD.bld ?_
 (repeat apply exi)
 apply exr
 refine step3_ok hg hd g1 g2 g3 g4 (F0:=[f2] ++ ([f,f1] ++ [f2])) (G:=[f,f1] ++ [f2]) (by simp) (fun z hz => List.mem_append.2 (.inr hz)) (by simp) h fun O1 d1 O3 d3 f3 w' h => ?_
 (repeat apply exi)
 apply exr
 have uA:=upA (g:=g) (d:=d) (n:=n) (fA:=fA) (fC:=fC)
 have uB:=upB (g:=g) (d:=d) (n:=n) (n':=n') (fA:=fA) (fC:=fC) (fA':=fA') (fC':=fC')
 generalize XA1 g d n fA fC = XA at h uA
 generalize XB3 g d n n' fA fC fA' fC' = XB at h uB
 generalize FA1 d n = FA at h
 generalize FB3 g d n n' fA fC = FB at h
 have h:=h.drew
 have h:=h.sub (show Sub _ (blk t 38 (twc (two g d (some ⟨n.x,0,none⟩) (some ⟨n'.x,0,none⟩) (some ⟨q,0,none⟩) O1 1 d1 O3 4 d3)) :: blk q2 24 (cfg g) :: blk q3 30 (drc d) :: stP g n XA FA [] 0 fA fC 0 (stP g n' XB FB [] 0 fA' fC' 0 L)) from (.cons .head (.cons (.tail (.tail (.tail (.tail (.tail (.tail (.tail (.tail (.tail (.tail (.tail (.tail (.tail (.tail (.tail (.tail (.tail (.tail (.tail (.tail (.tail (.tail (.tail (.tail (.tail (.tail (.tail (.tail (.tail (.tail (.tail (.tail (.tail (.tail (.tail (.tail (.tail (.tail (.tail (.tail (.tail .head))))))))))))))))))))))))))))))))))))))))) (.cons (.tail (.tail (.tail (.tail (.tail (.tail (.tail (.tail (.tail (.tail (.tail (.tail (.tail (.tail (.tail (.tail (.tail (.tail (.tail (.tail (.tail (.tail (.tail (.tail (.tail (.tail (.tail (.tail (.tail (.tail (.tail (.tail (.tail (.tail (.tail (.tail (.tail (.tail (.tail (.tail .head)))))))))))))))))))))))))))))))))))))))) (.cons (.tail (.tail (.tail (.tail .head)))) (.cons (.tail (.tail (.tail (.tail .head)))) (.cons (.tail (.tail (.tail (.tail .head)))) (.cons (.tail (.tail (.tail (.tail .head)))) (.cons (.tail (.tail (.tail (.tail .head)))) (.cons (.tail (.tail (.tail (.tail .head)))) (.cons (.tail (.tail (.tail (.tail .head)))) (.cons (.tail (.tail (.tail (.tail .head)))) (.cons (.tail (.tail (.tail (.tail .head)))) (.cons (.tail (.tail (.tail (.tail .head)))) (.cons (.tail (.tail (.tail (.tail .head)))) (.cons (.tail (.tail (.tail (.tail .head)))) (.cons (.tail (.tail (.tail (.tail .head)))) (.cons (.tail (.tail (.tail (.tail .head)))) (.cons (.tail (.tail (.tail (.tail .head)))) (.cons (.tail (.tail (.tail (.tail .head)))) (.cons (.tail (.tail (.tail (.tail .head)))) (.cons (.tail (.tail (.tail (.tail .head)))) (.cons (.tail (.tail (.tail (.tail .head)))) (.cons (.tail (.tail (.tail (.tail .head)))) (.cons (.tail (.tail (.tail (.tail .head)))) (.cons (.tail (.tail (.tail (.tail .head)))) (.cons (.tail (.tail (.tail (.tail .head)))) (.cons (.tail (.tail (.tail (.tail .head)))) (.cons (.tail (.tail (.tail (.tail .head)))) (.cons (.tail (.tail (.tail (.tail .head)))) (.cons (.tail (.tail (.tail (.tail .head)))) (.cons (.tail (.tail (.tail (.tail .head)))) (.cons (.tail (.tail (.tail (.tail .head)))) (.cons (.tail (.tail (.tail (.tail .head)))) (.cons (.tail (.tail (.tail (.tail .head)))) (.cons (.tail (.tail (.tail (.tail .head)))) (.cons (.tail (.tail (.tail (.tail .head)))) (.cons (.tail (.tail (.tail (.tail .head)))) (.cons (.tail (.tail (.tail (.tail .head)))) (.cons (.tail (.tail (.tail (.tail .head)))) ((Sub.same _).more.more.more.more)))))))))))))))))))))))))))))))))))))))))
 refine ⟨fun w => St c w [blk t 38 (twc (two g d (some ⟨n.x,0,none⟩) (some ⟨n'.x,0,none⟩) (some ⟨q,0,none⟩) O1 1 d1 O3 4 d3))],h.sub (.cons .head (.nil)),?_⟩
 refine nilc (St.rdsP (B:=t) 0 (nilc (St.rdsP (B:=t) 1 ?_)))
 refine ⟨?_,?_,?_⟩
 ·refine upinfo_ok hg uA (M:=[blk t 38 (twc (two g d (some ⟨n.x,0,none⟩) (some ⟨n'.x,0,none⟩) (some ⟨q,0,none⟩) O1 1 d1 O3 4 d3)),blk q2 24 (cfg g),blk q3 30 (drc d)]) h fun I w' ui h => ?_
  have h : St c w' (blk t 38 (twc (two g d (some ⟨n.x,0,none⟩) (some ⟨n'.x,0,none⟩) (some ⟨q,0,none⟩) O1 1 d1 O3 4 d3)) :: blk q2 24 (cfg g) :: blk q3 30 (drc d) :: blk n.x 67 (cnc XA) :: own 99 1 fA 1 fC [.pointer (some ⟨n.f,0,none⟩)] :: stP g n' XB FB [] 0 fA' fC' 0 L):=h
  (repeat apply exi)
  apply exr
  refine ⟨_,fun _ h => h,h.sub (.cons .head (.nil)),?_⟩
  refine ⟨?_,?_,?_⟩
  ·refine upinfo_ok hg uB (M:=[blk t 38 (twc (two g d (some ⟨n.x,0,none⟩) (some ⟨n'.x,0,none⟩) (some ⟨q,0,none⟩) O1 1 d1 O3 4 d3)),blk q2 24 (cfg g),blk q3 30 (drc d),blk n.x 67 (cnc XA),own 99 1 fA 1 fC [.pointer (some ⟨n.f,0,none⟩)]]) h fun J w' uj h => ?_
   have h : St c w' (blk t 38 (twc (two g d (some ⟨n.x,0,none⟩) (some ⟨n'.x,0,none⟩) (some ⟨q,0,none⟩) O1 1 d1 O3 4 d3)) :: blk q2 24 (cfg g) :: blk q3 30 (drc d) :: blk n.x 67 (cnc XA) :: own 99 1 fA 1 fC [.pointer (some ⟨n.f,0,none⟩)] :: blk n'.x 67 (cnc XB) :: own 99 1 fA' 1 fC' [.pointer (some ⟨n'.f,0,none⟩)] :: L):=h
   (repeat apply exi)
   apply exr
   refine ⟨_,fun _ h => h,h.sub (.cons .head (.nil)),?_⟩
   refine ⟨?_,?_⟩
   ·refine h.allocZ fun a6 w' h => ⟨_,fun _ h => h,h.sub (.cons (.tail .head) (.nil)),?_⟩
    refine h.allocZ fun a7 w' h => ⟨_,fun _ h => h,h.sub (.cons (.tail (.tail .head)) (.nil)),?_⟩
    refine h.stG (B:=a6) (fun w' h => ?_) (hl:=by rfl)
    refine h.stG (B:=a7) (fun w' h => ?_) (hl:=by rfl)
    exact tl_ok hg uA uB ui uj (h.sub (.cons (.tail .head) (.cons .head (.cons .head (.cons .head (.cons .head (.cons .head (.cons .head (.cons .head ((Sub.same _).more)))))))))) hk
   ·refine h.allocZ fun a7 w' h => ⟨_,fun _ h => h,h.sub (.cons (.tail .head) (.nil)),?_⟩
    refine h.allocZ fun a6 w' h => ⟨_,fun _ h => h,h.sub (.cons (.tail (.tail .head)) (.nil)),?_⟩
    refine h.stG (B:=a6) (fun w' h => ?_) (hl:=by rfl)
    refine h.stG (B:=a7) (fun w' h => ?_) (hl:=by rfl)
    exact tl_ok hg uA uB ui uj (h.sub (.cons (.tail .head) (.cons .head (.cons .head (.cons .head (.cons .head (.cons .head (.cons .head (.cons .head ((Sub.same _).more)))))))))) hk
  ·refine h.allocZ fun a6 w' h => ⟨_,fun _ h => h,h.sub (.cons (.tail .head) (.nil)),?_⟩
   refine ⟨?_,?_⟩
   ·refine upinfo_ok hg uB (M:=[blk a6 53 _,blk t 38 (twc (two g d (some ⟨n.x,0,none⟩) (some ⟨n'.x,0,none⟩) (some ⟨q,0,none⟩) O1 1 d1 O3 4 d3)),blk q2 24 (cfg g),blk q3 30 (drc d),blk n.x 67 (cnc XA),own 99 1 fA 1 fC [.pointer (some ⟨n.f,0,none⟩)]]) h fun J w' uj h => ?_
    have h : St c w' (blk a6 53 _ :: blk t 38 (twc (two g d (some ⟨n.x,0,none⟩) (some ⟨n'.x,0,none⟩) (some ⟨q,0,none⟩) O1 1 d1 O3 4 d3)) :: blk q2 24 (cfg g) :: blk q3 30 (drc d) :: blk n.x 67 (cnc XA) :: own 99 1 fA 1 fC [.pointer (some ⟨n.f,0,none⟩)] :: blk n'.x 67 (cnc XB) :: own 99 1 fA' 1 fC' [.pointer (some ⟨n'.f,0,none⟩)] :: L):=h
    (repeat apply exi)
    apply exr
    refine ⟨_,fun _ h => h,h.sub (.cons (.tail .head) (.nil)),?_⟩
    refine h.allocZ fun a7 w' h => ⟨_,fun _ h => h,h.sub (.cons (.tail (.tail .head)) (.nil)),?_⟩
    refine h.stG (B:=a6) (fun w' h => ?_) (hl:=by rfl)
    refine h.stG (B:=a7) (fun w' h => ?_) (hl:=by rfl)
    exact tl_ok hg uA uB ui uj (h.sub (.cons (.tail .head) (.cons .head (.cons .head (.cons .head (.cons .head (.cons .head (.cons .head (.cons .head ((Sub.same _).more)))))))))) hk
   ·refine h.allocZ fun a7 w' h => ⟨_,fun _ h => h,h.sub (.cons (.tail (.tail .head)) (.nil)),?_⟩
    refine upinfo_ok hg uB (M:=[blk a7 53 _,blk a6 53 _,blk t 38 (twc (two g d (some ⟨n.x,0,none⟩) (some ⟨n'.x,0,none⟩) (some ⟨q,0,none⟩) O1 1 d1 O3 4 d3)),blk q2 24 (cfg g),blk q3 30 (drc d),blk n.x 67 (cnc XA),own 99 1 fA 1 fC [.pointer (some ⟨n.f,0,none⟩)]]) h fun J w' uj h => ?_
    have h : St c w' (blk a7 53 _ :: blk a6 53 _ :: blk t 38 (twc (two g d (some ⟨n.x,0,none⟩) (some ⟨n'.x,0,none⟩) (some ⟨q,0,none⟩) O1 1 d1 O3 4 d3)) :: blk q2 24 (cfg g) :: blk q3 30 (drc d) :: blk n.x 67 (cnc XA) :: own 99 1 fA 1 fC [.pointer (some ⟨n.f,0,none⟩)] :: blk n'.x 67 (cnc XB) :: own 99 1 fA' 1 fC' [.pointer (some ⟨n'.f,0,none⟩)] :: L):=h
    (repeat apply exi)
    apply exr
    refine h.stG (B:=a6) (fun w' h => ?_) (hl:=by rfl)
    refine h.stG (B:=a7) (fun w' h => ?_) (hl:=by rfl)
    exact tl_ok hg uA uB ui uj (h.sub (.cons (.tail .head) (.cons .head (.cons .head (.cons .head (.cons .head (.cons .head (.cons .head (.cons .head ((Sub.same _).more)))))))))) hk
  ·refine h.allocZ fun a7 w' h => ⟨_,fun _ h => h,h.sub (.cons (.tail .head) (.nil)),?_⟩
   refine ⟨?_,?_⟩
   ·refine upinfo_ok hg uB (M:=[blk a7 53 _,blk t 38 (twc (two g d (some ⟨n.x,0,none⟩) (some ⟨n'.x,0,none⟩) (some ⟨q,0,none⟩) O1 1 d1 O3 4 d3)),blk q2 24 (cfg g),blk q3 30 (drc d),blk n.x 67 (cnc XA),own 99 1 fA 1 fC [.pointer (some ⟨n.f,0,none⟩)]]) h fun J w' uj h => ?_
    have h : St c w' (blk a7 53 _ :: blk t 38 (twc (two g d (some ⟨n.x,0,none⟩) (some ⟨n'.x,0,none⟩) (some ⟨q,0,none⟩) O1 1 d1 O3 4 d3)) :: blk q2 24 (cfg g) :: blk q3 30 (drc d) :: blk n.x 67 (cnc XA) :: own 99 1 fA 1 fC [.pointer (some ⟨n.f,0,none⟩)] :: blk n'.x 67 (cnc XB) :: own 99 1 fA' 1 fC' [.pointer (some ⟨n'.f,0,none⟩)] :: L):=h
    (repeat apply exi)
    apply exr
    refine ⟨_,fun _ h => h,h.sub (.cons (.tail .head) (.nil)),?_⟩
    refine h.allocZ fun a6 w' h => ⟨_,fun _ h => h,h.sub (.cons (.tail (.tail .head)) (.nil)),?_⟩
    refine h.stG (B:=a6) (fun w' h => ?_) (hl:=by rfl)
    refine h.stG (B:=a7) (fun w' h => ?_) (hl:=by rfl)
    exact tl_ok hg uA uB ui uj (h.sub (.cons (.tail .head) (.cons .head (.cons .head (.cons .head (.cons .head (.cons .head (.cons .head (.cons .head ((Sub.same _).more)))))))))) hk
   ·refine h.allocZ fun a6 w' h => ⟨_,fun _ h => h,h.sub (.cons (.tail (.tail .head)) (.nil)),?_⟩
    refine upinfo_ok hg uB (M:=[blk a6 53 _,blk a7 53 _,blk t 38 (twc (two g d (some ⟨n.x,0,none⟩) (some ⟨n'.x,0,none⟩) (some ⟨q,0,none⟩) O1 1 d1 O3 4 d3)),blk q2 24 (cfg g),blk q3 30 (drc d),blk n.x 67 (cnc XA),own 99 1 fA 1 fC [.pointer (some ⟨n.f,0,none⟩)]]) h fun J w' uj h => ?_
    have h : St c w' (blk a6 53 _ :: blk a7 53 _ :: blk t 38 (twc (two g d (some ⟨n.x,0,none⟩) (some ⟨n'.x,0,none⟩) (some ⟨q,0,none⟩) O1 1 d1 O3 4 d3)) :: blk q2 24 (cfg g) :: blk q3 30 (drc d) :: blk n.x 67 (cnc XA) :: own 99 1 fA 1 fC [.pointer (some ⟨n.f,0,none⟩)] :: blk n'.x 67 (cnc XB) :: own 99 1 fA' 1 fC' [.pointer (some ⟨n'.f,0,none⟩)] :: L):=h
    (repeat apply exi)
    apply exr
    refine h.stG (B:=a6) (fun w' h => ?_) (hl:=by rfl)
    refine h.stG (B:=a7) (fun w' h => ?_) (hl:=by rfl)
    exact tl_ok hg uA uB ui uj (h.sub (.cons (.tail .head) (.cons .head (.cons .head (.cons .head (.cons .head (.cons .head (.cons .head (.cons .head ((Sub.same _).more)))))))))) hk
 ·refine h.allocZ fun a6 w' h => ⟨_,fun _ h => h,h.sub (.cons (.tail .head) (.nil)),?_⟩
  refine ⟨?_,?_⟩
  ·refine upinfo_ok hg uA (M:=[blk a6 53 _,blk t 38 (twc (two g d (some ⟨n.x,0,none⟩) (some ⟨n'.x,0,none⟩) (some ⟨q,0,none⟩) O1 1 d1 O3 4 d3)),blk q2 24 (cfg g),blk q3 30 (drc d)]) h fun I w' ui h => ?_
   have h : St c w' (blk a6 53 _ :: blk t 38 (twc (two g d (some ⟨n.x,0,none⟩) (some ⟨n'.x,0,none⟩) (some ⟨q,0,none⟩) O1 1 d1 O3 4 d3)) :: blk q2 24 (cfg g) :: blk q3 30 (drc d) :: blk n.x 67 (cnc XA) :: own 99 1 fA 1 fC [.pointer (some ⟨n.f,0,none⟩)] :: stP g n' XB FB [] 0 fA' fC' 0 L):=h
   (repeat apply exi)
   apply exr
   refine ⟨_,fun _ h => h,h.sub (.cons (.tail .head) (.nil)),?_⟩
   refine ⟨?_,?_⟩
   ·refine upinfo_ok hg uB (M:=[blk a6 53 _,blk t 38 (twc (two g d (some ⟨n.x,0,none⟩) (some ⟨n'.x,0,none⟩) (some ⟨q,0,none⟩) O1 1 d1 O3 4 d3)),blk q2 24 (cfg g),blk q3 30 (drc d),blk n.x 67 (cnc XA),own 99 1 fA 1 fC [.pointer (some ⟨n.f,0,none⟩)]]) h fun J w' uj h => ?_
    have h : St c w' (blk a6 53 _ :: blk t 38 (twc (two g d (some ⟨n.x,0,none⟩) (some ⟨n'.x,0,none⟩) (some ⟨q,0,none⟩) O1 1 d1 O3 4 d3)) :: blk q2 24 (cfg g) :: blk q3 30 (drc d) :: blk n.x 67 (cnc XA) :: own 99 1 fA 1 fC [.pointer (some ⟨n.f,0,none⟩)] :: blk n'.x 67 (cnc XB) :: own 99 1 fA' 1 fC' [.pointer (some ⟨n'.f,0,none⟩)] :: L):=h
    (repeat apply exi)
    apply exr
    refine ⟨_,fun _ h => h,h.sub (.cons (.tail .head) (.nil)),?_⟩
    refine h.allocZ fun a7 w' h => ⟨_,fun _ h => h,h.sub (.cons (.tail (.tail .head)) (.nil)),?_⟩
    refine h.stG (B:=a6) (fun w' h => ?_) (hl:=by rfl)
    refine h.stG (B:=a7) (fun w' h => ?_) (hl:=by rfl)
    exact tl_ok hg uA uB ui uj (h.sub (.cons (.tail .head) (.cons .head (.cons .head (.cons .head (.cons .head (.cons .head (.cons .head (.cons .head ((Sub.same _).more)))))))))) hk
   ·refine h.allocZ fun a7 w' h => ⟨_,fun _ h => h,h.sub (.cons (.tail (.tail .head)) (.nil)),?_⟩
    refine upinfo_ok hg uB (M:=[blk a7 53 _,blk a6 53 _,blk t 38 (twc (two g d (some ⟨n.x,0,none⟩) (some ⟨n'.x,0,none⟩) (some ⟨q,0,none⟩) O1 1 d1 O3 4 d3)),blk q2 24 (cfg g),blk q3 30 (drc d),blk n.x 67 (cnc XA),own 99 1 fA 1 fC [.pointer (some ⟨n.f,0,none⟩)]]) h fun J w' uj h => ?_
    have h : St c w' (blk a7 53 _ :: blk a6 53 _ :: blk t 38 (twc (two g d (some ⟨n.x,0,none⟩) (some ⟨n'.x,0,none⟩) (some ⟨q,0,none⟩) O1 1 d1 O3 4 d3)) :: blk q2 24 (cfg g) :: blk q3 30 (drc d) :: blk n.x 67 (cnc XA) :: own 99 1 fA 1 fC [.pointer (some ⟨n.f,0,none⟩)] :: blk n'.x 67 (cnc XB) :: own 99 1 fA' 1 fC' [.pointer (some ⟨n'.f,0,none⟩)] :: L):=h
    (repeat apply exi)
    apply exr
    refine h.stG (B:=a6) (fun w' h => ?_) (hl:=by rfl)
    refine h.stG (B:=a7) (fun w' h => ?_) (hl:=by rfl)
    exact tl_ok hg uA uB ui uj (h.sub (.cons (.tail .head) (.cons .head (.cons .head (.cons .head (.cons .head (.cons .head (.cons .head (.cons .head ((Sub.same _).more)))))))))) hk
  ·refine h.allocZ fun a7 w' h => ⟨_,fun _ h => h,h.sub (.cons (.tail (.tail .head)) (.nil)),?_⟩
   refine upinfo_ok hg uA (M:=[blk a7 53 _,blk a6 53 _,blk t 38 (twc (two g d (some ⟨n.x,0,none⟩) (some ⟨n'.x,0,none⟩) (some ⟨q,0,none⟩) O1 1 d1 O3 4 d3)),blk q2 24 (cfg g),blk q3 30 (drc d)]) h fun I w' ui h => ?_
   have h : St c w' (blk a7 53 _ :: blk a6 53 _ :: blk t 38 (twc (two g d (some ⟨n.x,0,none⟩) (some ⟨n'.x,0,none⟩) (some ⟨q,0,none⟩) O1 1 d1 O3 4 d3)) :: blk q2 24 (cfg g) :: blk q3 30 (drc d) :: blk n.x 67 (cnc XA) :: own 99 1 fA 1 fC [.pointer (some ⟨n.f,0,none⟩)] :: stP g n' XB FB [] 0 fA' fC' 0 L):=h
   (repeat apply exi)
   apply exr
   refine ⟨_,fun _ h => h,h.sub (.cons (.tail (.tail .head)) (.nil)),?_⟩
   refine upinfo_ok hg uB (M:=[blk a7 53 _,blk a6 53 _,blk t 38 (twc (two g d (some ⟨n.x,0,none⟩) (some ⟨n'.x,0,none⟩) (some ⟨q,0,none⟩) O1 1 d1 O3 4 d3)),blk q2 24 (cfg g),blk q3 30 (drc d),blk n.x 67 (cnc XA),own 99 1 fA 1 fC [.pointer (some ⟨n.f,0,none⟩)]]) h fun J w' uj h => ?_
   have h : St c w' (blk a7 53 _ :: blk a6 53 _ :: blk t 38 (twc (two g d (some ⟨n.x,0,none⟩) (some ⟨n'.x,0,none⟩) (some ⟨q,0,none⟩) O1 1 d1 O3 4 d3)) :: blk q2 24 (cfg g) :: blk q3 30 (drc d) :: blk n.x 67 (cnc XA) :: own 99 1 fA 1 fC [.pointer (some ⟨n.f,0,none⟩)] :: blk n'.x 67 (cnc XB) :: own 99 1 fA' 1 fC' [.pointer (some ⟨n'.f,0,none⟩)] :: L):=h
   (repeat apply exi)
   apply exr
   refine h.stG (B:=a6) (fun w' h => ?_) (hl:=by rfl)
   refine h.stG (B:=a7) (fun w' h => ?_) (hl:=by rfl)
   exact tl_ok hg uA uB ui uj (h.sub (.cons (.tail .head) (.cons .head (.cons .head (.cons .head (.cons .head (.cons .head (.cons .head (.cons .head ((Sub.same _).more)))))))))) hk
 ·refine h.allocZ fun a7 w' h => ⟨_,fun _ h => h,h.sub (.cons (.tail .head) (.nil)),?_⟩
  refine ⟨?_,?_⟩
  ·refine upinfo_ok hg uA (M:=[blk a7 53 _,blk t 38 (twc (two g d (some ⟨n.x,0,none⟩) (some ⟨n'.x,0,none⟩) (some ⟨q,0,none⟩) O1 1 d1 O3 4 d3)),blk q2 24 (cfg g),blk q3 30 (drc d)]) h fun I w' ui h => ?_
   have h : St c w' (blk a7 53 _ :: blk t 38 (twc (two g d (some ⟨n.x,0,none⟩) (some ⟨n'.x,0,none⟩) (some ⟨q,0,none⟩) O1 1 d1 O3 4 d3)) :: blk q2 24 (cfg g) :: blk q3 30 (drc d) :: blk n.x 67 (cnc XA) :: own 99 1 fA 1 fC [.pointer (some ⟨n.f,0,none⟩)] :: stP g n' XB FB [] 0 fA' fC' 0 L):=h
   (repeat apply exi)
   apply exr
   refine ⟨_,fun _ h => h,h.sub (.cons (.tail .head) (.nil)),?_⟩
   refine ⟨?_,?_⟩
   ·refine upinfo_ok hg uB (M:=[blk a7 53 _,blk t 38 (twc (two g d (some ⟨n.x,0,none⟩) (some ⟨n'.x,0,none⟩) (some ⟨q,0,none⟩) O1 1 d1 O3 4 d3)),blk q2 24 (cfg g),blk q3 30 (drc d),blk n.x 67 (cnc XA),own 99 1 fA 1 fC [.pointer (some ⟨n.f,0,none⟩)]]) h fun J w' uj h => ?_
    have h : St c w' (blk a7 53 _ :: blk t 38 (twc (two g d (some ⟨n.x,0,none⟩) (some ⟨n'.x,0,none⟩) (some ⟨q,0,none⟩) O1 1 d1 O3 4 d3)) :: blk q2 24 (cfg g) :: blk q3 30 (drc d) :: blk n.x 67 (cnc XA) :: own 99 1 fA 1 fC [.pointer (some ⟨n.f,0,none⟩)] :: blk n'.x 67 (cnc XB) :: own 99 1 fA' 1 fC' [.pointer (some ⟨n'.f,0,none⟩)] :: L):=h
    (repeat apply exi)
    apply exr
    refine ⟨_,fun _ h => h,h.sub (.cons (.tail .head) (.nil)),?_⟩
    refine h.allocZ fun a6 w' h => ⟨_,fun _ h => h,h.sub (.cons (.tail (.tail .head)) (.nil)),?_⟩
    refine h.stG (B:=a6) (fun w' h => ?_) (hl:=by rfl)
    refine h.stG (B:=a7) (fun w' h => ?_) (hl:=by rfl)
    exact tl_ok hg uA uB ui uj (h.sub (.cons (.tail .head) (.cons .head (.cons .head (.cons .head (.cons .head (.cons .head (.cons .head (.cons .head ((Sub.same _).more)))))))))) hk
   ·refine h.allocZ fun a6 w' h => ⟨_,fun _ h => h,h.sub (.cons (.tail (.tail .head)) (.nil)),?_⟩
    refine upinfo_ok hg uB (M:=[blk a6 53 _,blk a7 53 _,blk t 38 (twc (two g d (some ⟨n.x,0,none⟩) (some ⟨n'.x,0,none⟩) (some ⟨q,0,none⟩) O1 1 d1 O3 4 d3)),blk q2 24 (cfg g),blk q3 30 (drc d),blk n.x 67 (cnc XA),own 99 1 fA 1 fC [.pointer (some ⟨n.f,0,none⟩)]]) h fun J w' uj h => ?_
    have h : St c w' (blk a6 53 _ :: blk a7 53 _ :: blk t 38 (twc (two g d (some ⟨n.x,0,none⟩) (some ⟨n'.x,0,none⟩) (some ⟨q,0,none⟩) O1 1 d1 O3 4 d3)) :: blk q2 24 (cfg g) :: blk q3 30 (drc d) :: blk n.x 67 (cnc XA) :: own 99 1 fA 1 fC [.pointer (some ⟨n.f,0,none⟩)] :: blk n'.x 67 (cnc XB) :: own 99 1 fA' 1 fC' [.pointer (some ⟨n'.f,0,none⟩)] :: L):=h
    (repeat apply exi)
    apply exr
    refine h.stG (B:=a6) (fun w' h => ?_) (hl:=by rfl)
    refine h.stG (B:=a7) (fun w' h => ?_) (hl:=by rfl)
    exact tl_ok hg uA uB ui uj (h.sub (.cons (.tail .head) (.cons .head (.cons .head (.cons .head (.cons .head (.cons .head (.cons .head (.cons .head ((Sub.same _).more)))))))))) hk
  ·refine h.allocZ fun a6 w' h => ⟨_,fun _ h => h,h.sub (.cons (.tail (.tail .head)) (.nil)),?_⟩
   refine upinfo_ok hg uA (M:=[blk a6 53 _,blk a7 53 _,blk t 38 (twc (two g d (some ⟨n.x,0,none⟩) (some ⟨n'.x,0,none⟩) (some ⟨q,0,none⟩) O1 1 d1 O3 4 d3)),blk q2 24 (cfg g),blk q3 30 (drc d)]) h fun I w' ui h => ?_
   have h : St c w' (blk a6 53 _ :: blk a7 53 _ :: blk t 38 (twc (two g d (some ⟨n.x,0,none⟩) (some ⟨n'.x,0,none⟩) (some ⟨q,0,none⟩) O1 1 d1 O3 4 d3)) :: blk q2 24 (cfg g) :: blk q3 30 (drc d) :: blk n.x 67 (cnc XA) :: own 99 1 fA 1 fC [.pointer (some ⟨n.f,0,none⟩)] :: stP g n' XB FB [] 0 fA' fC' 0 L):=h
   (repeat apply exi)
   apply exr
   refine ⟨_,fun _ h => h,h.sub (.cons (.tail (.tail .head)) (.nil)),?_⟩
   refine upinfo_ok hg uB (M:=[blk a6 53 _,blk a7 53 _,blk t 38 (twc (two g d (some ⟨n.x,0,none⟩) (some ⟨n'.x,0,none⟩) (some ⟨q,0,none⟩) O1 1 d1 O3 4 d3)),blk q2 24 (cfg g),blk q3 30 (drc d),blk n.x 67 (cnc XA),own 99 1 fA 1 fC [.pointer (some ⟨n.f,0,none⟩)]]) h fun J w' uj h => ?_
   have h : St c w' (blk a6 53 _ :: blk a7 53 _ :: blk t 38 (twc (two g d (some ⟨n.x,0,none⟩) (some ⟨n'.x,0,none⟩) (some ⟨q,0,none⟩) O1 1 d1 O3 4 d3)) :: blk q2 24 (cfg g) :: blk q3 30 (drc d) :: blk n.x 67 (cnc XA) :: own 99 1 fA 1 fC [.pointer (some ⟨n.f,0,none⟩)] :: blk n'.x 67 (cnc XB) :: own 99 1 fA' 1 fC' [.pointer (some ⟨n'.f,0,none⟩)] :: L):=h
   (repeat apply exi)
   apply exr
   refine h.stG (B:=a6) (fun w' h => ?_) (hl:=by rfl)
   refine h.stG (B:=a7) (fun w' h => ?_) (hl:=by rfl)
   exact tl_ok hg uA uB ui uj (h.sub (.cons (.tail .head) (.cons .head (.cons .head (.cons .head (.cons .head (.cons .head (.cons .head (.cons .head ((Sub.same _).more)))))))))) hk
end
end Go.Br
