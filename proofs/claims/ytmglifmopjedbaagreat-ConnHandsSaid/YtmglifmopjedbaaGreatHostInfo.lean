/- What one may see of a host and of its connections. -/
import Derived.Test.YtmglifmopjedbaaGreatNHostInfo
import Derived.Test.YtmglifmopjedbaaGreatJInlet2
import Derived.Test.YtmglifmopjedbaaGreatJConnPump
import Derived.Test.YtmglifmopjedbaaGreatJConnAsk2
import Derived.Test.YtmglifmopjedbaaGreatJSortInt
set_option linter.unusedVariables false
set_option linter.unusedSimpArgs false
set_option linter.unnecessarySimpa false
namespace Go.Br
open Go
instance biHostInfoa (x0 : Int) (x1 : Int) (x2 : Int) (x3 : Int) (x4 : Int) (x5 : Int) (x6 : Int) (x7 : Int) (x8 : Int) (x9 : Int) (x10 : Int) (x11 : Int) (x12 : Bool) (x13 : Bool) (x14 : Int) (x15 : Int) (x16 : Int) (x17 : Int) : Bld PG (Instr.build 53 #[(0,.int .i64 x0),(1,.int .i64 x1),(2,.int .i64 x2),(3,.agg #[.int .u64 x3,.int .u64 x4]),(4,.agg #[.int .i64 x5,.int .u16 x6,.int .u16 x7]),(5,.int .u64 x8),(6,.int .u64 x9),(7,.int .u64 x10),(8,.int .u64 x11),(9,.bool x12),(10,.bool x13),(11,.int .i64 x14),(12,.int .i64 x15),(13,.int .i64 x16),(14,.int .i64 x17)]) (.agg #[.int .i64 x0,.int .i64 x1,.int .i64 x2,.int .u64 x3,.int .u64 x4,.int .i64 x5,.int .u16 x6,.int .u16 x7,.int .u64 x8,.int .u64 x9,.int .u64 x10,.int .u64 x11,.bool x12,.bool x13,.int .i64 x14,.int .i64 x15,.int .i64 x16,.int .i64 x17]):=⟨fun w => by kernel_rfl⟩
instance biHostInfob : Zro PG 53 18 128 (.agg #[.int .i64 0,.int .i64 0,.int .i64 0,.int .u64 0,.int .u64 0,.int .i64 0,.int .u16 0,.int .u16 0,.int .u64 0,.int .u64 0,.int .u64 0,.int .u64 0,.bool false,.bool false,.int .i64 0,.int .i64 0,.int .i64 0,.int .i64 0]):=⟨tiOf (by kernel_rfl)⟩
attribute [local irreducible] Addr.add RD RDS RUN RUNU NILC LETB CALL CALLX CALLV
structure Inf where
 state : Int
 cause : Int
 role : Int
 idK0 : Int
 idK1 : Int
 firstPath : Int
 firstLocal : Int
 firstRemote : Int
 accepted : Int
 acked : Int
 came : Int
 read : Int
 closed : Bool
 ended : Bool
 silence : Int
 flows : Int
 under : Int
 held : Int
def inf (x : Inf) : List Value:=[.int .i64 x.state,.int .i64 x.cause,.int .i64 x.role,.int .u64 x.idK0,.int .u64 x.idK1,.int .i64 x.firstPath,.int .u16 x.firstLocal,.int .u16 x.firstRemote,.int .u64 x.accepted,.int .u64 x.acked,.int .u64 x.came,.int .u64 x.read,.bool x.closed,.bool x.ended,.int .i64 x.silence,.int .i64 x.flows,.int .i64 x.under,.int .i64 x.held]
abbrev infv (x : Inf) : Value:=.agg #[.int .i64 x.state,.int .i64 x.cause,.int .i64 x.role,.int .u64 x.idK0,.int .u64 x.idK1,.int .i64 x.firstPath,.int .u16 x.firstLocal,.int .u16 x.firstRemote,.int .u64 x.accepted,.int .u64 x.acked,.int .u64 x.came,.int .u64 x.read,.bool x.closed,.bool x.ended,.int .i64 x.silence,.int .i64 x.flows,.int .i64 x.under,.int .i64 x.held]
structure Kb where
 o : Nat
 r : Nat
 i : Nat
 r2 : Nat
 y : Nat
 ob : Int
 oc : Bool
 od : Bool
 rA : Option Addr
 rN : Nat
 rC : Nat
 ra : Int
 rl : Int
 s : Option Addr
 ib : Int
 ie : Int
 ik : Bool
 qA : Option Addr
 qN : Nat
 qC : Nat
 qa : Int
 ql : Int
 ym : Int
 yA : Option Addr
 yN : Nat
 yC : Nat
def Cn.at (X : Cn) (K : Kb) : Cn:={ X with out:=some ⟨K.o,0,none⟩,inn:=some ⟨K.i,0,none⟩,way:=some ⟨K.y,0,none⟩ }
abbrev coB (x : Nat) (X : Cn) (K : Kb) (L : List SA) : List SA :=
 blk x 67 (cnc (X.at K)) :: blk K.o 92 [.pointer (some ⟨K.r,0,none⟩),.int .u64 K.ob,.bool K.oc,.bool K.od] :: blk K.r 157 [.slice K.rA K.rN K.rC,.int .i64 K.ra,.int .i64 K.rl] ::
 blk K.i 95 [.pointer (some ⟨K.r2,0,none⟩),.pointer K.s,.int .u64 K.ib,.int .u64 K.ie,.bool K.ik] :: blk K.r2 157 [.slice K.qA K.qN K.qC,.int .i64 K.qa,.int .i64 K.ql] :: blk K.y 155 [.int .i64 K.ym,.slice K.yA K.yN K.yC] :: L
structure KbOk (K : Kb) : Prop where
 ob : 0 <= K.ob /\ K.ob <= 4611686018427387904
 rl : 0 <= K.rl /\ K.rl <= 1000000
 ib : 0 <= K.ib /\ K.ib <= 4611686018427387904
 ql : 0 <= K.ql /\ K.ql <= 1000000
 rN : K.rN <= 1000000
 qN : K.qN <= 1000000
 yN : K.yN <= 1000000
def infOf (X : Cn) (K : Kb) : Inf :=
 ⟨X.state,X.cause,X.role,X.keysIDK0,X.keysIDK1,X.firstPath,X.firstLocal,X.firstRemote,K.ob + K.rl,K.ob,K.ib + K.ql,K.ib,K.oc,K.ik && (K.ib + K.ql == K.ie),X.silence,X.flowsN,K.yN,K.rN + K.qN⟩
section
variable {c : Ctx} {w : World} {L R : List SA}
set_option maxRecDepth 20000 in
theorem cinfo_ok {x : Nat} {X : Cn} {K : Kb} (h : St c w (coB x X K L)) (ok : KbOk K) {Q : Value -> World -> Prop} (hk : ∀ w',St c w' (coB x X K L) -> Q (infv (infOf X K)) w') : CALL PG 8 [.pointer (some ⟨x,0,none⟩)] w Q:=by
 obtain ⟨h1,h2,h3,h4,h5,h6,h7⟩:=ok
 refine call8 ?_
 unfold N8
 refine h.allocZ fun q w' h => ?_
 have h:=h.drew
 refine ⟨fun w => St c w [blk x 67 (cnc (X.at K)),blk K.o 92 [.pointer (some ⟨K.r,0,none⟩),.int .u64 K.ob,.bool K.oc,.bool K.od],blk K.i 95 [.pointer (some ⟨K.r2,0,none⟩),.pointer K.s,.int .u64 K.ib,.int .u64 K.ie,.bool K.ik]],h.sub (.cons (.tail .head) (.cons (.tail .head) (.cons (.tail (.tail .head)) (.nil)))),?_⟩
 simp only [add_add,Nat.reduceAdd]
 refine nilc (St.rdsI (B:=x) 25 (nilc (St.rdsI (B:=x) 26 (nilc (St.rdsI (B:=x) 24 (nilc ?_))))))
 refine St.rdsGo (B:=x) 0 2 ?_
 (repeat apply exi)
 apply exr
 refine nilc (St.rdsGo (B:=x) 30 3 ?_)
 (repeat apply exi)
 apply exr
 refine nilc (St.rdsP (B:=x) 35 (nilc (St.rdsP (B:=x) 35 (nilc (St.rdsP (B:=x) 36 (nilc (St.rdsP (B:=x) 36 (nilc (St.rdsP (B:=x) 35 (nilc (St.rdsP (B:=x) 36 (nilc ?_))))))))))))
 refine St.rdsI (B:=x) 45 (nilc (St.rdsL (B:=x) 33 (nilc (St.rdsP (B:=x) 37 (nilc (St.rdsP (B:=x) 35 (nilc (St.rdsP (B:=K.o) 0 (nilc (St.rdsP (B:=x) 36 (nilc (St.rdsP (B:=K.i) 0 ?_))))))))))))
 have keep : ∀ {w'} {S : World -> Prop},(∀ w,St c w [blk x 67 (cnc (X.at K)),blk K.o 92 [.pointer (some ⟨K.r,0,none⟩),.int .u64 K.ob,.bool K.oc,.bool K.od],blk K.i 95 [.pointer (some ⟨K.r2,0,none⟩),.pointer K.s,.int .u64 K.ib,.int .u64 K.ie,.bool K.ik]] -> S w) -> St c w' (blk q 53 (inf ⟨0,0,0,0,0,0,0,0,0,0,0,0,false,false,0,0,0,0⟩) :: coB x X K L) -> S w':=fun f h => f _ (h.sub (.cons (.tail .head) (.cons (.tail .head) (.cons (.tail (.tail .head)) (.nil)))))
 -- End
 refine call24 ?_
 unfold N24
 have h:=h.drew
 refine ⟨fun w => St c w [blk K.o 92 [.pointer (some ⟨K.r,0,none⟩),.int .u64 K.ob,.bool K.oc,.bool K.od]],h.sub (.cons (.tail (.tail .head)) (.nil)),?_⟩
 refine nilc (St.rdsI (B:=K.o) 1 (nilc (St.rdsP (B:=K.o) 0 ?_)))
 refine call64 ?_
 unfold N64
 refine nilc (h.rdI (B:=K.r) 2 (leti rfl ⟨_,rfl,_,fun _ h => h,h.sub (.cons (.tail (.tail .head)) (.nil)),leti (y:=K.ob + K.rl) ?_ ⟨_,rfl,_,fun _ h => h,keep (fun _ h => h) h,?_⟩⟩))
 ·rw [wrapU64 (n:=K.rl),wrapU64]; omega
 -- Base
 refine call25 ?_
 unfold N25
 refine nilc (h.rdI (B:=K.o) 1 (leti rfl ⟨_,rfl,_,fun _ h => h,keep (fun _ h => h) h,?_⟩))
 -- Next
 have nx : ∀ {w'} {Q' : Value -> World -> Prop},St c w' (blk q 53 (inf ⟨0,0,0,0,0,0,0,0,0,0,0,0,false,false,0,0,0,0⟩) :: coB x X K L) -> (∀ w',St c w' (blk q 53 (inf ⟨0,0,0,0,0,0,0,0,0,0,0,0,false,false,0,0,0,0⟩) :: coB x X K L) -> Q' (.int .u64 (K.ib + K.ql)) w') -> CALL PG 26 [.pointer (some ⟨K.i,0,none⟩)] w' Q':=by
  intro w' Q' h hk
  refine call26 ?_
  unfold N26
  have h:=h.drew
  refine ⟨fun w => St c w [blk K.i 95 [.pointer (some ⟨K.r2,0,none⟩),.pointer K.s,.int .u64 K.ib,.int .u64 K.ie,.bool K.ik]],h.sub (.cons (.tail (.tail (.tail (.tail .head)))) (.nil)),?_⟩
  refine nilc (St.rdsI (B:=K.i) 2 (nilc (St.rdsP (B:=K.i) 0 ?_)))
  refine call64 ?_
  unfold N64
  refine nilc (h.rdI (B:=K.r2) 2 (leti rfl ⟨_,rfl,_,fun _ h => h,h.sub (.cons (.tail (.tail (.tail (.tail .head)))) (.nil)),leti (y:=K.ib + K.ql) ?_ (hk _ h)⟩))
  rw [wrapU64 (n:=K.ql),wrapU64]; omega
 refine nx h fun w' h => ⟨_,rfl,_,fun _ h => h,keep (fun _ h => h) h,?_⟩
 refine call27 ?_
 unfold N27
 refine nilc (h.rdI (B:=K.i) 2 (leti rfl ⟨_,rfl,_,fun _ h => h,keep (fun _ h => h) h,?_⟩))
 refine call28 ?_
 unfold N28
 refine nilc (h.rdB (B:=K.o) 2 (letb rfl ⟨_,rfl,_,fun _ h => h,keep (fun _ h => h) h,?_⟩))
 -- Ended
 have en : ∀ {w'} {Q' : Value -> World -> Prop},St c w' (blk q 53 (inf ⟨0,0,0,0,0,0,0,0,0,0,0,0,false,false,0,0,0,0⟩) :: coB x X K L) -> (∀ w',St c w' (blk q 53 (inf ⟨0,0,0,0,0,0,0,0,0,0,0,0,false,false,0,0,0,0⟩) :: coB x X K L) -> Q' (.bool (K.ik && (K.ib + K.ql == K.ie))) w') -> CALL PG 29 [.pointer (some ⟨K.i,0,none⟩)] w' Q':=by
  intro w' Q' h hk
  refine call29 ?_
  unfold N29
  have h:=h.drew
  refine ⟨fun w => St c w [blk K.i 95 [.pointer (some ⟨K.r2,0,none⟩),.pointer K.s,.int .u64 K.ib,.int .u64 K.ie,.bool K.ik]],h.sub (.cons (.tail (.tail (.tail (.tail .head)))) (.nil)),?_⟩
  refine nilc (St.rdsB (B:=K.i) 4 ?_)
  refine ifb (fun e => ?_) fun e => ?_
  ·refine nilc (St.rdsI (B:=K.i) 3 ?_)
   refine nx h fun w' h => ⟨_,rfl,_,fun _ h => h,h.sub (.cons (.tail (.tail (.tail (.tail .head)))) (.nil)),letb rfl ?_⟩
   have:=hk _ h
   rwa [e,Bool.true_and] at this
  ·have:=hk _ h
   rw [e,Bool.false_and] at this
   exact letb rfl this
 refine en h fun w' h => ⟨_,rfl,_,fun _ h => h,keep (fun _ h => h) h,?_⟩
 refine call30 ?_
 unfold N30
 refine nilc (h.rdL (B:=K.y) 1 (leti rfl ⟨_,rfl,_,fun _ h => h,keep (fun _ h => h) h,?_⟩))
 refine call31 ?_
 unfold N31
 refine nilc (h.rdL (B:=K.r) 0 (leti rfl ⟨_,rfl,_,fun _ h => h,keep (fun _ h => h) h,?_⟩))
 refine call31 ?_
 unfold N31
 refine nilc (h.rdL (B:=K.r2) 0 (leti rfl ⟨_,rfl,_,fun _ h => h,keep (fun _ h => h) h,?_⟩))
 rw [wrap_i64 (n:=(K.rN : Int) + K.qN) (by omega) (by omega)]
 refine RDS.bld ?_
 (repeat apply exi)
 apply exr
 refine h.stG (B:=q) fun w' h => ?_
 refine h.rdG (B:=q) ?_
 (repeat apply exi)
 apply exr
 exact hk _ h.drop
end
end Go.Br
