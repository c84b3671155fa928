/- Sums under a key: SipHash, and numbers that a seed draws. -/
import Derived.Test.YtmglifmopjedbaaGreatNSip
import Derived.Test.YtmglifmopjedbaaGreatBrMap
import Derived.Test.YtmglifmopjedbaaGreatBrSeat
set_option linter.unusedVariables false
set_option linter.unusedSimpArgs false
set_option linter.unnecessarySimpa false
namespace Go.Br
open Go
attribute [local irreducible] Addr.add RD RDS RUN RUNU NILC LETB CALL CALLX CALLV
structure S4 where
 a : Int
 b : Int
 c : Int
 d : Int
structure SS where
 v : S4
 word : Int
 many : Nat
def xr (x y : Int) : Int:=IntKind.u64.wrap (BitVec.ofInt (IntKind.u64.bits) x ^^^ BitVec.ofInt (IntKind.u64.bits) y).toNat
def rotS (k : Int) : Int:=IntKind.u64.wrap (BitVec.ofInt (IntKind.u64.bits) (IntKind.u64.wrap k) &&& BitVec.ofInt (IntKind.u64.bits) (63 : Int)).toNat
def rotl (x k : Int) : Int:=IntKind.u64.wrap (BitVec.ofInt (IntKind.u64.bits) (shlN .u64 x (rotS k)) ||| BitVec.ofInt (IntKind.u64.bits) (shrN .u64 x (IntKind.u64.wrap ((64 : Int) - rotS k)))).toNat
def sipA (s : S4) : Int:=IntKind.u64.wrap (s.a + s.b)
def sipC (s : S4) : Int:=IntKind.u64.wrap (s.c + s.d)
def sipB (s : S4) : Int:=xr (rotl s.b 13) (sipA s)
def sipD (s : S4) : Int:=xr (rotl s.d 16) (sipC s)
def sipE (s : S4) : Int:=IntKind.u64.wrap (sipC s + sipB s)
def sipF (s : S4) : Int:=IntKind.u64.wrap (rotl (sipA s) 32 + sipD s)
def rnd (s : S4) : S4:=⟨sipF s,xr (rotl (sipB s) 17) (sipE s),rotl (sipE s) 32,xr (rotl (sipD s) 21) (sipF s)⟩
def takeS (s : S4) (m : Int) : S4:=let t:=rnd (rnd ⟨s.a,s.b,s.c,xr s.d m⟩); ⟨xr t.a m,t.b,t.c,t.d⟩
def orS (word x : Int) (many : Nat) : Int:=IntKind.u64.wrap (BitVec.ofInt (IntKind.u64.bits) word ||| BitVec.ofInt (IntKind.u64.bits) (shlN .u64 (IntKind.u64.wrap x) (IntKind.i64.wrap ((8 : Int) * (Int.tmod (many : Int) (8 : Int)))))).toNat
def byteS (s : SS) (x : Int) : SS:=if (s.many + 1) % 8 = 0 then ⟨takeS s.v (orS s.word x s.many),0,s.many + 1⟩ else ⟨s.v,orS s.word x s.many,s.many + 1⟩
def endW (s : SS) : Int:=IntKind.u64.wrap (BitVec.ofInt (IntKind.u64.bits) s.word ||| BitVec.ofInt (IntKind.u64.bits) (shlN .u64 (IntKind.u64.wrap (IntKind.u8.wrap (s.many : Int))) (56 : Int))).toNat
def ffS (s : S4) : S4:=⟨s.a,s.b,xr s.c 255,s.d⟩
def endS (s : SS) : Int:=let t:=rnd (rnd (rnd (rnd (ffS (takeS s.v (endW s)))))); xr (xr (xr t.a t.b) t.c) t.d
def begS (k0 k1 : Int) : S4:=⟨xr k0 8317987319222330741,xr k1 7237128888997146477,xr k0 7816392313619706465,xr k1 8387220255154660723⟩
def sipS (k0 k1 : Int) (bs : List UInt8) : Int:=endS (bs.foldl (fun s b => byteS s (b.toNat : Int)) ⟨begS k0 k1,0,0⟩)
theorem byteS_many (s : SS) (x : Int) : (byteS s x).many = s.many + 1:=by unfold byteS; split <;> rfl
theorem xr_range (x y : Int) : 0 <= xr x y /\ xr x y < 18446744073709551616:=by unfold xr; rw [wrapU64]; omega
theorem sipS_range (k0 k1 : Int) (bs : List UInt8) : 0 <= sipS k0 k1 bs /\ sipS k0 k1 bs < 18446744073709551616:=xr_range _ _
structure Bp where
 A : Option Addr
 bs : List UInt8
 k : Nat
def bpv (x : Bp) : List Value:=[.slice x.A x.bs.length x.k]
def sscs (s : SS) : List Value:=[.int .u64 s.v.a,.int .u64 s.v.b,.int .u64 s.v.c,.int .u64 s.v.d,.int .u64 s.word,.int .i64 (s.many : Int)]
instance biV4 (x0 x1 x2 x3 : Int) : Bld PG (Instr.build 210 #[(0,.int .u64 x0),(1,.int .u64 x1),(2,.int .u64 x2),(3,.int .u64 x3)]) (.agg #[.int .u64 x0,.int .u64 x1,.int .u64 x2,.int .u64 x3]):=⟨fun w => by kernel_rfl⟩
instance biSip (x0 x1 x2 x3 : Int) : Bld PG (Instr.build 212 #[(0,.agg #[.int .u64 x0,.int .u64 x1,.int .u64 x2,.int .u64 x3])]) (.agg #[.int .u64 x0,.int .u64 x1,.int .u64 x2,.int .u64 x3,.int .u64 0,.int .i64 0]):=⟨fun w => by kernel_rfl⟩
section
variable {c : Ctx} {w : World} {L R : List SA}
theorem rotl_ok {x k : Int} {Q : Value -> World -> Prop} (hk : Q (.int .u64 (rotl x k)) w) : CALL PG 169 [.int .u64 x,.int .i64 k] w Q:=by
 refine call169 ?_
 unfold N169
 refine leti (y:=rotS k) rfl ⟨by unfold rotS; rw [wrapU64]; omega,by rw [wrapU64]; omega,leti rfl hk⟩
theorem round_ok {p : Nat} {s : SS} (h : St c w (blk p 212 (sscs s) :: L)) {Q : Value -> World -> Prop} (hk : ∀ w',St c w' (blk p 212 (sscs ⟨rnd s.v,s.word,s.many⟩) :: L) -> Q (.tuple #[]) w') : CALL PG 121 [.pointer (some ⟨p,0,none⟩)] w Q:=by
 refine call121 ?_
 unfold N121
 refine nilc ⟨by decide,?_⟩
 have h:=h.drew
 refine h.rdI2 0 0 ⟨by decide,?_⟩
 refine h.rdI2 0 1 ⟨by decide,?_⟩
 refine h.st2 0 0 fun w' h => ⟨by decide,?_⟩
 have h:=h.drew
 refine h.rdI2 0 2 ⟨by decide,?_⟩
 refine h.rdI2 0 3 ⟨by decide,?_⟩
 refine h.st2 0 2 fun w' h => ?_
 have h:=h.drew
 refine ⟨fun w => St c w _,h,⟨by decide,?_⟩⟩
 refine St.rdsI2 0 1 ⟨by decide,?_⟩
 refine St.rdsI2 0 0 ?_
 refine rotl_ok ⟨_,rfl,⟨_,fun _ h => h,h,⟨by decide,?_⟩⟩⟩
 refine h.st2 0 1 fun w' h => ?_
 have h:=h.drew
 refine ⟨fun w => St c w _,h,⟨by decide,?_⟩⟩
 refine St.rdsI2 0 3 ⟨by decide,?_⟩
 refine St.rdsI2 0 2 ?_
 refine rotl_ok ⟨_,rfl,⟨_,fun _ h => h,h,⟨by decide,?_⟩⟩⟩
 refine h.st2 0 3 fun w' h => ⟨by decide,?_⟩
 have h:=h.drew
 refine h.rdI2 0 0 ?_
 refine rotl_ok ⟨_,rfl,⟨by decide,?_⟩⟩
 refine h.st2 0 0 fun w' h => ⟨by decide,?_⟩
 have h:=h.drew
 refine h.rdI2 0 2 ⟨by decide,?_⟩
 refine h.rdI2 0 1 ⟨by decide,?_⟩
 refine h.st2 0 2 fun w' h => ⟨by decide,?_⟩
 have h:=h.drew
 refine h.rdI2 0 0 ⟨by decide,?_⟩
 refine h.rdI2 0 3 ⟨by decide,?_⟩
 refine h.st2 0 0 fun w' h => ?_
 have h:=h.drew
 refine ⟨fun w => St c w _,h,⟨by decide,?_⟩⟩
 refine St.rdsI2 0 1 ⟨by decide,?_⟩
 refine St.rdsI2 0 2 ?_
 refine rotl_ok ⟨_,rfl,⟨_,fun _ h => h,h,⟨by decide,?_⟩⟩⟩
 refine h.st2 0 1 fun w' h => ?_
 have h:=h.drew
 refine ⟨fun w => St c w _,h,⟨by decide,?_⟩⟩
 refine St.rdsI2 0 3 ⟨by decide,?_⟩
 refine St.rdsI2 0 0 ?_
 refine rotl_ok ⟨_,rfl,⟨_,fun _ h => h,h,⟨by decide,?_⟩⟩⟩
 refine h.st2 0 3 fun w' h => ⟨by decide,?_⟩
 have h:=h.drew
 refine h.rdI2 0 2 ?_
 refine rotl_ok ⟨_,rfl,⟨by decide,?_⟩⟩
 refine h.st2 0 2 fun w' h => ?_
 exact hk _ h
theorem take_ok {p : Nat} {s : SS} {m : Int} (h : St c w (blk p 212 (sscs s) :: L)) {Q : Value -> World -> Prop} (hk : ∀ w',St c w' (blk p 212 (sscs ⟨takeS s.v m,s.word,s.many⟩) :: L) -> Q (.tuple #[]) w') : CALL PG 120 [.pointer (some ⟨p,0,none⟩),.int .u64 m] w Q:=by
 refine call120 ?_
 unfold N120
 refine nilc ⟨by decide,?_⟩
 have h:=h.drew
 refine h.rdI2 0 3 (nilc ⟨by decide,?_⟩)
 refine h.st2 0 3 fun w' h => ?_
 refine round_ok (s:=⟨⟨s.v.a,s.v.b,s.v.c,xr s.v.d m⟩,s.word,s.many⟩) h fun w' h => ⟨rfl,?_⟩
 refine round_ok h fun w' h => ⟨rfl,nilc ⟨by decide,?_⟩⟩
 have h:=h.drew
 refine h.rdI2 0 0 (nilc ⟨by decide,?_⟩)
 refine h.st2 0 0 fun w' h => ?_
 exact hk _ h
theorem byte_ok {p : Nat} {s : SS} {x : Int} (h : St c w (blk p 212 (sscs s) :: L)) (hm : s.many <= 1000000) {Q : Value -> World -> Prop} (hk : ∀ w',St c w' (blk p 212 (sscs (byteS s x)) :: L) -> Q (.tuple #[]) w') : CALL PG 66 [.pointer (some ⟨p,0,none⟩),.int .u8 x] w Q:=by
 refine call66 ?_
 unfold N66
 have ht : Int.tmod (s.many : Int) 8 = ((s.many % 8 : Nat) : Int):=by rw [Int.tmod_eq_emod_of_nonneg (by omega)]; omega
 have ht2 : Int.tmod ((s.many + 1 : Nat) : Int) 8 = (((s.many + 1) % 8 : Nat) : Int):=by rw [Int.tmod_eq_emod_of_nonneg (by omega)]; omega
 have h:=h.drew
 refine nilc (h.rdI 4 (nilc (h.rdI 5 ⟨by decide,?_,nilc ?_⟩)))
 ·rw [ht,wrap_i64 (by omega) (by omega)]; omega
 refine h.st 4 fun w' h => nilc ?_
 refine h.rdI 5 (nilc ?_)
 refine h.st 5 fun w' h => nilc ?_
 rw [wrap_i64 (n:=(s.many : Int) + 1) (by omega) (by omega)] at h
 refine h.rdI 5 ⟨by decide,?_⟩
 rw [show (s.many : Int) + 1 = ((s.many + 1 : Nat) : Int) by omega] at h ⊢
 rw [ht2]
 unfold byteS at hk
 refine ifq (fun e => ?_) fun e => ?_
 ·rw [if_pos (by omega)] at hk
  refine nilc (h.rdI 4 ?_)
  refine take_ok (s:=⟨s.v,orS s.word x s.many,s.many + 1⟩) h fun w' h => ⟨rfl,nilc ?_⟩
  refine h.st 4 fun w' h => ?_
  exact hk _ h
 ·rw [if_neg (by omega)] at hk
  exact hk _ h
theorem end_ok {p : Nat} {s : SS} (h : St c w (blk p 212 (sscs s) :: L)) {Q : Value -> World -> Prop} (hk : ∀ w',St c w' L -> Q (.int .u64 (endS s)) w') : CALL PG 67 [.pointer (some ⟨p,0,none⟩)] w Q:=by
 refine call67 ?_
 unfold N67
 have h:=h.drew
 refine nilc (h.rdI 4 (nilc (h.rdI 5 ⟨by decide,?_⟩)))
 refine take_ok h fun w' h => ⟨rfl,nilc ⟨by decide,?_⟩⟩
 have h:=h.drew
 refine h.rdI2 0 2 (nilc ⟨by decide,?_⟩)
 refine h.st2 0 2 fun w' h => ?_
 generalize ht : ffS (takeS s.v (endW s)) = t0
 have h : St c w' (blk p 212 (sscs ⟨t0,s.word,s.many⟩) :: L):=by rw [<- ht]; exact h
 have hd : endS s = (let t:=rnd (rnd (rnd (rnd t0))); xr (xr (xr t.a t.b) t.c) t.d):=by rw [<- ht]; rfl
 have it : ∀ k : Nat,∃ t : S4,t = Nat.repeat rnd k t0:=fun k => ⟨_,rfl⟩
 refine ⟨fun m x w' => ∃ k : Nat,x = k /\ m = 4 - k /\ k <= 4 /\ St c w' (blk p 212 (sscs ⟨Nat.repeat rnd k t0,s.word,s.many⟩) :: L),⟨_,0,rfl,rfl,by omega,h⟩,?_⟩
 clear h
 rintro m _ w' ⟨k,rfl,rfl,hk4,h⟩
 refine ifd (fun hlt => ?_) fun hge => ?_
 ·refine round_ok h fun w' h => ⟨rfl,_,by omega,k + 1,by rw [wrap_i64 (by omega) (by omega)]; omega,rfl,by omega,h⟩
 have ek : k = 4:=by omega
 subst ek
 refine nilc ⟨by decide,?_⟩
 have h:=h.drew
 refine h.rdI2 0 0 (nilc ⟨by decide,?_⟩)
 refine h.rdI2 0 1 (nilc ⟨by decide,?_⟩)
 refine h.rdI2 0 2 (nilc ⟨by decide,?_⟩)
 refine h.rdI2 0 3 ?_
 refine leti rfl ?_
 have:=hk _ h.drop
 rw [hd] at this
 exact this
theorem begin_ok (h : St c w L) {k0 k1 : Int} {Q : Value -> World -> Prop} (hk : ∀ p w',St c w' (blk p 212 (sscs ⟨begS k0 k1,0,0⟩) :: L) -> Q (.pointer (some ⟨p,0,none⟩)) w') : CALL PG 65 [.agg #[.int .u64 k0,.int .u64 k1]] w Q:=by
 refine call65 ?_
 unfold N65
 refine h.box fun q w' h => ?_
 refine h.rdI 0 (h.rdI 1 (h.rdI 0 (h.rdI 1 ?_)))
 refine RD.bld ⟨_,rfl,?_⟩
 refine RD.bld ⟨_,rfl,?_⟩
 refine h.box fun p w' h => ?_
 exact hk p w' h.swap.drop
theorem sum_ok (h : St c w L) {k0 k1 : Int} {A : Option Addr} {k : Nat} {X : List Bp} (hr : RdIn L A (X.flatMap bpv)) (hx : ∀ x ∈ X,RdIn L x.A (bvs x.bs)) (hl : (X.flatMap Bp.bs).length <= 100000) (hn : X.length <= 1000) {Q : Value -> World -> Prop}
  (hk : ∀ w',St c w' L -> Q (.int .u64 (sipS k0 k1 (X.flatMap Bp.bs))) w') : CALL PG 33 [.agg #[.int .u64 k0,.int .u64 k1],.slice A X.length k] w Q:=by
 refine call33 ?_
 unfold N33
 refine h.box fun q w' h => ?_
 refine h.rdG ?_
 (repeat apply exi)
 apply exr
 refine begin_ok h fun p w' h => ?_
 (repeat apply exi)
 apply exr
 have h:=h.swap.drop
 let f : SS -> UInt8 -> SS:=fun s b => byteS s (b.toNat : Int)
 have fm : ∀ (bs : List UInt8) (s : SS),(bs.foldl f s).many = s.many + bs.length:=fun bs => by
  induction bs with
  | nil => intro s; rfl
  | cons b r ih => intro s; rw [List.foldl_cons,ih,List.length_cons]; show (byteS s _).many + _ = _; rw [byteS_many]; omega
 let s0 : SS:=⟨begS k0 k1,0,0⟩
 refine ⟨fun m x w' => ∃ j : Nat,x = j /\ m = X.length - j /\ j <= X.length /\ St c w' (blk p 212 (sscs (((X.take j).flatMap Bp.bs).foldl f s0)) :: L),⟨_,0,rfl,rfl,by omega,h⟩,?_⟩
 clear h
 rintro m _ w' ⟨j,rfl,rfl,hj,h⟩
 refine ifd (fun hlt => ?_) fun hge => ?_
 ·obtain ⟨x,hy⟩:=ex_get (L:=X) (j:=j) (by omega)
  have hm:=List.mem_of_getElem? hy
  have hpre : ((X.take (j + 1)).flatMap Bp.bs).length <= (X.flatMap Bp.bs).length:=by
   have e : X.flatMap Bp.bs = (X.take (j + 1)).flatMap Bp.bs ++ (X.drop (j + 1)).flatMap Bp.bs:=by rw [<- List.flatMap_append,List.take_append_drop]
   rw [e,List.length_append]; omega
  rw [take_snoc' hy,List.flatMap_append,List.length_append] at hpre
  simp only [List.flatMap_cons,List.flatMap_nil,List.append_nil] at hpre
  refine h.ix (z:=0) hr.more hy (fun a ha => ?_) (by omega)
  have hr1:=hr
  rw [ha] at hr1
  refine h.rdWL hr1.more hy ?_
  generalize hs : ((X.take j).flatMap Bp.bs).foldl f s0 = s at h
  have hsm : s.many = ((X.take j).flatMap Bp.bs).length:=by rw [<- hs,fm]; simp [s0]
  refine ⟨fun m y w' => ∃ q : Nat,y = q /\ m = x.bs.length - q /\ q <= x.bs.length /\ St c w' (blk p 212 (sscs ((x.bs.take q).foldl f s)) :: L),⟨_,0,rfl,rfl,by omega,h⟩,?_⟩
  clear h
  rintro m _ w' ⟨q,rfl,rfl,hq,h⟩
  refine ifd (fun hlt2 => ?_) fun hge2 => ?_
  ·obtain ⟨b,hb⟩:=ex_get (L:=x.bs) (j:=q) (by omega)
   have hrb:=(hx x hm).more (X:=blk p 212 (sscs ((x.bs.take q).foldl f s)))
   rw [bvs_flat] at hrb
   refine h.ix (z:=0) hrb hb (fun a2 ha2 => ?_) (by omega)
   rw [ha2] at hrb
   refine h.rdWI hrb hb (leti rfl ?_)
   refine byte_ok h (by rw [fm,List.length_take]; omega) fun w' h => ⟨rfl,_,by omega,q + 1,by rw [wrap_i64 (by omega) (by omega)]; omega,rfl,by omega,?_⟩
   rw [take_snoc' hb,List.foldl_append]
   exact h
  ·have eq : x.bs.take q = x.bs:=List.take_of_length_le (by omega)
   rw [eq] at h
   refine ⟨_,by omega,j + 1,by rw [wrap_i64 (by omega) (by omega)]; omega,rfl,by omega,?_⟩
   rw [take_snoc' hy,List.flatMap_append,List.foldl_append,hs]
   simpa using h
 ·have ej : X.take j = X:=List.take_of_length_le (by omega)
  rw [ej] at h
  refine end_ok h fun w' h => ?_
  (repeat apply exi)
  apply exr
  exact leti rfl (hk _ h)
end
end Go.Br
