/- Ring2, Inlet, Inlet2 -/
import Derived.Test.YtmglifmopjedbaaGreatBrSeat
import Derived.Test.YtmglifmopjedbaaGreatBrList
import Derived.Test.YtmglifmopjedbaaGreatSpans2
/- What the code of some functions says,as the core reads it; each reading is checked by the kernel. -/
set_option linter.unusedVariables false
set_option maxRecDepth 100000
namespace Go.Br
open Go Go.Proofs
def N64o (r : Option Addr) (w : World) (Q : QP) : Prop :=
 NILC r fun a4 =>
 RD PG (loadVar 3 (a4.add 2)) w fun v =>
 ∃ x6 : Int,v = (.int .i64 x6) /\
 (LETI x6 fun x2 =>
 Q (.int .i64 x2) w)
theorem call64o {r : Option Addr} {w : World} {Q : QP} (h_ : N64o r w Q) : CALL PG 64 [(.pointer r)] w Q:=calls_vq .nil tabOk Tryz.func64 (by kernel_rfl) h_
def N157o (r : Option Addr) (w : World) (Q : QP) : Prop :=
 NILC r fun a4 =>
 RD PG (loadVar 41 (a4.add 0)) (w.drew) fun v =>
 ∃ (x6 : Option Addr) (x6N x6C : Nat),v = (.slice x6 x6N x6C) /\
 (NILC r fun a9 =>
 RD PG (loadVar 3 (a9.add 2)) (w.drew) fun v1 =>
 ∃ x11 : Int,v1 = (.int .i64 x11) /\
 (LETI (IntKind.i64.wrap ((x6N : Int) - x11)) fun x2 =>
 Q (.int .i64 x2) (w.drew)))
theorem call157o {r : Option Addr} {w : World} {Q : QP} (h_ : N157o r w Q) : CALL PG 157 [(.pointer r)] w Q:=calls_vq .nil tabOk Tryz.func157 (by kernel_rfl) h_
def N193o (r : Option Addr) (i : Int) (w : World) (Q : QP) : Prop :=
 NILC r fun a6 =>
 RD PG (loadVar 3 (a6.add 1)) (w.drew) fun v =>
 ∃ x8 : Int,v = (.int .i64 x8) /\
 (NILC r fun a12 =>
 RD PG (loadVar 41 (a12.add 0)) (w.drew) fun v1 =>
 ∃ (x14 : Option Addr) (x14N x14C : Nat),v1 = (.slice x14 x14N x14C) /\
 (NEED ((x14N : Int) ≠ 0)
 (LETI (Int.tmod (IntKind.i64.wrap (x8 + i)) (x14N : Int)) fun x4 =>
 Q (.int .i64 x4) (w.drew))))
theorem call193o {r : Option Addr} {i : Int} {w : World} {Q : QP} (h_ : N193o r i w Q) : CALL PG 193 [(.pointer r),(.int .i64 i)] w Q:=calls_vq .nil tabOk Tryz.func193 (by kernel_rfl) h_
def N214o (r : Option Addr) (fromv : Int) (p : Option Addr) (pN pC : Nat) (w : World) (Q : QP) : Prop :=
 IFB (decide (fromv < 0))
 (Q (.bool false) w)
 (NILC r fun a14 =>
 RD PG (loadVar 41 (a14.add 0)) w fun v =>
 ∃ (x16 : Option Addr) (x16N x16C : Nat),v = (.slice x16 x16N x16C) /\
 (IFB (decide (fromv > (x16N : Int)))
 (Q (.bool false) w)
 (NILC r fun a24 =>
 RD PG (loadVar 41 (a24.add 0)) w fun v1 =>
 ∃ (x26 : Option Addr) (x26N x26C : Nat),v1 = (.slice x26 x26N x26C) /\
 (IFB (decide ((pN : Int) > (IntKind.i64.wrap ((x26N : Int) - fromv))))
 (Q (.bool false) w)
 (∃ I : Nat -> Int -> World -> Prop,
 (∃ m,I m 0 w) /\
 (∀ m1 (x34 : Int) (w1 : World),I m1 x34 w1 -> (IFB (decide (x34 < (pN : Int)))
 (IDX p pN x34 fun a37 =>
 RD PG (loadVar 5 (a37.add (Int.toNat x34 * 1))) w1 fun v2 =>
 ∃ x38 : Int,v2 = (.int .u8 x38) /\
 (LETI x34 fun i =>
 LETI x38 fun c =>
 ∃ S : World -> Prop,S (w1.drew) /\
 (NILC r fun a40 =>
 RDS PG (loadVar 41 (a40.add 0)) S fun v3 =>
 ∃ (x42 : Option Addr) (x42N x42C : Nat),v3 = (.slice x42 x42N x42C) /\
 (CALL PG 193 [(.pointer r),(.int .i64 (IntKind.i64.wrap (fromv + i)))] (w1.drew) fun v4 w2 =>
 ∃ x47 : Int,v4 = (.int .i64 x47) /\
 (∃ S1 : World -> Prop,(∀ x,S1 x -> S x) /\ S1 w2 /\
 (IDX x42 x42N x47 fun a49 =>
 RUNU PG (storeVar 5 (a49.add (Int.toNat x47 * 1)) (.int .u8 c)) w2 fun w3 =>
 ∃ m2,m2 < m1 /\ I m2 (IntKind.i64.wrap (x34 + 1)) w3))))))
 (Q (.bool true) w1))))))))
theorem call214o {r : Option Addr} {fromv : Int} {p : Option Addr} {pN pC : Nat} {w : World} {Q : QP} (h_ : N214o r fromv p pN pC w Q) : CALL PG 214 [(.pointer r),(.int .i64 fromv),(.slice p pN pC)] w Q:=calls_vq (.s .nil (.s .nil (.s (.s .nil (.u (.loop [(34,3)] .nil))) .nil))) tabOk Tryz.func214 (by kernel_rfl) h_
def N215o (r : Option Addr) (many : Int) (w : World) (Q : QP) : Prop :=
 IFB (decide (many < 0))
 (Q (.bool false) w)
 (CALL PG 157 [(.pointer r)] w fun v w1 =>
 ∃ x10 : Int,v = (.int .i64 x10) /\
 (IFB (decide (many > x10))
 (Q (.bool false) w1)
 (NILC r fun a14 =>
 RD PG (loadVar 3 (a14.add 2)) w1 fun v1 =>
 ∃ x16 : Int,v1 = (.int .i64 x16) /\
 (NILC r fun a19 =>
 RUNU PG (storeVar 3 (a19.add 2) (.int .i64 (IntKind.i64.wrap (x16 + many)))) w1 fun w2 =>
 Q (.bool true) w2))))
theorem call215o {r : Option Addr} {many : Int} {w : World} {Q : QP} (h_ : N215o r many w Q) : CALL PG 215 [(.pointer r),(.int .i64 many)] w Q:=calls_vq .nil tabOk Tryz.func215 (by kernel_rfl) h_
end Go.Br
/- The ring's functions but Write: what a call of each does to the ring's bytes. -/
set_option linter.unusedVariables false
namespace Go.Br
open Go
structure RingAt (w : World) (p D : Nat) (bs : List UInt8) (a n : Nat) : Prop where
 hp : Blk w p 157 [.slice (some ⟨D,0,none⟩) bs.length bs.length,.int .i64 (a : Int),.int .i64 (n : Int)]
 hD : Blk w D 5 (bvs bs)
 ne : p ≠ D
 pos : 0 < bs.length
 big : bs.length <= 65536
 ha : a < bs.length
 hn : n <= bs.length
def IsRing (w : World) (p D : Nat) (v : List UInt8) (n : Nat) : Prop:=∃ bs a,RingAt w p D bs a n /\ v = rot bs a
theorem RingAt.kp {S : List Nat} {w w' : World} {p D : Nat} {bs : List UInt8} {a n : Nat} (h : RingAt w p D bs a n) (k : Kp S w w') (h1 : p ∉ S) (h2 : D ∉ S) : RingAt w' p D bs a n :=
 ⟨h.hp.kp k h1,h.hD.kp k h2,h.ne,h.pos,h.big,h.ha,h.hn⟩
theorem free_ok {w : World} {p D : Nat} {bs : List UInt8} {a n : Nat} (h : RingAt w p D bs a n) {Q : Value -> World -> Prop} (hk : Q (.int .i64 ((bs.length : Int) - n)) w.drew) :
  CALL PG 157 [.pointer (some ⟨p,0,none⟩)] w Q:=by
 have:=h.big; have:=h.hn
 refine call157o ?_
 unfold N157o
 refine RD.of (ld 0 h.hp.drew rfl (by kernel_rfl)) ⟨_,_,_,rfl,?_⟩
 refine RD.of (ld 2 h.hp.drew rfl (by kernel_rfl)) ⟨_,rfl,?_⟩
 unfold LETI
 rw [wrap_i64 (by omega) (by omega)]
 exact hk
theorem len_ok {w : World} {p D : Nat} {bs : List UInt8} {a n : Nat} (h : RingAt w p D bs a n) {Q : Value -> World -> Prop} (hk : Q (.int .i64 (n : Int)) w) :
  CALL PG 64 [.pointer (some ⟨p,0,none⟩)] w Q:=by
 refine call64o ?_
 unfold N64o
 exact RD.of (ld 2 h.hp rfl (by kernel_rfl)) ⟨_,rfl,hk⟩
theorem place_ok {w : World} {p D : Nat} {bs : List UInt8} {a n : Nat} (h : RingAt w p D bs a n) {i : Int} (h0 : 0 <= i) (h1 : i <= 65536) {Q : Value -> World -> Prop}
  (hk : Q (.int .i64 (((a + i.toNat) % bs.length : Nat) : Int)) w.drew) : CALL PG 193 [.pointer (some ⟨p,0,none⟩),.int .i64 i] w Q:=by
 have:=h.big; have:=h.ha; have hpos:=h.pos
 refine call193o ?_
 unfold N193o
 refine RD.of (ld 1 h.hp.drew rfl (by kernel_rfl)) ⟨_,rfl,?_⟩
 refine RD.of (ld 0 h.hp.drew rfl (by kernel_rfl)) ⟨_,_,_,rfl,?_⟩
 refine ⟨by omega,?_⟩
 unfold LETI
 rw [wrap_i64 (by omega) (by omega),Int.tmod_eq_emod_of_nonneg (by omega)]
 have e : ((a : Int) + i) % (bs.length : Int) = (((a + i.toNat) % bs.length : Nat) : Int):=by
  rw [Int.natCast_emod]; congr 1; omega
 rw [e]
 exact hk
theorem RingAt.drew {w : World} {p D : Nat} {bs : List UInt8} {a n : Nat} (h : RingAt w p D bs a n) : RingAt w.drew p D bs a n:=h.kp (Kp.drew w) (by simp) (by simp)
theorem grow_ok {w : World} {p D : Nat} {bs : List UInt8} {a n k : Nat} (h : RingAt w p D bs a n) (hm : n + k <= bs.length) {Q : Value -> World -> Prop}
  (hk : ∀ w',Kp [p] w w' -> w'.heap.size = w.heap.size -> RingAt w' p D bs a (n + k) -> Q (.bool true) w') : CALL PG 215 [.pointer (some ⟨p,0,none⟩),.int .i64 (k : Int)] w Q:=by
 have hbig:=h.big; have hn:=h.hn; have ha:=h.ha; have hpos:=h.pos
 refine call215o ?_
 unfold N215o
 refine ifdf (by omega) ?_
 refine free_ok h ⟨_,rfl,?_⟩
 refine ifdf (by omega) ?_
 refine RD.of (ld 2 h.drew.hp rfl (by kernel_rfl)) ⟨_,rfl,?_⟩
 have e3 : ((n : Int) + k) = ((n + k : Nat) : Int):=by omega
 rw [wrap_i64 (by omega) (by omega),e3]
 refine st 2 h.drew.hp (by kernel_rfl) rfl (by simp) fun w1 k1 s1 hp1 => ?_
 refine hk w1 ((Kp.drew w).trans k1 (by simp) (by simp)) (by rw [s1]; rfl) ⟨hp1,h.drew.hD.kp k1 (by simp; exact Ne.symm h.ne),h.ne,by omega,by omega,by omega,by omega⟩
theorem set_ok {w : World} {p D : Nat} {bs : List UInt8} {a n o : Nat} (h : RingAt w p D bs a n) {A : Option Addr} {m c : Nat} {xs : List UInt8} (hr : Row w A (bvs xs)) (hl : xs.length = m) (ho : o + m <= bs.length)
  (hA : ∀ x,A = some x -> xs ≠ [] -> x.block ≠ D) {Q : Value -> World -> Prop}
  (hk : ∀ w' bs',Kp [D] w w' -> w'.heap.size = w.heap.size -> bs'.length = bs.length -> RingAt w' p D bs' a n -> rot bs' a = spl (rot bs a) o xs -> Q (.bool true) w') :
  CALL PG 214 [.pointer (some ⟨p,0,none⟩),.int .i64 (o : Int),.slice A m c] w Q:=by
 have hbig:=h.big; have ha:=h.ha
 refine call214o ?_
 unfold N214o
 refine ifdf (by omega) ?_
 refine RD.of (ld 0 h.hp rfl (by kernel_rfl)) ⟨_,_,_,rfl,?_⟩
 refine ifdf (by omega) ?_
 refine RD.of (ld 0 h.hp rfl (by kernel_rfl)) ⟨_,_,_,rfl,?_⟩
 rw [wrap_i64 (by omega) (by omega)]
 refine ifdf (by omega) ?_
 refine ⟨fun r x w1 => ∃ i : Nat,x = (i : Int) /\ i + r = m /\ Kp [D] w w1 /\ w1.heap.size = w.heap.size /\ ∃ bs',bs'.length = bs.length /\ RingAt w1 p D bs' a n /\ rot bs' a = spl (rot bs a) o (xs.take i),?_,?_⟩
 ·exact ⟨m,0,rfl,by omega,(Kp.refl w).mono (by simp),rfl,bs,rfl,h,by simp [spl_zero]⟩
 ·rintro r x w1 ⟨i,rfl,hir,k1,s1,bs1,l1,h1,hr1⟩
  refine ifd (fun hlt => ?_) fun hge => ?_
  ·have hi : i < xs.length:=by omega
   obtain ⟨ad,rfl,hc⟩:=(hr.kp k1 (by intro x hx hb; simp; exact hA x hx (bvs_ne hb))).byte hi
   refine ⟨by omega,ad,rfl,?_⟩
   simp only [Int.toNat_natCast,Nat.mul_one]
   refine RD.of (ldc hc (by kernel_rfl)) ⟨_,rfl,?_⟩
   refine leti rfl (leti rfl ?_)
   refine ⟨fun w' => RingAt w' p D bs1 a n,h1.drew,?_⟩
   refine ⟨_,fun w' h' => ld 0 h'.hp rfl (by kernel_rfl),_,_,_,rfl,?_⟩
   rw [wrap_i64 (by omega) (by omega)]
   refine place_ok h1.drew (by omega) (by omega) ⟨_,rfl,?_⟩
   refine ⟨fun w' => RingAt w' p D bs1 a n,fun _ h => h,h1.drew.drew,?_⟩
   have hj : (a + Int.toNat ((o : Int) + i)) % bs1.length < bs1.length:=Nat.mod_lt _ (by omega)
   refine ⟨⟨by omega,by omega⟩,_,rfl,?_⟩
   simp only [Int.toNat_natCast]
   have e1 : Int.toNat ((o : Int) + i) = o + i:=by omega
   rw [e1] at hj ⊢
   refine st _ h1.drew.drew.hD (by kernel_rfl) rfl (by simpa using hj) fun w2 k2 s2 hD2 => ?_
   refine ⟨r - 1,by omega,i + 1,by rw [wrap_i64 (by omega) (by omega)]; simp,by omega,?_,?_,bs1.set ((a + (o + i)) % bs1.length) xs[i],by simpa using l1,?_,?_⟩
   ·exact k1.then (((Kp.drew w1).then (Kp.drew _)).trans k2 (by simp) (by simp))
   ·rw [s2]; exact s1
   ·have hp2:=h1.drew.drew.hp.kp k2 (by simp; exact h.ne)
    refine ⟨by rw [List.length_set]; exact hp2,?_,h.ne,by simp; omega,by simp; omega,by simp; omega,by simp; exact h1.hn⟩
    have:=hD2
    rw [show (Value.int IntKind.u8 (xs[i].toNat : Int)) = bv xs[i] from rfl,bvs_set] at this
    exact this
   ·have hoi : o + i < bs1.length:=by omega
    rw [rot_set (by omega) hoi,hr1,spl_snoc hi (by simp; omega)]
  ·have : i = m:=by omega
   subst this
   refine hk w1 bs1 k1 s1 l1 h1 ?_
   rw [hr1,List.take_of_length_le (by omega)]
end Go.Br
/- What the code of some functions says,as the core reads it; each reading is checked by the kernel. -/
set_option linter.unusedVariables false
set_option maxRecDepth 100000
namespace Go.Br
open Go Go.Proofs
def N26 (x : Option Addr) (w : World) (Q : QP) : Prop :=
 ∃ S : World -> Prop,S (w.drew) /\
 (NILC x fun a4 =>
 RDSI PG (loadVar 25 (a4.add 2)) .u64 S fun x6 =>
 NILC x fun a8 =>
 RDSP PG (loadVar 90 (a8.add 0)) S fun x10 =>
 CALL PG 64 [(.pointer x10)] (w.drew) fun v w1 =>
 ∃ x11 : Int,v = (.int .i64 x11) /\
 (∃ S1 : World -> Prop,(∀ x,S1 x -> S x) /\ S1 w1 /\
 (LETI (IntKind.u64.wrap (x6 + (IntKind.u64.wrap x11))) fun x2 =>
 Q (.int .u64 x2) w1)))
theorem call26 {x : Option Addr} {w : World} {Q : QP} (h_ : N26 x w Q) : CALL PG 26 [(.pointer x)] w Q:=calls_vq .nil tabOk Tryz.func26 (by kernel_rfl) h_
def N27 (x : Option Addr) (w : World) (Q : QP) : Prop :=
 NILC x fun a4 =>
 RDI PG (loadVar 25 (a4.add 2)) .u64 w fun x6 =>
 LETI x6 fun x2 =>
 Q (.int .u64 x2) w
theorem call27 {x : Option Addr} {w : World} {Q : QP} (h_ : N27 x w Q) : CALL PG 27 [(.pointer x)] w Q:=calls_vq .nil tabOk Tryz.func27 (by kernel_rfl) h_
def N29 (x : Option Addr) (w : World) (Q : QP) : Prop :=
 ∃ S : World -> Prop,S (w.drew) /\
 (NILC x fun a4 =>
 RDSB PG (loadVar 4 (a4.add 4)) S fun x6 =>
 IFB x6
 (NILC x fun a11 =>
 RDSI PG (loadVar 25 (a11.add 3)) .u64 S fun x13 =>
 CALL PG 26 [(.pointer x)] (w.drew) fun v w1 =>
 ∃ x9 : Int,v = (.int .u64 x9) /\
 (∃ S1 : World -> Prop,(∀ x,S1 x -> S x) /\ S1 w1 /\
 (LETB (x9 == x13) fun x2 =>
 Q (.bool x2) w1)))
 (LETB false fun x2v1 =>
 Q (.bool x2v1) (w.drew)))
theorem call29 {x : Option Addr} {w : World} {Q : QP} (h_ : N29 x w Q) : CALL PG 29 [(.pointer x)] w Q:=calls_vq .nil tabOk Tryz.func29 (by kernel_rfl) h_
def N31 (r : Option Addr) (w : World) (Q : QP) : Prop :=
 NILC r fun a4 =>
 RDL PG (loadVar 41 (a4.add 0)) w fun x6 x6N x6C =>
 LETI (x6N : Int) fun x2 =>
 Q (.int .i64 x2) w
theorem call31 {r : Option Addr} {w : World} {Q : QP} (h_ : N31 r w Q) : CALL PG 31 [(.pointer r)] w Q:=calls_vq .nil tabOk Tryz.func31 (by kernel_rfl) h_
def N211 (x : Option Addr) (w : World) (Q : QP) : Prop :=
 NILC x fun a4 =>
 RDB PG (loadVar 4 (a4.add 4)) w fun x6 =>
 IFB x6
 (∃ S : World -> Prop,S (w.drew) /\
 (NILC x fun a8 =>
 RDSI PG (loadVar 25 (a8.add 3)) .u64 S fun x10 =>
 CALL PG 240 [(.pointer x)] (w.drew) fun v w1 =>
 ∃ x12 : Int,v = (.int .u64 x12) /\
 (∃ S1 : World -> Prop,(∀ x,S1 x -> S x) /\ S1 w1 /\
 (LETI (minN x10 x12) fun x2 =>
 Q (.int .u64 x2) w1))))
 (CALL PG 240 [(.pointer x)] w fun v1 w2 =>
 ∃ x15 : Int,v1 = (.int .u64 x15) /\
 (LETI x15 fun x2v1 =>
 Q (.int .u64 x2v1) w2))
theorem call211 {x : Option Addr} {w : World} {Q : QP} (h_ : N211 x w Q) : CALL PG 211 [(.pointer x)] w Q:=calls_vq .nil tabOk Tryz.func211 (by kernel_rfl) h_
def N240 (x : Option Addr) (w : World) (Q : QP) : Prop :=
 ∃ S : World -> Prop,S (w.drew) /\
 (NILC x fun a4 =>
 RDSI PG (loadVar 25 (a4.add 2)) .u64 S fun x6 =>
 NILC x fun a8 =>
 RDSP PG (loadVar 90 (a8.add 0)) S fun x10 =>
 CALL PG 31 [(.pointer x10)] (w.drew) fun v w1 =>
 ∃ x11 : Int,v = (.int .i64 x11) /\
 (∃ S1 : World -> Prop,(∀ x,S1 x -> S x) /\ S1 w1 /\
 (LETI (IntKind.u64.wrap (x6 + (IntKind.u64.wrap x11))) fun x2 =>
 Q (.int .u64 x2) w1)))
theorem call240 {x : Option Addr} {w : World} {Q : QP} (h_ : N240 x w Q) : CALL PG 240 [(.pointer x)] w Q:=calls_vq .nil tabOk Tryz.func240 (by kernel_rfl) h_
end Go.Br
/- The inlet's ring as a piece; the inlet's small functions. -/
set_option linter.unusedVariables false
set_option linter.unusedSimpArgs false
set_option linter.unnecessarySimpa false
namespace Go.Br
open Go
attribute [local irreducible] Addr.add RD RDS RUN RUNU NILC LETB CALL CALLX CALLV
def rng (p D : Nat) (v : List UInt8) (n : Nat) : SA:=Br.held [p,D] fun w => IsRing w p D v n
theorem RingAt.same {w w' : World} {p D : Nat} {bs : List UInt8} {a n : Nat} (h : RingAt w p D bs a n) (e : ∀ i ∈ [p,D],w'.heap[i]? = w.heap[i]?) : RingAt w' p D bs a n :=
 ⟨h.hp.same (e p (by simp)),h.hD.same (e D (by simp)),h.ne,h.pos,h.big,h.ha,h.hn⟩
theorem RingAt.isR {w : World} {p D : Nat} {bs : List UInt8} {a n : Nat} (h : RingAt w p D bs a n) : (rng p D (rot bs a) n).p [p,D] [] w:=by
 refine held_mk ?_ fun w' e => ⟨bs,a,h.same e,rfl⟩
 intro i hi
 simp at hi
 rcases hi with rfl | rfl
 ·exact h.hp.lt
 ·exact h.hD.lt
section
variable {c : Ctx} {w : World} {L R : List SA} {p D : Nat} {v : List UInt8} {n : Nat}
theorem St.rngF (h : St c w L) (hp : Pick (rng p D v n) L R) : n <= v.length /\ 1 <= v.length /\ v.length <= 65536:=by
 obtain ⟨bs,a,h,rfl⟩:=(h.held hp).1
 rw [rot_length]
 exact ⟨h.hn,h.pos,h.big⟩
theorem St.rngO (h : St c w L) (hp : Pick (rng p D v n) L R) : ∃ bs a,RingAt w p D bs a n /\ v = rot bs a /\ (∀ {X : Option Addr} {cs : List Value},RdIn R X cs -> ∀ x,X = some x -> cs ≠ [] -> x.block ≠ D) /\
  (∀ {w' : World} {bs' : List UInt8} {a' n' : Nat},Kp [p,D] w w' -> RingAt w' p D bs' a' n' -> St c w' (rng p D (rot bs' a') n' :: R)) /\
  ∀ {w' : World} {bs' : List UInt8} {a' n' : Nat} {e z m d : Nat} {A : Option Addr} {cs : List Value},Kp [p,D] w w' -> RingAt w' p D bs' a' n' -> Own w' e z A m d cs -> (∀ x,A = some x -> w.heap.size <= x.block) -> St c w' (Br.own e z A m d cs :: rng p D (rot bs' a') n' :: R):=by
 have hf:=(h.held hp).1
 obtain ⟨F,G,h1,h3,h2⟩:=(h.pick hp).openR
 unfold rng at h1
 rw [held_p] at h1
 obtain ⟨rfl,rfl,hlt,_⟩:=h1
 obtain ⟨bs,a,ha,hv⟩:=hf
 refine ⟨bs,a,ha,hv,fun hr x hx hne hD => h3 hr x hx hne (by simp [hD]),fun k h' => h2 k h'.isR (by simp) (by simp),?_⟩
 intro w' bs' a' n' e z m d A cs k h' ho hA
 have hp':=hlt p (by simp)
 have hD':=hlt D (by simp)
 have hfp : ∀ i ∈ fpA A,w.heap.size <= i:=fun i hi => by
  cases A with
  | none => simp [fpA] at hi
  | some x =>
   simp [fpA] at hi
   subst hi
   exact hA x rfl
 have hown : (Br.own e z A m d cs).p (fpA A) [] w':=own_p.2 ⟨rfl,rfl,ho⟩
 have hsep : (Br.sep (Br.own e z A m d cs) (rng p D (rot bs' a') n')).p (fpA A ++ [p,D]) ([] ++ []) w':=sep_p.2 ⟨_,_,_,_,rfl,rfl,hown,h'.isR,fun i hi => by have:=hfp i hi; simp; omega,by simp⟩
 exact (h2 k hsep (fun i hi => (List.mem_append.1 hi).elim (fun hi => .inr (hfp i hi)) .inl) (by simp)).split
theorem xlen_ok (h : St c w L) (hp : Pick (rng p D v n) L R) {Q : Value -> World -> Prop} (hk : Q (.int .i64 (n : Int)) w) : CALL PG 64 [.pointer (some ⟨p,0,none⟩)] w Q:=by
 obtain ⟨bs,a,h1,rfl,_⟩:=h.rngO hp
 exact len_ok h1 hk
theorem xset_ok (h : St c w L) (hp : Pick (rng p D v n) L R) {A : Option Addr} {m d o : Nat} {xs : List UInt8} (hr : RdIn R A (bvs xs)) (hl : xs.length = m) (ho : o + m <= v.length) {Q : Value -> World -> Prop}
  (hk : ∀ w',St c w' (rng p D (spl v o xs) n :: R) -> Q (.bool true) w') : CALL PG 214 [.pointer (some ⟨p,0,none⟩),.int .i64 (o : Int),.slice A m d] w Q:=by
 obtain ⟨bs,a,h1,rfl,h3,h4,_⟩:=h.rngO hp
 rw [rot_length] at ho
 refine set_ok h1 (hr.more c w (h.pick hp)) hl ho (fun x hx hne => h3 hr x hx (fun e => hne (by cases xs with | nil => rfl | cons a b => simp [bvs] at e))) fun w' bs' k s l h' e => hk w' ?_
 rw [<- e]
 exact h4 (k.mono (by simp)) h'
theorem xgrow_ok (h : St c w L) (hp : Pick (rng p D v n) L R) {k : Nat} (hm : n + k <= v.length) {Q : Value -> World -> Prop} (hk : ∀ w',St c w' (rng p D v (n + k) :: R) -> Q (.bool true) w') : CALL PG 215 [.pointer (some ⟨p,0,none⟩),.int .i64 (k : Int)] w Q:=by
 obtain ⟨bs,a,h1,rfl,h3,h4,_⟩:=h.rngO hp
 rw [rot_length] at hm
 exact grow_ok h1 hm fun w' k s h' => hk w' (h4 (k.mono (by simp)) h')
theorem xsize_ok (h : St c w L) (hp : Pick (rng p D v n) L R) {Q : Value -> World -> Prop} (hk : Q (.int .i64 (v.length : Int)) w) : CALL PG 31 [.pointer (some ⟨p,0,none⟩)] w Q:=by
 obtain ⟨bs,a,h1,rfl,_⟩:=h.rngO hp
 rw [rot_length] at hk
 refine call31 ?_
 unfold N31
 refine nilc ?_
 unfold RDL
 exact RD.of (ld 0 h1.hp rfl (by kernel_rfl)) ⟨_,_,_,rfl,leti rfl hk⟩
end
abbrev il (p r D sp : Nat) (base e : Int) (kn : Bool) (v : List UInt8) (n : Nat) (most : Int) (S : List Sp) (R : List SA) : List SA :=
 Br.blk p 95 [.pointer (some ⟨r,0,none⟩),.pointer (some ⟨sp,0,none⟩),.int .u64 base,.int .u64 e,.bool kn] :: rng r D v n :: sset sp most S :: R
section
variable {c : Ctx} {w : World} {L R : List SA} {p r D sp n : Nat} {base e most : Int} {kn : Bool} {v : List UInt8} {S : List Sp}
theorem next_ok (h : St c w (il p r D sp base e kn v n most S R)) (hb : 0 <= base) (hb2 : base + v.length < 18446744073709551616) {Q : Value -> World -> Prop}
    (hk : ∀ w',St c w' (il p r D sp base e kn v n most S R) -> Q (.int .u64 (base + n)) w') : CALL PG 26 [.pointer (some ⟨p,0,none⟩)] w Q:=by
  have hf:=h.rngF (.tail .head)
  refine call26 ?_
  unfold N26
  repeat' (first
    | refine nilc ?_
    | refine h.rdI _ ?_
    | refine h.rdB _ ?_
    | refine h.rdP _ ?_
    | refine h.rdL _ ?_
    | refine h.rdT _ ?_
    | refine h.rdI2 _ _ ?_
    | refine h.rdB2 _ _ ?_
    | refine h.rdP2 _ _ ?_
    | refine h.rdL2 _ _ ?_
    | refine h.st2 _ _ fun w' h => ?_
    | refine h.st _ fun w' h => ?_
    | refine h.rdvI ?_
    | refine h.rdvB ?_
    | refine h.rdvP ?_
    | refine h.rdvL ?_
    | refine h.rdvT ?_
    | (refine h.rdG ?_; (repeat apply exi); apply exr)
    | refine h.stG fun w' h => ?_
    | refine h.stV fun w' h => ?_
    | refine h.box fun p w' h => ?_
    | refine h.boxV fun p w' h => ?_
    | refine h.allocZ fun p w' h => ?_
    | refine h.allocZV fun p w' h => ?_
    | (refine RD.bld ?_; (repeat apply exi); apply exr)
    | (refine RDS.bld ?_; (repeat apply exi); apply exr)
    | refine St.rdsI _ ?_
    | refine St.rdsB _ ?_
    | refine St.rdsP _ ?_
    | refine St.rdsL _ ?_
    | refine St.rdsT _ ?_
    | refine St.rdsI2 _ _ ?_
    | refine St.rdsB2 _ _ ?_
    | (refine St.rdsG ?_; (repeat apply exi); apply exr)
    | refine letb rfl ?_
    | refine sat h ?_
    | (have h:=h.drew; refine sat h ?_)
    | refine sat1 h (fun _ h => h.to) ?_)
  refine xlen_ok h (.tail .head) ?_
  (repeat apply exi)
  apply exr
  refine sat1 h (fun _ h => h) ?_
  rw [show IntKind.u64.wrap (base + IntKind.u64.wrap (n : Int)) = base + n by rw [wrapU64,wrapU64]; omega]
  exact leti rfl (hk _ h)
theorem edge_ok (h : St c w (il p r D sp base e kn v n most S R)) (hb : 0 <= base) (hb2 : base + v.length < 18446744073709551616) {Q : Value -> World -> Prop}
    (hk : ∀ w',St c w' (il p r D sp base e kn v n most S R) -> Q (.int .u64 (base + v.length)) w') : CALL PG 240 [.pointer (some ⟨p,0,none⟩)] w Q:=by
  have hf:=h.rngF (.tail .head)
  refine call240 ?_
  unfold N240
  repeat' (first
    | refine nilc ?_
    | refine h.rdI _ ?_
    | refine h.rdB _ ?_
    | refine h.rdP _ ?_
    | refine h.rdL _ ?_
    | refine h.rdT _ ?_
    | refine h.rdI2 _ _ ?_
    | refine h.rdB2 _ _ ?_
    | refine h.rdP2 _ _ ?_
    | refine h.rdL2 _ _ ?_
    | refine h.st2 _ _ fun w' h => ?_
    | refine h.st _ fun w' h => ?_
    | refine h.rdvI ?_
    | refine h.rdvB ?_
    | refine h.rdvP ?_
    | refine h.rdvL ?_
    | refine h.rdvT ?_
    | (refine h.rdG ?_; (repeat apply exi); apply exr)
    | refine h.stG fun w' h => ?_
    | refine h.stV fun w' h => ?_
    | refine h.box fun p w' h => ?_
    | refine h.boxV fun p w' h => ?_
    | refine h.allocZ fun p w' h => ?_
    | refine h.allocZV fun p w' h => ?_
    | (refine RD.bld ?_; (repeat apply exi); apply exr)
    | (refine RDS.bld ?_; (repeat apply exi); apply exr)
    | refine St.rdsI _ ?_
    | refine St.rdsB _ ?_
    | refine St.rdsP _ ?_
    | refine St.rdsL _ ?_
    | refine St.rdsT _ ?_
    | refine St.rdsI2 _ _ ?_
    | refine St.rdsB2 _ _ ?_
    | (refine St.rdsG ?_; (repeat apply exi); apply exr)
    | refine letb rfl ?_
    | refine sat h ?_
    | (have h:=h.drew; refine sat h ?_)
    | refine sat1 h (fun _ h => h.to) ?_)
  refine xsize_ok h (.tail .head) ?_
  (repeat apply exi)
  apply exr
  refine sat1 h (fun _ h => h) ?_
  rw [show IntKind.u64.wrap (base + IntKind.u64.wrap (v.length : Int)) = base + v.length by rw [wrapU64,wrapU64]; omega]
  exact leti rfl (hk _ h)
def topI (base e : Int) (kn : Bool) (sz : Nat) : Int:=if kn = true then minN e (base + sz) else base + sz
theorem top_ok (h : St c w (il p r D sp base e kn v n most S R)) (hb : 0 <= base) (hb2 : base + v.length < 18446744073709551616) {Q : Value -> World -> Prop}
    (hk : ∀ w',St c w' (il p r D sp base e kn v n most S R) -> Q (.int .u64 (topI base e kn v.length)) w') : CALL PG 211 [.pointer (some ⟨p,0,none⟩)] w Q:=by
  unfold topI at hk
  refine call211 ?_
  unfold N211
  repeat' (first
    | refine nilc ?_
    | refine h.rdI _ ?_
    | refine h.rdB _ ?_
    | refine h.rdP _ ?_
    | refine h.rdL _ ?_
    | refine h.rdT _ ?_
    | refine h.rdI2 _ _ ?_
    | refine h.rdB2 _ _ ?_
    | refine h.rdP2 _ _ ?_
    | refine h.rdL2 _ _ ?_
    | refine h.st2 _ _ fun w' h => ?_
    | refine h.st _ fun w' h => ?_
    | refine h.rdvI ?_
    | refine h.rdvB ?_
    | refine h.rdvP ?_
    | refine h.rdvL ?_
    | refine h.rdvT ?_
    | (refine h.rdG ?_; (repeat apply exi); apply exr)
    | refine h.stG fun w' h => ?_
    | refine h.stV fun w' h => ?_
    | refine h.box fun p w' h => ?_
    | refine h.boxV fun p w' h => ?_
    | refine h.allocZ fun p w' h => ?_
    | refine h.allocZV fun p w' h => ?_
    | (refine RD.bld ?_; (repeat apply exi); apply exr)
    | (refine RDS.bld ?_; (repeat apply exi); apply exr)
    | refine St.rdsI _ ?_
    | refine St.rdsB _ ?_
    | refine St.rdsP _ ?_
    | refine St.rdsL _ ?_
    | refine St.rdsT _ ?_
    | refine St.rdsI2 _ _ ?_
    | refine St.rdsB2 _ _ ?_
    | (refine St.rdsG ?_; (repeat apply exi); apply exr)
    | refine letb rfl ?_
    | refine sat h ?_
    | (have h:=h.drew; refine sat h ?_)
    | refine sat1 h (fun _ h => h.to) ?_)
  refine ifb (fun e1 => ?_) fun e1 => ?_
  · rw [if_pos e1] at hk
    repeat' (first
      | refine nilc ?_
      | refine h.rdI _ ?_
      | refine h.rdB _ ?_
      | refine h.rdP _ ?_
      | refine h.rdL _ ?_
      | refine h.rdT _ ?_
      | refine h.rdI2 _ _ ?_
      | refine h.rdB2 _ _ ?_
      | refine h.rdP2 _ _ ?_
      | refine h.rdL2 _ _ ?_
      | refine h.st2 _ _ fun w' h => ?_
      | refine h.st _ fun w' h => ?_
      | refine h.rdvI ?_
      | refine h.rdvB ?_
      | refine h.rdvP ?_
      | refine h.rdvL ?_
      | refine h.rdvT ?_
      | (refine h.rdG ?_; (repeat apply exi); apply exr)
      | refine h.stG fun w' h => ?_
      | refine h.stV fun w' h => ?_
      | refine h.box fun p w' h => ?_
      | refine h.boxV fun p w' h => ?_
      | refine h.allocZ fun p w' h => ?_
      | refine h.allocZV fun p w' h => ?_
      | (refine RD.bld ?_; (repeat apply exi); apply exr)
      | (refine RDS.bld ?_; (repeat apply exi); apply exr)
      | refine St.rdsI _ ?_
      | refine St.rdsB _ ?_
      | refine St.rdsP _ ?_
      | refine St.rdsL _ ?_
      | refine St.rdsT _ ?_
      | refine St.rdsI2 _ _ ?_
      | refine St.rdsB2 _ _ ?_
      | (refine St.rdsG ?_; (repeat apply exi); apply exr)
      | refine letb rfl ?_
      | refine sat h ?_
      | (have h:=h.drew; refine sat h ?_)
      | refine sat1 h (fun _ h => h.to) ?_)
    refine edge_ok h hb hb2 fun w' h => ?_
    (repeat apply exi)
    apply exr
    exact sat1 h (fun _ h => h) (leti rfl (hk _ h))
  · rw [if_neg (by simp [e1])] at hk
    refine edge_ok h hb hb2 fun w' h => ?_
    (repeat apply exi)
    apply exr
    exact leti rfl (hk _ h)
end
end Go.Br
/- What the code of some functions says,as the core reads it; each reading is checked by the kernel. -/
set_option linter.unusedVariables false
set_option maxRecDepth 100000
namespace Go.Br
open Go Go.Proofs
def N189 (x : Option Addr) (fromv : Int) (b : Option Addr) (bN bC : Nat) (w : World) (Q : QP) : Prop :=
 LETI (IntKind.u64.wrap (fromv + (IntKind.u64.wrap (bN : Int)))) fun tov =>
 IFB (decide (tov < fromv))
 (Q (.bool false) w)
 (∃ R : Int -> Bool -> World -> Prop,
 (CALL PG 211 [(.pointer x)] w fun v w1 =>
 ∃ x23 : Int,v = (.int .u64 x23) /\
 (LETI x23 fun top =>
 IFB (decide (tov > top))
 (IFB (decide ((bN : Int) > 0))
 (LETI (maxN top fromv) fun tov1 =>
 R tov1 false w1)
 (R tov true w1))
 (R tov true w1))) /\
 (∀ (tov2 : Int) (whole : Bool) (w2 : World),R tov2 whole w2 -> (NEED (0 <= (0 : Int) /\ (0 : Int) <= (IntKind.u64.wrap (tov2 - fromv)) /\ (IntKind.u64.wrap (tov2 - fromv)) <= ((bC : Nat) : Int))
 (∃ R1 : Int -> Option Addr -> Nat -> Nat -> World -> Prop,
 (CALL PG 26 [(.pointer x)] w2 fun v1 w3 =>
 ∃ x41 : Int,v1 = (.int .u64 x41) /\
 (LETI x41 fun next =>
 IFB (decide (fromv < next))
 (NEED (0 <= (minN (IntKind.u64.wrap (next - fromv)) (IntKind.u64.wrap (((Int.toNat (IntKind.u64.wrap (tov2 - fromv)) - Int.toNat (0 : Int)) : Nat) : Int))) /\ (minN (IntKind.u64.wrap (next - fromv)) (IntKind.u64.wrap (((Int.toNat (IntKind.u64.wrap (tov2 - fromv)) - Int.toNat (0 : Int)) : Nat) : Int))) <= (((Int.toNat (IntKind.u64.wrap (tov2 - fromv)) - Int.toNat (0 : Int)) : Nat) : Int) /\ (((Int.toNat (IntKind.u64.wrap (tov2 - fromv)) - Int.toNat (0 : Int)) : Nat) : Int) <= (((bC - Int.toNat (0 : Int)) : Nat) : Int))
 (LETI next fun fromv1 =>
 R1 fromv1 (cutA (cutA b bC 1 0) (bC - Int.toNat 0) 1 (minN (IntKind.u64.wrap (next - fromv)) (IntKind.u64.wrap (((Int.toNat (IntKind.u64.wrap (tov2 - fromv)) - Int.toNat 0) : Nat) : Int)))) (Int.toNat (((Int.toNat (IntKind.u64.wrap (tov2 - fromv)) - Int.toNat 0) : Nat) : Int) - Int.toNat (minN (IntKind.u64.wrap (next - fromv)) (IntKind.u64.wrap (((Int.toNat (IntKind.u64.wrap (tov2 - fromv)) - Int.toNat 0) : Nat) : Int)))) ((bC - Int.toNat 0) - Int.toNat (minN (IntKind.u64.wrap (next - fromv)) (IntKind.u64.wrap (((Int.toNat (IntKind.u64.wrap (tov2 - fromv)) - Int.toNat 0) : Nat) : Int)))) w3))
 (R1 fromv (cutA b bC 1 0) (Int.toNat (IntKind.u64.wrap (tov2 - fromv)) - Int.toNat 0) (bC - Int.toNat 0) w3))) /\
 (∀ (fromv2 : Int) (b1 : Option Addr) (bN1 bC1 : Nat) (w4 : World),R1 fromv2 b1 bN1 bC1 w4 -> (IFB ((bN1 : Int) == 0)
 (LETB whole fun x6 =>
 Q (.bool x6) w4)
 (LETI (IntKind.u64.wrap (fromv2 + (IntKind.u64.wrap (bN1 : Int)))) fun tov3 =>
 NILC x fun a65 =>
 RDP PG (loadVar 93 (a65.add 1)) w4 fun x67 =>
 CALL PG 212 [(.pointer x67),(.int .u64 fromv2),(.int .u64 tov3)] w4 fun v2 w5 =>
 ∃ (x70 : Option Addr) (x70N x70C : Nat),v2 = (.slice x70 x70N x70C) /\
 (∃ R2 : World -> Prop,
 (CALL PG 26 [(.pointer x)] w5 fun v3 w6 =>
 ∃ x73 : Int,v3 = (.int .u64 x73) /\
 (IFB (decide (fromv2 > x73))
 (NILC x fun a77 =>
 RDP PG (loadVar 93 (a77.add 1)) w6 fun x79 =>
 CALL PG 213 [(.pointer x79),(.int .u64 fromv2),(.int .u64 tov3)] w6 fun v4 w7 =>
 ∃ x82 : Bool,v4 = (.bool x82) /\
 (IFB (!x82)
 (Q (.bool false) w7)
 (R2 w7)))
 (R2 w6))) /\
 (∀  (w8 : World),R2 w8 -> (∃ I : Nat -> Int -> World -> Prop,
 (∃ m,I m 0 w8) /\
 (∀ m1 (x87 : Int) (w9 : World),I m1 x87 w9 -> (IFB (decide (x87 < (x70N : Int)))
 (IDX x70 x70N x87 fun a89 =>
 RD PG (loadVar 298 (a89.add (Int.toNat x87 * 2))) w9 fun v5 =>
 ∃ x90 : Int,∃ x90v1 : Int,v5 = (.agg #[(.int .u64 x90),(.int .u64 x90v1)]) /\
 (RUNA PG (Instr.alloc 298 true (.tuple #[])) w9 fun a13 w10 =>
 RUNU PG (storeVar 298 a13 (.agg #[(.int .u64 x90),(.int .u64 x90v1)])) w10 fun w11 =>
 NILC x fun a92 =>
 RDP PG (loadVar 90 (a92.add 0)) (w11.drew) fun x94 =>
 RDI PG (loadVar 25 (a13.add 0)) .u64 (w11.drew) fun x96 =>
 NILC x fun a98 =>
 RDI PG (loadVar 25 (a98.add 2)) .u64 (w11.drew) fun x100 =>
 RDI PG (loadVar 25 (a13.add 0)) .u64 (w11.drew) fun x105 =>
 RDI PG (loadVar 25 (a13.add 1)) .u64 (w11.drew) fun x109 =>
 NEED (0 <= (IntKind.u64.wrap (x105 - fromv2)) /\ (IntKind.u64.wrap (x105 - fromv2)) <= (IntKind.u64.wrap (x109 - fromv2)) /\ (IntKind.u64.wrap (x109 - fromv2)) <= ((bC1 : Nat) : Int))
 (CALL PG 214 [(.pointer x94),(.int .i64 (IntKind.i64.wrap (IntKind.u64.wrap (x96 - x100)))),(.slice (cutA b1 bC1 1 (IntKind.u64.wrap (x105 - fromv2))) (Int.toNat (IntKind.u64.wrap (x109 - fromv2)) - Int.toNat (IntKind.u64.wrap (x105 - fromv2))) (bC1 - Int.toNat (IntKind.u64.wrap (x105 - fromv2))))] (w11.drew) fun v6 w12 =>
 ∃ x113 : Bool,v6 = (.bool x113) /\
 (∃ m2,m2 < m1 /\ I m2 (IntKind.i64.wrap (x87 + 1)) w12))))
 (CALL PG 26 [(.pointer x)] w9 fun v7 w13 =>
 ∃ x117 : Int,v7 = (.int .u64 x117) /\
 (IFB (fromv2 == x117)
 (NILC x fun a120 =>
 RDP PG (loadVar 90 (a120.add 0)) w13 fun x122 =>
 CALL PG 215 [(.pointer x122),(.int .i64 (bN1 : Int))] w13 fun v8 w14 =>
 ∃ x125 : Bool,v8 = (.bool x125) /\
 (∃ S : World -> Prop,S (w14.drew) /\
 (NILC x fun a127 =>
 RDSP PG (loadVar 90 (a127.add 0)) S fun x129 =>
 NILC x fun a131 =>
 RDSP PG (loadVar 93 (a131.add 1)) S fun x133 =>
 CALL PG 26 [(.pointer x)] (w14.drew) fun v9 w15 =>
 ∃ x135 : Int,v9 = (.int .u64 x135) /\
 (∃ S1 : World -> Prop,(∀ x,S1 x -> S x) /\ S1 w15 /\
 (CALL PG 216 [(.pointer x133),(.int .u64 x135)] w15 fun v10 w16 =>
 ∃ x136 : Int,v10 = (.int .u64 x136) /\
 (∃ S2 : World -> Prop,(∀ x,S2 x -> S1 x) /\ S2 w16 /\
 (CALL PG 26 [(.pointer x)] w16 fun v11 w17 =>
 ∃ x138 : Int,v11 = (.int .u64 x138) /\
 (∃ S3 : World -> Prop,(∀ x,S3 x -> S2 x) /\ S3 w17 /\
 (CALL PG 215 [(.pointer x129),(.int .i64 (IntKind.i64.wrap (IntKind.u64.wrap (x136 - x138))))] w17 fun v12 w18 =>
 ∃ x141 : Bool,v12 = (.bool x141) /\
 (∃ S4 : World -> Prop,S4 (w18.drew) /\
 (NILC x fun a143 =>
 RDSP PG (loadVar 93 (a143.add 1)) S4 fun x145 =>
 CALL PG 26 [(.pointer x)] (w18.drew) fun v13 w19 =>
 ∃ x147 : Int,v13 = (.int .u64 x147) /\
 (∃ S5 : World -> Prop,(∀ x,S5 x -> S4 x) /\ S5 w19 /\
 (CALL PG 217 [(.pointer x145),(.int .u64 x147)] w19 fun v14 w20 =>
 v14 = (.tuple #[]) /\
 (LETB whole fun x6v1 =>
 Q (.bool x6v1) w20))))))))))))))
 (LETB whole fun x6v2 =>
 Q (.bool x6v2) w13)))))))))))))))
theorem call189 {x : Option Addr} {fromv : Int} {b : Option Addr} {bN bC : Nat} {w : World} {Q : QP} (h_ : N189 x fromv b bN bC w Q) : CALL PG 189 [(.pointer x),(.int .u64 fromv),(.slice b bN bC)] w Q:=calls_vq (.s .nil (.s .nil (.s .nil (.s .nil (.cut [(7,25),(8,4)] .nil (.s .nil (.cut [(1,25),(2,41)] .nil (.s .nil (.s .nil (.s .nil (.cut [] .nil (.s (.s .nil (.u (.loop [(87,3)] .nil))) .nil)))))))))))) tabOk Tryz.func189 (by kernel_rfl) h_
end Go.Br
/- Bytes that come. -/
set_option linter.unusedVariables false
set_option linter.unusedSimpArgs false
set_option linter.unnecessarySimpa false
namespace Go.Br
open Go
instance biInlet2a : Zro PG 298 2 16 (.agg #[.int .u64 0,.int .u64 0]):=⟨tiOf (by kernel_rfl)⟩
attribute [local irreducible] Addr.add RD RDS RUN RUNU NILC LETB CALL CALLX CALLV
def setG (base f : Int) (b : List UInt8) (v : List UInt8) (G : List Sp) : List UInt8:=G.foldl (fun v g => spl v (g.f - base).toNat ((b.drop (g.f - f).toNat).take (g.t - g.f).toNat)) v
theorem setG_snoc (base f : Int) (b v : List UInt8) (G : List Sp) (g : Sp) : setG base f b v (G ++ [g]) = spl (setG base f b v G) (g.f - base).toNat ((b.drop (g.f - f).toNat).take (g.t - g.f).toNat):=by
 unfold setG; rw [List.foldl_append]; rfl
def putV (base e : Int) (kn : Bool) (v : List UInt8) (n : Nat) (most : Int) (S : List Sp) (f : Int) (b : List UInt8) : List UInt8 × Nat × List Sp × Bool :=
 if 18446744073709551616 <= f + b.length then (v,n,S,false) else
 let whole:=!(decide (topI base e kn v.length < f + b.length) && decide (0 < (b.length : Int)))
 let hi:=if whole = true then f + b.length else maxN (topI base e kn v.length) f
 let lo:=maxN f (base + n)
 if hi <= lo then (v,n,S,whole) else
 if base + n < lo /\ (addR S lo hi most).2 = false then (v,n,S,false) else
 if base + n < lo then (setG base f b v (gapsS S lo hi),n,(addR S lo hi most).1,whole)
 else (setG base f b v (gapsS S lo hi),(runS S hi - base).toNat,cutP S (runS S hi),whole)
theorem setG_len {base f : Int} {b v : List UInt8} : ∀ {G : List Sp},(∀ g ∈ G,base <= g.f /\ g.f <= g.t /\ g.t <= base + v.length) -> (setG base f b v G).length = v.length:=by
 intro G
 induction G generalizing v with
 | nil => intro _; rfl
 | cons g G ih =>
  intro h
  have hg:=h g (by simp)
  have hl : (spl v (g.f - base).toNat ((b.drop (g.f - f).toNat).take (g.t - g.f).toNat)).length = v.length:=spl_length (by rw [List.length_take]; omega)
  show (setG base f b (spl v _ _) G).length = v.length
  rw [ih fun x hx => by rw [hl]; exact h x (by simp [hx]),hl]
theorem whole_cases (T x z : Int) : ((!(decide (T < x) && decide (0 < z))) = true /\ ¬ (T < x /\ 0 < z)) ∨ ((!(decide (T < x) && decide (0 < z))) = false /\ T < x /\ 0 < z):=by by_cases h1 : T < x <;> by_cases h2 : 0 < z <;> simp [h1,h2]
section
variable {c : Ctx} {w : World} {L R : List SA} {p r D sp n : Nat} {base e most : Int} {kn : Bool} {v : List UInt8} {S : List Sp}
theorem put_ok (h : St c w (il p r D sp base e kn v n most S R)) (hb : 0 <= base) (hb2 : base + v.length < 9223372036854775808) (hS : Sep S) (hl : S.length <= 1000) (hSt : ∀ x ∈ S,x.t <= base + v.length) {f : Int} (hf0 : 0 <= f) (hf1 : f < 18446744073709551616)
    {A : Option Addr} {d : Nat} {b : List UInt8} (hr : RdIn R A (bvs b)) (hd : b.length <= d) (hz : b.length <= 100000) {Q : Value -> World -> Prop}
    (hk : ∀ w',St c w' (il p r D sp base e kn (putV base e kn v n most S f b).1 (putV base e kn v n most S f b).2.1 most (putV base e kn v n most S f b).2.2.1 R) -> Q (.bool (putV base e kn v n most S f b).2.2.2) w') :
    CALL PG 189 [.pointer (some ⟨p,0,none⟩),.int .u64 f,.slice A b.length d] w Q:=by
  have hfa:=h.rngF (.tail .head)
  refine call189 ?_
  unfold N189
  unfold putV at hk
  by_cases hov : 18446744073709551616 <= f + b.length
  · rw [if_pos hov] at hk
    exact leti (y:=f + b.length - 18446744073709551616) (by rw [wrapU64,wrapU64]; omega) (ifdt (by omega) (hk _ h))
  rw [if_neg hov] at hk
  refine leti (y:=f + b.length) (by rw [wrapU64,wrapU64]; omega) (ifdf (by omega) ?_)
  have htop : topI base e kn v.length <= base + v.length:=by unfold topI minN; (repeat' split) <;> omega
  generalize hT : topI base e kn v.length = T at *
  obtain ⟨whole,hw⟩ : ∃ x,x = !(decide (T < f + b.length) && decide (0 < (b.length : Int))):=⟨_,rfl⟩
  obtain ⟨hi,hh⟩ : ∃ x,x = if whole = true then f + (b.length : Int) else maxN T f:=⟨_,rfl⟩
  obtain ⟨lo,hlo⟩ : ∃ x,x = maxN f (base + n):=⟨_,rfl⟩
  simp only [<- hw,<- hh,<- hlo] at hk
  have hlof : f <= lo /\ base + n <= lo /\ (lo = f ∨ lo = base + n):=by rw [hlo]; unfold maxN; split <;> omega
  have hwc:=whole_cases T (f + b.length) b.length
  rw [<- hw] at hwc
  have hhw : (whole = true /\ ¬ (T < f + b.length /\ 0 < (b.length : Int)) /\ hi = f + b.length) ∨ (whole = false /\ (T < f + b.length /\ 0 < (b.length : Int)) /\ hi = maxN T f):=by
    rcases hwc with ⟨h1,h2⟩ | ⟨h1,h2⟩
    · rw [if_pos h1] at hh; exact .inl ⟨h1,h2,hh⟩
    · rw [if_neg (by rw [h1]; decide)] at hh; exact .inr ⟨h1,h2,hh⟩
  clear hwc hh hw
  have hmx : f <= maxN T f /\ T <= maxN T f /\ (maxN T f = T ∨ maxN T f = f):=by unfold maxN; split <;> omega
  have hhi : f <= hi /\ hi <= f + b.length /\ (lo < hi -> hi <= base + v.length):=by
    rcases hhw with ⟨h1,h2,h3⟩ | ⟨h1,h2,h3⟩ <;> omega
  refine ⟨fun t wh w' => t = hi /\ wh = whole /\ St c w' (il p r D sp base e kn v n most S R),?_,?_⟩
  · refine top_ok h hb (by omega) fun w' h => ?_
    (repeat apply exi)
    apply exr
    rw [hT]
    refine leti rfl (ifd (fun g1 => ifd (fun g2 => leti rfl ?_) fun g2 => ?_) fun g1 => ?_)
    · rcases hhw with ⟨h1,h2,h3⟩ | ⟨h1,h2,h3⟩
      · exact absurd ⟨g1,g2⟩ h2
      · exact ⟨h3.symm,h1.symm,h⟩
    · rcases hhw with ⟨h1,h2,h3⟩ | ⟨h1,h2,h3⟩
      · exact ⟨h3.symm,h1.symm,h⟩
      · exact absurd h2.2 g2
    · rcases hhw with ⟨h1,h2,h3⟩ | ⟨h1,h2,h3⟩
      · exact ⟨h3.symm,h1.symm,h⟩
      · exact absurd h2.1 g1
  clear h
  rintro hi whole w' ⟨rfl,rfl,h⟩
  rw [show IntKind.u64.wrap (hi - f) = hi - f by rw [wrapU64]; omega]
  simp only [Int.toNat_zero,Nat.sub_zero,cutA_zero]
  refine ⟨by omega,?_⟩
  refine ⟨fun f2 A2 n2 c2 w' => f2 = lo /\ n2 = (hi - lo).toNat /\ n2 <= c2 /\ RdIn R A2 (bvs ((b.drop (lo - f).toNat).take (hi - lo).toNat)) /\ St c w' (il p r D sp base e kn v n most S R),?_,?_⟩
  · refine next_ok h hb (by omega) fun w' h => ?_
    (repeat apply exi)
    apply exr
    refine leti rfl (ifd (fun g1 => ?_) fun g1 => ?_)
    · have el : lo = base + n:=by omega
      rw [show IntKind.u64.wrap (base + n - f) = base + n - f by rw [wrapU64]; omega,show IntKind.u64.wrap (((hi - f).toNat : Nat) : Int) = hi - f by rw [wrapU64]; omega]
      obtain ⟨kk,hkk⟩ : ∃ x,x = minN (base + n - f) (hi - f):=⟨_,rfl⟩
      rw [<- hkk]
      have hkc : (kk = base + n - f /\ kk <= hi - f) ∨ (kk = hi - f /\ hi < base + n):=by rw [hkk]; unfold minN; split <;> omega
      refine ⟨by omega,leti rfl ⟨el.symm,by omega,by omega,?_,h⟩⟩
      have hcut:=(hr.cut (c:=d) (z:=1) (by rw [bvs_length]; omega) kk).take (hi - lo).toNat
      rw [Nat.mul_one,bvs_drop,bvs_take] at hcut
      rcases hkc with ⟨h1,h2⟩ | ⟨h1,h2⟩
      · rw [show (lo - f).toNat = kk.toNat by omega]
        exact hcut
      · rw [show (hi - lo).toNat = 0 by omega,List.take_zero] at hcut ⊢
        exact hcut
    · have el : lo = f:=by omega
      refine ⟨el.symm,by omega,by omega,?_,h⟩
      have hcut:=hr.take (hi - lo).toNat
      rw [bvs_take] at hcut
      rw [show (lo - f).toNat = 0 by omega,List.drop_zero]
      exact hcut
  clear h
  rintro lo A2 n2 c2 w' ⟨rfl,rfl,hc2,hr2,h⟩
  refine ifd (fun g0 => letb rfl ?_) fun g0 => ?_
  · rw [if_pos (by omega)] at hk
    exact hk _ h
  have g1 : lo < hi:=by omega
  rw [if_neg (by omega)] at hk
  refine leti (y:=hi) (by rw [wrapU64,wrapU64]; omega) (nilc ?_)
  repeat' (first
    | refine nilc ?_
    | refine h.rdI _ ?_
    | refine h.rdB _ ?_
    | refine h.rdP _ ?_
    | refine h.rdL _ ?_
    | refine h.rdT _ ?_
    | refine h.rdI2 _ _ ?_
    | refine h.rdB2 _ _ ?_
    | refine h.rdP2 _ _ ?_
    | refine h.rdL2 _ _ ?_
    | refine h.st2 _ _ fun w' h => ?_
    | refine h.st _ fun w' h => ?_
    | refine h.rdvI ?_
    | refine h.rdvB ?_
    | refine h.rdvP ?_
    | refine h.rdvL ?_
    | refine h.rdvT ?_
    | (refine h.rdG ?_; (repeat apply exi); apply exr)
    | refine h.stG fun w' h => ?_
    | refine h.stV fun w' h => ?_
    | refine h.box fun p w' h => ?_
    | refine h.boxV fun p w' h => ?_
    | refine h.allocZ fun p w' h => ?_
    | refine h.allocZV fun p w' h => ?_
    | (refine RD.bld ?_; (repeat apply exi); apply exr)
    | (refine RDS.bld ?_; (repeat apply exi); apply exr)
    | refine St.rdsI _ ?_
    | refine St.rdsB _ ?_
    | refine St.rdsP _ ?_
    | refine St.rdsL _ ?_
    | refine St.rdsT _ ?_
    | refine St.rdsI2 _ _ ?_
    | refine St.rdsB2 _ _ ?_
    | (refine St.rdsG ?_; (repeat apply exi); apply exr)
    | refine letb rfl ?_
    | refine sat h ?_
    | (have h:=h.drew; refine sat h ?_)
    | refine sat1 h (fun _ h => h.to) ?_)
  refine sgaps_ok h (.tail (.tail .head)) hl fun O k w' h => ?_
  (repeat apply exi)
  apply exr
  have gm:=gaps_mem (f:=lo) (t:=hi) hS
  have gl:=gaps_len S lo hi
  generalize hG : gapsS S lo hi = G at *
  refine ⟨fun w' => ¬ (base + n < lo /\ (addR S lo hi most).2 = false) /\ St c w' (own 298 2 O G.length k (G.flatMap spn) :: il p r D sp base e kn v n most (if base + n < lo then (addR S lo hi most).1 else S) R),?_,?_⟩
  · have h:=h.to (L':=il p r D sp base e kn v n most S (own 298 2 O G.length k (G.flatMap spn) :: R))
    refine next_ok h hb (by omega) fun w' h => ?_
    (repeat apply exi)
    apply exr
    refine ifd (fun hlt => ?_) fun hge => ?_
    · repeat' (first
        | refine nilc ?_
        | refine h.rdI _ ?_
        | refine h.rdB _ ?_
        | refine h.rdP _ ?_
        | refine h.rdL _ ?_
        | refine h.rdT _ ?_
        | refine h.rdI2 _ _ ?_
        | refine h.rdB2 _ _ ?_
        | refine h.rdP2 _ _ ?_
        | refine h.rdL2 _ _ ?_
        | refine h.st2 _ _ fun w' h => ?_
        | refine h.st _ fun w' h => ?_
        | refine h.rdvI ?_
        | refine h.rdvB ?_
        | refine h.rdvP ?_
        | refine h.rdvL ?_
        | refine h.rdvT ?_
        | (refine h.rdG ?_; (repeat apply exi); apply exr)
        | refine h.stG fun w' h => ?_
        | refine h.stV fun w' h => ?_
        | refine h.box fun p w' h => ?_
        | refine h.boxV fun p w' h => ?_
        | refine h.allocZ fun p w' h => ?_
        | refine h.allocZV fun p w' h => ?_
        | (refine RD.bld ?_; (repeat apply exi); apply exr)
        | (refine RDS.bld ?_; (repeat apply exi); apply exr)
        | refine St.rdsI _ ?_
        | refine St.rdsB _ ?_
        | refine St.rdsP _ ?_
        | refine St.rdsL _ ?_
        | refine St.rdsT _ ?_
        | refine St.rdsI2 _ _ ?_
        | refine St.rdsB2 _ _ ?_
        | (refine St.rdsG ?_; (repeat apply exi); apply exr)
        | refine letb rfl ?_
        | refine sat h ?_
        | (have h:=h.drew; refine sat h ?_)
        | refine sat1 h (fun _ h => h.to) ?_)
      refine sadd_ok h (.tail (.tail .head)) hS hl (by omega) (by omega) fun w' h => ?_
      (repeat apply exi)
      apply exr
      refine ifnot (fun ef => ?_) fun et => ⟨fun e => (by rw [et] at e; cases e.2),?_⟩
      · rw [if_pos ⟨by omega,ef⟩] at hk
        refine hk _ ?_
        unfold addR at h ef
        rw [if_neg (by omega)] at h ef
        split at h
        · exact h.to
        · rename_i hn; rw [if_neg hn] at ef; cases ef
      · rw [if_pos (by omega)]
        exact h.to
    · refine ⟨fun e => by omega,?_⟩
      rw [if_neg (by omega)]
      exact h.to
  clear h
  rintro w' ⟨hna,h⟩
  rw [if_neg hna] at hk
  have hGb : ∀ g ∈ G,base <= g.f /\ g.f <= g.t /\ g.t <= base + v.length:=fun g hg => by
    obtain ⟨q1,q2,q3,_⟩:=gm g hg
    omega
  refine ⟨fun m i w' => ∃ j : Nat,j + m = G.length /\ i = (j : Int) /\ St c w' (own 298 2 O G.length k (G.flatMap spn) :: il p r D sp base e kn (setG base f b v (G.take j)) n most (if base + n < lo then (addR S lo hi most).1 else S) R),⟨G.length,0,by omega,rfl,by rw [List.take_zero]; exact h⟩,?_⟩
  clear h
  rintro m _ w' ⟨j,hj,rfl,h⟩
  have lV : ∀ j,(setG base f b v (G.take j)).length = v.length:=fun j => setG_len fun g hg => hGb g (List.mem_of_mem_take hg)
  refine ifd (fun hlt => ?_) fun hge => ?_
  · obtain ⟨g,hg⟩:=ex_get (L:=G) (j:=j) (by omega)
    obtain ⟨q1,q2,q3,_⟩:=gm g (List.mem_of_getElem? hg)
    refine h.ix (z:=1) (RdIn.own .head) hg fun a ha => ?_
    subst ha
    refine h.rdEG (RdIn.own .head) hg ?_
    (repeat apply exi)
    apply exr
    repeat' (first
      | refine nilc ?_
      | refine h.rdI _ ?_
      | refine h.rdB _ ?_
      | refine h.rdP _ ?_
      | refine h.rdL _ ?_
      | refine h.rdT _ ?_
      | refine h.rdI2 _ _ ?_
      | refine h.rdB2 _ _ ?_
      | refine h.rdP2 _ _ ?_
      | refine h.rdL2 _ _ ?_
      | refine h.st2 _ _ fun w' h => ?_
      | refine h.st _ fun w' h => ?_
      | refine h.rdvI ?_
      | refine h.rdvB ?_
      | refine h.rdvP ?_
      | refine h.rdvL ?_
      | refine h.rdvT ?_
      | (refine h.rdG ?_; (repeat apply exi); apply exr)
      | refine h.stG fun w' h => ?_
      | refine h.stV fun w' h => ?_
      | refine h.box fun p w' h => ?_
      | refine h.boxV fun p w' h => ?_
      | refine h.allocZ fun p w' h => ?_
      | refine h.allocZV fun p w' h => ?_
      | (refine RD.bld ?_; (repeat apply exi); apply exr)
      | (refine RDS.bld ?_; (repeat apply exi); apply exr)
      | refine St.rdsI _ ?_
      | refine St.rdsB _ ?_
      | refine St.rdsP _ ?_
      | refine St.rdsL _ ?_
      | refine St.rdsT _ ?_
      | refine St.rdsI2 _ _ ?_
      | refine St.rdsB2 _ _ ?_
      | (refine St.rdsG ?_; (repeat apply exi); apply exr)
      | refine letb rfl ?_
      | refine sat h ?_
      | (have h:=h.drew; refine sat h ?_)
      | refine sat1 h (fun _ h => h.to) ?_)
    have h:=h.drew
    repeat' (first
      | refine nilc ?_
      | refine h.rdI _ ?_
      | refine h.rdB _ ?_
      | refine h.rdP _ ?_
      | refine h.rdL _ ?_
      | refine h.rdT _ ?_
      | refine h.rdI2 _ _ ?_
      | refine h.rdB2 _ _ ?_
      | refine h.rdP2 _ _ ?_
      | refine h.rdL2 _ _ ?_
      | refine h.st2 _ _ fun w' h => ?_
      | refine h.st _ fun w' h => ?_
      | refine h.rdvI ?_
      | refine h.rdvB ?_
      | refine h.rdvP ?_
      | refine h.rdvL ?_
      | refine h.rdvT ?_
      | (refine h.rdG ?_; (repeat apply exi); apply exr)
      | refine h.stG fun w' h => ?_
      | refine h.stV fun w' h => ?_
      | refine h.box fun p w' h => ?_
      | refine h.boxV fun p w' h => ?_
      | refine h.allocZ fun p w' h => ?_
      | refine h.allocZV fun p w' h => ?_
      | (refine RD.bld ?_; (repeat apply exi); apply exr)
      | (refine RDS.bld ?_; (repeat apply exi); apply exr)
      | refine St.rdsI _ ?_
      | refine St.rdsB _ ?_
      | refine St.rdsP _ ?_
      | refine St.rdsL _ ?_
      | refine St.rdsT _ ?_
      | refine St.rdsI2 _ _ ?_
      | refine St.rdsB2 _ _ ?_
      | (refine St.rdsG ?_; (repeat apply exi); apply exr)
      | refine letb rfl ?_
      | refine sat h ?_
      | (have h:=h.drew; refine sat h ?_)
      | refine sat1 h (fun _ h => h.to) ?_)
    rw [show IntKind.u64.wrap (g.f - lo) = g.f - lo by rw [wrapU64]; omega,show IntKind.u64.wrap (g.t - lo) = g.t - lo by rw [wrapU64]; omega,show IntKind.u64.wrap (g.f - base) = ((g.f - base).toNat : Int) by rw [wrapU64]; omega,wrap_i64 (n:=((g.f - base).toNat : Int)) (by omega) (by omega)]
    refine ⟨by omega,?_⟩
    have hcut:=(hr2.cut (c:=c2) (z:=1) (by rw [bvs_length,List.length_take]; omega) (g.f - lo)).take (g.t - g.f).toNat
    rw [Nat.mul_one,bvs_drop,bvs_take,List.drop_take,List.drop_drop,List.take_take,show (lo - f).toNat + (g.f - lo).toNat = (g.f - f).toNat by omega,show min (g.t - g.f).toNat ((hi - lo).toNat - (g.f - lo).toNat) = (g.t - g.f).toNat by omega] at hcut
    refine xset_ok h (.tail (.tail (.tail .head))) hcut.more.more.more.more (by rw [List.length_take,List.length_drop]; omega) (by rw [lV]; omega) fun w' h => ?_
    (repeat apply exi)
    apply exr
    refine ⟨m - 1,by omega,j + 1,by omega,by rw [wrap_i64 (by omega) (by omega)]; omega,?_⟩
    rw [take_snoc' hg,setG_snoc]
    exact h.to
  have hjG : j = G.length:=by omega
  subst hjG
  have lV:=lV G.length
  rw [List.take_length] at h lV
  generalize hV : setG base f b v G = V at *
  have h:=h.to (L':=il p r D sp base e kn V n most (if base + n < lo then (addR S lo hi most).1 else S) R)
  refine next_ok h hb (by omega) fun w' h => ?_
  (repeat apply exi)
  apply exr
  refine ifq (fun heq => ?_) fun hne => ?_
  rotate_left
  · rw [if_pos (by omega)] at hk
    rw [if_pos (by omega)] at h
    exact letb rfl (hk _ h)
  rw [if_neg (by omega)] at hk h
  repeat' (first
    | refine nilc ?_
    | refine h.rdI _ ?_
    | refine h.rdB _ ?_
    | refine h.rdP _ ?_
    | refine h.rdL _ ?_
    | refine h.rdT _ ?_
    | refine h.rdI2 _ _ ?_
    | refine h.rdB2 _ _ ?_
    | refine h.rdP2 _ _ ?_
    | refine h.rdL2 _ _ ?_
    | refine h.st2 _ _ fun w' h => ?_
    | refine h.st _ fun w' h => ?_
    | refine h.rdvI ?_
    | refine h.rdvB ?_
    | refine h.rdvP ?_
    | refine h.rdvL ?_
    | refine h.rdvT ?_
    | (refine h.rdG ?_; (repeat apply exi); apply exr)
    | refine h.stG fun w' h => ?_
    | refine h.stV fun w' h => ?_
    | refine h.box fun p w' h => ?_
    | refine h.boxV fun p w' h => ?_
    | refine h.allocZ fun p w' h => ?_
    | refine h.allocZV fun p w' h => ?_
    | (refine RD.bld ?_; (repeat apply exi); apply exr)
    | (refine RDS.bld ?_; (repeat apply exi); apply exr)
    | refine St.rdsI _ ?_
    | refine St.rdsB _ ?_
    | refine St.rdsP _ ?_
    | refine St.rdsL _ ?_
    | refine St.rdsT _ ?_
    | refine St.rdsI2 _ _ ?_
    | refine St.rdsB2 _ _ ?_
    | (refine St.rdsG ?_; (repeat apply exi); apply exr)
    | refine letb rfl ?_
    | refine sat h ?_
    | (have h:=h.drew; refine sat h ?_)
    | refine sat1 h (fun _ h => h.to) ?_)
  refine xgrow_ok h (.tail .head) (k:=(hi - lo).toNat) (by omega) fun w' h => ?_
  (repeat apply exi)
  apply exr
  have hrun : hi <= runS S hi /\ runS S hi <= base + v.length:=by
    by_cases hi' : inP S hi
    · obtain ⟨x,hx,x1,x2,x3⟩:=runS_in hi'
      have:=hSt x hx
      omega
    · rw [runS_out hi']
      omega
  have h:=(h.to (L':=il p r D sp base e kn V (n + (hi - lo).toNat) most S R)).drew
  refine sat h ?_
  repeat' (first
    | refine nilc ?_
    | refine h.rdI _ ?_
    | refine h.rdB _ ?_
    | refine h.rdP _ ?_
    | refine h.rdL _ ?_
    | refine h.rdT _ ?_
    | refine h.rdI2 _ _ ?_
    | refine h.rdB2 _ _ ?_
    | refine h.rdP2 _ _ ?_
    | refine h.rdL2 _ _ ?_
    | refine h.st2 _ _ fun w' h => ?_
    | refine h.st _ fun w' h => ?_
    | refine h.rdvI ?_
    | refine h.rdvB ?_
    | refine h.rdvP ?_
    | refine h.rdvL ?_
    | refine h.rdvT ?_
    | (refine h.rdG ?_; (repeat apply exi); apply exr)
    | refine h.stG fun w' h => ?_
    | refine h.stV fun w' h => ?_
    | refine h.box fun p w' h => ?_
    | refine h.boxV fun p w' h => ?_
    | refine h.allocZ fun p w' h => ?_
    | refine h.allocZV fun p w' h => ?_
    | (refine RD.bld ?_; (repeat apply exi); apply exr)
    | (refine RDS.bld ?_; (repeat apply exi); apply exr)
    | refine St.rdsI _ ?_
    | refine St.rdsB _ ?_
    | refine St.rdsP _ ?_
    | refine St.rdsL _ ?_
    | refine St.rdsT _ ?_
    | refine St.rdsI2 _ _ ?_
    | refine St.rdsB2 _ _ ?_
    | (refine St.rdsG ?_; (repeat apply exi); apply exr)
    | refine letb rfl ?_
    | refine sat h ?_
    | (have h:=h.drew; refine sat h ?_)
    | refine sat1 h (fun _ h => h.to) ?_)
  refine next_ok h hb (by omega) fun w' h => ?_
  (repeat apply exi)
  apply exr
  refine sat1 h (fun _ h => h) ?_
  rw [show base + ((n + (hi - lo).toNat : Nat) : Int) = hi by omega]
  refine srun_ok h (.tail (.tail .head)) hl fun w' h => ?_
  (repeat apply exi)
  apply exr
  refine sat1 h (fun _ h => h) ?_
  refine next_ok h hb (by omega) fun w' h => ?_
  (repeat apply exi)
  apply exr
  refine sat1 h (fun _ h => h) ?_
  rw [show base + ((n + (hi - lo).toNat : Nat) : Int) = hi by omega,show IntKind.u64.wrap (runS S hi - hi) = ((runS S hi - hi).toNat : Int) by rw [wrapU64]; omega,wrap_i64 (n:=((runS S hi - hi).toNat : Int)) (by omega) (by omega)]
  refine xgrow_ok h (.tail .head) (by omega) fun w' h => ?_
  (repeat apply exi)
  apply exr
  have h:=(h.to (L':=il p r D sp base e kn V (n + (hi - lo).toNat + (runS S hi - hi).toNat) most S R)).drew
  refine sat h ?_
  repeat' (first
    | refine nilc ?_
    | refine h.rdI _ ?_
    | refine h.rdB _ ?_
    | refine h.rdP _ ?_
    | refine h.rdL _ ?_
    | refine h.rdT _ ?_
    | refine h.rdI2 _ _ ?_
    | refine h.rdB2 _ _ ?_
    | refine h.rdP2 _ _ ?_
    | refine h.rdL2 _ _ ?_
    | refine h.st2 _ _ fun w' h => ?_
    | refine h.st _ fun w' h => ?_
    | refine h.rdvI ?_
    | refine h.rdvB ?_
    | refine h.rdvP ?_
    | refine h.rdvL ?_
    | refine h.rdvT ?_
    | (refine h.rdG ?_; (repeat apply exi); apply exr)
    | refine h.stG fun w' h => ?_
    | refine h.stV fun w' h => ?_
    | refine h.box fun p w' h => ?_
    | refine h.boxV fun p w' h => ?_
    | refine h.allocZ fun p w' h => ?_
    | refine h.allocZV fun p w' h => ?_
    | (refine RD.bld ?_; (repeat apply exi); apply exr)
    | (refine RDS.bld ?_; (repeat apply exi); apply exr)
    | refine St.rdsI _ ?_
    | refine St.rdsB _ ?_
    | refine St.rdsP _ ?_
    | refine St.rdsL _ ?_
    | refine St.rdsT _ ?_
    | refine St.rdsI2 _ _ ?_
    | refine St.rdsB2 _ _ ?_
    | (refine St.rdsG ?_; (repeat apply exi); apply exr)
    | refine letb rfl ?_
    | refine sat h ?_
    | (have h:=h.drew; refine sat h ?_)
    | refine sat1 h (fun _ h => h.to) ?_)
  refine next_ok h hb (by omega) fun w' h => ?_
  (repeat apply exi)
  apply exr
  refine sat1 h (fun _ h => h) ?_
  rw [show base + ((n + (hi - lo).toNat + (runS S hi - hi).toNat : Nat) : Int) = runS S hi by omega]
  refine scut_ok h (.tail (.tail .head)) hl fun w' h => ?_
  (repeat apply exi)
  apply exr
  rw [show n + (hi - lo).toNat + (runS S hi - hi).toNat = (runS S hi - base).toNat by omega] at h
  exact letb rfl (hk _ h.to)
end
end Go.Br
