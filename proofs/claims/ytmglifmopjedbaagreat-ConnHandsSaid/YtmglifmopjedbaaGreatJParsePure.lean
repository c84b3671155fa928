/- Pack, ParsePure -/
import Derived.Test.YtmglifmopjedbaaGreatBrSeat
import Derived.Test.YtmglifmopjedbaaGreatBrOwn
import Derived.Test.YtmglifmopjedbaaGreatBrList
/- What the code of some functions says,as the core reads it; each reading is checked by the kernel. -/
set_option linter.unusedVariables false
set_option maxRecDepth 100000
namespace Go.Br
open Go Go.Proofs
def N124 (b : Option Addr) (bN bC : Nat) (l : Option Addr) (lN lC : Nat) (w : World) (Q : QP) : Prop :=
 RUNL PG (Builtin.append_ #[41,41] 41 #[(.slice none 0 0),(.slice b bN bC)]) w fun x10 x10N x10C w1 =>
 ∃ I : Nat -> Option Addr -> Nat -> Nat -> Int -> World -> Prop,
 (∃ m,I m x10 x10N x10C 0 w1) /\
 (∀ m1 (out : Option Addr) (outN outC : Nat) (x13 : Int) (w2 : World),I m1 out outN outC x13 w2 -> (IFB (decide (x13 < (lN : Int)))
 (IDX l lN x13 fun a15 =>
 RD PG (loadVar 223 (a15.add (Int.toNat x13 * 2))) w2 fun v =>
 ∃ x16 : Int,∃ x16v1 : Int,v = (.agg #[(.int .i64 x16),(.int .u64 x16v1)]) /\
 (RUNA PG (Instr.alloc 223 true (.tuple #[])) w2 fun a7 w3 =>
 RUNU PG (storeVar 223 a7 (.agg #[(.int .i64 x16),(.int .u64 x16v1)])) w3 fun w4 =>
 RDI PG (loadVar 3 (a7.add 0)) .i64 w4 fun x18 =>
 IFB (decide (x18 < 1))
 (∃ m2,m2 < m1 /\ I m2 out outN outC (IntKind.i64.wrap (x13 + 1)) w4)
 (RDI PG (loadVar 3 (a7.add 0)) .i64 w4 fun x22 =>
 IFB (decide (x22 > 8))
 (∃ m3,m3 < m1 /\ I m3 out outN outC (IntKind.i64.wrap (x13 + 1)) w4)
 (RDI PG (loadVar 3 (a7.add 0)) .i64 w4 fun x26 =>
 LETI (IntKind.i64.wrap (x26 - 1)) fun i =>
 ∃ I1 : Nat -> Option Addr -> Nat -> Nat -> Int -> World -> Prop,
 (∃ m4,I1 m4 out outN outC i w4) /\
 (∀ m5 (out1 : Option Addr) (outN1 outC1 : Nat) (i1 : Int) (w5 : World),I1 m5 out1 outN1 outC1 i1 w5 -> (IFB (decide (i1 ≥ 0))
 (RDI PG (loadVar 25 (a7.add 1)) .u64 w5 fun x34 =>
 NEED (0 <= (IntKind.i64.wrap ((8 : Int) * i1)))
 (RUNL PG (Instr.buildSlice 41 1 #[(0,(.int .u8 (IntKind.u8.wrap (shrN .u64 x34 (IntKind.i64.wrap (8 * i1))))))]) w5 fun x39 x39N x39C w6 =>
 RUNL PG (Builtin.append_ #[41,41] 41 #[(.slice out1 outN1 outC1),(.slice x39 x39N x39C)]) w6 fun x40 x40N x40C w7 =>
 LETI (IntKind.i64.wrap (i1 - 1)) fun i2 =>
 ∃ m6,m6 < m5 /\ I1 m6 x40 x40N x40C i2 w7))
 (∃ m7,m7 < m1 /\ I m7 out1 outN1 outC1 (IntKind.i64.wrap (x13 + 1)) w5)))))))
 (Q (.slice out outN outC) w2)))
theorem call124 {b : Option Addr} {bN bC : Nat} {l : Option Addr} {lN lC : Nat} {w : World} {Q : QP} (h_ : N124 b bN bC l lN lC w Q) : CALL PG 124 [(.slice b bN bC),(.slice l lN lC)] w Q:=calls_vq (.s .nil (.s .nil (.s (.s .nil (.u (.loop [(5,41),(13,3)] (.s .nil (.s .nil (.s (.u (.s .nil (.s .nil (.s .nil (.u (.loop [(5,41),(8,3)] .nil)))))) .nil)))))) .nil))) tabOk Tryz.func124 (by kernel_rfl) h_
def N125 (n : Int) (w : World) (Q : QP) : Prop :=
 RUNA PG (Instr.alloc 223 true (.tuple #[])) w fun a2 w1 =>
 RD PG (Instr.build 223 #[(0,(.int .i64 8)),(1,(.int .u64 n))]) w1 fun v =>
 ∃ x4 : Int,∃ x4v1 : Int,v = (.agg #[(.int .i64 x4),(.int .u64 x4v1)]) /\
 (RUNU PG (storeVar 223 a2 (.agg #[(.int .i64 x4),(.int .u64 x4v1)])) w1 fun w2 =>
 RD PG (loadVar 223 a2) w2 fun v2 =>
 ∃ r : Int,∃ r1 : Int,v2 = (.agg #[(.int .i64 r),(.int .u64 r1)]) /\
 (Q (.agg #[(.int .i64 r),(.int .u64 r1)]) w2))
theorem call125 {n : Int} {w : World} {Q : QP} (h_ : N125 n w Q) : CALL PG 125 [(.int .u64 n)] w Q:=calls_vq .nil tabOk Tryz.func125 (by kernel_rfl) h_
def N126 (n : Int) (w : World) (Q : QP) : Prop :=
 RUNA PG (Instr.alloc 223 true (.tuple #[])) w fun a2 w1 =>
 RD PG (Instr.build 223 #[(0,(.int .i64 4)),(1,(.int .u64 (IntKind.u64.wrap n)))]) w1 fun v =>
 ∃ x5 : Int,∃ x5v1 : Int,v = (.agg #[(.int .i64 x5),(.int .u64 x5v1)]) /\
 (RUNU PG (storeVar 223 a2 (.agg #[(.int .i64 x5),(.int .u64 x5v1)])) w1 fun w2 =>
 RD PG (loadVar 223 a2) w2 fun v2 =>
 ∃ r : Int,∃ r1 : Int,v2 = (.agg #[(.int .i64 r),(.int .u64 r1)]) /\
 (Q (.agg #[(.int .i64 r),(.int .u64 r1)]) w2))
theorem call126 {n : Int} {w : World} {Q : QP} (h_ : N126 n w Q) : CALL PG 126 [(.int .u32 n)] w Q:=calls_vq .nil tabOk Tryz.func126 (by kernel_rfl) h_
def N127 (n : Int) (w : World) (Q : QP) : Prop :=
 RUNA PG (Instr.alloc 223 true (.tuple #[])) w fun a2 w1 =>
 RD PG (Instr.build 223 #[(0,(.int .i64 1)),(1,(.int .u64 (IntKind.u64.wrap n)))]) w1 fun v =>
 ∃ x5 : Int,∃ x5v1 : Int,v = (.agg #[(.int .i64 x5),(.int .u64 x5v1)]) /\
 (RUNU PG (storeVar 223 a2 (.agg #[(.int .i64 x5),(.int .u64 x5v1)])) w1 fun w2 =>
 RD PG (loadVar 223 a2) w2 fun v2 =>
 ∃ r : Int,∃ r1 : Int,v2 = (.agg #[(.int .i64 r),(.int .u64 r1)]) /\
 (Q (.agg #[(.int .i64 r),(.int .u64 r1)]) w2))
theorem call127 {n : Int} {w : World} {Q : QP} (h_ : N127 n w Q) : CALL PG 127 [(.int .u8 n)] w Q:=calls_vq .nil tabOk Tryz.func127 (by kernel_rfl) h_
def N200 (n : Int) (w : World) (Q : QP) : Prop :=
 RUNA PG (Instr.alloc 223 true (.tuple #[])) w fun a2 w1 =>
 RD PG (Instr.build 223 #[(0,(.int .i64 2)),(1,(.int .u64 (IntKind.u64.wrap n)))]) w1 fun v =>
 ∃ x5 : Int,∃ x5v1 : Int,v = (.agg #[(.int .i64 x5),(.int .u64 x5v1)]) /\
 (RUNU PG (storeVar 223 a2 (.agg #[(.int .i64 x5),(.int .u64 x5v1)])) w1 fun w2 =>
 RD PG (loadVar 223 a2) w2 fun v2 =>
 ∃ r : Int,∃ r1 : Int,v2 = (.agg #[(.int .i64 r),(.int .u64 r1)]) /\
 (Q (.agg #[(.int .i64 r),(.int .u64 r1)]) w2))
theorem call200 {n : Int} {w : World} {Q : QP} (h_ : N200 n w Q) : CALL PG 200 [(.int .u16 n)] w Q:=calls_vq .nil tabOk Tryz.func200 (by kernel_rfl) h_
end Go.Br
/- Packing: fields,and numbers as bytes. -/
set_option linter.unusedVariables false
set_option linter.unusedSimpArgs false
set_option linter.unnecessarySimpa false
namespace Go.Br
open Go
instance biPacka : Zro PG 223 2 16 (.agg #[.int .i64 0,.int .u64 0]):=⟨tiOf (by kernel_rfl)⟩
instance biPackb (x0 : Int) (x1 : Int) : Bld PG (Instr.build 223 #[(0,.int .i64 x0),(1,.int .u64 x1)]) (.agg #[.int .i64 x0,.int .u64 x1]):=⟨fun w => by kernel_rfl⟩
attribute [local irreducible] Addr.add RD RDS RUN RUNU NILC LETB CALL CALLX CALLV
theorem tiPkU8 : TI PG 5 1 1 (.int .u8 0):=tiOf (by kernel_rfl)
theorem huPk : PG.underlying 41 = some (.slice 5):=by kernel_rfl
structure Fd where
 b : Int
 n : Int
def fd (x : Fd) : List Value:=[.int .i64 x.b,.int .u64 x.n]
def beB (n : Int) : Nat -> List UInt8
 | 0 => []
 | k + 1 => beB (n / 256) k ++ [byteOf n]
theorem beB_length : ∀ (k : Nat) (n : Int),(beB n k).length = k
 | 0,_ => rfl
 | k + 1,n => by simp [beB,beB_length k]
def fdb (f : Fd) : List UInt8:=beB f.n f.b.toNat
def FdOk (f : Fd) : Prop:=1 <= f.b /\ f.b <= 8 /\ 0 <= f.n /\ f.n < 18446744073709551616
theorem fdb_le {f : Fd} (h : FdOk f) : (fdb f).length <= 8:=by unfold fdb; rw [beB_length]; have:=h.2.1; omega
theorem fdbs_le : ∀ {fs : List Fd},(∀ f ∈ fs,FdOk f) -> (fs.flatMap fdb).length <= 8 * fs.length
 | [],_ => by simp
 | f :: fs,h => by
  have h1:=fdb_le (h f (by simp))
  have h2:=fdbs_le (fs:=fs) fun x hx => h x (by simp [hx])
  simp only [List.flatMap_cons,List.length_append,List.length_cons]; omega
section
variable {c : Ctx} {w : World} {L R : List SA}
theorem packB_ok (h : St c w L) {n : Int} (h0 : 0 <= n) (h1 : n < 256) {Q : Value -> World -> Prop} (hk : ∀ w',St c w' L -> Q (.agg #[.int .i64 1,.int .u64 n]) w') : CALL PG 127 [.int .u8 n] w Q:=by
  refine call127 ?_
  unfold N127
  rw [show IntKind.u64.wrap n = n by rw [wrapU64]; omega]
  repeat' (first
    | refine nilc ?_
    | refine h.rdI _ ?_
    | refine h.rdB _ ?_
    | refine h.rdP _ ?_
    | refine h.rdL _ ?_
    | refine h.rdT _ ?_
    | refine h.rdI2 _ _ ?_
    | refine h.rdB2 _ _ ?_
    | refine h.rdP2 _ _ ?_
    | refine h.rdL2 _ _ ?_
    | refine h.st2 _ _ fun w' h => ?_
    | refine h.st _ fun w' h => ?_
    | refine h.rdvI ?_
    | refine h.rdvB ?_
    | refine h.rdvP ?_
    | refine h.rdvL ?_
    | refine h.rdvT ?_
    | (refine h.rdG ?_; (repeat apply exi); apply exr)
    | refine h.stG fun w' h => ?_
    | refine h.stV fun w' h => ?_
    | refine h.box fun p w' h => ?_
    | refine h.boxV fun p w' h => ?_
    | refine h.allocZ fun p w' h => ?_
    | refine h.allocZV fun p w' h => ?_
    | (refine RD.bld ?_; (repeat apply exi); apply exr)
    | (refine RDS.bld ?_; (repeat apply exi); apply exr)
    | refine St.rdsI _ ?_
    | refine St.rdsB _ ?_
    | refine St.rdsP _ ?_
    | refine St.rdsL _ ?_
    | refine St.rdsT _ ?_
    | refine St.rdsI2 _ _ ?_
    | refine St.rdsB2 _ _ ?_
    | (refine St.rdsG ?_; (repeat apply exi); apply exr)
    | refine letb rfl ?_
    | refine sat h ?_
    | (have h:=h.drew; refine sat h ?_)
    | refine sat1 h (fun _ h => h.to) ?_)
  exact hk _ h.drop
theorem packH_ok (h : St c w L) {n : Int} (h0 : 0 <= n) (h1 : n < 65536) {Q : Value -> World -> Prop} (hk : ∀ w',St c w' L -> Q (.agg #[.int .i64 2,.int .u64 n]) w') : CALL PG 200 [.int .u16 n] w Q:=by
  refine call200 ?_
  unfold N200
  rw [show IntKind.u64.wrap n = n by rw [wrapU64]; omega]
  repeat' (first
    | refine nilc ?_
    | refine h.rdI _ ?_
    | refine h.rdB _ ?_
    | refine h.rdP _ ?_
    | refine h.rdL _ ?_
    | refine h.rdT _ ?_
    | refine h.rdI2 _ _ ?_
    | refine h.rdB2 _ _ ?_
    | refine h.rdP2 _ _ ?_
    | refine h.rdL2 _ _ ?_
    | refine h.st2 _ _ fun w' h => ?_
    | refine h.st _ fun w' h => ?_
    | refine h.rdvI ?_
    | refine h.rdvB ?_
    | refine h.rdvP ?_
    | refine h.rdvL ?_
    | refine h.rdvT ?_
    | (refine h.rdG ?_; (repeat apply exi); apply exr)
    | refine h.stG fun w' h => ?_
    | refine h.stV fun w' h => ?_
    | refine h.box fun p w' h => ?_
    | refine h.boxV fun p w' h => ?_
    | refine h.allocZ fun p w' h => ?_
    | refine h.allocZV fun p w' h => ?_
    | (refine RD.bld ?_; (repeat apply exi); apply exr)
    | (refine RDS.bld ?_; (repeat apply exi); apply exr)
    | refine St.rdsI _ ?_
    | refine St.rdsB _ ?_
    | refine St.rdsP _ ?_
    | refine St.rdsL _ ?_
    | refine St.rdsT _ ?_
    | refine St.rdsI2 _ _ ?_
    | refine St.rdsB2 _ _ ?_
    | (refine St.rdsG ?_; (repeat apply exi); apply exr)
    | refine letb rfl ?_
    | refine sat h ?_
    | (have h:=h.drew; refine sat h ?_)
    | refine sat1 h (fun _ h => h.to) ?_)
  exact hk _ h.drop
theorem packW_ok (h : St c w L) {n : Int} (h0 : 0 <= n) (h1 : n < 4294967296) {Q : Value -> World -> Prop} (hk : ∀ w',St c w' L -> Q (.agg #[.int .i64 4,.int .u64 n]) w') : CALL PG 126 [.int .u32 n] w Q:=by
  refine call126 ?_
  unfold N126
  rw [show IntKind.u64.wrap n = n by rw [wrapU64]; omega]
  repeat' (first
    | refine nilc ?_
    | refine h.rdI _ ?_
    | refine h.rdB _ ?_
    | refine h.rdP _ ?_
    | refine h.rdL _ ?_
    | refine h.rdT _ ?_
    | refine h.rdI2 _ _ ?_
    | refine h.rdB2 _ _ ?_
    | refine h.rdP2 _ _ ?_
    | refine h.rdL2 _ _ ?_
    | refine h.st2 _ _ fun w' h => ?_
    | refine h.st _ fun w' h => ?_
    | refine h.rdvI ?_
    | refine h.rdvB ?_
    | refine h.rdvP ?_
    | refine h.rdvL ?_
    | refine h.rdvT ?_
    | (refine h.rdG ?_; (repeat apply exi); apply exr)
    | refine h.stG fun w' h => ?_
    | refine h.stV fun w' h => ?_
    | refine h.box fun p w' h => ?_
    | refine h.boxV fun p w' h => ?_
    | refine h.allocZ fun p w' h => ?_
    | refine h.allocZV fun p w' h => ?_
    | (refine RD.bld ?_; (repeat apply exi); apply exr)
    | (refine RDS.bld ?_; (repeat apply exi); apply exr)
    | refine St.rdsI _ ?_
    | refine St.rdsB _ ?_
    | refine St.rdsP _ ?_
    | refine St.rdsL _ ?_
    | refine St.rdsT _ ?_
    | refine St.rdsI2 _ _ ?_
    | refine St.rdsB2 _ _ ?_
    | (refine St.rdsG ?_; (repeat apply exi); apply exr)
    | refine letb rfl ?_
    | refine sat h ?_
    | (have h:=h.drew; refine sat h ?_)
    | refine sat1 h (fun _ h => h.to) ?_)
  exact hk _ h.drop
theorem packQ_ok (h : St c w L) {n : Int} {Q : Value -> World -> Prop} (hk : ∀ w',St c w' L -> Q (.agg #[.int .i64 8,.int .u64 n]) w') : CALL PG 125 [.int .u64 n] w Q:=by
  refine call125 ?_
  unfold N125
  repeat' (first
    | refine nilc ?_
    | refine h.rdI _ ?_
    | refine h.rdB _ ?_
    | refine h.rdP _ ?_
    | refine h.rdL _ ?_
    | refine h.rdT _ ?_
    | refine h.rdI2 _ _ ?_
    | refine h.rdB2 _ _ ?_
    | refine h.rdP2 _ _ ?_
    | refine h.rdL2 _ _ ?_
    | refine h.st2 _ _ fun w' h => ?_
    | refine h.st _ fun w' h => ?_
    | refine h.rdvI ?_
    | refine h.rdvB ?_
    | refine h.rdvP ?_
    | refine h.rdvL ?_
    | refine h.rdvT ?_
    | (refine h.rdG ?_; (repeat apply exi); apply exr)
    | refine h.stG fun w' h => ?_
    | refine h.stV fun w' h => ?_
    | refine h.box fun p w' h => ?_
    | refine h.boxV fun p w' h => ?_
    | refine h.allocZ fun p w' h => ?_
    | refine h.allocZV fun p w' h => ?_
    | (refine RD.bld ?_; (repeat apply exi); apply exr)
    | (refine RDS.bld ?_; (repeat apply exi); apply exr)
    | refine St.rdsI _ ?_
    | refine St.rdsB _ ?_
    | refine St.rdsP _ ?_
    | refine St.rdsL _ ?_
    | refine St.rdsT _ ?_
    | refine St.rdsI2 _ _ ?_
    | refine St.rdsB2 _ _ ?_
    | (refine St.rdsG ?_; (repeat apply exi); apply exr)
    | refine letb rfl ?_
    | refine sat h ?_
    | (have h:=h.drew; refine sat h ?_)
    | refine sat1 h (fun _ h => h.to) ?_)
  exact hk _ h.drop
theorem laid {n : Int} {q : Nat} (hq : q < 8) : IntKind.u8.wrap (shrN .u64 n (IntKind.i64.wrap ((8 : Int) * (q : Int)))) = ((byteOf (n / 256 ^ q)).toNat : Int):=by
 rw [wrap_i64 (by omega) (by omega),show (8 : Int) * (q : Int) = ((8 * q : Nat) : Int) by omega,shrU64 (by omega),wrapU8,byteOf_val,Int.pow_mul]
 rfl
theorem pput_ok (h : St c w L) {A F : Option Addr} {C K : Nat} {bs : List UInt8} {fs : List Fd} (hb : RdIn L A (bvs bs)) (hf : RdIn L F (fs.flatMap fd)) (hfs : ∀ f ∈ fs,FdOk f) (hbl : bs.length <= 10000) (hfl : fs.length <= 100) {Q : Value -> World -> Prop}
  (hk : ∀ O k w',St c w' (own 5 1 O (bs ++ fs.flatMap fdb).length k (bvs (bs ++ fs.flatMap fdb)) :: L) -> Q (.slice O (bs ++ fs.flatMap fdb).length k) w') : CALL PG 124 [.slice A bs.length C,.slice F fs.length K] w Q:=by
 refine call124 ?_
 unfold N124
 refine (h.addOwnNil 5 1).append huPk tiPkU8 .head hb.more (m:=bs.length) (by simp [bvs]) (Flat.bvs bs) (by omega) fun O k w' h => ?_
 simp only [Nat.zero_add,List.nil_append] at h ⊢
 refine ⟨fun m O n k i w' => ∃ j : Nat,j + m = fs.length /\ i = (j : Int) /\ (bs ++ (fs.take j).flatMap fdb).length = n /\ St c w' (own 5 1 O n k (bvs (bs ++ (fs.take j).flatMap fdb)) :: L),⟨fs.length,0,by omega,rfl,by simp,by simpa using h⟩,?_⟩
 clear h
 rintro m O _ k _ w' ⟨j,hj,rfl,rfl,h⟩
 have hlen:=fdbs_le (fs:=fs.take j) fun f hf => hfs f (List.mem_of_mem_take hf)
 rw [List.length_take] at hlen
 refine ifd (fun hlt => ?_) fun hge => ?_
 ·obtain ⟨x,hx⟩:=ex_get (L:=fs) (j:=j) (by omega)
  obtain ⟨x1,x2,x3,x4⟩:=hfs x (List.mem_of_getElem? hx)
  refine h.ix (z:=1) hf.more hx fun a ha => ?_
  subst ha
  refine h.rdEG hf.more hx ⟨_,_,rfl,?_⟩
  refine h.allocZ fun q w' h => ?_
  refine h.stG fun w' h => ?_
  refine h.rdI 0 ?_
  refine ifdf (by omega) ?_
  refine h.rdI 0 ?_
  refine ifdf (by omega) ?_
  refine h.rdI 0 ?_
  refine letw ?_
  refine ⟨fun m2 O n k i w' => ∃ t : Nat,t = m2 /\ i = (t : Int) - 1 /\ t <= x.b.toNat /\ (bs ++ (fs.take j).flatMap fdb ++ beB (x.n / 256 ^ t) (x.b.toNat - t)).length = n /\
   St c w' (own 5 1 O n k (bvs (bs ++ (fs.take j).flatMap fdb ++ beB (x.n / 256 ^ t) (x.b.toNat - t))) :: blk q 223 [.int .i64 x.b,.int .u64 x.n] :: L),
   ⟨x.b.toNat,x.b.toNat,rfl,by omega,by omega,by simp [beB],by simpa [beB] using h.swap⟩,?_⟩
  clear h
  rintro m2 O _ k _ w' ⟨t,rfl,rfl,ht,rfl,h⟩
  have hl2:=beB_length (x.b.toNat - t) (x.n / 256 ^ t)
  refine ifd (fun hlt2 => ?_) fun hge2 => ?_
  ·refine h.rdI 1 ?_
   have ht1 : ((t : Int) - 1) = ((t - 1 : Nat) : Int):=by omega
   rw [ht1]
   refine ⟨by rw [wrap_i64 (by omega) (by omega)]; omega,?_⟩
   rw [laid (by omega)]
   refine h.app1 huPk tiPkU8 (bvs [byteOf (x.n / 256 ^ (t - 1))]) .head (Flat.bvs _) (by simp only [List.length_append,hl2]; omega) fun O' k' w' h => ?_
   refine letw ?_
   have e : beB (x.n / 256 ^ t) (x.b.toNat - t) ++ [byteOf (x.n / 256 ^ (t - 1))] = beB (x.n / 256 ^ (t - 1)) (x.b.toNat - (t - 1)):=by
    obtain ⟨s,rfl⟩ : ∃ s,t = s + 1:=⟨t - 1,by omega⟩
    rw [show x.b.toNat - (s + 1 - 1) = (x.b.toNat - (s + 1)) + 1 by omega,Nat.add_sub_cancel,beB,Int.ediv_ediv_of_nonneg (by exact Int.le_of_lt (Int.pow_pos (by decide))),Int.pow_succ]
   refine ⟨t - 1,by omega,t - 1,rfl,rfl,by omega,?_,?_⟩
   ·rw [<- e]; simp only [List.length_append,List.length_singleton]; omega
   ·rw [<- e,<- List.append_assoc,<- bvs_append]
    exact h
  ·have ht0 : t = 0:=by omega
   subst ht0
   have e : bs ++ List.flatMap fdb (List.take j fs) ++ beB (x.n / 256 ^ 0) (x.b.toNat - 0) = bs ++ (fs.take (j + 1)).flatMap fdb:=by
    rw [take_snoc' hx,List.flatMap_append,List.append_assoc]
    simp [fdb]
   rw [e] at h ⊢
   exact ⟨m - 1,by omega,j + 1,by omega,wrap_i64 (by omega) (by omega),rfl,h.swap.drop⟩
 ·have hjl : j = fs.length:=by omega
  subst hjl
  rw [List.take_length] at h ⊢
  exact hk O k w' h
end
end Go.Br
/- Bytes as numbers,options,a segment; a count in digits: plain. -/
set_option linter.unusedVariables false
set_option linter.unusedSimpArgs false
set_option linter.unnecessarySimpa false
namespace Go.Br
open Go
attribute [local irreducible] Addr.add RD RDS RUN RUNU NILC LETB CALL CALLX CALLV
def beN (l : List UInt8) : Nat:=l.foldl (fun n b => n * 256 + b.toNat) 0
theorem beN_snoc (l : List UInt8) (b : UInt8) : beN (l ++ [b]) = beN l * 256 + b.toNat:=by unfold beN; rw [List.foldl_append]; rfl
theorem beN_lt : ∀ (l : List UInt8),beN l < 256 ^ l.length:=fun l => by
 rcases List.eq_nil_or_concat l with rfl | ⟨q,b,rfl⟩
 ·simp [beN]
 ·rw [List.concat_eq_append,beN_snoc,List.length_append,List.length_singleton,Nat.pow_succ]
  have ih:=beN_lt q
  have:=b.toNat_lt
  omega
termination_by l => l.length
decreasing_by subst_vars; simp
def getS : List Nat -> List UInt8 -> Option (List Nat × List UInt8)
 | [],b => some ([],b)
 | n :: r,b => if n < 1 ∨ 8 < n ∨ b.length < n then none else (getS r (b.drop n)).map fun p => (beN (b.take n) :: p.1,p.2)
def optsS : List UInt8 -> Option (List (Int × List UInt8))
 | [] => some []
 | [_] => none
 | k :: m :: r => if k = 0 ∨ r.length < m.toNat then none else (optsS (r.drop m.toNat)).map fun l => ((k.toNat : Int),r.take m.toNat) :: l
termination_by l => l.length
decreasing_by simp; omega
end Go.Br
