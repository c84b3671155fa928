/- A set of pieces: what a call of each function does. -/
import Derived.Test.YtmglifmopjedbaaGreatNSpans
import Derived.Test.YtmglifmopjedbaaGreatJConnAsk2
import Derived.Test.YtmglifmopjedbaaGreatSpansPure
set_option linter.unusedVariables false
set_option linter.unusedSimpArgs false
set_option linter.unnecessarySimpa false
namespace Go.Br
open Go
instance biSpansa : Zro PG 298 2 16 (.agg #[.int .u64 0,.int .u64 0]):=⟨tiOf (by kernel_rfl)⟩
attribute [local irreducible] Addr.add RD RDS RUN RUNU NILC LETB CALL CALLX CALLV
theorem tiSpn : TI PG 298 2 16 (.agg #[.int .u64 0,.int .u64 0]):=tiOf (by kernel_rfl)
theorem huSpn : PG.underlying 260 = some (.slice 298):=by kernel_rfl
def sset (p : Nat) (most : Int) (S : List Sp) : SA:=Br.ex fun x : Option Addr × Nat => sep (Br.blk p 262 [.int .i64 most,.slice x.1 S.length x.2]) (Br.own 298 2 x.1 S.length x.2 (S.flatMap spn))
section
variable {c : Ctx} {w : World} {L R : List SA}
theorem St.setO {p : Nat} {most : Int} {S : List Sp} (h : St c w (sset p most S :: R)) : ∃ A k,St c w (Br.blk p 262 [.int .i64 most,.slice A S.length k] :: Br.own 298 2 A S.length k (S.flatMap spn) :: R):=by
 obtain ⟨⟨A,k⟩,h⟩:=h.ex
 exact ⟨A,k,h.split⟩
theorem St.setC {p : Nat} {most : Int} {S : List Sp} {A : Option Addr} {k : Nat} (h : St c w (Br.blk p 262 [.int .i64 most,.slice A S.length k] :: Br.own 298 2 A S.length k (S.flatMap spn) :: R)) : St c w (sset p most S :: R) :=
 h.join.exi (f:=fun x : Option Addr × Nat => sep (Br.blk p 262 [.int .i64 most,.slice x.1 S.length x.2]) (Br.own 298 2 x.1 S.length x.2 (S.flatMap spn))) (A,k)
theorem findf_ok (h : St c w L) {x : Sp} {n : Int} {Q : Value -> World -> Prop} (hk : ∀ w',St c w' L -> Q (.int .i64 (if x.t < n then -1 else 1)) w') : CALL PG 269 [spnv x,.int .u64 n] w Q:=by
  refine call269 ?_
  unfold N269
  repeat' (first
    | refine nilc ?_
    | refine h.rdI _ ?_
    | refine h.rdB _ ?_
    | refine h.rdP _ ?_
    | refine h.rdL _ ?_
    | refine h.rdT _ ?_
    | refine h.rdI2 _ _ ?_
    | refine h.rdB2 _ _ ?_
    | refine h.rdP2 _ _ ?_
    | refine h.rdL2 _ _ ?_
    | refine h.st2 _ _ fun w' h => ?_
    | refine h.st _ fun w' h => ?_
    | refine h.rdvI ?_
    | refine h.rdvB ?_
    | refine h.rdvP ?_
    | refine h.rdvL ?_
    | refine h.rdvT ?_
    | (refine h.rdG ?_; (repeat apply exi); apply exr)
    | refine h.stG fun w' h => ?_
    | refine h.stV fun w' h => ?_
    | refine h.box fun p w' h => ?_
    | refine h.boxV fun p w' h => ?_
    | refine h.allocZ fun p w' h => ?_
    | refine h.allocZV fun p w' h => ?_
    | (refine RD.bld ?_; (repeat apply exi); apply exr)
    | (refine RDS.bld ?_; (repeat apply exi); apply exr)
    | refine St.rdsI _ ?_
    | refine St.rdsB _ ?_
    | refine St.rdsP _ ?_
    | refine St.rdsL _ ?_
    | refine St.rdsT _ ?_
    | refine St.rdsI2 _ _ ?_
    | refine St.rdsB2 _ _ ?_
    | (refine St.rdsG ?_; (repeat apply exi); apply exr)
    | refine letb rfl ?_
    | refine sat h ?_
    | (have h:=h.drew; refine sat h ?_)
    | refine sat1 h (fun _ h => h.to) ?_)
  have hk:=hk w' h.drop
  exact ifd (fun hl => by rwa [if_pos hl] at hk) fun hl => by rwa [if_neg hl] at hk
theorem spA_len : ∀ {S : List Sp} {x : Int} {i : Nat},i <= S.length -> (∀ k p,k < i -> S[k]? = some p -> p.t < x) -> (∀ p,S[i]? = some p -> x <= p.t) -> (spA S x).length = i
 | [],x,i,hi,_,_ => by simp at hi; simp [spA,hi]
 | a :: S,x,0,_,_,h2 => by
  have:=h2 a rfl
  unfold spA
  rw [List.takeWhile_cons_of_neg (by simp; omega)]; rfl
 | a :: S,x,i + 1,hi,h1,h2 => by
  have ha:=h1 0 a (by omega) rfl
  have:=spA_len (S:=S) (x:=x) (i:=i) (by simpa using hi) (fun k p hk hp => h1 (k + 1) p (by omega) (by simpa using hp)) (fun p hp => h2 p (by simpa using hp))
  unfold spA at this ⊢
  rw [List.takeWhile_cons_of_pos (by simpa using ha),List.length_cons,this]
theorem sep_mono {S : List Sp} (hs : Sep S) {i j : Nat} {p q : Sp} (hi : S[i]? = some p) (hj : S[j]? = some q) (hij : i <= j) : p.t <= q.t:=by
 obtain ⟨hi',hi⟩:=List.getElem?_eq_some_iff.1 hi
 obtain ⟨hj',hj⟩:=List.getElem?_eq_some_iff.1 hj
 rcases Nat.lt_or_ge i j with h | h
 ·have:=List.pairwise_iff_getElem.1 hs.1 i j hi' hj' h
  rw [hi,hj] at this
  have:=(hs.2 q (hj ▸ List.getElem_mem hj')).2.1
  omega
 ·have : i = j:=by omega
  subst this
  rw [hi] at hj; subst hj; exact Int.le_refl _
theorem bin_ok (h : St c w L) {A : Option Addr} {k : Nat} {S : List Sp} {n : Int} (hr : RdIn L A (S.flatMap spn)) (hs : Sep S) (hl : S.length <= 1000) {Q : Value -> World -> Prop}
  (hk : ∀ b w',St c w' L -> Q (.tuple #[.int .i64 ((spA S n).length : Int),.bool b]) w') : CALL PG 268 [.slice A S.length k,.int .u64 n,.func (.func 269) #[] #[]] w Q:=by
 refine call268 ?_
 unfold N268
 refine leti rfl (leti rfl ?_)
 refine ⟨fun m i j w' => ∃ a b : Nat,a + m = b /\ b <= S.length /\ i = (a : Int) /\ j = (b : Int) /\ (∀ q p,q < a -> S[q]? = some p -> p.t < n) /\ (∀ p,S[b]? = some p -> n <= p.t) /\ St c w' L,
  ⟨S.length,0,S.length,by omega,by omega,rfl,rfl,fun q p hq => by omega,fun p hp => by simp at hp,h⟩,?_⟩
 clear h
 rintro m _ _ w' ⟨a,b,hm,hb,rfl,rfl,h1,h2,h⟩
 refine ifd (fun hlt => ?_) fun hge => ?_
 ·refine ⟨by decide,leti (y:=((a + b) / 2 : Nat)) ?_ ?_⟩
  ·rw [wrap_i64 (n:=(a : Int) + (b : Int)) (by omega) (by omega),wrapU64,show (1 : Int) = ((1 : Nat) : Int) by rfl,shrU64 (by decide),wrap_i64 (by omega) (by omega)]
   omega
  obtain ⟨x,hx⟩:=ex_get (L:=S) (j:=(a + b) / 2) (by omega)
  refine h.ix (z:=1) hr hx fun y hy => ?_
  have hr2:=hr
  rw [hy] at hr2
  refine h.rdEG hr2 hx ?_
  (repeat apply exi)
  apply exr
  refine callvT tabOk (by kernel_rfl) (findf_ok h fun w' h => ?_)
  (repeat apply exi)
  apply exr
  refine ifd (fun hc => ?_) fun hc => ?_
  ·have hx' : x.t < n:=by
    rcases Int.lt_or_le x.t n with h | h
    ·exact h
    ·rw [if_neg (by omega)] at hc; omega
   refine letw ⟨b - ((a + b) / 2 + 1),by omega,(a + b) / 2 + 1,b,by omega,hb,by omega,rfl,fun q p hq hp => ?_,h2,h⟩
   have:=sep_mono hs hp hx (by omega)
   omega
  ·have hx' : n <= x.t:=by
    rcases Int.lt_or_le x.t n with h | h
    ·rw [if_pos h] at hc; omega
    ·exact h
   refine leti rfl ⟨(a + b) / 2 - a,by omega,a,(a + b) / 2,by omega,by omega,rfl,rfl,h1,fun p hp => ?_,h⟩
   rw [hx] at hp; injection hp with hp; subst hp; exact hx'
 ·have hab : a = b:=by omega
  subst hab
  have e:=spA_len (by omega) h1 h2
  rw [<- e] at h2 ⊢
  generalize (spA S n).length = v at *
  refine ifd (fun hlt => ?_) fun hge => leti rfl (letb rfl ?_)
  ·obtain ⟨x,hx⟩:=ex_get (L:=S) (j:=v) (by omega)
   refine h.ix (z:=1) hr hx fun y hy => ?_
   have hr2:=hr
   rw [hy] at hr2
   refine h.rdEG hr2 hx ?_
   (repeat apply exi)
   apply exr
   refine callvT tabOk (by kernel_rfl) (findf_ok h fun w' h => ?_)
   (repeat apply exi)
   apply exr
   exact leti rfl (letb rfl (hk _ _ h))
  ·exact hk _ _ h
theorem find_ok (h : St c w L) {p : Nat} {most : Int} {S : List Sp} {A : Option Addr} {k : Nat} {n : Int} (hp : Pick (Br.blk p 262 [.int .i64 most,.slice A S.length k]) L R) (hr : RdIn L A (S.flatMap spn)) (hs : Sep S) (hl : S.length <= 1000) {Q : Value -> World -> Prop}
  (hk : ∀ w',St c w' L -> Q (.int .i64 ((spA S n).length : Int)) w') : CALL PG 241 [.pointer (some ⟨p,0,none⟩),.int .u64 n] w Q:=by
 refine call241 ?_
 unfold N241
 refine nilc ?_
 refine h.rdL 1 ?_ hp
 refine bin_ok h hr hs hl fun b w' h => ?_
 (repeat apply exi)
 apply exr
 exact leti rfl (letb rfl (leti rfl (hk _ h)))
theorem srun_ok (h : St c w L) {p : Nat} {most : Int} {S : List Sp} {n : Int} (hp : Pick (sset p most S) L R) (hl : S.length <= 1000) {Q : Value -> World -> Prop} (hk : ∀ w',St c w' L -> Q (.int .u64 (runS S n)) w') : CALL PG 216 [.pointer (some ⟨p,0,none⟩),.int .u64 n] w Q:=by
  obtain ⟨A,k,h⟩:=(h.pick hp).setO
  have hk : ∀ w',St c w' (Br.blk p 262 [.int .i64 most,.slice A S.length k] :: Br.own 298 2 A S.length k (S.flatMap spn) :: R) -> Q (.int .u64 (runS S n)) w':=fun w' h => hk w' (h.setC.back hp)
  refine call216 ?_
  unfold N216
  repeat' (first
    | refine nilc ?_
    | refine h.rdI _ ?_
    | refine h.rdB _ ?_
    | refine h.rdP _ ?_
    | refine h.rdL _ ?_
    | refine h.rdT _ ?_
    | refine h.rdI2 _ _ ?_
    | refine h.rdB2 _ _ ?_
    | refine h.rdP2 _ _ ?_
    | refine h.rdL2 _ _ ?_
    | refine h.st2 _ _ fun w' h => ?_
    | refine h.st _ fun w' h => ?_
    | refine h.rdvI ?_
    | refine h.rdvB ?_
    | refine h.rdvP ?_
    | refine h.rdvL ?_
    | refine h.rdvT ?_
    | (refine h.rdG ?_; (repeat apply exi); apply exr)
    | refine h.stG fun w' h => ?_
    | refine h.stV fun w' h => ?_
    | refine h.box fun p w' h => ?_
    | refine h.boxV fun p w' h => ?_
    | refine h.allocZ fun p w' h => ?_
    | refine h.allocZV fun p w' h => ?_
    | (refine RD.bld ?_; (repeat apply exi); apply exr)
    | (refine RDS.bld ?_; (repeat apply exi); apply exr)
    | refine St.rdsI _ ?_
    | refine St.rdsB _ ?_
    | refine St.rdsP _ ?_
    | refine St.rdsL _ ?_
    | refine St.rdsT _ ?_
    | refine St.rdsI2 _ _ ?_
    | refine St.rdsB2 _ _ ?_
    | (refine St.rdsG ?_; (repeat apply exi); apply exr)
    | refine letb rfl ?_
    | refine sat h ?_
    | (have h:=h.drew; refine sat h ?_)
    | refine sat1 h (fun _ h => h.to) ?_)
  refine ⟨fun m i w' => ∃ j : Nat,j + m = S.length /\ i = (j : Int) /\ (∀ q ∈ S.take j,¬ (q.f <= n /\ n < q.t)) /\ St c w' _,⟨S.length,0,by omega,rfl,by simp,h⟩,?_⟩
  clear h
  rintro m _ w' ⟨j,hj,rfl,hno,h⟩
  refine ifd (fun hlt => ?_) fun hge => ?_
  · obtain ⟨x,hx⟩:=ex_get (L:=S) (j:=j) (by omega)
    have skip : ¬ (x.f <= n /\ n < x.t) -> ∀ q ∈ S.take (j + 1),¬ (q.f <= n /\ n < q.t):=fun hxn q hq => by
      rw [take_snoc' hx] at hq
      rcases List.mem_append.1 hq with hq | hq
      · exact hno q hq
      · simp at hq; subst hq; exact hxn
    refine h.ix (z:=1) (RdIn.own (.tail .head)) hx fun a ha => ?_
    subst ha
    refine h.rdEG (RdIn.own (.tail .head)) hx ?_
    (repeat apply exi)
    apply exr
    repeat' (first
      | refine nilc ?_
      | refine h.rdI _ ?_
      | refine h.rdB _ ?_
      | refine h.rdP _ ?_
      | refine h.rdL _ ?_
      | refine h.rdT _ ?_
      | refine h.rdI2 _ _ ?_
      | refine h.rdB2 _ _ ?_
      | refine h.rdP2 _ _ ?_
      | refine h.rdL2 _ _ ?_
      | refine h.st2 _ _ fun w' h => ?_
      | refine h.st _ fun w' h => ?_
      | refine h.rdvI ?_
      | refine h.rdvB ?_
      | refine h.rdvP ?_
      | refine h.rdvL ?_
      | refine h.rdvT ?_
      | (refine h.rdG ?_; (repeat apply exi); apply exr)
      | refine h.stG fun w' h => ?_
      | refine h.stV fun w' h => ?_
      | refine h.box fun p w' h => ?_
      | refine h.boxV fun p w' h => ?_
      | refine h.allocZ fun p w' h => ?_
      | refine h.allocZV fun p w' h => ?_
      | (refine RD.bld ?_; (repeat apply exi); apply exr)
      | (refine RDS.bld ?_; (repeat apply exi); apply exr)
      | refine St.rdsI _ ?_
      | refine St.rdsB _ ?_
      | refine St.rdsP _ ?_
      | refine St.rdsL _ ?_
      | refine St.rdsT _ ?_
      | refine St.rdsI2 _ _ ?_
      | refine St.rdsB2 _ _ ?_
      | (refine St.rdsG ?_; (repeat apply exi); apply exr)
      | refine letb rfl ?_
      | refine sat h ?_
      | (have h:=h.drew; refine sat h ?_)
      | refine sat1 h (fun _ h => h.to) ?_)
    refine ifd (fun h1 => ?_) fun h1 => ⟨m - 1,by omega,j + 1,by omega,wrap_i64 (by omega) (by omega),skip (fun e => h1 e.1),h.drop⟩
    repeat' (first
      | refine nilc ?_
      | refine h.rdI _ ?_
      | refine h.rdB _ ?_
      | refine h.rdP _ ?_
      | refine h.rdL _ ?_
      | refine h.rdT _ ?_
      | refine h.rdI2 _ _ ?_
      | refine h.rdB2 _ _ ?_
      | refine h.rdP2 _ _ ?_
      | refine h.rdL2 _ _ ?_
      | refine h.st2 _ _ fun w' h => ?_
      | refine h.st _ fun w' h => ?_
      | refine h.rdvI ?_
      | refine h.rdvB ?_
      | refine h.rdvP ?_
      | refine h.rdvL ?_
      | refine h.rdvT ?_
      | (refine h.rdG ?_; (repeat apply exi); apply exr)
      | refine h.stG fun w' h => ?_
      | refine h.stV fun w' h => ?_
      | refine h.box fun p w' h => ?_
      | refine h.boxV fun p w' h => ?_
      | refine h.allocZ fun p w' h => ?_
      | refine h.allocZV fun p w' h => ?_
      | (refine RD.bld ?_; (repeat apply exi); apply exr)
      | (refine RDS.bld ?_; (repeat apply exi); apply exr)
      | refine St.rdsI _ ?_
      | refine St.rdsB _ ?_
      | refine St.rdsP _ ?_
      | refine St.rdsL _ ?_
      | refine St.rdsT _ ?_
      | refine St.rdsI2 _ _ ?_
      | refine St.rdsB2 _ _ ?_
      | (refine St.rdsG ?_; (repeat apply exi); apply exr)
      | refine letb rfl ?_
      | refine sat h ?_
      | (have h:=h.drew; refine sat h ?_)
      | refine sat1 h (fun _ h => h.to) ?_)
    refine ifd (fun h2 => ?_) fun h2 => ⟨m - 1,by omega,j + 1,by omega,wrap_i64 (by omega) (by omega),skip (fun e => h2 e.2),h.drop⟩
    repeat' (first
      | refine nilc ?_
      | refine h.rdI _ ?_
      | refine h.rdB _ ?_
      | refine h.rdP _ ?_
      | refine h.rdL _ ?_
      | refine h.rdT _ ?_
      | refine h.rdI2 _ _ ?_
      | refine h.rdB2 _ _ ?_
      | refine h.rdP2 _ _ ?_
      | refine h.rdL2 _ _ ?_
      | refine h.st2 _ _ fun w' h => ?_
      | refine h.st _ fun w' h => ?_
      | refine h.rdvI ?_
      | refine h.rdvB ?_
      | refine h.rdvP ?_
      | refine h.rdvL ?_
      | refine h.rdvT ?_
      | (refine h.rdG ?_; (repeat apply exi); apply exr)
      | refine h.stG fun w' h => ?_
      | refine h.stV fun w' h => ?_
      | refine h.box fun p w' h => ?_
      | refine h.boxV fun p w' h => ?_
      | refine h.allocZ fun p w' h => ?_
      | refine h.allocZV fun p w' h => ?_
      | (refine RD.bld ?_; (repeat apply exi); apply exr)
      | (refine RDS.bld ?_; (repeat apply exi); apply exr)
      | refine St.rdsI _ ?_
      | refine St.rdsB _ ?_
      | refine St.rdsP _ ?_
      | refine St.rdsL _ ?_
      | refine St.rdsT _ ?_
      | refine St.rdsI2 _ _ ?_
      | refine St.rdsB2 _ _ ?_
      | (refine St.rdsG ?_; (repeat apply exi); apply exr)
      | refine letb rfl ?_
      | refine sat h ?_
      | (have h:=h.drew; refine sat h ?_)
      | refine sat1 h (fun _ h => h.to) ?_)
    refine leti ?_ (hk _ h.drop)
    have e : S = S.take j ++ x :: S.drop (j + 1):=by rw [<- drop_cons' hx,List.take_append_drop]
    unfold runS
    rw [e,List.find?_append,List.find?_eq_none.2 (fun q hq => by have:=hno q hq; simp; omega),Option.none_or,List.find?_cons_of_pos (by simp [h1,h2])]
  · have : j = S.length:=by omega
    subst this
    rw [List.take_length] at hno
    refine leti ?_ (hk _ h)
    rw [runS_out (fun ⟨q,hq,e⟩ => hno q hq e)]
end
end Go.Br
