/- A set of pieces: adding, gaps, cutting. -/
import Derived.Test.YtmglifmopjedbaaGreatNSpans2
import Derived.Test.YtmglifmopjedbaaGreatSpans
set_option linter.unusedVariables false
set_option linter.unusedSimpArgs false
set_option linter.unnecessarySimpa false
namespace Go.Br
open Go
instance biSpans2a (x0 : Int) (x1 : Int) : Bld PG (Instr.build 298 #[(0,.int .u64 x0),(1,.int .u64 x1)]) (.agg #[.int .u64 x0,.int .u64 x1]):=⟨fun w => by kernel_rfl⟩
instance biSpans2b : Zro PG 298 2 16 (.agg #[.int .u64 0,.int .u64 0]):=⟨tiOf (by kernel_rfl)⟩
attribute [local irreducible] Addr.add RD RDS RUN RUNU NILC LETB CALL CALLX CALLV
theorem tiscC : TI PG 298 2 16 (.agg #[.int .u64 0,.int .u64 0]):=tiOf (by kernel_rfl)
theorem huscC : PG.underlying 260 = some (.slice 298):=by kernel_rfl
theorem scclone_ok {c : Ctx} {w : World} {L : List SA} (h : St c w L) {A : Option Addr} {k : Nat} {S : List Sp} (hr : RdIn L A (S.flatMap spn)) (hl : S.length <= 100000) {Q : Value -> World -> Prop}
  (hk : ∀ O d w',St c w' (own 298 2 O S.length d (S.flatMap spn) :: L) -> Q (.slice O S.length d) w') : CALL PG 243 [.slice A S.length k] w Q:=by
 refine call243 ?_
 unfold N243
 refine ifb (fun hn => ?_) fun hn => ?_
 ·have hA : A = none:=by simpa using hn
  subst hA
  have e:=(hr c w h).none
  have hS : S = []:=by
   have:=congrArg List.length e
   rw [flat_length spn_length,List.length_nil] at this
   exact List.length_eq_zero_iff.1 (by omega)
  subst hS
  exact hk none 0 _ (h.addOwnNil _ _)
 ·refine h.lit (n:=0) 298 2 [] fun q w' h => ?_
  refine h.append huscC tiscC .head hr.more (m:=S.length) (flat_length spn_length S) (spn_flat S) (by omega) fun O d w' h => ?_
  simp only [Nat.zero_add,List.nil_append] at h ⊢
  exact hk O d _ h
theorem gapsS_cons (p : Sp) (S : List Sp) (f t : Int) : gapsS (p :: S) f t = if p.t <= f then gapsS S f t else if t <= p.f then gapsS S f t else (if f < p.f then [⟨f,p.f⟩] else []) ++ gapsS S p.t t:=rfl
theorem gapsS_nil (f t : Int) : gapsS [] f t = if f < t then [⟨f,t⟩] else []:=rfl
theorem jF_snoc (f : Int) (M : List Sp) (x : Sp) : jF f (M ++ [x]) = minN (jF f M) x.f:=by simp [jF]
theorem jT_snoc (t : Int) (M : List Sp) (x : Sp) : jT t (M ++ [x]) = maxN (jT t M) x.t:=by simp [jT]
theorem tw_next {α : Type} {p : α -> Bool} : ∀ {l : List α} {x : α},l[(l.takeWhile p).length]? = some x -> p x = false
 | [],x,h => by simp at h
 | a :: l,x,h => by
  by_cases ha : p a = true
  ·rw [List.takeWhile_cons_of_pos ha,List.length_cons] at h
   exact tw_next (l:=l) (by simpa using h)
  ·rw [List.takeWhile_cons_of_neg ha] at h
   simp at h; subst h; simpa using ha
theorem tw_get {α : Type} {p : α -> Bool} : ∀ {l : List α} {j : Nat},j < (l.takeWhile p).length -> (l.takeWhile p)[j]? = l[j]?
 | [],j,h => by simp at h
 | a :: l,j,h => by
  by_cases ha : p a = true
  ·rw [List.takeWhile_cons_of_pos ha] at h ⊢
   cases j with
   | zero => rfl
   | succ j => simpa using tw_get (l:=l) (j:=j) (by simpa using h)
  ·rw [List.takeWhile_cons_of_neg ha] at h; simp at h
theorem tw_take {α : Type} (p : α -> Bool) : ∀ (l : List α),l.take (l.takeWhile p).length = l.takeWhile p /\ l.drop (l.takeWhile p).length = l.dropWhile p
 | [] => by simp
 | a :: l => by
  obtain ⟨h1,h2⟩:=tw_take p l
  by_cases ha : p a = true
  ·rw [List.takeWhile_cons_of_pos ha,List.dropWhile_cons_of_pos ha]
   simp [h1,h2]
  ·rw [List.takeWhile_cons_of_neg ha,List.dropWhile_cons_of_neg ha]
   simp
section
variable {c : Ctx} {w : World} {L R : List SA}
theorem sadd_ok (h : St c w L) {p : Nat} {most : Int} {S : List Sp} {f t : Int} (hp : Pick (sset p most S) L R) (hs : Sep S) (hl : S.length <= 1000) (h0 : 0 <= f) (h1 : t < 18446744073709551616) {Q : Value -> World -> Prop}
    (hk : ∀ w',St c w' (sset p most (addR S f t most).1 :: R) -> Q (.bool (addR S f t most).2) w') : CALL PG 213 [.pointer (some ⟨p,0,none⟩),.int .u64 f,.int .u64 t] w Q:=by
  refine call213 ?_
  unfold N213
  unfold addR at hk
  refine ifd (fun hc => ?_) fun hc => ?_
  · rw [if_pos (by omega)] at hk
    exact hk _ (h.pick hp)
  rw [if_neg (by omega)] at hk
  obtain ⟨A,k,h⟩:=(h.pick hp).setO
  obtain ⟨a1,a2,a3,a4,a5,a6⟩:=sep_parts (f:=f) (t:=t) hs
  obtain ⟨u1,u2⟩:=tw_take (fun p : Sp => decide (p.t < f)) S
  obtain ⟨v1,v2⟩:=tw_take (fun p : Sp => decide (p.f <= t)) (spB S f)
  have lB : (spA S f).length + (spB S f).length = S.length:=by have:=congrArg List.length (spAB S f); rwa [List.length_append] at this
  have lM : (spM (spB S f) t).length + (spZ (spB S f) t).length = (spB S f).length:=by have:=congrArg List.length (spMZ (spB S f) t); rwa [List.length_append] at this
  have eS : S.take (spA S f).length ++ ⟨jF f (spM (spB S f) t),jT t (spM (spB S f) t)⟩ :: S.drop ((spA S f).length + (spM (spB S f) t).length) = addS S f t:=by
    unfold addS
    rw [show S.take (spA S f).length = spA S f from u1,<- List.drop_drop,show S.drop (spA S f).length = spB S f from u2,show (spB S f).drop (spM (spB S f) t).length = spZ (spB S f) t from v2]
  refine find_ok h .head (RdIn.own (.tail .head)) hs hl fun w' h => ?_
  (repeat apply exi)
  apply exr
  refine leti rfl (leti rfl ?_)
  refine ⟨fun f' t' k' w' => f' = jF f (spM (spB S f) t) /\ t' = jT t (spM (spB S f) t) /\ k' = (((spA S f).length + (spM (spB S f) t).length : Nat) : Int) /\ St c w' (Br.blk p 262 [.int .i64 most,.slice A S.length k] :: Br.own 298 2 A S.length k (S.flatMap spn) :: R),?_,?_⟩
  · refine ⟨fun m f' t' k' w' => ∃ q : Nat,q <= (spM (spB S f) t).length /\ q + m = S.length /\ f' = jF f ((spM (spB S f) t).take q) /\ t' = jT t ((spM (spB S f) t).take q) /\ k' = (((spA S f).length + q : Nat) : Int) /\ St c w' (Br.blk p 262 [.int .i64 most,.slice A S.length k] :: Br.own 298 2 A S.length k (S.flatMap spn) :: R),
      ⟨S.length,0,by omega,by omega,rfl,rfl,rfl,h⟩,?_⟩
    clear h
    rintro m _ _ _ w' ⟨q,hq,hm,rfl,rfl,rfl,h⟩
    have fin : ¬ q < (spM (spB S f) t).length -> ∀ {w' : World},St c w' (Br.blk p 262 [.int .i64 most,.slice A S.length k] :: Br.own 298 2 A S.length k (S.flatMap spn) :: R) ->
        jF f ((spM (spB S f) t).take q) = jF f (spM (spB S f) t) /\ jT t ((spM (spB S f) t).take q) = jT t (spM (spB S f) t) /\ (((spA S f).length + q : Nat) : Int) = (((spA S f).length + (spM (spB S f) t).length : Nat) : Int) /\ St c w' (Br.blk p 262 [.int .i64 most,.slice A S.length k] :: Br.own 298 2 A S.length k (S.flatMap spn) :: R):=fun hge w' h => by
      have : q = (spM (spB S f) t).length:=by omega
      subst this
      rw [List.take_length]
      exact ⟨rfl,rfl,rfl,h⟩
    repeat' (first
      | refine nilc ?_
      | refine h.rdI _ ?_
      | refine h.rdB _ ?_
      | refine h.rdP _ ?_
      | refine h.rdL _ ?_
      | refine h.rdT _ ?_
      | refine h.rdI2 _ _ ?_
      | refine h.rdB2 _ _ ?_
      | refine h.rdP2 _ _ ?_
      | refine h.rdL2 _ _ ?_
      | refine h.st2 _ _ fun w' h => ?_
      | refine h.st _ fun w' h => ?_
      | refine h.rdvI ?_
      | refine h.rdvB ?_
      | refine h.rdvP ?_
      | refine h.rdvL ?_
      | refine h.rdvT ?_
      | (refine h.rdG ?_; (repeat apply exi); apply exr)
      | refine h.stG fun w' h => ?_
      | refine h.stV fun w' h => ?_
      | refine h.box fun p w' h => ?_
      | refine h.boxV fun p w' h => ?_
      | refine h.allocZ fun p w' h => ?_
      | refine h.allocZV fun p w' h => ?_
      | (refine RD.bld ?_; (repeat apply exi); apply exr)
      | (refine RDS.bld ?_; (repeat apply exi); apply exr)
      | refine St.rdsI _ ?_
      | refine St.rdsB _ ?_
      | refine St.rdsP _ ?_
      | refine St.rdsL _ ?_
      | refine St.rdsT _ ?_
      | refine St.rdsI2 _ _ ?_
      | refine St.rdsB2 _ _ ?_
      | (refine St.rdsG ?_; (repeat apply exi); apply exr)
      | refine letb rfl ?_
      | refine sat h ?_
      | (have h:=h.drew; refine sat h ?_)
      | refine sat1 h (fun _ h => h.to) ?_)
    refine ifd (fun hlt => ?_) fun hge => fin (by omega) h
    obtain ⟨x,hx⟩:=ex_get (L:=spB S f) (j:=q) (by omega)
    have hxS : S[(spA S f).length + q]? = some x:=by
      have e : spB S f = S.drop (spA S f).length:=u2.symm
      rw [e,List.getElem?_drop] at hx
      exact hx
    have hcond : x.f <= jT t ((spM (spB S f) t).take q) ↔ x.f <= t:=by
      obtain ⟨g1,g2,g3⟩:=jT_ge ((spM (spB S f) t).take q) t
      rcases g3 with e | ⟨y,hy,e⟩
      · omega
      · obtain ⟨j,hj⟩:=List.mem_iff_getElem?.1 hy
        have hjq : j < q:=by
          have:=(List.getElem?_eq_some_iff.1 hj).1
          rw [List.length_take] at this; omega
        rw [List.getElem?_take,if_pos hjq,show (spM (spB S f) t)[j]? = (spB S f)[j]? from tw_get (by show j < (spM (spB S f) t).length; omega)] at hj
        obtain ⟨hj1,hj2⟩:=List.getElem?_eq_some_iff.1 hj
        obtain ⟨hx1,hx2⟩:=List.getElem?_eq_some_iff.1 hx
        have:=List.pairwise_iff_getElem.1 a4.1 j q hj1 hx1 hjq
        rw [hj2,hx2] at this
        omega
    repeat' (first
      | refine nilc ?_
      | refine h.rdI _ ?_
      | refine h.rdB _ ?_
      | refine h.rdP _ ?_
      | refine h.rdL _ ?_
      | refine h.rdT _ ?_
      | refine h.rdI2 _ _ ?_
      | refine h.rdB2 _ _ ?_
      | refine h.rdP2 _ _ ?_
      | refine h.rdL2 _ _ ?_
      | refine h.st2 _ _ fun w' h => ?_
      | refine h.st _ fun w' h => ?_
      | refine h.rdvI ?_
      | refine h.rdvB ?_
      | refine h.rdvP ?_
      | refine h.rdvL ?_
      | refine h.rdvT ?_
      | (refine h.rdG ?_; (repeat apply exi); apply exr)
      | refine h.stG fun w' h => ?_
      | refine h.stV fun w' h => ?_
      | refine h.box fun p w' h => ?_
      | refine h.boxV fun p w' h => ?_
      | refine h.allocZ fun p w' h => ?_
      | refine h.allocZV fun p w' h => ?_
      | (refine RD.bld ?_; (repeat apply exi); apply exr)
      | (refine RDS.bld ?_; (repeat apply exi); apply exr)
      | refine St.rdsI _ ?_
      | refine St.rdsB _ ?_
      | refine St.rdsP _ ?_
      | refine St.rdsL _ ?_
      | refine St.rdsT _ ?_
      | refine St.rdsI2 _ _ ?_
      | refine St.rdsB2 _ _ ?_
      | (refine St.rdsG ?_; (repeat apply exi); apply exr)
      | refine letb rfl ?_
      | refine sat h ?_
      | (have h:=h.drew; refine sat h ?_)
      | refine sat1 h (fun _ h => h.to) ?_)
    refine h.ix (z:=1) (RdIn.own (.tail .head)) hxS fun a ha => ?_
    subst ha
    refine h.rdEI 0 (RdIn.own (.tail .head)) hxS ?_
    refine ifd (fun h2 => ?_) fun h2 => fin (fun hq2 => h2 (hcond.2 ?_)) h
    rotate_left
    · have e1 : (spM (spB S f) t)[q]? = some x:=by rw [show (spM (spB S f) t)[q]? = (spB S f)[q]? from tw_get (by show q < (spM (spB S f) t).length; omega),hx]
      exact spM_le (List.mem_of_getElem? e1)
    have h2':=hcond.1 h2
    have hq2 : q < (spM (spB S f) t).length:=by
      rcases Nat.lt_or_ge q (spM (spB S f) t).length with h | h
      · exact h
      · have e1 : q = (spM (spB S f) t).length:=by omega
        rw [e1] at hx
        have:=tw_next hx
        simp at this
        omega
    have eM : (spM (spB S f) t).take (q + 1) = (spM (spB S f) t).take q ++ [x]:=take_snoc' (by rw [show (spM (spB S f) t)[q]? = (spB S f)[q]? from tw_get (by show q < (spM (spB S f) t).length; omega),hx])
    repeat' (first
      | refine nilc ?_
      | refine h.rdI _ ?_
      | refine h.rdB _ ?_
      | refine h.rdP _ ?_
      | refine h.rdL _ ?_
      | refine h.rdT _ ?_
      | refine h.rdI2 _ _ ?_
      | refine h.rdB2 _ _ ?_
      | refine h.rdP2 _ _ ?_
      | refine h.rdL2 _ _ ?_
      | refine h.st2 _ _ fun w' h => ?_
      | refine h.st _ fun w' h => ?_
      | refine h.rdvI ?_
      | refine h.rdvB ?_
      | refine h.rdvP ?_
      | refine h.rdvL ?_
      | refine h.rdvT ?_
      | (refine h.rdG ?_; (repeat apply exi); apply exr)
      | refine h.stG fun w' h => ?_
      | refine h.stV fun w' h => ?_
      | refine h.box fun p w' h => ?_
      | refine h.boxV fun p w' h => ?_
      | refine h.allocZ fun p w' h => ?_
      | refine h.allocZV fun p w' h => ?_
      | (refine RD.bld ?_; (repeat apply exi); apply exr)
      | (refine RDS.bld ?_; (repeat apply exi); apply exr)
      | refine St.rdsI _ ?_
      | refine St.rdsB _ ?_
      | refine St.rdsP _ ?_
      | refine St.rdsL _ ?_
      | refine St.rdsT _ ?_
      | refine St.rdsI2 _ _ ?_
      | refine St.rdsB2 _ _ ?_
      | (refine St.rdsG ?_; (repeat apply exi); apply exr)
      | refine letb rfl ?_
      | refine sat h ?_
      | (have h:=h.drew; refine sat h ?_)
      | refine sat1 h (fun _ h => h.to) ?_)
    refine h.ix (z:=1) (RdIn.own (.tail .head)) hxS fun b hb => ?_
    injection hb with hb
    subst hb
    refine h.rdEI 0 (RdIn.own (.tail .head)) hxS ?_
    refine leti rfl ?_
    repeat' (first
      | refine nilc ?_
      | refine h.rdI _ ?_
      | refine h.rdB _ ?_
      | refine h.rdP _ ?_
      | refine h.rdL _ ?_
      | refine h.rdT _ ?_
      | refine h.rdI2 _ _ ?_
      | refine h.rdB2 _ _ ?_
      | refine h.rdP2 _ _ ?_
      | refine h.rdL2 _ _ ?_
      | refine h.st2 _ _ fun w' h => ?_
      | refine h.st _ fun w' h => ?_
      | refine h.rdvI ?_
      | refine h.rdvB ?_
      | refine h.rdvP ?_
      | refine h.rdvL ?_
      | refine h.rdvT ?_
      | (refine h.rdG ?_; (repeat apply exi); apply exr)
      | refine h.stG fun w' h => ?_
      | refine h.stV fun w' h => ?_
      | refine h.box fun p w' h => ?_
      | refine h.boxV fun p w' h => ?_
      | refine h.allocZ fun p w' h => ?_
      | refine h.allocZV fun p w' h => ?_
      | (refine RD.bld ?_; (repeat apply exi); apply exr)
      | (refine RDS.bld ?_; (repeat apply exi); apply exr)
      | refine St.rdsI _ ?_
      | refine St.rdsB _ ?_
      | refine St.rdsP _ ?_
      | refine St.rdsL _ ?_
      | refine St.rdsT _ ?_
      | refine St.rdsI2 _ _ ?_
      | refine St.rdsB2 _ _ ?_
      | (refine St.rdsG ?_; (repeat apply exi); apply exr)
      | refine letb rfl ?_
      | refine sat h ?_
      | (have h:=h.drew; refine sat h ?_)
      | refine sat1 h (fun _ h => h.to) ?_)
    refine h.ix (z:=1) (RdIn.own (.tail .head)) hxS fun b hb => ?_
    injection hb with hb
    subst hb
    refine h.rdEI 1 (RdIn.own (.tail .head)) hxS ?_
    refine leti rfl (letw ⟨m - 1,by omega,q + 1,by omega,by omega,?_,?_,by omega,h⟩)
    · rw [eM,jF_snoc]
    · rw [eM,jT_snoc]
  clear h
  rintro _ _ _ w' ⟨rfl,rfl,rfl,h⟩
  refine jWp h (¬ (spM (spB S f) t = [] /\ (S.length : Int) = most)) ?_ ?_
  · have h:=h.drew
    refine ifq (fun he => ?_) fun hne => ⟨fun ⟨e,_⟩ => hne (by rw [e]; simp),h⟩
    have eM : spM (spB S f) t = []:=List.length_eq_zero_iff.1 (by omega)
    repeat' (first
      | refine nilc ?_
      | refine h.rdI _ ?_
      | refine h.rdB _ ?_
      | refine h.rdP _ ?_
      | refine h.rdL _ ?_
      | refine h.rdT _ ?_
      | refine h.rdI2 _ _ ?_
      | refine h.rdB2 _ _ ?_
      | refine h.rdP2 _ _ ?_
      | refine h.rdL2 _ _ ?_
      | refine h.st2 _ _ fun w' h => ?_
      | refine h.st _ fun w' h => ?_
      | refine h.rdvI ?_
      | refine h.rdvB ?_
      | refine h.rdvP ?_
      | refine h.rdvL ?_
      | refine h.rdvT ?_
      | (refine h.rdG ?_; (repeat apply exi); apply exr)
      | refine h.stG fun w' h => ?_
      | refine h.stV fun w' h => ?_
      | refine h.box fun p w' h => ?_
      | refine h.boxV fun p w' h => ?_
      | refine h.allocZ fun p w' h => ?_
      | refine h.allocZV fun p w' h => ?_
      | (refine RD.bld ?_; (repeat apply exi); apply exr)
      | (refine RDS.bld ?_; (repeat apply exi); apply exr)
      | refine St.rdsI _ ?_
      | refine St.rdsB _ ?_
      | refine St.rdsP _ ?_
      | refine St.rdsL _ ?_
      | refine St.rdsT _ ?_
      | refine St.rdsI2 _ _ ?_
      | refine St.rdsB2 _ _ ?_
      | (refine St.rdsG ?_; (repeat apply exi); apply exr)
      | refine letb rfl ?_
      | refine sat h ?_
      | (have h:=h.drew; refine sat h ?_)
      | refine sat1 h (fun _ h => h.to) ?_)
    refine ifq (fun hm => ?_) fun hm => ⟨fun ⟨_,e⟩ => hm e,h⟩
    rw [if_pos ⟨eM,hm⟩] at hk
    exact hk _ h.setC
  clear h
  rintro hno w' h
  rw [if_neg hno] at hk
  repeat' (first
    | refine nilc ?_
    | refine h.rdI _ ?_
    | refine h.rdB _ ?_
    | refine h.rdP _ ?_
    | refine h.rdL _ ?_
    | refine h.rdT _ ?_
    | refine h.rdI2 _ _ ?_
    | refine h.rdB2 _ _ ?_
    | refine h.rdP2 _ _ ?_
    | refine h.rdL2 _ _ ?_
    | refine h.st2 _ _ fun w' h => ?_
    | refine h.st _ fun w' h => ?_
    | refine h.rdvI ?_
    | refine h.rdvB ?_
    | refine h.rdvP ?_
    | refine h.rdvL ?_
    | refine h.rdvT ?_
    | (refine h.rdG ?_; (repeat apply exi); apply exr)
    | refine h.stG fun w' h => ?_
    | refine h.stV fun w' h => ?_
    | refine h.box fun p w' h => ?_
    | refine h.boxV fun p w' h => ?_
    | refine h.allocZ fun p w' h => ?_
    | refine h.allocZV fun p w' h => ?_
    | (refine RD.bld ?_; (repeat apply exi); apply exr)
    | (refine RDS.bld ?_; (repeat apply exi); apply exr)
    | refine St.rdsI _ ?_
    | refine St.rdsB _ ?_
    | refine St.rdsP _ ?_
    | refine St.rdsL _ ?_
    | refine St.rdsT _ ?_
    | refine St.rdsI2 _ _ ?_
    | refine St.rdsB2 _ _ ?_
    | (refine St.rdsG ?_; (repeat apply exi); apply exr)
    | refine letb rfl ?_
    | refine sat h ?_
    | (have h:=h.drew; refine sat h ?_)
    | refine sat1 h (fun _ h => h.to) ?_)
  refine h.lit0 (n:=1) 298 (spn ⟨jF f (spM (spB S f) t),jT t (spM (spB S f) t)⟩) fun q w' h => ?_
  refine srrep_ok h (.tail (.tail .head)) .head (Nat.le_add_right _ _) (by omega) (by omega) fun O d' w' h => ?_
  rw [eS] at h ⊢
  (repeat apply exi)
  apply exr
  repeat' (first
    | refine nilc ?_
    | refine h.rdI _ ?_
    | refine h.rdB _ ?_
    | refine h.rdP _ ?_
    | refine h.rdL _ ?_
    | refine h.rdT _ ?_
    | refine h.rdI2 _ _ ?_
    | refine h.rdB2 _ _ ?_
    | refine h.rdP2 _ _ ?_
    | refine h.rdL2 _ _ ?_
    | refine h.st2 _ _ fun w' h => ?_
    | refine h.st _ fun w' h => ?_
    | refine h.rdvI ?_
    | refine h.rdvB ?_
    | refine h.rdvP ?_
    | refine h.rdvL ?_
    | refine h.rdvT ?_
    | (refine h.rdG ?_; (repeat apply exi); apply exr)
    | refine h.stG fun w' h => ?_
    | refine h.stV fun w' h => ?_
    | refine h.box fun p w' h => ?_
    | refine h.boxV fun p w' h => ?_
    | refine h.allocZ fun p w' h => ?_
    | refine h.allocZV fun p w' h => ?_
    | (refine RD.bld ?_; (repeat apply exi); apply exr)
    | (refine RDS.bld ?_; (repeat apply exi); apply exr)
    | refine St.rdsI _ ?_
    | refine St.rdsB _ ?_
    | refine St.rdsP _ ?_
    | refine St.rdsL _ ?_
    | refine St.rdsT _ ?_
    | refine St.rdsI2 _ _ ?_
    | refine St.rdsB2 _ _ ?_
    | (refine St.rdsG ?_; (repeat apply exi); apply exr)
    | refine letb rfl ?_
    | refine sat h ?_
    | (have h:=h.drew; refine sat h ?_)
    | refine sat1 h (fun _ h => h.to) ?_)
  exact hk _ h.to.setC
theorem sgaps_ok (h : St c w L) {p : Nat} {most : Int} {S : List Sp} {f t : Int} (hp : Pick (sset p most S) L R) (hl : S.length <= 1000) {Q : Value -> World -> Prop}
    (hk : ∀ O k w',St c w' (own 298 2 O (gapsS S f t).length k ((gapsS S f t).flatMap spn) :: L) -> Q (.slice O (gapsS S f t).length k) w') : CALL PG 212 [.pointer (some ⟨p,0,none⟩),.int .u64 f,.int .u64 t] w Q:=by
  obtain ⟨A,k,h⟩:=(h.pick hp).setO
  have hk : ∀ O d w',St c w' (own 298 2 O (gapsS S f t).length d ((gapsS S f t).flatMap spn) :: Br.blk p 262 [.int .i64 most,.slice A S.length k] :: Br.own 298 2 A S.length k (S.flatMap spn) :: R) -> Q (.slice O (gapsS S f t).length d) w':=fun O d w' h =>
    hk O d w' ((St.setC (R:=own 298 2 O (gapsS S f t).length d ((gapsS S f t).flatMap spn) :: R) h.to).back (.tail hp))
  refine call212 ?_
  unfold N212
  repeat' (first
    | refine nilc ?_
    | refine h.rdI _ ?_
    | refine h.rdB _ ?_
    | refine h.rdP _ ?_
    | refine h.rdL _ ?_
    | refine h.rdT _ ?_
    | refine h.rdI2 _ _ ?_
    | refine h.rdB2 _ _ ?_
    | refine h.rdP2 _ _ ?_
    | refine h.rdL2 _ _ ?_
    | refine h.st2 _ _ fun w' h => ?_
    | refine h.st _ fun w' h => ?_
    | refine h.rdvI ?_
    | refine h.rdvB ?_
    | refine h.rdvP ?_
    | refine h.rdvL ?_
    | refine h.rdvT ?_
    | (refine h.rdG ?_; (repeat apply exi); apply exr)
    | refine h.stG fun w' h => ?_
    | refine h.stV fun w' h => ?_
    | refine h.box fun p w' h => ?_
    | refine h.boxV fun p w' h => ?_
    | refine h.allocZ fun p w' h => ?_
    | refine h.allocZV fun p w' h => ?_
    | (refine RD.bld ?_; (repeat apply exi); apply exr)
    | (refine RDS.bld ?_; (repeat apply exi); apply exr)
    | refine St.rdsI _ ?_
    | refine St.rdsB _ ?_
    | refine St.rdsP _ ?_
    | refine St.rdsL _ ?_
    | refine St.rdsT _ ?_
    | refine St.rdsI2 _ _ ?_
    | refine St.rdsB2 _ _ ?_
    | (refine St.rdsG ?_; (repeat apply exi); apply exr)
    | refine letb rfl ?_
    | refine sat h ?_
    | (have h:=h.drew; refine sat h ?_)
    | refine sat1 h (fun _ h => h.to) ?_)
  refine ⟨fun m f' O n d i w' => ∃ (j : Nat) (out : List Sp),j + m = S.length /\ i = (j : Int) /\ n = out.length /\ out.length <= j /\ gapsS S f t = out ++ gapsS (S.drop j) f' t /\ St c w' (own 298 2 O out.length d (out.flatMap spn) :: Br.blk p 262 [.int .i64 most,.slice A S.length k] :: Br.own 298 2 A S.length k (S.flatMap spn) :: R),
    ⟨S.length,0,[],by omega,rfl,rfl,by simp,rfl,h.addOwnNil 298 2⟩,?_⟩
  clear h
  rintro m f' O n d _ w' ⟨j,out,hj,rfl,rfl,hol,hg,h⟩
  refine ifd (fun hlt => ?_) fun hge => ?_
  · obtain ⟨x,hx⟩:=ex_get (L:=S) (j:=j) (by omega)
    rw [drop_cons' hx,gapsS_cons] at hg
    refine h.ix (z:=1) (RdIn.own (.tail (.tail .head))) hx fun a ha => ?_
    subst ha
    refine h.rdEG (RdIn.own (.tail (.tail .head))) hx ?_
    (repeat apply exi)
    apply exr
    repeat' (first
      | refine nilc ?_
      | refine h.rdI _ ?_
      | refine h.rdB _ ?_
      | refine h.rdP _ ?_
      | refine h.rdL _ ?_
      | refine h.rdT _ ?_
      | refine h.rdI2 _ _ ?_
      | refine h.rdB2 _ _ ?_
      | refine h.rdP2 _ _ ?_
      | refine h.rdL2 _ _ ?_
      | refine h.st2 _ _ fun w' h => ?_
      | refine h.st _ fun w' h => ?_
      | refine h.rdvI ?_
      | refine h.rdvB ?_
      | refine h.rdvP ?_
      | refine h.rdvL ?_
      | refine h.rdvT ?_
      | (refine h.rdG ?_; (repeat apply exi); apply exr)
      | refine h.stG fun w' h => ?_
      | refine h.stV fun w' h => ?_
      | refine h.box fun p w' h => ?_
      | refine h.boxV fun p w' h => ?_
      | refine h.allocZ fun p w' h => ?_
      | refine h.allocZV fun p w' h => ?_
      | (refine RD.bld ?_; (repeat apply exi); apply exr)
      | (refine RDS.bld ?_; (repeat apply exi); apply exr)
      | refine St.rdsI _ ?_
      | refine St.rdsB _ ?_
      | refine St.rdsP _ ?_
      | refine St.rdsL _ ?_
      | refine St.rdsT _ ?_
      | refine St.rdsI2 _ _ ?_
      | refine St.rdsB2 _ _ ?_
      | (refine St.rdsG ?_; (repeat apply exi); apply exr)
      | refine letb rfl ?_
      | refine sat h ?_
      | (have h:=h.drew; refine sat h ?_)
      | refine sat1 h (fun _ h => h.to) ?_)
    refine ifd (fun h1 => ?_) fun h1 => ?_
    · rw [if_pos h1] at hg
      exact ⟨m - 1,by omega,j + 1,out,by omega,wrap_i64 (by omega) (by omega),rfl,by omega,hg,h.drop⟩
    rw [if_neg h1] at hg
    repeat' (first
      | refine nilc ?_
      | refine h.rdI _ ?_
      | refine h.rdB _ ?_
      | refine h.rdP _ ?_
      | refine h.rdL _ ?_
      | refine h.rdT _ ?_
      | refine h.rdI2 _ _ ?_
      | refine h.rdB2 _ _ ?_
      | refine h.rdP2 _ _ ?_
      | refine h.rdL2 _ _ ?_
      | refine h.st2 _ _ fun w' h => ?_
      | refine h.st _ fun w' h => ?_
      | refine h.rdvI ?_
      | refine h.rdvB ?_
      | refine h.rdvP ?_
      | refine h.rdvL ?_
      | refine h.rdvT ?_
      | (refine h.rdG ?_; (repeat apply exi); apply exr)
      | refine h.stG fun w' h => ?_
      | refine h.stV fun w' h => ?_
      | refine h.box fun p w' h => ?_
      | refine h.boxV fun p w' h => ?_
      | refine h.allocZ fun p w' h => ?_
      | refine h.allocZV fun p w' h => ?_
      | (refine RD.bld ?_; (repeat apply exi); apply exr)
      | (refine RDS.bld ?_; (repeat apply exi); apply exr)
      | refine St.rdsI _ ?_
      | refine St.rdsB _ ?_
      | refine St.rdsP _ ?_
      | refine St.rdsL _ ?_
      | refine St.rdsT _ ?_
      | refine St.rdsI2 _ _ ?_
      | refine St.rdsB2 _ _ ?_
      | (refine St.rdsG ?_; (repeat apply exi); apply exr)
      | refine letb rfl ?_
      | refine sat h ?_
      | (have h:=h.drew; refine sat h ?_)
      | refine sat1 h (fun _ h => h.to) ?_)
    refine ifd (fun h2 => ?_) fun h2 => ?_
    · rw [if_pos (by omega)] at hg
      exact ⟨m - 1,by omega,j + 1,out,by omega,wrap_i64 (by omega) (by omega),rfl,by omega,hg,h.drop⟩
    rw [if_neg (by omega)] at hg
    repeat' (first
      | refine nilc ?_
      | refine h.rdI _ ?_
      | refine h.rdB _ ?_
      | refine h.rdP _ ?_
      | refine h.rdL _ ?_
      | refine h.rdT _ ?_
      | refine h.rdI2 _ _ ?_
      | refine h.rdB2 _ _ ?_
      | refine h.rdP2 _ _ ?_
      | refine h.rdL2 _ _ ?_
      | refine h.st2 _ _ fun w' h => ?_
      | refine h.st _ fun w' h => ?_
      | refine h.rdvI ?_
      | refine h.rdvB ?_
      | refine h.rdvP ?_
      | refine h.rdvL ?_
      | refine h.rdvT ?_
      | (refine h.rdG ?_; (repeat apply exi); apply exr)
      | refine h.stG fun w' h => ?_
      | refine h.stV fun w' h => ?_
      | refine h.box fun p w' h => ?_
      | refine h.boxV fun p w' h => ?_
      | refine h.allocZ fun p w' h => ?_
      | refine h.allocZV fun p w' h => ?_
      | (refine RD.bld ?_; (repeat apply exi); apply exr)
      | (refine RDS.bld ?_; (repeat apply exi); apply exr)
      | refine St.rdsI _ ?_
      | refine St.rdsB _ ?_
      | refine St.rdsP _ ?_
      | refine St.rdsL _ ?_
      | refine St.rdsT _ ?_
      | refine St.rdsI2 _ _ ?_
      | refine St.rdsB2 _ _ ?_
      | (refine St.rdsG ?_; (repeat apply exi); apply exr)
      | refine letb rfl ?_
      | refine sat h ?_
      | (have h:=h.drew; refine sat h ?_)
      | refine sat1 h (fun _ h => h.to) ?_)
    refine ifd (fun h3 => ?_) fun h3 => ?_
    · rw [if_pos h3] at hg
      repeat' (first
        | refine nilc ?_
        | refine h.rdI _ ?_
        | refine h.rdB _ ?_
        | refine h.rdP _ ?_
        | refine h.rdL _ ?_
        | refine h.rdT _ ?_
        | refine h.rdI2 _ _ ?_
        | refine h.rdB2 _ _ ?_
        | refine h.rdP2 _ _ ?_
        | refine h.rdL2 _ _ ?_
        | refine h.st2 _ _ fun w' h => ?_
        | refine h.st _ fun w' h => ?_
        | refine h.rdvI ?_
        | refine h.rdvB ?_
        | refine h.rdvP ?_
        | refine h.rdvL ?_
        | refine h.rdvT ?_
        | (refine h.rdG ?_; (repeat apply exi); apply exr)
        | refine h.stG fun w' h => ?_
        | refine h.stV fun w' h => ?_
        | refine h.box fun p w' h => ?_
        | refine h.boxV fun p w' h => ?_
        | refine h.allocZ fun p w' h => ?_
        | refine h.allocZV fun p w' h => ?_
        | (refine RD.bld ?_; (repeat apply exi); apply exr)
        | (refine RDS.bld ?_; (repeat apply exi); apply exr)
        | refine St.rdsI _ ?_
        | refine St.rdsB _ ?_
        | refine St.rdsP _ ?_
        | refine St.rdsL _ ?_
        | refine St.rdsT _ ?_
        | refine St.rdsI2 _ _ ?_
        | refine St.rdsB2 _ _ ?_
        | (refine St.rdsG ?_; (repeat apply exi); apply exr)
        | refine letb rfl ?_
        | refine sat h ?_
        | (have h:=h.drew; refine sat h ?_)
        | refine sat1 h (fun _ h => h.to) ?_)
      refine h.app1 huSpn tiSpn (spn ⟨f',x.f⟩) (.tail .head) (spn_flat1 _) (by omega) fun O' d' w' h => ?_
      repeat' (first
        | refine nilc ?_
        | refine h.rdI _ ?_
        | refine h.rdB _ ?_
        | refine h.rdP _ ?_
        | refine h.rdL _ ?_
        | refine h.rdT _ ?_
        | refine h.rdI2 _ _ ?_
        | refine h.rdB2 _ _ ?_
        | refine h.rdP2 _ _ ?_
        | refine h.rdL2 _ _ ?_
        | refine h.st2 _ _ fun w' h => ?_
        | refine h.st _ fun w' h => ?_
        | refine h.rdvI ?_
        | refine h.rdvB ?_
        | refine h.rdvP ?_
        | refine h.rdvL ?_
        | refine h.rdvT ?_
        | (refine h.rdG ?_; (repeat apply exi); apply exr)
        | refine h.stG fun w' h => ?_
        | refine h.stV fun w' h => ?_
        | refine h.box fun p w' h => ?_
        | refine h.boxV fun p w' h => ?_
        | refine h.allocZ fun p w' h => ?_
        | refine h.allocZV fun p w' h => ?_
        | (refine RD.bld ?_; (repeat apply exi); apply exr)
        | (refine RDS.bld ?_; (repeat apply exi); apply exr)
        | refine St.rdsI _ ?_
        | refine St.rdsB _ ?_
        | refine St.rdsP _ ?_
        | refine St.rdsL _ ?_
        | refine St.rdsT _ ?_
        | refine St.rdsI2 _ _ ?_
        | refine St.rdsB2 _ _ ?_
        | (refine St.rdsG ?_; (repeat apply exi); apply exr)
        | refine letb rfl ?_
        | refine sat h ?_
        | (have h:=h.drew; refine sat h ?_)
        | refine sat1 h (fun _ h => h.to) ?_)
      refine leti rfl ⟨m - 1,by omega,j + 1,out ++ [⟨f',x.f⟩],by omega,wrap_i64 (by omega) (by omega),by simp,by simp; omega,by rw [List.append_assoc]; exact hg,?_⟩
      simp only [List.flatMap_append,List.flatMap_cons,List.flatMap_nil,List.append_nil,List.length_append,List.length_singleton]
      exact h.to
    · rw [if_neg h3,List.nil_append] at hg
      repeat' (first
        | refine nilc ?_
        | refine h.rdI _ ?_
        | refine h.rdB _ ?_
        | refine h.rdP _ ?_
        | refine h.rdL _ ?_
        | refine h.rdT _ ?_
        | refine h.rdI2 _ _ ?_
        | refine h.rdB2 _ _ ?_
        | refine h.rdP2 _ _ ?_
        | refine h.rdL2 _ _ ?_
        | refine h.st2 _ _ fun w' h => ?_
        | refine h.st _ fun w' h => ?_
        | refine h.rdvI ?_
        | refine h.rdvB ?_
        | refine h.rdvP ?_
        | refine h.rdvL ?_
        | refine h.rdvT ?_
        | (refine h.rdG ?_; (repeat apply exi); apply exr)
        | refine h.stG fun w' h => ?_
        | refine h.stV fun w' h => ?_
        | refine h.box fun p w' h => ?_
        | refine h.boxV fun p w' h => ?_
        | refine h.allocZ fun p w' h => ?_
        | refine h.allocZV fun p w' h => ?_
        | (refine RD.bld ?_; (repeat apply exi); apply exr)
        | (refine RDS.bld ?_; (repeat apply exi); apply exr)
        | refine St.rdsI _ ?_
        | refine St.rdsB _ ?_
        | refine St.rdsP _ ?_
        | refine St.rdsL _ ?_
        | refine St.rdsT _ ?_
        | refine St.rdsI2 _ _ ?_
        | refine St.rdsB2 _ _ ?_
        | (refine St.rdsG ?_; (repeat apply exi); apply exr)
        | refine letb rfl ?_
        | refine sat h ?_
        | (have h:=h.drew; refine sat h ?_)
        | refine sat1 h (fun _ h => h.to) ?_)
      exact leti rfl ⟨m - 1,by omega,j + 1,out,by omega,wrap_i64 (by omega) (by omega),rfl,by omega,hg,h.drop⟩
  · have : j = S.length:=by omega
    subst this
    rw [List.drop_length,gapsS_nil] at hg
    refine ifd (fun h1 => ?_) fun h1 => ?_
    · rw [if_pos h1] at hg
      repeat' (first
        | refine nilc ?_
        | refine h.rdI _ ?_
        | refine h.rdB _ ?_
        | refine h.rdP _ ?_
        | refine h.rdL _ ?_
        | refine h.rdT _ ?_
        | refine h.rdI2 _ _ ?_
        | refine h.rdB2 _ _ ?_
        | refine h.rdP2 _ _ ?_
        | refine h.rdL2 _ _ ?_
        | refine h.st2 _ _ fun w' h => ?_
        | refine h.st _ fun w' h => ?_
        | refine h.rdvI ?_
        | refine h.rdvB ?_
        | refine h.rdvP ?_
        | refine h.rdvL ?_
        | refine h.rdvT ?_
        | (refine h.rdG ?_; (repeat apply exi); apply exr)
        | refine h.stG fun w' h => ?_
        | refine h.stV fun w' h => ?_
        | refine h.box fun p w' h => ?_
        | refine h.boxV fun p w' h => ?_
        | refine h.allocZ fun p w' h => ?_
        | refine h.allocZV fun p w' h => ?_
        | (refine RD.bld ?_; (repeat apply exi); apply exr)
        | (refine RDS.bld ?_; (repeat apply exi); apply exr)
        | refine St.rdsI _ ?_
        | refine St.rdsB _ ?_
        | refine St.rdsP _ ?_
        | refine St.rdsL _ ?_
        | refine St.rdsT _ ?_
        | refine St.rdsI2 _ _ ?_
        | refine St.rdsB2 _ _ ?_
        | (refine St.rdsG ?_; (repeat apply exi); apply exr)
        | refine letb rfl ?_
        | refine sat h ?_
        | (have h:=h.drew; refine sat h ?_)
        | refine sat1 h (fun _ h => h.to) ?_)
      refine h.app1 huSpn tiSpn (spn ⟨f',t⟩) .head (spn_flat1 _) (by omega) fun O' d' w' h => ?_
      have hk:=hk O' d' w'
      rw [hg,List.length_append,List.length_singleton,List.flatMap_append,List.flatMap_cons,List.flatMap_nil,List.append_nil] at hk
      exact hk h.to
    · rw [if_neg h1,List.append_nil] at hg
      have hk:=hk O d w'
      rw [hg] at hk
      exact hk h
theorem scut_ok (h : St c w L) {p : Nat} {most : Int} {S : List Sp} {b : Int} (hp : Pick (sset p most S) L R) (hl : S.length <= 1000) {Q : Value -> World -> Prop}
    (hk : ∀ w',St c w' (sset p most (cutP S b) :: R) -> Q (.tuple #[]) w') : CALL PG 217 [.pointer (some ⟨p,0,none⟩),.int .u64 b] w Q:=by
  obtain ⟨A,k,h⟩:=(h.pick hp).setO
  obtain ⟨u1,u2⟩:=tw_take (fun p : Sp => decide (p.t <= b)) S
  have lT : (S.takeWhile fun p => decide (p.t <= b)).length <= S.length:=(List.takeWhile_sublist _).length_le
  have hwh : ∀ q : Nat,q < (S.takeWhile fun p => decide (p.t <= b)).length -> ∀ x,S[q]? = some x -> x.t <= b:=fun q hq x hx => by
    have : (S.takeWhile fun p => decide (p.t <= b))[q]? = some x:=by rw [tw_get hq,hx]
    simpa using mem_takeWhile' (List.mem_of_getElem? this)
  have hnx : ∀ x,S[(S.takeWhile fun p => decide (p.t <= b)).length]? = some x -> b < x.t:=fun x hx => by
    have:=tw_next hx
    simpa using this
  generalize hn : (S.takeWhile fun p => decide (p.t <= b)).length = n at *
  refine call217 ?_
  unfold N217
  refine jI h (fun i => i = (n : Int)) ?_ ?_
  · refine ⟨fun m i w' => ∃ j : Nat,j <= n /\ j + m = S.length /\ i = (j : Int) /\ St c w' _,⟨S.length,0,by omega,by omega,rfl,h⟩,?_⟩
    clear h
    rintro m _ w' ⟨j,hjn,hj,rfl,h⟩
    repeat' (first
      | refine nilc ?_
      | refine h.rdI _ ?_
      | refine h.rdB _ ?_
      | refine h.rdP _ ?_
      | refine h.rdL _ ?_
      | refine h.rdT _ ?_
      | refine h.rdI2 _ _ ?_
      | refine h.rdB2 _ _ ?_
      | refine h.rdP2 _ _ ?_
      | refine h.rdL2 _ _ ?_
      | refine h.st2 _ _ fun w' h => ?_
      | refine h.st _ fun w' h => ?_
      | refine h.rdvI ?_
      | refine h.rdvB ?_
      | refine h.rdvP ?_
      | refine h.rdvL ?_
      | refine h.rdvT ?_
      | (refine h.rdG ?_; (repeat apply exi); apply exr)
      | refine h.stG fun w' h => ?_
      | refine h.stV fun w' h => ?_
      | refine h.box fun p w' h => ?_
      | refine h.boxV fun p w' h => ?_
      | refine h.allocZ fun p w' h => ?_
      | refine h.allocZV fun p w' h => ?_
      | (refine RD.bld ?_; (repeat apply exi); apply exr)
      | (refine RDS.bld ?_; (repeat apply exi); apply exr)
      | refine St.rdsI _ ?_
      | refine St.rdsB _ ?_
      | refine St.rdsP _ ?_
      | refine St.rdsL _ ?_
      | refine St.rdsT _ ?_
      | refine St.rdsI2 _ _ ?_
      | refine St.rdsB2 _ _ ?_
      | (refine St.rdsG ?_; (repeat apply exi); apply exr)
      | refine letb rfl ?_
      | refine sat h ?_
      | (have h:=h.drew; refine sat h ?_)
      | refine sat1 h (fun _ h => h.to) ?_)
    refine ifd (fun hlt => ?_) fun hge => ⟨by omega,h⟩
    obtain ⟨x,hx⟩:=ex_get (L:=S) (j:=j) (by omega)
    repeat' (first
      | refine nilc ?_
      | refine h.rdI _ ?_
      | refine h.rdB _ ?_
      | refine h.rdP _ ?_
      | refine h.rdL _ ?_
      | refine h.rdT _ ?_
      | refine h.rdI2 _ _ ?_
      | refine h.rdB2 _ _ ?_
      | refine h.rdP2 _ _ ?_
      | refine h.rdL2 _ _ ?_
      | refine h.st2 _ _ fun w' h => ?_
      | refine h.st _ fun w' h => ?_
      | refine h.rdvI ?_
      | refine h.rdvB ?_
      | refine h.rdvP ?_
      | refine h.rdvL ?_
      | refine h.rdvT ?_
      | (refine h.rdG ?_; (repeat apply exi); apply exr)
      | refine h.stG fun w' h => ?_
      | refine h.stV fun w' h => ?_
      | refine h.box fun p w' h => ?_
      | refine h.boxV fun p w' h => ?_
      | refine h.allocZ fun p w' h => ?_
      | refine h.allocZV fun p w' h => ?_
      | (refine RD.bld ?_; (repeat apply exi); apply exr)
      | (refine RDS.bld ?_; (repeat apply exi); apply exr)
      | refine St.rdsI _ ?_
      | refine St.rdsB _ ?_
      | refine St.rdsP _ ?_
      | refine St.rdsL _ ?_
      | refine St.rdsT _ ?_
      | refine St.rdsI2 _ _ ?_
      | refine St.rdsB2 _ _ ?_
      | (refine St.rdsG ?_; (repeat apply exi); apply exr)
      | refine letb rfl ?_
      | refine sat h ?_
      | (have h:=h.drew; refine sat h ?_)
      | refine sat1 h (fun _ h => h.to) ?_)
    refine h.ix (z:=1) (RdIn.own (.tail .head)) hx fun a ha => ?_
    subst ha
    refine h.rdEI 1 (RdIn.own (.tail .head)) hx ?_
    refine ifd (fun h1 => ?_) fun h1 => ⟨?_,h⟩
    · have hjn2 : j < n:=by
        rcases Nat.lt_or_ge j n with h | h
        · exact h
        · have : j = n:=by omega
          subst this
          have:=hnx x hx
          omega
      exact letw ⟨m - 1,by omega,j + 1,by omega,by omega,by omega,h⟩
    · rcases Nat.lt_or_ge j n with h | h
      · exact absurd (hwh j h x hx) h1
      · omega
  clear h
  rintro _ w' rfl h
  have hle:=(h.own (.tail .head)).le
  repeat' (first
    | refine nilc ?_
    | refine h.rdI _ ?_
    | refine h.rdB _ ?_
    | refine h.rdP _ ?_
    | refine h.rdL _ ?_
    | refine h.rdT _ ?_
    | refine h.rdI2 _ _ ?_
    | refine h.rdB2 _ _ ?_
    | refine h.rdP2 _ _ ?_
    | refine h.rdL2 _ _ ?_
    | refine h.st2 _ _ fun w' h => ?_
    | refine h.st _ fun w' h => ?_
    | refine h.rdvI ?_
    | refine h.rdvB ?_
    | refine h.rdvP ?_
    | refine h.rdvL ?_
    | refine h.rdvT ?_
    | (refine h.rdG ?_; (repeat apply exi); apply exr)
    | refine h.stG fun w' h => ?_
    | refine h.stV fun w' h => ?_
    | refine h.box fun p w' h => ?_
    | refine h.boxV fun p w' h => ?_
    | refine h.allocZ fun p w' h => ?_
    | refine h.allocZV fun p w' h => ?_
    | (refine RD.bld ?_; (repeat apply exi); apply exr)
    | (refine RDS.bld ?_; (repeat apply exi); apply exr)
    | refine St.rdsI _ ?_
    | refine St.rdsB _ ?_
    | refine St.rdsP _ ?_
    | refine St.rdsL _ ?_
    | refine St.rdsT _ ?_
    | refine St.rdsI2 _ _ ?_
    | refine St.rdsB2 _ _ ?_
    | (refine St.rdsG ?_; (repeat apply exi); apply exr)
    | refine letb rfl ?_
    | refine sat h ?_
    | (have h:=h.drew; refine sat h ?_)
    | refine sat1 h (fun _ h => h.to) ?_)
  refine ⟨by omega,?_⟩
  simp only [Int.toNat_natCast]
  have hD : RdIn (Br.blk p 262 [.int .i64 most,.slice A S.length k] :: Br.own 298 2 A S.length k (S.flatMap spn) :: R) (cutA A k 2 (n : Int)) ((S.drop n).flatMap spn):=by
    have:=(RdIn.own (.tail .head) : RdIn (Br.blk p 262 [.int .i64 most,.slice A S.length k] :: Br.own 298 2 A S.length k (S.flatMap spn) :: R) A (S.flatMap spn)).cut (c:=k) (z:=2) (by rw [flat_length spn_length]; omega) (n : Int)
    rw [Int.toNat_natCast,flat_drop spn_length] at this
    exact this
  rw [show S.length - n = (S.drop n).length by rw [List.length_drop]]
  refine scclone_ok h hD (by rw [List.length_drop]; omega) fun O d w' h => ?_
  (repeat apply exi)
  apply exr
  repeat' (first
    | refine nilc ?_
    | refine h.rdI _ ?_
    | refine h.rdB _ ?_
    | refine h.rdP _ ?_
    | refine h.rdL _ ?_
    | refine h.rdT _ ?_
    | refine h.rdI2 _ _ ?_
    | refine h.rdB2 _ _ ?_
    | refine h.rdP2 _ _ ?_
    | refine h.rdL2 _ _ ?_
    | refine h.st2 _ _ fun w' h => ?_
    | refine h.st _ fun w' h => ?_
    | refine h.rdvI ?_
    | refine h.rdvB ?_
    | refine h.rdvP ?_
    | refine h.rdvL ?_
    | refine h.rdvT ?_
    | (refine h.rdG ?_; (repeat apply exi); apply exr)
    | refine h.stG fun w' h => ?_
    | refine h.stV fun w' h => ?_
    | refine h.box fun p w' h => ?_
    | refine h.boxV fun p w' h => ?_
    | refine h.allocZ fun p w' h => ?_
    | refine h.allocZV fun p w' h => ?_
    | (refine RD.bld ?_; (repeat apply exi); apply exr)
    | (refine RDS.bld ?_; (repeat apply exi); apply exr)
    | refine St.rdsI _ ?_
    | refine St.rdsB _ ?_
    | refine St.rdsP _ ?_
    | refine St.rdsL _ ?_
    | refine St.rdsT _ ?_
    | refine St.rdsI2 _ _ ?_
    | refine St.rdsB2 _ _ ?_
    | (refine St.rdsG ?_; (repeat apply exi); apply exr)
    | refine letb rfl ?_
    | refine sat h ?_
    | (have h:=h.drew; refine sat h ?_)
    | refine sat1 h (fun _ h => h.to) ?_)
  have eC : cutP S b = match S.drop n with | [] => [] | p :: r => ⟨maxN p.f b,p.t⟩ :: r:=by unfold cutP; rw [<- u2]; rfl
  generalize S.drop n = D at *
  refine ifd (fun hpos => ?_) fun hz => ?_
  · cases D with
    | nil => simp at hpos
    | cons y r =>
      have h:=h.drew
      repeat' (first
        | refine nilc ?_
        | refine h.rdI _ ?_
        | refine h.rdB _ ?_
        | refine h.rdP _ ?_
        | refine h.rdL _ ?_
        | refine h.rdT _ ?_
        | refine h.rdI2 _ _ ?_
        | refine h.rdB2 _ _ ?_
        | refine h.rdP2 _ _ ?_
        | refine h.rdL2 _ _ ?_
        | refine h.st2 _ _ fun w' h => ?_
        | refine h.st _ fun w' h => ?_
        | refine h.rdvI ?_
        | refine h.rdvB ?_
        | refine h.rdvP ?_
        | refine h.rdvL ?_
        | refine h.rdvT ?_
        | (refine h.rdG ?_; (repeat apply exi); apply exr)
        | refine h.stG fun w' h => ?_
        | refine h.stV fun w' h => ?_
        | refine h.box fun p w' h => ?_
        | refine h.boxV fun p w' h => ?_
        | refine h.allocZ fun p w' h => ?_
        | refine h.allocZV fun p w' h => ?_
        | (refine RD.bld ?_; (repeat apply exi); apply exr)
        | (refine RDS.bld ?_; (repeat apply exi); apply exr)
        | refine St.rdsI _ ?_
        | refine St.rdsB _ ?_
        | refine St.rdsP _ ?_
        | refine St.rdsL _ ?_
        | refine St.rdsT _ ?_
        | refine St.rdsI2 _ _ ?_
        | refine St.rdsB2 _ _ ?_
        | (refine St.rdsG ?_; (repeat apply exi); apply exr)
        | refine letb rfl ?_
        | refine sat h ?_
        | (have h:=h.drew; refine sat h ?_)
        | refine sat1 h (fun _ h => h.to) ?_)
      refine h.ix (z:=1) (i:=0) (RdIn.own (.tail .head)) rfl (fun a ha => ?_) (by simp only [List.length_cons]; omega)
      subst ha
      refine h.rdEI (i:=0) 0 (RdIn.own (.tail .head)) rfl ?_
      refine h.ix (z:=1) (i:=0) (RdIn.own (.tail .head)) rfl (fun a ha => ?_) (by simp only [List.length_cons]; omega)
      injection ha with ha
      subst ha
      refine h.stEF (i:=0) (j:=0) (g:=spn) (Y:=y :: r) (x:=y) (.tail .head) rfl ⟨maxN y.f b,y.t⟩ (fun w' h => ?_) rfl
      have hk:=hk w'
      rw [eC] at hk
      exact hk (St.setC (S:=⟨maxN y.f b,y.t⟩ :: r) h.to)
  · cases D with
    | cons y r => simp at hz
    | nil =>
      have hk:=hk w'
      rw [eC] at hk
      exact hk (St.setC (S:=[]) h.to)
end
end Go.Br
