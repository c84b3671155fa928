/- Pieces in a slice: one in place of some. -/
import Derived.Test.YtmglifmopjedbaaGreatNSpansRep
import Derived.Test.YtmglifmopjedbaaGreatBrOwn
import Derived.Test.YtmglifmopjedbaaGreatBrSeat
set_option linter.unusedVariables false
set_option linter.unusedSimpArgs false
set_option linter.unnecessarySimpa false
namespace Go.Br
open Go
attribute [local irreducible] Addr.add RD RDS RUN RUNU NILC LETB CALL CALLX CALLV
structure Sp where
 f : Int
 t : Int
def spn (x : Sp) : List Value:=[.int .u64 x.f,.int .u64 x.t]
abbrev spnv (x : Sp) : Value:=.agg #[.int .u64 x.f,.int .u64 x.t]
theorem spn_length (x : Sp) : (spn x).length = 2:=rfl
theorem spn_flat1 (x : Sp) : Flat (spn x):=by intro v hv; simp [spn] at hv; rcases hv with rfl | rfl <;> rfl
theorem spn_flat (L : List Sp) : Flat (L.flatMap spn):=by
 intro v hv
 simp only [List.mem_flatMap] at hv
 obtain ⟨x,_,hx⟩:=hv
 exact spn_flat1 x v hx
theorem tisrR : TI PG 298 2 16 (.agg #[.int .u64 0,.int .u64 0]):=tiOf (by kernel_rfl)
theorem husrR : PG.underlying 260 = some (.slice 298):=by kernel_rfl
section
variable {c : Ctx} {w : World} {L R R2 : List SA}
theorem srins_ok (h : St c w L) {A : Option Addr} {d q i : Nat} {S : List Sp} {x : Sp} (hp : Pick (own 298 2 A S.length d (S.flatMap spn)) L R) (hq : Pick (blk0 q 298 (spn x)) R R2) (hi : i <= S.length) (hl : S.length <= 100000) {Q : Value -> World -> Prop}
  (hk : ∀ O d' w',St c w' (own 298 2 O (S.length + 1) d' ((S.take i ++ x :: S.drop i).flatMap spn) :: R2) -> Q (.slice O (S.length + 1) d') w') : CALL PG 270 [.slice A S.length d,.int .i64 (i : Int),.slice (some ⟨q,0,none⟩) 1 1] w Q:=by
 have h:=h.pick2 hp hq
 have hle:=(h.own .head).le
 have eS:=flat_cut spn S i
 have lT : ((S.take i).flatMap spn).length = i * 2:=by rw [flat_length spn_length,List.length_take]; congr 1; omega
 have lD : ((S.drop i).flatMap spn).length = (S.length - i) * 2:=by rw [flat_length spn_length,List.length_drop]
 have lX : (spn x).length = 2:=spn_length x
 have eN : (S.take i ++ x :: S.drop i).flatMap spn = (S.take i).flatMap spn ++ spn x ++ (S.drop i).flatMap spn:=by simp [List.flatMap_append,List.append_assoc]
 refine call270 ?_
 unfold N270
 refine ⟨by omega,leti rfl (ifq (fun hc => absurd hc (by decide)) fun _ => leti rfl ?_)⟩
 refine ifq (fun he => ?_) fun hne => ?_
 ·have hi' : i = S.length:=by omega
  subst hi'
  refine h.append husrR tisrR .head (RdIn.blk0 (.tail .head)) (m:=1) (by rw [lX]) (spn_flat1 x) (by omega) fun O d' w' h => ?_
  have hk:=hk O d' w'
  rw [eN,List.take_length,List.drop_length,List.flatMap_nil,List.append_nil] at hk
  exact hk h.to
 rw [wrap_i64 (n:=(S.length : Int) + ((1 : Nat) : Int)) (by omega) (by omega)]
 refine ifd (fun hg => ?_) fun hr => ?_
 ·refine ⟨by omega,?_⟩
  rw [wrap_i64 (n:=(S.length : Int) + ((1 : Nat) : Int) - (i : Int)) (by omega) (by omega),cutA_zero,show Int.toNat (i : Int) - Int.toNat (0 : Int) = i by simp,show d - Int.toNat (0 : Int) = d by simp]
  have lm : Int.toNat ((S.length : Int) + ((1 : Nat) : Int) - (i : Int)) = S.length + 1 - i:=by omega
  refine h.appMake husrR (by kernel_rfl) tisrR (cs:=(S.take i).flatMap spn) (fun c w hs => by
   have:=(RdIn.own (.head : Pick (own 298 2 A S.length d (S.flatMap spn)) _ _)) c w hs
   have:=this.take (i * 2)
   rwa [eS,<- lT,List.take_left] at this) lT (by omega) (by omega) (by omega) fun B d' w' hd' h => ?_
  rw [lm] at h hd' ⊢
  have eL : i + (S.length + 1 - i) = S.length + 1:=by omega
  rw [eL] at h hd' ⊢
  generalize hZ : zeros _ (S.length + 1 - i) = Z at h
  have lZ : Z.length = (S.length + 1 - i) * 2:=by rw [<- hZ,zeros_length]; rfl
  obtain ⟨B',sp,e1,e2,e3,e4,h⟩:=h.ownBlk (by omega)
  injection e1 with e1
  injection e1 with e1
  subst e1
  refine ⟨by omega,?_⟩
  rw [cutA_at (by simp; omega),Nat.zero_add]
  simp only [Int.toNat_natCast]
  refine h.copyB (z:=2) .head husrR (by kernel_rfl) (by simp only [List.length_append]; omega) (RdIn.blk0 (.tail (.tail .head)) _ _ h) (m:=1) (by rw [lX]) (spn_flat1 x) fun w' h => ?_
  rw [show min 1 (S.length + 1 - i) * 2 = 2 by rw [Nat.min_eq_left (by omega)],show List.take 2 (spn x) = spn x from List.take_of_length_le (by omega),List.append_assoc,<- lT,splice_tail (by simp only [List.length_append]; omega)] at h
  have h:=h.drew
  rw [wrap_i64 (n:=(i : Int) + ((1 : Nat) : Int)) (by omega) (by omega),show (i : Int) + ((1 : Nat) : Int) = ((i + 1 : Nat) : Int) by omega]
  refine ⟨by omega,by omega,?_⟩
  rw [cutA_at (by simp; omega),Nat.zero_add]
  simp only [Int.toNat_natCast]
  have hD:=((RdIn.own (.tail .head)).cut (c:=d) (z:=2) (by rw [flat_length spn_length]; exact Nat.mul_le_mul_right _ hle) (i : Int)) _ _ h
  rw [Int.toNat_natCast,eS,<- lT,List.drop_left] at hD
  refine h.copyB (z:=2) .head husrR (by kernel_rfl) (by simp only [List.length_append,List.length_drop,lX]; omega) hD (m:=S.length - i) lD (spn_flat _) fun w' h => ?_
  rw [show min (S.length - i) (S.length + 1 - (i + 1)) * 2 = (S.length - i) * 2 by rw [Nat.min_eq_left (by omega)],<- lD,List.take_length,show (i + 1) * 2 = ((S.take i).flatMap spn ++ spn x).length by rw [List.length_append,lT,lX]; omega,splice_tail (by simp only [List.length_append,List.length_drop,lX]; omega),<- eN] at h
  have h:=h.blkOwn (n:=S.length + 1) (d:=d') (z:=2) (by rw [flat_length spn_length]; simp; omega) (by simp only [List.length_append,List.length_drop,lX]; omega) (by omega)
  exact hk _ _ _ h.to
 ·rw [wrap_i64 (n:=(i : Int) + ((1 : Nat) : Int)) (by omega) (by omega),show (i : Int) + ((1 : Nat) : Int) = ((i + 1 : Nat) : Int) by omega,show (S.length : Int) + ((1 : Nat) : Int) = ((S.length + 1 : Nat) : Int) by omega]
  simp only [cutA_zero,Int.toNat_natCast,Int.toNat_zero,Nat.sub_zero]
  obtain ⟨B,sp,rfl,e2,e3,e4,h⟩:=h.ownBlk (by omega)
  refine ⟨by omega,by omega,?_⟩
  rw [cutA_at (by simp; omega),Nat.zero_add]
  refine h.overlaps0 (fn:=Go.Proofs.Tryz.f271) (tb:=4) (z:=2) (.tail .head) .head (by intro e; have:=congrArg List.length e; simp only [List.length_append,List.length_nil] at this; omega) Go.Proofs.Tryz.func271 (by kernel_rfl) (by kernel_rfl) (by kernel_rfl) (by kernel_rfl) husrR (by kernel_rfl) ⟨_,rfl,ift rfl ?_⟩
  refine ⟨by omega,by omega,?_⟩
  have h:=h.drew
  have hD:=h.rowB .head (i * 2) ((S.length - i) * 2)
  rw [eS,List.append_assoc,<- lT,List.drop_left,<- lD,List.take_left] at hD
  rw [cutA_at (by simp; omega),Nat.zero_add]
  simp only [Int.toNat_natCast]
  have eH : S.flatMap spn ++ sp = ((S.take i).flatMap spn ++ ((S.drop i).flatMap spn ++ sp).take 2) ++ ((S.drop i).flatMap spn ++ sp).drop 2:=by rw [List.append_assoc,List.take_append_drop,<- List.append_assoc,<- eS]
  have lH : (((S.drop i).flatMap spn ++ sp).take 2).length = 2:=by rw [List.length_take,List.length_append]; omega
  have lR : (((S.drop i).flatMap spn ++ sp).drop 2).length = (S.length - i) * 2 + (d - S.length) * 2 - 2:=by rw [List.length_drop,List.length_append]; omega
  rw [eH] at h
  generalize ((S.drop i).flatMap spn ++ sp).take 2 = H at h lH
  generalize ((S.drop i).flatMap spn ++ sp).drop 2 = Y at h lR
  refine h.copyC (z:=2) (q:=S.length - i) .head husrR (by kernel_rfl) (by omega) (by simp only [List.length_append]; omega) (by rw [lT] at hD; exact hD) lD (spn_flat _) fun w' h => ?_
  rw [show (i + 1) * 2 = ((S.take i).flatMap spn ++ H).length by rw [List.length_append,lT,lH]; omega,splice_tail (by omega)] at h
  refine ⟨by omega,?_⟩
  refine h.copyB (z:=2) .head husrR (by kernel_rfl) (by simp only [List.length_append,List.length_drop]; omega) (RdIn.blk0 (.tail .head) _ _ h) (m:=1) (by rw [lX]) (spn_flat1 x) fun w' h => ?_
  rw [show min 1 (S.length + 1 - i) * 2 = 2 by rw [Nat.min_eq_left (by omega)],show List.take 2 (spn x) = spn x from List.take_of_length_le (by omega),List.append_assoc,List.append_assoc,<- List.append_assoc ((S.take i).flatMap spn),<- lT,splice_mid (by omega),<- List.append_assoc,<- eN] at h
  have h:=h.blkOwn (n:=S.length + 1) (d:=d) (z:=2) (by rw [flat_length spn_length]; simp; omega) (by simp only [List.length_drop]; omega) (by omega)
  exact hk _ _ _ h.to
theorem srrep_ok (h : St c w L) {A : Option Addr} {d q i k : Nat} {S : List Sp} {x : Sp} (hp : Pick (own 298 2 A S.length d (S.flatMap spn)) L R) (hq : Pick (blk0 q 298 (spn x)) R R2) (hi : i <= k) (hkS : k <= S.length) (hl : S.length <= 100000) {Q : Value -> World -> Prop}
  (hk : ∀ O d' w',St c w' (own 298 2 O (S.take i ++ x :: S.drop k).length d' ((S.take i ++ x :: S.drop k).flatMap spn) :: R2) -> Q (.slice O (S.take i ++ x :: S.drop k).length d') w') : CALL PG 242 [.slice A S.length d,.int .i64 (i : Int),.int .i64 (k : Int),.slice (some ⟨q,0,none⟩) 1 1] w Q:=by
 have h:=h.pick2 hp hq
 have hle:=(h.own .head).le
 have eS:=flat_cut spn S i
 have lT : ((S.take i).flatMap spn).length = i * 2:=by rw [flat_length spn_length,List.length_take]; congr 1; omega
 have lE : ((S.drop k).flatMap spn).length = (S.length - k) * 2:=by rw [flat_length spn_length,List.length_drop]
 have lX : (spn x).length = 2:=spn_length x
 have eN : (S.take i ++ x :: S.drop k).flatMap spn = (S.take i).flatMap spn ++ spn x ++ (S.drop k).flatMap spn:=by simp [List.flatMap_append,List.append_assoc]
 have lN : (S.take i ++ x :: S.drop k).length = i + 1 + (S.length - k):=by simp [List.length_take]; omega
 refine call242 ?_
 unfold N242
 refine ⟨by omega,?_⟩
 refine ifq (fun he => ?_) fun hne => ?_
 ·have hik : i = k:=by omega
  subst hik
  refine srins_ok h .head .head hkS hl fun O d' w' h => ⟨_,_,_,rfl,?_⟩
  have hk:=hk O d' w'
  rw [lN,show i + 1 + (S.length - i) = S.length + 1 by omega] at hk
  exact hk h
 obtain ⟨B,sp,rfl,e2,e3,e4,h⟩:=h.ownBlk (by omega)
 refine ifq (fun he => ?_) fun hne2 => ?_
 ·have hkn : k = S.length:=by omega
  subst hkn
  simp only [cutA_zero,Int.toNat_natCast,Int.toNat_zero,Nat.sub_zero]
  refine ⟨by omega,?_⟩
  refine h.appRoom (z:=2) .head husrR (by kernel_rfl) (m:=1) (by omega) (by simp only [List.length_append]; omega) (RdIn.blk0 (.tail .head) _ _ h) (by rw [lX]) (spn_flat1 x) fun w' h => ?_
  have lDs : ((S.drop i).flatMap spn).length = (S.length - i) * 2:=by rw [flat_length spn_length,List.length_drop]
  rw [eS,List.append_assoc,<- lT,splice_tail (by simp only [List.length_append]; omega)] at h
  have eN' : (S.take i ++ x :: S.drop S.length).flatMap spn = (S.take i).flatMap spn ++ spn x:=by simp [List.flatMap_append]
  have lN' : (S.take i ++ x :: S.drop S.length).length = i + 1:=by rw [lN]; omega
  have hk:=fun w' => hk (some ⟨B,0,none⟩) d w'
  rw [eN',lN'] at hk
  have lY : (((S.drop i).flatMap spn ++ sp).drop (spn x).length).length = (d - (i + 1)) * 2:=by rw [List.length_drop,List.length_append,lX]; omega
  refine ifd (fun hlt => ?_) fun hge => ?_
  ·refine ⟨by omega,?_⟩
   rw [cutA_at (by simp; omega),Nat.zero_add]
   simp only [Int.toNat_natCast]
   refine h.clearB .head husrR tisrR (by simp only [List.length_append,lY]; omega) fun w' h => ?_
   have lTX : (i + 1) * 2 = ((S.take i).flatMap spn ++ spn x).length:=by rw [List.length_append,lT,lX]; omega
   generalize hZ : zeros _ (S.length - (i + 1)) = Z at h
   have lZ : Z.length = (S.length - (i + 1)) * 2:=by rw [<- hZ,zeros_length]; rfl
   rw [lTX,splice_tail (by rw [lY]; omega),List.append_assoc] at h
   exact hk _ (h.blkOwn (n:=i + 1) (d:=d) (z:=2) (by omega) (by rw [List.length_append,List.length_drop,lY]; omega) (by omega)).to
  ·exact hk _ (h.blkOwn (n:=i + 1) (d:=d) (z:=2) (by simp only [List.length_append]; omega) lY (by omega)).to
 ·have et : IntKind.i64.wrap ((IntKind.i64.wrap ((((Int.toNat (i : Int) - Int.toNat (0 : Int)) : Nat) : Int) + ((1 : Nat) : Int))) + (((Int.toNat ((S.length : Nat) : Int) - Int.toNat (k : Int)) : Nat) : Int)) = ((i + 1 + (S.length - k) : Nat) : Int):=by
   simp only [Int.toNat_natCast,Int.toNat_zero,Nat.sub_zero]
   rw [wrap_i64 (n:=(i : Int) + ((1 : Nat) : Int)) (by omega) (by omega),wrap_i64 (by omega) (by omega)]
   omega
  have hk:=fun w' => hk (some ⟨B,0,none⟩) d w'
  rw [lN] at hk
  refine ⟨by omega,by omega,leti et ?_⟩
  refine ifdf (by omega) ⟨by omega,?_⟩
  rw [wrap_i64 (n:=(i : Int) + ((1 : Nat) : Int)) (by omega) (by omega),show (i : Int) + ((1 : Nat) : Int) = ((i + 1 : Nat) : Int) by omega]
  refine ifdt (by omega) ?_
  simp only [cutA_zero,Int.toNat_natCast,Int.toNat_zero,Nat.sub_zero]
  refine ⟨by omega,?_⟩
  rw [cutA_at (by simp; omega),Nat.zero_add]
  simp only [Int.toNat_natCast]
  have h:=h.drew
  have eS2 : S.flatMap spn = (S.take i).flatMap spn ++ (((S.drop i).take (k - i)).flatMap spn ++ (S.drop k).flatMap spn):=by
   rw [eS]; congr 1
   have:=flat_cut spn (S.drop i) (k - i)
   rwa [List.drop_drop,show i + (k - i) = k by omega] at this
  have lM : (((S.drop i).take (k - i)).flatMap spn).length = (k - i) * 2:=by rw [flat_length spn_length,List.length_take,List.length_drop]; congr 1; omega
  generalize ((S.drop i).take (k - i)).flatMap spn = M at eS2 lM
  rw [eS2] at h
  refine h.copyB (z:=2) .head husrR (by kernel_rfl) (by simp only [List.length_append]; omega) (RdIn.blk0 (.tail .head) _ _ h) (m:=1) (by rw [lX]) (spn_flat1 x) fun w' h => ?_
  rw [show min 1 (i + 1 + (S.length - k) - i) * 2 = 2 by rw [Nat.min_eq_left (by omega)],show List.take 2 (spn x) = spn x from List.take_of_length_le (by omega),List.append_assoc,<- lT,splice_tail (by simp only [List.length_append]; omega)] at h
  have eM : (M ++ (S.drop k).flatMap spn ++ sp).drop (spn x).length = M.drop 2 ++ ((S.drop k).flatMap spn ++ sp):=by
   rw [lX,List.append_assoc,List.drop_append_of_le_length (by omega)]
  rw [eM] at h
  have lM2 : (M.drop 2).length = (k - i) * 2 - 2:=by rw [List.length_drop]; omega
  generalize M.drop 2 = M2 at h lM2
  have h:=h.drew
  refine ⟨by omega,by omega,?_⟩
  rw [cutA_at (by simp; omega),cutA_at (by simp; omega),Nat.zero_add,Nat.zero_add]
  simp only [Int.toNat_natCast]
  have hE:=h.rowB .head (k * 2) ((S.length - k) * 2)
  rw [show k * 2 = ((S.take i).flatMap spn ++ spn x ++ M2).length by rw [List.length_append,List.length_append,lT,lX,lM2]; omega,<- List.append_assoc,List.drop_left,<- lE,List.take_left] at hE
  refine h.copyB (z:=2) .head husrR (by kernel_rfl) (by simp only [List.length_append,lX]; omega) (by rw [show k * 2 = ((S.take i).flatMap spn ++ spn x ++ M2).length by rw [List.length_append,List.length_append,lT,lX,lM2]; omega]; exact hE) (m:=S.length - k) lE (spn_flat _) fun w' h => ?_
  rw [show min (S.length - k) (i + 1 + (S.length - k) - (i + 1)) * 2 = (S.length - k) * 2 by rw [Nat.min_eq_left (by omega)],<- lE,List.take_length,show (i + 1) * 2 = ((S.take i).flatMap spn ++ spn x).length by rw [List.length_append,lT,lX]; omega,splice_tail (by simp only [List.length_append]; omega),<- eN] at h
  generalize hY : List.drop _ (M2 ++ ((S.drop k).flatMap spn ++ sp)) = Y at h
  have lY : Y.length = (d - (i + 1 + (S.length - k))) * 2:=by rw [<- hY,List.length_drop,List.length_append,List.length_append]; omega
  have lF : ((S.take i ++ x :: S.drop k).flatMap spn).length = (i + 1 + (S.length - k)) * 2:=by rw [flat_length spn_length,lN]
  refine ⟨by omega,?_⟩
  by_cases hdd : i + 1 + (S.length - k) < d
  ·rw [cutA_at (by simp only [Int.toNat_natCast]; omega),Nat.zero_add]
   simp only [Int.toNat_natCast]
   refine h.clearB .head husrR tisrR (by simp only [List.length_append,lY,lF]; omega) fun w' h => ?_
   generalize hZ : zeros _ (S.length - (i + 1 + (S.length - k))) = Z at h
   have lZ : Z.length = (S.length - (i + 1 + (S.length - k))) * 2:=by rw [<- hZ,zeros_length]; rfl
   rw [<- lF,splice_tail (by rw [lY]; omega),List.append_assoc] at h
   exact hk _ (h.blkOwn (n:=i + 1 + (S.length - k)) (d:=d) (z:=2) lF (by rw [List.length_append,List.length_drop,lY]; omega) (by omega)).to
  ·rw [show cutA (some (⟨B,0,none⟩ : Addr)) d 2 ((i + 1 + (S.length - k) : Nat) : Int) = some ⟨B,0,none⟩ by unfold cutA; rw [if_pos (by simp only [Int.toNat_natCast]; omega)]]
   refine h.clearB .head husrR tisrR (by simp only [List.length_append,lY,lF]; omega) fun w' h => ?_
   generalize hZ : zeros _ (S.length - (i + 1 + (S.length - k))) = Z at h
   have lZ : Z.length = (S.length - (i + 1 + (S.length - k))) * 2:=by rw [<- hZ,zeros_length]; rfl
   have : Z = []:=List.length_eq_zero_iff.1 (by omega)
   subst this
   rw [splice_nil] at h
   exact hk _ (h.blkOwn (n:=i + 1 + (S.length - k)) (d:=d) (z:=2) lF lY (by omega)).to
end
end Go.Br
