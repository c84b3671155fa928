/- A session's keys. -/
import Derived.Test.YtmglifmopjedbaaGreatNSession
import Derived.Test.YtmglifmopjedbaaGreatJOptRead
set_option linter.unusedVariables false
set_option linter.unusedSimpArgs false
set_option linter.unnecessarySimpa false
namespace Go.Br
open Go
instance biSessiona (x0 : Int) (x1 : Int) : Bld PG (Instr.build 28 #[(0,.int .u64 x0),(1,.int .u64 x1)]) (.agg #[.int .u64 x0,.int .u64 x1]):=⟨fun w => by kernel_rfl⟩
instance biSessionb : Zro PG 28 2 16 (.agg #[.int .u64 0,.int .u64 0]):=⟨tiOf (by kernel_rfl)⟩
instance biSessionc : Zro PG 56 9 72 (.agg #[.int .u64 0,.int .u64 0,.int .u64 0,.int .u64 0,.int .u64 0,.int .u64 0,.int .u64 0,.int .u64 0,.int .u32 0]):=⟨tiOf (by kernel_rfl)⟩
attribute [local irreducible] Addr.add RD RDS RUN RUNU NILC LETB CALL CALLX CALLV
structure Ks where
 idK0 : Int
 idK1 : Int
 clientK0 : Int
 clientK1 : Int
 serverK0 : Int
 serverK1 : Int
 joinK0 : Int
 joinK1 : Int
 token : Int
def ksc (x : Ks) : List Value:=[.int .u64 x.idK0,.int .u64 x.idK1,.int .u64 x.clientK0,.int .u64 x.clientK1,.int .u64 x.serverK0,.int .u64 x.serverK1,.int .u64 x.joinK0,.int .u64 x.joinK1,.int .u32 x.token]
abbrev kscv (x : Ks) : Value:=.agg #[.int .u64 x.idK0,.int .u64 x.idK1,.int .u64 x.clientK0,.int .u64 x.clientK1,.int .u64 x.serverK0,.int .u64 x.serverK1,.int .u64 x.joinK0,.int .u64 x.joinK1,.int .u32 x.token]
def idB : List UInt8:=[105,100]
def clientB : List UInt8:=[99,108,105,101,110,116]
def serverB : List UInt8:=[115,101,114,118,101,114]
def joinB : List UInt8:=[106,111,105,110]
def tokenB : List UInt8:=[116,111,107,101,110]
def sessK (k0 k1 : Int) : Ks:=⟨pair1 k0 k1 idB,pair2 k0 k1 idB,pair1 k0 k1 clientB,pair2 k0 k1 clientB,pair1 k0 k1 serverB,pair2 k0 k1 serverB,pair1 k0 k1 joinB,pair2 k0 k1 joinB,IntKind.u32.wrap (sipS k0 k1 tokenB)⟩
noncomputable abbrev sessR : Array Oper:=regAt Go.Proofs.Tryz.f9 2
def sB : Nat -> List UInt8
 | 0 => idB
 | 1 => clientB
 | 2 => serverB
 | 3 => joinB
 | _ => tokenB
def sPr (k0 k1 : Int) : Value:=.agg #[.int .u64 k0,.int .u64 k1]
abbrev sOwn (p : Nat) (B : List UInt8) : SA:=own 5 1 (some ⟨p,0,none⟩) B.length B.length (bvs B)
abbrev sOwn2 (q p : Nat) (B : List UInt8) : SA:=own 41 1 (some ⟨q,0,none⟩) 1 1 [.slice (some ⟨p,0,none⟩) B.length B.length]
def sF (k0 k1 : Int) (k : Nat) (v : Option Value) (M : List SA) : Prop :=
 if k = 26 then v = some (kscv (sessK k0 k1)) else if k = 25 then v = some (.int .u32 (IntKind.u32.wrap (sipS k0 k1 tokenB))) else if k = 24 then v = some (.int .u64 (sipS k0 k1 tokenB)) else
 if k % 5 = 0 then v = some (sPr k0 k1)
 else if k % 5 = 4 then v = some (sPr (pair1 k0 k1 (sB (k / 5))) (pair2 k0 k1 (sB (k / 5))))
 else if k % 5 = 3 then ∃ q p,v = some (.slice (some ⟨q,0,none⟩) 1 1) /\ sOwn2 q p (sB (k / 5)) ∈ M /\ sOwn p (sB (k / 5)) ∈ M
 else ∃ p,v = some (.slice (some ⟨p,0,none⟩) (sB (k / 5)).length (sB (k / 5)).length) /\ sOwn p (sB (k / 5)) ∈ M
theorem sF_mono {k0 k1 : Int} {k : Nat} {v : Option Value} {M M' : List SA} (h : sF k0 k1 k v M) (hM : ∀ x ∈ M,x ∈ M') : sF k0 k1 k v M':=by
 unfold sF at h ⊢
 split at h
 ·rw [if_pos ‹_›]; exact h
 rw [if_neg ‹_›]
 split at h
 ·rw [if_pos ‹_›]; exact h
 rw [if_neg ‹_›]
 split at h
 ·rw [if_pos ‹_›]; exact h
 rw [if_neg ‹_›]
 split at h
 ·rw [if_pos ‹_›]; exact h
 rw [if_neg ‹_›]
 split at h
 ·rw [if_pos ‹_›]; exact h
 rw [if_neg ‹_›]
 split at h
 ·rw [if_pos ‹_›]; obtain ⟨q,p,h1,h2,h3⟩:=h; exact ⟨q,p,h1,hM _ h2,hM _ h3⟩
 ·rw [if_neg ‹_›]; obtain ⟨p,h1,h2⟩:=h; exact ⟨p,h1,hM _ h2⟩
structure SJ (c : Ctx) (L0 : List SA) (a4 a5 : Nat) (k0 k1 : Int) (D : Array Bool) (ρ : Env) (w : World) : Prop where
 size : D.size = 28
 s4 : eget ρ 4 = some (.pointer (some ⟨a4,0,none⟩))
 s5 : eget ρ 5 = some (.pointer (some ⟨a5,0,none⟩))
 mem : ∃ V M,V.length = 9 /\ (D.getD 27 false = true -> V = ksc (sessK k0 k1)) /\ St c w (blk a4 56 V :: blk a5 28 [.int .u64 k0,.int .u64 k1] :: (M ++ L0)) /\ ∀ k,k < 27 -> D.getD k false = true -> sF k0 k1 k (eget ρ (9 + k)) M
theorem getD_set {D : Array Bool} {i k : Nat} (hi : i < D.size) : (D.setIfInBounds i true).getD k false = if k = i then true else D.getD k false:=by
 by_cases hk : k = i
 ·subst hk; simp [hi]
 ·rw [if_neg hk]
  by_cases h2 : k < D.size
  ·simp [h2,Array.getElem_setIfInBounds,Ne.symm hk,Array.getD]
  ·simp [h2,Array.getD]
theorem eget_ne {ρ : Env} {i k : Nat} {v : Value} (h : k ≠ i) : eget ((i,v) :: ρ) k = eget ρ k:=by
 have e : Nat.beq i k = false:=by
  cases hb : Nat.beq i k with
  | false => rfl
  | true => exact absurd (Nat.eq_of_beq_eq_true hb).symm h
 simp [eget,e]
theorem eget_eq {ρ : Env} {i : Nat} {v : Value} : eget ((i,v) :: ρ) i = some v:=by simp [eget]
section
variable {c : Ctx} {w : World} {L0 : List SA} {a4 a5 : Nat} {k0 k1 : Int} {D : Array Bool} {ρ : Env} {o : Oper}
theorem SJ.put {w' : World} {V : List Value} {M M' : List SA} {k : Nat} {v : Value} (h : SJ c L0 a4 a5 k0 k1 D ρ w) (h9 : V.length = 9) (hV : D.getD 27 false = true -> V = ksc (sessK k0 k1)) (hF : ∀ k,k < 27 -> D.getD k false = true -> sF k0 k1 k (eget ρ (9 + k)) M) (hM : ∀ x ∈ M,x ∈ M') (hw : St c w' (blk a4 56 V :: blk a5 28 [.int .u64 k0,.int .u64 k1] :: (M' ++ L0))) (hv : sF k0 k1 k (some v) M') (hk : k < 27) : SJ c L0 a4 a5 k0 k1 (D.setIfInBounds k true) ((9 + k,v) :: ρ) w':=by
 refine ⟨by simp [h.size],by rw [eget_ne (by omega)]; exact h.s4,by rw [eget_ne (by omega)]; exact h.s5,V,M',h9,fun e => hV ?_,hw,fun j hj e => ?_⟩
 ·rw [getD_set (by rw [h.size]; omega),if_neg (by omega)] at e
  exact e
 ·rw [getD_set (by rw [h.size]; omega)] at e
  by_cases hjk : j = k
  ·subst hjk; rw [eget_eq]; exact hv
  ·rw [if_neg hjk] at e
   rw [eget_ne (by omega)]
   exact sF_mono (hF j hj e) hM
theorem opv {k : Nat} (ho : sessR[k]? = some o) {d : Option Nat} {op : Op} {t : TypeId} (e : (sessR[k]?).map (fun o => (o.dst,o.op,o.type,o.guard.isNone)) = some (d,op,t,true)) : ∃ pos after,o = ⟨d,op,t,pos,after,none⟩:=by
 rw [ho] at e
 obtain ⟨dst,op',type,pos,after,guard⟩:=o
 have e:=Option.some.inj e
 dsimp only at e
 injection e with e1 e
 injection e with e2 e
 injection e with e3 e4
 subst e1 e2 e3
 obtain rfl:=Option.isNone_iff_eq_none.1 e4
 exact ⟨_,_,rfl⟩
theorem sdep {k j : Nat} (hi : k ∈ Region.ready .any sessR D) (e : (sessR[k]?).map (fun o => o.after.any fun e => Nat.beq e.on j && Region.binds .any e) = some true) : D.getD j false = true:=by
 obtain ⟨_,o,ho,h⟩:=mem_ready.1 hi
 rw [ho] at e
 have e:=Option.some.inj e
 rw [Array.any_eq_true'] at e
 obtain ⟨x,hx,h2⟩:=e
 rw [Bool.and_eq_true] at h2
 obtain rfl:=Nat.eq_of_beq_eq_true h2.1
 exact h x hx h2.2
theorem mem_pick {A : SA} : ∀ {L : List SA},A ∈ L -> ∃ R,Pick A L R /\ ∀ x ∈ L,x = A ∨ x ∈ R
 | _ :: L,.head _ => ⟨L,.head,fun x hx => List.mem_cons.1 hx⟩
 | B :: L,.tail _ h => by
  obtain ⟨R,h1,h2⟩:=mem_pick h
  refine ⟨B :: R,.tail h1,fun x hx => ?_⟩
  rcases List.mem_cons.1 hx with rfl | h
  ·exact .inr (List.mem_cons_self ..)
  ·exact (h2 x h).imp id (List.mem_cons_of_mem _)
theorem pick_appL {A : SA} {X : List SA} : ∀ {L R : List SA},Pick A L R -> Pick A (L ++ X) (R ++ X)
 | _,_,.head => .head
 | _,_,.tail h => .tail (pick_appL h)
theorem sea (v : Value) (K : Value -> Prop) : asTy PG 28 v K = ∃ x y : Int,v = .agg #[.int .u64 x,.int .u64 y] /\ K (.agg #[.int .u64 x,.int .u64 y]):=by kernel_rfl
theorem seb (v : Value) (K : Value -> Prop) : asTy PG 41 v K = ∃ (x : Option Addr) (n c : Nat),v = .slice x n c /\ K (.slice x n c):=by kernel_rfl
theorem sec (v : Value) (K : Value -> Prop) : asTy PG 158 v K = ∃ (x : Option Addr) (n c : Nat),v = .slice x n c /\ K (.slice x n c):=by kernel_rfl
theorem sed (v : Value) (K : Value -> Prop) : asTy PG 25 v K = ∃ x : Int,v = .int .u64 x /\ K (.int .u64 x):=by kernel_rfl
theorem all_done {ops : Array Oper} {D : Array Bool} (hs : D.size = ops.size) (hb : (List.range ops.size).all (fun k => match ops[k]? with | some o => o.after.all fun e => Nat.blt e.on k | none => false) = true) (hr : Region.ready .any ops D = []) : ∀ k,k < ops.size -> D.getD k false = true:=by
 intro k
 induction k using Nat.strongRecOn with
 | ind k ih =>
  intro hk
  cases hd : D.getD k false with
  | true => rfl
  | false =>
   exfalso
   have h1:=List.all_eq_true.1 hb k (List.mem_range.2 hk)
   cases ho : ops[k]? with
   | none => rw [ho] at h1; cases h1
   | some o =>
    rw [ho] at h1
    have : k ∈ Region.ready .any ops D:=mem_ready.2 ⟨?_,o,ho,fun e he _ => ?_⟩
    ·rw [hr] at this; cases this
    ·simp [Array.getD,hs,hk] at hd ⊢; exact hd
    ·have h2:=(Array.all_eq_true'.1 h1) e he
     rw [Nat.blt_eq] at h2
     exact ih _ h2 (by omega)
theorem sj_load {k : Nat} (h : SJ c L0 a4 a5 k0 k1 D ρ w) {pos : String} {after : Array Edge} (hk : k < 24) (h5 : k % 5 = 0) (ho : o = ⟨some (9 + k),.load 28 (.tmp 5),28,pos,after,none⟩) : vcOp PG TB 36 sessR o [] ρ w fun _ ρ' w' => SJ c L0 a4 a5 k0 k1 (D.setIfInBounds k true) ρ' w':=by
 obtain ⟨V,M,h9,hV,hw,hF⟩:=h.mem
 subst ho
 have hb : Nat.blt (9 + k) 36 = true:=by simp [Nat.blt_eq]; omega
 unfold vcOp guardK
 simp only [opAny,isImp,cond_false,opRead,genRead,purePV,readSem,ev,h.s5,rdK,sea,putK,hb,cond_true]
 refine hw.rdG (B:=a5) ?_
 refine ⟨_,_,rfl,h.put h9 hV hF (fun _ h => h) hw ?_ (by omega)⟩
 unfold sF
 rw [if_neg (by omega),if_neg (by omega),if_neg (by omega),if_pos h5]
 rfl
theorem sj_lit {k : Nat} {parts : Array (Nat × Operand)} {vals : Array (Nat × Value)} (h : SJ c L0 a4 a5 k0 k1 D ρ w) {pos : String} {after : Array Edge} (hk : k < 24) (h5 : k % 5 = 1) (ho : o = ⟨some (9 + k),.buildSlice 41 (sB (k / 5)).length parts,41,pos,after,none⟩)
  (hp : evPart ρ parts.toList = some vals.toList) (hl : ∀ w,(Instr.buildSlice 41 (sB (k / 5)).length vals).run PG w = .ok (.slice (some ⟨w.heap.size,0,none⟩) (sB (k / 5)).length (sB (k / 5)).length) (w.alloc (.cells (bvs (sB (k / 5))).toArray 5))) : vcOp PG TB 36 sessR o [] ρ w fun _ ρ' w' => SJ c L0 a4 a5 k0 k1 (D.setIfInBounds k true) ρ' w':=by
 obtain ⟨V,M,h9,hV,hw,hF⟩:=h.mem
 subst ho
 have hb : Nat.blt (9 + k) 36 = true:=by simp [Nat.blt_eq]; omega
 unfold vcOp guardK
 simp only [opAny,isImp,cond_true,opImp,impUnit,impSem,ev,hp,resTy,seb,putK,hb]
 have hh:=hw.lit (P:=PG) (t:=41) (n:=(sB (k / 5)).length) (parts:=vals) (K:=fun x xN xC w' => SJ c L0 a4 a5 k0 k1 (D.setIfInBounds k true) ((9 + k,.slice x xN xC) :: ρ) w') 5 1 (bvs (sB (k / 5))) (fun p w' hw => ?_) hl (by simp [bvs])
 ·unfold RUNL at hh
  exact hh
 ·refine h.put (M':=sOwn p (sB (k / 5)) :: M) h9 hV hF (fun _ h => List.mem_cons_of_mem _ h) (hw.sub (.cons (.tail .head) (.cons (.tail .head) (Sub.same _)))) ?_ (by omega)
  unfold sF
  rw [if_neg (by omega),if_neg (by omega),if_neg (by omega),if_neg (by omega),if_neg (by omega),if_neg (by omega)]
  exact ⟨p,rfl,List.mem_cons_self ..⟩
theorem sj_conv {k : Nat} (h : SJ c L0 a4 a5 k0 k1 D ρ w) {pos : String} {after : Array Edge} (hk : k < 24) (h5 : k % 5 = 1) (ho : o = ⟨some (9 + (k + 1)),.convert 41 41 (.tmp (9 + k)),41,pos,after,none⟩) (hd : D.getD k false = true) (hpos : 0 < (sB (k / 5)).length) : vcOp PG TB 36 sessR o [] ρ w fun _ ρ' w' => SJ c L0 a4 a5 k0 k1 (D.setIfInBounds (k + 1) true) ρ' w':=by
 obtain ⟨V,M,h9,hV,hw,hF⟩:=h.mem
 have hb : Nat.blt (9 + (k + 1)) 36 = true:=by simp [Nat.blt_eq]; omega
 have h1:=hF k (by omega) hd
 unfold sF at h1
 rw [if_neg (by omega),if_neg (by omega),if_neg (by omega),if_neg (by omega),if_neg (by omega),if_neg (by omega)] at h1
 obtain ⟨p,e,hm⟩:=h1
 obtain ⟨R,hp,hx⟩:=mem_pick hm
 subst ho
 have hi : isImp PG ⟨some (9 + (k + 1)),.convert 41 41 (.tmp (9 + k)),41,pos,after,none⟩ = true:=by kernel_rfl
 unfold vcOp guardK
 simp only [opAny,hi,cond_true,opImp,impUnit,impSem,ev,e,resTy,seb,putK,hb]
 have hh:=hw.bytesBytes (P:=PG) (u:=5) (t:=41) (K:=fun x xN xC w' => SJ c L0 a4 a5 k0 k1 (D.setIfInBounds (k + 1) true) ((9 + (k + 1),.slice x xN xC) :: ρ) w') (.tail (.tail (pick_appL hp))) (fun w' hw => ?_) hpos (by kernel_rfl) (by kernel_rfl)
 ·unfold RUNL at hh
  exact hh
 ·refine h.put (M':=sOwn p (sB (k / 5)) :: R) h9 hV hF (fun x h => List.mem_cons.2 (hx x h)) (hw.sub (.cons (.tail .head) (.cons (.tail .head) (Sub.same _)))) ?_ (by omega)
  unfold sF
  rw [if_neg (by omega),if_neg (by omega),if_neg (by omega),if_neg (by omega),if_neg (by omega),if_neg (by omega),show (k + 1) / 5 = k / 5 by omega]
  exact ⟨p,rfl,List.mem_cons_self ..⟩
theorem sj_parts {k : Nat} (h : SJ c L0 a4 a5 k0 k1 D ρ w) {pos : String} {after : Array Edge} (hk : k < 24) (h5 : k % 5 = 2) (ho : o = ⟨some (9 + (k + 1)),.buildSlice 158 1 #[(0,.tmp (9 + k))],158,pos,after,none⟩) (hd : D.getD k false = true) : vcOp PG TB 36 sessR o [] ρ w fun _ ρ' w' => SJ c L0 a4 a5 k0 k1 (D.setIfInBounds (k + 1) true) ρ' w':=by
 obtain ⟨V,M,h9,hV,hw,hF⟩:=h.mem
 subst ho
 have hb : Nat.blt (9 + (k + 1)) 36 = true:=by simp [Nat.blt_eq]; omega
 have h1:=hF k (by omega) hd
 unfold sF at h1
 rw [if_neg (by omega),if_neg (by omega),if_neg (by omega),if_neg (by omega),if_neg (by omega),if_neg (by omega)] at h1
 obtain ⟨p,e,hm⟩:=h1
 unfold vcOp guardK
 simp only [opAny,isImp,cond_true,opImp,impUnit,impSem,ev,evPart,e,resTy,sec,putK,hb]
 have hh:=hw.lit (P:=PG) (t:=158) (n:=1) (parts:=#[(0,.slice (some ⟨p,0,none⟩) (sB (k / 5)).length (sB (k / 5)).length)]) (K:=fun x xN xC w' => SJ c L0 a4 a5 k0 k1 (D.setIfInBounds (k + 1) true) ((9 + (k + 1),.slice x xN xC) :: ρ) w') 41 1 [.slice (some ⟨p,0,none⟩) (sB (k / 5)).length (sB (k / 5)).length] (fun q w' hw => ?_) (by intro w; generalize (sB (k / 5)).length = n; kernel_rfl) rfl
 ·unfold RUNL at hh
  exact hh
 ·refine h.put (M':=sOwn2 q p (sB (k / 5)) :: M) h9 hV hF (fun _ h => List.mem_cons_of_mem _ h) (hw.sub (.cons (.tail .head) (.cons (.tail .head) (Sub.same _)))) ?_ (by omega)
  unfold sF
  rw [if_neg (by omega),if_neg (by omega),if_neg (by omega),if_neg (by omega),if_neg (by omega),if_pos (by omega),show (k + 1) / 5 = k / 5 by omega]
  exact ⟨q,p,rfl,List.mem_cons_self ..,List.mem_cons_of_mem _ hm⟩
theorem sj_args {k j : Nat} (h : SJ c L0 a4 a5 k0 k1 D ρ w) (hj : j < 5) (hk : k = 5 * j + 3) (hd0 : D.getD (5 * j) false = true) (hd : D.getD k false = true) : ∃ V M q p,V.length = 9 /\ (D.getD 27 false = true -> V = ksc (sessK k0 k1)) /\ St c w (blk a4 56 V :: blk a5 28 [.int .u64 k0,.int .u64 k1] :: (M ++ L0)) /\ (∀ k,k < 27 -> D.getD k false = true -> sF k0 k1 k (eget ρ (9 + k)) M) /\ eget ρ (9 + 5 * j) = some (sPr k0 k1) /\
  eget ρ (9 + k) = some (.slice (some ⟨q,0,none⟩) 1 1) /\ sOwn2 q p (sB j) ∈ M /\ sOwn p (sB j) ∈ M:=by
 obtain ⟨V,M,h9,hV,hw,hF⟩:=h.mem
 have h0:=hF (5 * j) (by omega) hd0
 unfold sF at h0
 rw [if_neg (by omega),if_neg (by omega),if_neg (by omega),if_pos (by omega)] at h0
 have h1:=hF k (by omega) hd
 unfold sF at h1
 rw [if_neg (by omega),if_neg (by omega),if_neg (by omega),if_neg (by omega),if_neg (by omega),if_pos (by omega),show k / 5 = j by omega] at h1
 obtain ⟨q,p,e,h2,h3⟩:=h1
 exact ⟨V,M,q,p,h9,hV,hw,hF,h0,e,h2,h3⟩
theorem sj_call {k j : Nat} (h : SJ c L0 a4 a5 k0 k1 D ρ w) {pos : String} {after : Array Edge} (hj : j < 4) (hk : k = 5 * j + 3) (ho : o = ⟨some (9 + (k + 1)),.call { callee:=.value (.func 32),args:=#[.tmp (9 + 5 * j),.tmp (9 + k)],argTypes:=#[28,158] },28,pos,after,none⟩) (hd0 : D.getD (5 * j) false = true) (hd : D.getD k false = true) (hlen : (sB j).length <= 100) : vcOp PG TB 36 sessR o [] ρ w fun _ ρ' w' => SJ c L0 a4 a5 k0 k1 (D.setIfInBounds (k + 1) true) ρ' w':=by
 subst ho
 obtain ⟨V,M,q,p,h9,hV,hw,hF,e0,e,h2,h3⟩:=sj_args h (by omega) hk hd0 hd
 have hb : Nat.blt (9 + (k + 1)) 36 = true:=by simp [Nat.blt_eq]; omega
 unfold vcOp guardK
 simp only [opAny,isImp,cond_true,opImp,impUnit,impSem,ev,evs,e0,e,sea,putK,hb]
 rw [show fnOk TB 32 = true by kernel_rfl]
 obtain ⟨R2,hp2,_⟩:=mem_pick h2
 obtain ⟨R3,hp3,_⟩:=mem_pick h3
 have hh:=spair_ok hw (k0:=k0) (k1:=k1) (A:=some ⟨q,0,none⟩) (k:=1) (X:=[⟨some ⟨p,0,none⟩,sB j,(sB j).length⟩]) (RdIn.own (.tail (.tail (pick_appL hp2)))) (fun x hx => ?_) (by simp; omega) (by simp) (Q:=fun v w' => ∃ x y : Int,v = .agg #[.int .u64 x,.int .u64 y] /\ SJ c L0 a4 a5 k0 k1 (D.setIfInBounds (k + 1) true) ((9 + (k + 1),.agg #[.int .u64 x,.int .u64 y]) :: ρ) w') (fun w' hw => ?_)
 ·exact hh
 ·rw [List.mem_singleton] at hx
  subst hx
  exact RdIn.own (.tail (.tail (pick_appL hp3)))
 ·refine ⟨_,_,rfl,h.put h9 hV hF (fun _ h => h) hw ?_ (by omega)⟩
  unfold sF
  rw [if_neg (by omega),if_neg (by omega),if_neg (by omega),if_neg (by omega),if_pos (by omega),show (k + 1) / 5 = j by omega]
  simp [sPr]
theorem sj_sum (h : SJ c L0 a4 a5 k0 k1 D ρ w) {pos : String} {after : Array Edge} (ho : o = ⟨some 33,.call { callee:=.value (.func 33),args:=#[.tmp 29,.tmp 32],argTypes:=#[28,158] },25,pos,after,none⟩) (hd0 : D.getD 20 false = true) (hd : D.getD 23 false = true) : vcOp PG TB 36 sessR o [] ρ w fun _ ρ' w' => SJ c L0 a4 a5 k0 k1 (D.setIfInBounds 24 true) ρ' w':=by
 subst ho
 obtain ⟨V,M,q,p,h9,hV,hw,hF,e0,e,h2,h3⟩:=sj_args (j:=4) h (by omega) rfl hd0 hd
 unfold vcOp guardK
 simp only [Nat.reduceAdd,Nat.reduceMul] at e0 e
 simp only [opAny,isImp,cond_true,opImp,impUnit,impSem,ev,evs,e0,e,sed,putK]
 rw [show fnOk TB 33 = true by kernel_rfl,show Nat.blt 33 36 = true from rfl]
 obtain ⟨R2,hp2,_⟩:=mem_pick h2
 obtain ⟨R3,hp3,_⟩:=mem_pick h3
 have hh:=sum_ok hw (k0:=k0) (k1:=k1) (A:=some ⟨q,0,none⟩) (k:=1) (X:=[⟨some ⟨p,0,none⟩,tokenB,tokenB.length⟩]) (RdIn.own (.tail (.tail (pick_appL hp2)))) (fun x hx => ?_) (by simp [tokenB]) (by simp) (Q:=fun v w' => ∃ x : Int,v = .int .u64 x /\ SJ c L0 a4 a5 k0 k1 (D.setIfInBounds 24 true) ((9 + 24,.int .u64 x) :: ρ) w') (fun w' hw => ?_)
 ·exact hh
 ·rw [List.mem_singleton] at hx
  subst hx
  exact RdIn.own (.tail (.tail (pick_appL hp3)))
 ·refine ⟨_,rfl,h.put h9 hV hF (fun _ h => h) hw ?_ (by omega)⟩
  unfold sF
  simp
theorem sj_wrap (h : SJ c L0 a4 a5 k0 k1 D ρ w) {pos : String} {after : Array Edge} (ho : o = ⟨some 34,.convert 25 26 (.tmp 33),26,pos,after,none⟩) (hd : D.getD 24 false = true) : vcOp PG TB 36 sessR o [] ρ w fun _ ρ' w' => SJ c L0 a4 a5 k0 k1 (D.setIfInBounds 25 true) ρ' w':=by
 obtain ⟨V,M,h9,hV,hw,hF⟩:=h.mem
 subst ho
 have e : eget ρ 33 = some (.int .u64 (sipS k0 k1 tokenB)):=by
  have:=hF 24 (by omega) hd
  simpa [sF] using this
 have hi : isImp PG ⟨some 34,.convert 25 26 (.tmp 33),26,pos,after,none⟩ = false:=by kernel_rfl
 have u1 : PG.underlying 25 = some (.int .u64):=by kernel_rfl
 have u2 : PG.underlying 26 = some (.int .u32):=by kernel_rfl
 unfold vcOp guardK
 simp only [opAny,hi,cond_false,opRead,genRead,purePV,ev,e,u1,u2,putK]
 rw [show Nat.blt 34 36 = true from rfl]
 refine h.put (k:=25) h9 hV hF (fun _ h => h) hw ?_ (by omega)
 simp [sF]
theorem build_aux {x0 x1 x2 x3 x4 x5 x6 x7 x8 : Int} {K : Value -> Prop} (hk : ∀ v,v = kscv ⟨x0,x1,x2,x3,x4,x5,x6,x7,x8⟩ -> K v) : RD PG (Instr.build 56 #[(0,Value.agg #[Value.int IntKind.u64 x0,Value.int IntKind.u64 x1]),(1,Value.agg #[Value.int IntKind.u64 x2,Value.int IntKind.u64 x3]),(2,Value.agg #[Value.int IntKind.u64 x4,Value.int IntKind.u64 x5]),(3,Value.agg #[Value.int IntKind.u64 x6,Value.int IntKind.u64 x7]),(4,Value.int IntKind.u32 x8)]) w fun v => asTy PG 56 v K:=by
 have e : (fun v => asTy PG 56 v K) = fun v => ∃ y0 y1 y2 y3 y4 y5 y6 y7 y8 : Int,v = kscv ⟨y0,y1,y2,y3,y4,y5,y6,y7,y8⟩ /\ K (kscv ⟨y0,y1,y2,y3,y4,y5,y6,y7,y8⟩):=by kernel_rfl
 rw [e]
 exact RD.of (v:=kscv ⟨x0,x1,x2,x3,x4,x5,x6,x7,x8⟩) (by kernel_rfl) ⟨_,_,_,_,_,_,_,_,_,rfl,hk _ rfl⟩
theorem sj_build (h : SJ c L0 a4 a5 k0 k1 D ρ w) {pos : String} {after : Array Edge} (ho : o = ⟨some 35,.build 56 #[(0,.tmp 13),(1,.tmp 18),(2,.tmp 23),(3,.tmp 28),(4,.tmp 34)],56,pos,after,none⟩) (hd : D.getD 4 false = true) (hd1 : D.getD 9 false = true) (hd2 : D.getD 14 false = true) (hd3 : D.getD 19 false = true) (hd4 : D.getD 25 false = true) : vcOp PG TB 36 sessR o [] ρ w fun _ ρ' w' => SJ c L0 a4 a5 k0 k1 (D.setIfInBounds 26 true) ρ' w':=by
 obtain ⟨V,M,h9,hV,hw,hF⟩:=h.mem
 subst ho
 have e0 : eget ρ 13 = some (sPr (pair1 k0 k1 idB) (pair2 k0 k1 idB)):=by simpa [sF,sB] using hF 4 (by omega) hd
 have e1 : eget ρ 18 = some (sPr (pair1 k0 k1 clientB) (pair2 k0 k1 clientB)):=by simpa [sF,sB] using hF 9 (by omega) hd1
 have e2 : eget ρ 23 = some (sPr (pair1 k0 k1 serverB) (pair2 k0 k1 serverB)):=by simpa [sF,sB] using hF 14 (by omega) hd2
 have e3 : eget ρ 28 = some (sPr (pair1 k0 k1 joinB) (pair2 k0 k1 joinB)):=by simpa [sF,sB] using hF 19 (by omega) hd3
 have e4 : eget ρ 34 = some (.int .u32 (IntKind.u32.wrap (sipS k0 k1 tokenB))):=by simpa [sF] using hF 25 (by omega) hd4
 unfold vcOp guardK
 simp only [opAny,isImp,cond_false,opRead,genRead,purePV,readSem,evPart,ev,e0,e1,e2,e3,e4,rdK,putK,sPr]
 rw [show Nat.blt 35 36 = true from rfl]
 simp only [cond_true]
 refine build_aux fun v hv => ?_
 refine h.put (k:=26) h9 hV hF (fun _ h => h) hw ?_ (by omega)
 rw [sF,if_pos rfl,hv]
 rfl
theorem sj_store (h : SJ c L0 a4 a5 k0 k1 D ρ w) {pos : String} {after : Array Edge} {t : TypeId} (ho : o = ⟨none,.store 56 (.tmp 4) (.tmp 35),t,pos,after,none⟩) (hd : D.getD 26 false = true) : vcOp PG TB 36 sessR o [] ρ w fun _ ρ' w' => SJ c L0 a4 a5 k0 k1 (D.setIfInBounds 27 true) ρ' w':=by
 obtain ⟨V,M,h9,hV,hw,hF⟩:=h.mem
 subst ho
 have e : eget ρ 35 = some (kscv (sessK k0 k1)):=by simpa [sF] using hF 26 (by omega) hd
 unfold vcOp guardK
 simp only [opAny,isImp,cond_true,opImp,impUnit,ev,h.s4,e,putK]
 refine hw.stG (B:=a4) (hl:=by simp [h9]) fun w' hw => ?_
 refine ⟨by simp [h.size],h.s4,h.s5,_,M,rfl,fun _ => rfl,hw,fun k hk ek => ?_⟩
 rw [getD_set (by rw [h.size]; omega),if_neg (by omega)] at ek
 exact hF k hk ek
theorem subR {L : List SA} : ∀ M : List SA,Sub (M ++ L) L
 | [] => Sub.same _
 | _ :: M => (subR M).more
theorem session_ok {L : List SA} (h : St c w L) {k0 k1 : Int} {Q : Value -> World -> Prop} (hk : ∀ w',St c w' L -> Q (kscv (sessK k0 k1)) w') : CALL PG 9 [.int .u64 k0,.int .u64 k1] w Q:=by
 refine call9 ?_
 unfold N9
 generalize hK : sessK k0 k1 = K at hk
 refine h.allocZ fun a4 w' h => ?_
 refine RD.bld ?_
 (repeat apply exi)
 apply exr
 refine h.allocZ fun a5 w' h => ?_
 refine h.stG (B:=a5) fun w' h => ?_
 have h:=h.drew
 refine ⟨fun w => St c w (blk a4 56 (ksc K) :: L),?_,fun w' h => ?_⟩
 ·subst hK
  refine ⟨SJ c L a4 a5 k0 k1,⟨by kernel_rfl,rfl,rfl,_,[],?_,?_,h.sub (.cons (.tail .head) (.cons .head (Sub.same _))),?_⟩,fun D ρ w hJ => ⟨fun hr => ?_,fun i hi o ho => ?_⟩⟩
  ·rfl
  ·intro e
   rw [show (regAt Go.Proofs.Tryz.f9 2).size = 28 by kernel_rfl] at e
   exact absurd e (by decide)
  ·intro k hk e
   rw [show (regAt Go.Proofs.Tryz.f9 2).size = 28 by kernel_rfl] at e
   simp [Array.getD] at e
  ·obtain ⟨V,M,h9,hV,hw,hF⟩:=hJ.mem
   obtain rfl:=hV (all_done (by rw [hJ.size]; kernel_rfl) (by kernel_rfl) hr 27 (by rw [show (regAt Go.Proofs.Tryz.f9 2).size = 28 by kernel_rfl]; omega))
   have hw : St c w (blk a4 56 (ksc (sessK k0 k1)) :: L):=hw.sub (.cons .head (Sub.more (subR M)))
   exact hw
  have hlt : i < 28:=by
   have:=(undone hi).1
   rw [hJ.size] at this
   exact this
  have hcs : i = 0 ∨ i = 1 ∨ i = 2 ∨ i = 3 ∨ i = 4 ∨ i = 5 ∨ i = 6 ∨ i = 7 ∨ i = 8 ∨ i = 9 ∨ i = 10 ∨ i = 11 ∨ i = 12 ∨ i = 13 ∨ i = 14 ∨ i = 15 ∨ i = 16 ∨ i = 17 ∨ i = 18 ∨ i = 19 ∨ i = 20 ∨ i = 21 ∨ i = 22 ∨ i = 23 ∨ i = 24 ∨ i = 25 ∨ i = 26 ∨ i = 27:=by omega
  rcases hcs with rfl | rfl | rfl | rfl | rfl | rfl | rfl | rfl | rfl | rfl | rfl | rfl | rfl | rfl | rfl | rfl | rfl | rfl | rfl | rfl | rfl | rfl | rfl | rfl | rfl | rfl | rfl | rfl
  ·obtain ⟨_,_,e⟩:=opv (k:=0) (d:=some 9) (op:=.load 28 (.tmp 5)) (t:=28) ho (by kernel_rfl)
   exact sj_load (k:=0) hJ (by omega) (by omega) e
  ·obtain ⟨_,_,e⟩:=opv (k:=1) (d:=some 10) (op:=.buildSlice 41 2 #[(0,.const (.int .u8 105)),(1,.const (.int .u8 100))]) (t:=41) ho (by kernel_rfl)
   exact sj_lit (k:=1) (vals:=#[(0,.int .u8 105),(1,.int .u8 100)]) hJ (by omega) (by omega) e rfl (by intro w; kernel_rfl)
  ·obtain ⟨_,_,e⟩:=opv (k:=2) (d:=some 11) (op:=.convert 41 41 (.tmp 10)) (t:=41) ho (by kernel_rfl)
   exact sj_conv (k:=1) hJ (by omega) (by omega) e (sdep hi (by kernel_rfl)) (by decide)
  ·obtain ⟨_,_,e⟩:=opv (k:=3) (d:=some 12) (op:=.buildSlice 158 1 #[(0,.tmp 11)]) (t:=158) ho (by kernel_rfl)
   exact sj_parts (k:=2) hJ (by omega) (by omega) e (sdep hi (by kernel_rfl))
  ·obtain ⟨_,_,e⟩:=opv (k:=4) (d:=some 13) (op:=.call { callee:=.value (.func 32),args:=#[.tmp 9,.tmp 12],argTypes:=#[28,158] }) (t:=28) ho (by kernel_rfl)
   exact sj_call (k:=3) (j:=0) hJ (by omega) rfl e (sdep hi (by kernel_rfl)) (sdep hi (by kernel_rfl)) (by decide)
  ·obtain ⟨_,_,e⟩:=opv (k:=5) (d:=some 14) (op:=.load 28 (.tmp 5)) (t:=28) ho (by kernel_rfl)
   exact sj_load (k:=5) hJ (by omega) (by omega) e
  ·obtain ⟨_,_,e⟩:=opv (k:=6) (d:=some 15) (op:=.buildSlice 41 6 #[(0,.const (.int .u8 99)),(1,.const (.int .u8 108)),(2,.const (.int .u8 105)),(3,.const (.int .u8 101)),(4,.const (.int .u8 110)),(5,.const (.int .u8 116))]) (t:=41) ho (by kernel_rfl)
   exact sj_lit (k:=6) (vals:=#[(0,.int .u8 99),(1,.int .u8 108),(2,.int .u8 105),(3,.int .u8 101),(4,.int .u8 110),(5,.int .u8 116)]) hJ (by omega) (by omega) e rfl (by intro w; kernel_rfl)
  ·obtain ⟨_,_,e⟩:=opv (k:=7) (d:=some 16) (op:=.convert 41 41 (.tmp 15)) (t:=41) ho (by kernel_rfl)
   exact sj_conv (k:=6) hJ (by omega) (by omega) e (sdep hi (by kernel_rfl)) (by decide)
  ·obtain ⟨_,_,e⟩:=opv (k:=8) (d:=some 17) (op:=.buildSlice 158 1 #[(0,.tmp 16)]) (t:=158) ho (by kernel_rfl)
   exact sj_parts (k:=7) hJ (by omega) (by omega) e (sdep hi (by kernel_rfl))
  ·obtain ⟨_,_,e⟩:=opv (k:=9) (d:=some 18) (op:=.call { callee:=.value (.func 32),args:=#[.tmp 14,.tmp 17],argTypes:=#[28,158] }) (t:=28) ho (by kernel_rfl)
   exact sj_call (k:=8) (j:=1) hJ (by omega) rfl e (sdep hi (by kernel_rfl)) (sdep hi (by kernel_rfl)) (by decide)
  ·obtain ⟨_,_,e⟩:=opv (k:=10) (d:=some 19) (op:=.load 28 (.tmp 5)) (t:=28) ho (by kernel_rfl)
   exact sj_load (k:=10) hJ (by omega) (by omega) e
  ·obtain ⟨_,_,e⟩:=opv (k:=11) (d:=some 20) (op:=.buildSlice 41 6 #[(0,.const (.int .u8 115)),(1,.const (.int .u8 101)),(2,.const (.int .u8 114)),(3,.const (.int .u8 118)),(4,.const (.int .u8 101)),(5,.const (.int .u8 114))]) (t:=41) ho (by kernel_rfl)
   exact sj_lit (k:=11) (vals:=#[(0,.int .u8 115),(1,.int .u8 101),(2,.int .u8 114),(3,.int .u8 118),(4,.int .u8 101),(5,.int .u8 114)]) hJ (by omega) (by omega) e rfl (by intro w; kernel_rfl)
  ·obtain ⟨_,_,e⟩:=opv (k:=12) (d:=some 21) (op:=.convert 41 41 (.tmp 20)) (t:=41) ho (by kernel_rfl)
   exact sj_conv (k:=11) hJ (by omega) (by omega) e (sdep hi (by kernel_rfl)) (by decide)
  ·obtain ⟨_,_,e⟩:=opv (k:=13) (d:=some 22) (op:=.buildSlice 158 1 #[(0,.tmp 21)]) (t:=158) ho (by kernel_rfl)
   exact sj_parts (k:=12) hJ (by omega) (by omega) e (sdep hi (by kernel_rfl))
  ·obtain ⟨_,_,e⟩:=opv (k:=14) (d:=some 23) (op:=.call { callee:=.value (.func 32),args:=#[.tmp 19,.tmp 22],argTypes:=#[28,158] }) (t:=28) ho (by kernel_rfl)
   exact sj_call (k:=13) (j:=2) hJ (by omega) rfl e (sdep hi (by kernel_rfl)) (sdep hi (by kernel_rfl)) (by decide)
  ·obtain ⟨_,_,e⟩:=opv (k:=15) (d:=some 24) (op:=.load 28 (.tmp 5)) (t:=28) ho (by kernel_rfl)
   exact sj_load (k:=15) hJ (by omega) (by omega) e
  ·obtain ⟨_,_,e⟩:=opv (k:=16) (d:=some 25) (op:=.buildSlice 41 4 #[(0,.const (.int .u8 106)),(1,.const (.int .u8 111)),(2,.const (.int .u8 105)),(3,.const (.int .u8 110))]) (t:=41) ho (by kernel_rfl)
   exact sj_lit (k:=16) (vals:=#[(0,.int .u8 106),(1,.int .u8 111),(2,.int .u8 105),(3,.int .u8 110)]) hJ (by omega) (by omega) e rfl (by intro w; kernel_rfl)
  ·obtain ⟨_,_,e⟩:=opv (k:=17) (d:=some 26) (op:=.convert 41 41 (.tmp 25)) (t:=41) ho (by kernel_rfl)
   exact sj_conv (k:=16) hJ (by omega) (by omega) e (sdep hi (by kernel_rfl)) (by decide)
  ·obtain ⟨_,_,e⟩:=opv (k:=18) (d:=some 27) (op:=.buildSlice 158 1 #[(0,.tmp 26)]) (t:=158) ho (by kernel_rfl)
   exact sj_parts (k:=17) hJ (by omega) (by omega) e (sdep hi (by kernel_rfl))
  ·obtain ⟨_,_,e⟩:=opv (k:=19) (d:=some 28) (op:=.call { callee:=.value (.func 32),args:=#[.tmp 24,.tmp 27],argTypes:=#[28,158] }) (t:=28) ho (by kernel_rfl)
   exact sj_call (k:=18) (j:=3) hJ (by omega) rfl e (sdep hi (by kernel_rfl)) (sdep hi (by kernel_rfl)) (by decide)
  ·obtain ⟨_,_,e⟩:=opv (k:=20) (d:=some 29) (op:=.load 28 (.tmp 5)) (t:=28) ho (by kernel_rfl)
   exact sj_load (k:=20) hJ (by omega) (by omega) e
  ·obtain ⟨_,_,e⟩:=opv (k:=21) (d:=some 30) (op:=.buildSlice 41 5 #[(0,.const (.int .u8 116)),(1,.const (.int .u8 111)),(2,.const (.int .u8 107)),(3,.const (.int .u8 101)),(4,.const (.int .u8 110))]) (t:=41) ho (by kernel_rfl)
   exact sj_lit (k:=21) (vals:=#[(0,.int .u8 116),(1,.int .u8 111),(2,.int .u8 107),(3,.int .u8 101),(4,.int .u8 110)]) hJ (by omega) (by omega) e rfl (by intro w; kernel_rfl)
  ·obtain ⟨_,_,e⟩:=opv (k:=22) (d:=some 31) (op:=.convert 41 41 (.tmp 30)) (t:=41) ho (by kernel_rfl)
   exact sj_conv (k:=21) hJ (by omega) (by omega) e (sdep hi (by kernel_rfl)) (by decide)
  ·obtain ⟨_,_,e⟩:=opv (k:=23) (d:=some 32) (op:=.buildSlice 158 1 #[(0,.tmp 31)]) (t:=158) ho (by kernel_rfl)
   exact sj_parts (k:=22) hJ (by omega) (by omega) e (sdep hi (by kernel_rfl))
  ·obtain ⟨_,_,e⟩:=opv (k:=24) (d:=some 33) (op:=.call { callee:=.value (.func 33),args:=#[.tmp 29,.tmp 32],argTypes:=#[28,158] }) (t:=25) ho (by kernel_rfl)
   exact sj_sum hJ e (sdep hi (by kernel_rfl)) (sdep hi (by kernel_rfl))
  ·obtain ⟨_,_,e⟩:=opv (k:=25) (d:=some 34) (op:=.convert 25 26 (.tmp 33)) (t:=26) ho (by kernel_rfl)
   exact sj_wrap hJ e (sdep hi (by kernel_rfl))
  ·obtain ⟨_,_,e⟩:=opv (k:=26) (d:=some 35) (op:=.build 56 #[(0,.tmp 13),(1,.tmp 18),(2,.tmp 23),(3,.tmp 28),(4,.tmp 34)]) (t:=56) ho (by kernel_rfl)
   exact sj_build hJ e (sdep hi (by kernel_rfl)) (sdep hi (by kernel_rfl)) (sdep hi (by kernel_rfl)) (sdep hi (by kernel_rfl)) (sdep hi (by kernel_rfl))
  ·obtain ⟨_,_,e⟩:=opv (k:=27) (d:=none) (op:=.store 56 (.tmp 4) (.tmp 35)) (t:=0) ho (by kernel_rfl)
   exact sj_store hJ e (sdep hi (by kernel_rfl))
 ·refine h.rdG (B:=a4) ?_
  (repeat apply exi)
  apply exr
  exact hk _ h.drop
end
end Go.Br
