/- The core: whole bodies of functions, and their calls. -/
import Derived.Test.YtmglifmopjedbaaGreatBrReg
set_option linter.unusedVariables false
set_option linter.unusedSimpArgs false
namespace Go.Br
open Go
inductive Plan where
 | nil
 | s (a b : Plan)
 | cut (slots : List (Nat × TypeId)) (a b : Plan)
 | loop (slots : List (Nat × TypeId)) (a : Plan)
 | c (a b : Plan)
 | u (a : Plan)
 | inv
def leafOf (P : Program) (t : TypeId) : Leaf :=
 match leafsOf P 1 t with
 | some [L] => L
 | _ => .any
def LRel : Leaf -> Type -> Type
 | .it _,R => Int -> R
 | .bo,R => Bool -> R
 | .st,R => ByteArray -> R
 | .pt,R => Option Addr -> R
 | .sl,R => Option Addr -> Nat -> Nat -> R
 | .any,R => Value -> R
def LRels : List Leaf -> Type -> Type
 | [],R => R
 | l :: r,R => LRel l (LRels r R)
def partsOf (P : Program) (t : TypeId) : Option (List Leaf) :=
 match P.underlying t with
 | some (.struct _) => (match leafsOf P 9 t with
  | some L => bif Nat.ble L.length few then some L else none
  | none => none)
 | _ => none
inductive Shp where
 | one (l : Leaf)
 | many (l : List Leaf)
def shpOf (P : Program) (t : TypeId) : Shp:=match partsOf P t with
 | some L => .many L
 | none => .one (leafOf P t)
def SRel : Shp -> Type -> Type
 | .one l,R => LRel l R
 | .many l,R => LRels l R
def Rel (P : Program) : List (Nat × TypeId) -> Type
  | [] => World -> Prop
  | (_,t) :: r => SRel (shpOf P t) (Rel P r)
def allLeaf {X : Type} : (L : Leaf) -> LRel L X -> (Value -> X -> Prop) -> Prop
 | .it k,R,K => ∀ x : Int,K (.int k x) (R x)
 | .bo,R,K => ∀ x : Bool,K (.bool x) (R x)
 | .st,R,K => ∀ x : ByteArray,K (.string x) (R x)
 | .pt,R,K => ∀ x : Option Addr,K (.pointer x) (R x)
 | .sl,R,K => ∀ (x : Option Addr) (n c : Nat),K (.slice x n c) (R x n c)
 | .any,R,K => ∀ x : Value,K x (R x)
def allLeafs {X : Type} : (L : List Leaf) -> LRels L X -> (List Value -> X -> Prop) -> Prop
 | [],R,K => K [] R
 | l :: r,R,K => allLeaf l R fun v R' => allLeafs r R' fun vs R'' => K (v :: vs) R''
def allS {X : Type} : (s : Shp) -> SRel s X -> (Value -> X -> Prop) -> Prop
 | .one l,R,K => allLeaf l R K
 | .many l,R,K => allLeafs l R fun vs R' => K (.agg vs.toArray) R'
def allRel (P : Program) : (L : List (Nat × TypeId)) -> Rel P L -> Env -> (Env -> (World -> Prop) -> Prop) -> Prop
  | [],R,ρ,K => K ρ R
  | (d,t) :: r,R,ρ,K => allS (shpOf P t) R fun v R' => allRel P r R' ((d,v) :: ρ) K
def atLeaf {X : Type} : (L : Leaf) -> LRel L X -> Value -> (X -> Prop) -> Prop
 | .it k,R,v,K => (match v with | .int k' x => bif sameK k k' then K (R x) else False | _ => False)
 | .bo,R,v,K => (match v with | .bool x => K (R x) | _ => False)
 | .st,R,v,K => (match v with | .string x => K (R x) | _ => False)
 | .pt,R,v,K => (match v with | .pointer x => K (R x) | _ => False)
 | .sl,R,v,K => (match v with | .slice x n c => K (R x n c) | _ => False)
 | .any,R,v,K => K (R v)
def atLeafs {X : Type} : (L : List Leaf) -> LRels L X -> List Value -> (X -> Prop) -> Prop
 | [],R,[],K => K R
 | l :: r,R,v :: vs,K => atLeaf l R v fun R' => atLeafs r R' vs K
 | _,_,_,_ => False
def atS {X : Type} : (s : Shp) -> SRel s X -> Value -> (X -> Prop) -> Prop
 | .one l,R,v,K => atLeaf l R v K
 | .many l,R,v,K => (match v with | .agg cs => atLeafs l R cs.toList K | _ => False)
def atRel (P : Program) : (L : List (Nat × TypeId)) -> Rel P L -> Env -> (World -> Prop) -> (World -> Prop)
  | [],R,ρ,_ => R
  | (d,t) :: r,R,ρ,F => fun w => (match eget ρ d with
    | some v => atS (shpOf P t) R v fun R' => atRel P r R' ρ F w
    | none => False)
def keepEnv (D : List Nat) (ρ : Env) : Env:=ρ.filter fun p => !(D.contains p.1)
def asn : Code -> List Nat
 | .region _ ops _ => dstsOf ops.toList
 | .seq a b => asn a ++ asn b
 | .cond _ a b => asn a ++ asn b
 | .block _ a | .loop a | .scope a => asn a
 | _ => []
def JOIN (P : Program) (L : List (Nat × TypeId)) (R : Rel P L) (ρ : Env) (w : World) : Prop:=atRel P L R ρ (fun _ => False) w
def vcRegion (P : Program) (T : Tab) (n : Nat) (ops : Array Oper) (draw : Bool) (γ : Gam) (ρ : Env) (w : World) (K : Gam -> Env -> World -> Prop) : Prop :=
  bif draw then bif Region.noSelect ops then
      (let W:=befL ops.toList #[]
       let L:=Array.replicate ops.size false
       startK (simR P ops W ops.size L [] false) (w.drew) fun S R => vcD P T n ops W ops.size S R L γ ρ (w.drew) K)
    else False
  else vcOps P T n ops ops.toList γ ρ w K
def vc (P : Program) (T : Tab) (n : Nat) : Plan -> Code -> Gam -> Env -> World -> (Ex -> Gam -> Env -> World -> Prop) -> Prop
 | _,.skip,γ,ρ,w,K => K .normal γ ρ w
 | _,.label _,γ,ρ,w,K => K .normal γ ρ w
 | .inv,.region _ ops draw,γ,ρ,w,K => bif draw then vcInv P T n ops ρ (w.drew) fun ρ w => K .normal [] ρ w else False
 | _,.region _ ops draw,γ,ρ,w,K => vcRegion P T n ops draw γ ρ w fun γ ρ w => K .normal γ ρ w
 | .cut slots p q,.seq a b,γ,ρ,w,K => ∃ R : Rel P slots,
   vc P T n p a γ ρ w (fun e γ' ρ' w' => match e with
    | .normal => JOIN P slots R ρ' w'
    | e => K e γ' ρ' w') /\
   allRel P slots R (keepEnv (asn a) ρ) fun ρ' R' => ∀ w',R' w' -> vc P T n q b [] ρ' w' K
 | .s p q,.seq a b,γ,ρ,w,K => vc P T n p a γ ρ w fun e γ' ρ' w' => match e with
   | .normal => vc P T n q b γ' ρ' w' K
   | e => K e γ' ρ' w'
 | _,.seq a b,γ,ρ,w,K => vc P T n .nil a γ ρ w fun e γ' ρ' w' => match e with
   | .normal => vc P T n .nil b γ' ρ' w' K
   | e => K e γ' ρ' w'
 | p,.cond c a b,γ,ρ,w,K => (match c with
   | .tmp t => askK n t γ ρ fun x γ ρ => bif x then vc P T n (match p with | .c q _ => q | _ => .nil) a γ ρ w K else vc P T n (match p with | .c _ q => q | _ => .nil) b γ ρ w K
   | .const (.bool x) => bif x then vc P T n (match p with | .c q _ => q | _ => .nil) a γ ρ w K else vc P T n (match p with | .c _ q => q | _ => .nil) b γ ρ w K
   | _ => False)
 | p,.block id a,γ,ρ,w,K => vc P T n (match p with | .u q => q | _ => .nil) a γ ρ w fun e γ ρ w => match e with
   | .exit id' => bif Nat.beq id' id then K .normal γ ρ w else K (.exit id') γ ρ w
   | e => K e γ ρ w
 | p,.scope a,γ,ρ,w,K => vc P T n (match p with | .u q => q | _ => .nil) a γ ρ w K
 | .loop slots p,.loop a,γ,ρ,w,K => ∃ I : Nat -> Rel P slots,
   (∃ m,JOIN P slots (I m) ρ w) /\
   ∀ m,allRel P slots (I m) (keepEnv (asn a) ρ) fun ρ' I' => ∀ w',I' w' -> vc P T n p a [] ρ' w' fun e γ'' ρ'' w'' => match e with
    | .normal => ∃ m',m' < m /\ JOIN P slots (I m') ρ'' w''
    | e => K e γ'' ρ'' w''
 | _,.exit id,γ,ρ,w,K => K (.exit id) γ ρ w
 | _,.ret,γ,ρ,w,K => K .ret γ ρ w
 | _,_,_,_,_,_ => False
theorem eget_keep {D : List Nat} {ρ : Env} {t : Nat} {v : Value} (h : eget (keepEnv D ρ) t = some v) : D.contains t = false /\ eget ρ t = some v:=by
 induction ρ with
 | nil => simp [keepEnv,eget] at h
 | cons p r ih =>
  obtain ⟨d,u⟩:=p
  unfold keepEnv at h ih
  simp only [List.filter_cons] at h
  cases hd : D.contains d with
  | true =>
   simp only [hd,Bool.not_true,Bool.false_eq_true,if_false] at h
   obtain ⟨h1,h2⟩:=ih h
   have : d ≠ t:=fun e => by subst e; rw [hd] at h1; cases h1
   exact ⟨h1,by simp only [eget,nbeq_ff this,cond_false]; exact h2⟩
  | false =>
   simp only [hd,Bool.not_false,if_true,eget] at h
   by_cases e : d = t
   ·subst e
    simp at h; subst h
    exact ⟨hd,by simp [eget]⟩
   ·simp only [nbeq_ff e,cond_false] at h
    obtain ⟨h1,h2⟩:=ih h
    exact ⟨h1,by simp only [eget,nbeq_ff e,cond_false]; exact h2⟩
theorem atLeaf_all {X : Type} {L : Leaf} {R : LRel L X} {v : Value} {F : X -> Prop} {K : Value -> X -> Prop} (h : atLeaf L R v F) (hk : allLeaf L R K) : ∃ R',F R' /\ K v R':=by
 cases L <;> simp only [atLeaf,allLeaf] at h hk
 case it k =>
  split at h
  ·rename_i k' x
   cases hs : sameK k k' with
   | true => simp only [hs,cond_true] at h; obtain rfl:=sameK_eq hs; exact ⟨_,h,hk x⟩
   | false => simp only [hs,cond_false] at h
  ·exact h.elim
 case any => exact ⟨_,h,hk _⟩
 case sl =>
  split at h
  ·exact ⟨_,h,hk _ _ _⟩
  ·exact h.elim
 all_goals
  split at h
  ·exact ⟨_,h,hk _⟩
  ·exact h.elim
theorem atLeafs_all {X : Type} : ∀ {L : List Leaf} {R : LRels L X} {vs : List Value} {F : X -> Prop} {K : List Value -> X -> Prop},atLeafs L R vs F -> allLeafs L R K -> ∃ R',F R' /\ K vs R'
 | [],R,[],F,K,h,hk => ⟨R,h,hk⟩
 | [],R,_ :: _,F,K,h,hk => h.elim
 | _ :: _,R,[],F,K,h,hk => h.elim
 | l :: r,R,v :: vs,F,K,h,hk => by
  obtain ⟨R',h1,h2⟩:=atLeaf_all h hk
  obtain ⟨R'',h3,h4⟩:=atLeafs_all h1 h2
  exact ⟨R'',h3,h4⟩
theorem atS_all {X : Type} {s : Shp} {R : SRel s X} {v : Value} {F : X -> Prop} {K : Value -> X -> Prop} (h : atS s R v F) (hk : allS s R K) : ∃ R',F R' /\ K v R':=by
 cases s with
 | one l => exact atLeaf_all h hk
 | many l =>
  cases v with
  | agg cs =>
   obtain ⟨R',h1,h2⟩:=atLeafs_all (L:=l) (R:=R) (vs:=cs.toList) (F:=F) (K:=fun vs R' => K (.agg vs.toArray) R') h hk
   exact ⟨R',h1,by simpa using h2⟩
  | _ => exact h.elim
theorem join_all {P : Program} {n : Nat} {a : Act} {γ : Gam} {ρ0 : Env} {K : Env -> (World -> Prop) -> Prop} {w : World} (hs : Sim n a γ ρ0) :
    ∀ (L : List (Nat × TypeId)) (R : Rel P L) (ρ : Env),(∀ t v,eget ρ t = some v -> a.tmps.getD t undef = v) -> JOIN P L R ρ0 w -> allRel P L R ρ K ->
      ∃ ρ' R',Sim n a [] ρ' /\ R' w /\ K ρ' R'
  | [],R,ρ,he,hj,hk => ⟨ρ,R,⟨hs.size,hs.defers,he,fun t b h => by simp [gget] at h⟩,hj,hk⟩
  | (d,t) :: r,R,ρ,he,hj,hk => by
    unfold JOIN atRel at hj
    unfold allRel at hk
    split at hj
    · rename_i v hv
      obtain ⟨R',h1,h2⟩:=atS_all hj hk
      refine join_all hs r R' ((d,v) :: ρ) (fun t u hu => ?_) h1 h2
      simp only [eget] at hu
      by_cases e : d = t
      · subst e; simp at hu; subst hu; exact hs.env _ _ hv
      · simp only [nbeq_ff e,cond_false] at hu; exact he t u hu
    · exact hj.elim
theorem Post.frm {n : Nat} {D E : List Nat} {a0 a1 : Act} {K : Ex -> Gam -> Env -> World -> Prop} (h : Frm E a1 a0) (hD : ∀ t,E.contains t = false -> D.contains t = false) : ∀ e a w,Post n D a0 K e a w -> Post n E a1 K e a w:=by
 intro e a w hp
 cases e <;> simp only [Post] at hp ⊢ <;> first | exact hp | (obtain ⟨γ,ρ,h1,h2,h3⟩:=hp; exact ⟨γ,ρ,h1,h.trans (h2.mono hD),h3⟩)
def regsOf : Code -> List (Array Oper)
 | .region _ ops _ => [ops]
 | .seq a b => regsOf a ++ regsOf b
 | .cond _ a b => regsOf a ++ regsOf b
 | .block _ a | .loop a | .scope a => regsOf a
 | _ => []
def regAt (f : Func) (k : Nat) : Array Oper:=match f.body with
 | some c => (regsOf c).getD k #[]
 | none => #[]
theorem not_app_l {A B : List Nat} {t : Nat} (h : (A ++ B).contains t = false) : A.contains t = false:=by
 simp only [List.contains_eq_mem,List.mem_append,decide_eq_false_iff_not,not_or] at h ⊢; exact h.1
theorem not_app_r {A B : List Nat} {t : Nat} (h : (A ++ B).contains t = false) : B.contains t = false:=by
 simp only [List.contains_eq_mem,List.mem_append,decide_eq_false_iff_not,not_or] at h ⊢; exact h.2
theorem vcRegion_says {P : Program} {T : Tab} (hT : TabOk P T) {n id : Nat} {ops : Array Oper} {draw : Bool} {a : Act} {γ : Gam} {ρ : Env} {w : World} {K : Ex -> Gam -> Env -> World -> Prop}
  (hs : Sim n a γ ρ) (h : vcRegion P T n ops draw γ ρ w fun γ ρ w => K .normal γ ρ w) : (Code.region id ops draw).wp P (Post n (asn (.region id ops draw)) a K) a w:=by
 unfold vcRegion at h
 cases draw with
 | false =>
  simp only [cond_false] at h
  refine wp_region ?_
  have:=vcOps_says hT (Q:=Post n (asn (.region id ops false)) a K) ops.toList 0 a γ ρ w (fun j => by simp) hs h fun a' γ' ρ' w' h1 h2 h3 => ⟨γ',ρ',h1,h2,h3⟩
  simpa using this
 | true =>
  simp only [cond_true] at h
  cases hn : Region.noSelect ops with
  | false => simp only [hn,cond_false] at h
  | true =>
   simp only [hn,cond_true] at h
   refine wp_region_any hT.mixed ?_
   have hW : ∀ j i,waitsB (befL ops.toList #[]) j i = true -> Waits ops j i:=befL_says ops.toList #[] (fun j => by simp) (fun j i hji => by simp at hji)
   have hc : Closed ops (Array.replicate ops.size false):=by
    intro j hj
    simp only [Array.getD_eq_getD_getElem?,Array.getElem?_replicate] at hj
    split at hj <;> simp at hj
   have key : ∀ S R,inS S w.drew w.drew -> vcD P T n ops (befL ops.toList #[]) ops.size S R (Array.replicate ops.size false) γ ρ w.drew (fun γ ρ w => K .normal γ ρ w) ->
     wpAny P .any ops (Post n (asn (.region id ops true)) a K) ops.size (Array.replicate ops.size false) a w.drew:=fun S R hS hv =>
    (vcD_says hT hW hn (fun c a w hp => hp) (a0:=a) (fun a' γ' ρ' w' h1 h2 h3 => ⟨γ',ρ',h1,h2,h3⟩) ops.size S R _ a γ ρ w.drew hc hs (Frm.refl _ _) hS hv).any
   unfold startK at h
   split at h
   ·obtain ⟨S,hS,h⟩:=h; exact key (some S) _ hS h
   ·exact key none _ rfl h
theorem wp_loopG {P : Program} {c : Code} {Q : Exit -> Act -> World -> Prop} {a : Act} {w : World} (J : Nat -> Act -> World -> Prop) (h0 : ∃ m,J m a w)
  (round : ∀ m a w,J m a w -> c.wp P (Exit.then (fun a' w' => ∃ m',m' < m /\ J m' a' w') Q) a w) : (Code.loop c).wp P Q a w:=by
 intro b k cs
 have key : ∀ m a w,J m a w -> ∃ e a' w',Q e a' w' /\ Arrives P (lone (b.at a (.code c :: .inLoop c :: k)) cs w) b k cs e a' w':=by
  intro m
  induction m using Nat.strongRecOn with
  | _ m ih =>
   intro a w hJ
   obtain ⟨e,a₁,w₁,hq,harr⟩:=round m a w hJ b (.inLoop c :: k) cs
   cases e with
   | normal =>
    obtain ⟨m',hlt,hJ'⟩:=hq
    obtain ⟨e₂,a₂,w₂,hq₂,harr₂⟩:=ih m' hlt a₁ w₁ hJ'
    exact ⟨e₂,a₂,w₂,hq₂,.of_steps (Steps.trans harr (.one step_inLoop)) harr₂⟩
   | exit id => exact ⟨_,a₁,w₁,hq,.pass (x:=.inLoop c) rfl (fun _ _ => .inl (by simp)) harr⟩
   | goto l => exact ⟨_,a₁,w₁,hq,.pass (x:=.inLoop c) rfl (fun _ _ => .inl (by simp)) harr⟩
   | ret => exact ⟨_,a₁,w₁,hq,.pass (x:=.inLoop c) rfl (fun _ _ => .inl (by simp)) harr⟩
   | panic ch => exact ⟨_,a₁,w₁,hq,.pass (x:=.inLoop c) rfl (fun _ _ => .inl (by simp)) harr⟩
   | outgrown => exact ⟨_,a₁,w₁,hq,.pass (x:=.inLoop c) rfl (fun _ _ => .inl (by simp)) harr⟩
 obtain ⟨m,hm⟩:=h0
 obtain ⟨e,a',w',hq,harr⟩:=key m a w hm
 exact ⟨e,a',w',hq,.of_steps (.one step_loop) harr⟩
theorem vc_says {P : Program} {T : Tab} (hT : TabOk P T) {n : Nat} : ∀ (c : Code) (p : Plan) (a : Act) (γ : Gam) (ρ : Env) (w : World) (K : Ex -> Gam -> Env -> World -> Prop),
  Sim n a γ ρ -> vc P T n p c γ ρ w K -> c.wp P (Post n (asn c) a K) a w:=by
 intro c
 induction c with
 | skip => intro p a γ ρ w K hs h; exact wp_skip ⟨γ,ρ,hs,Frm.refl _ _,by cases p <;> exact h⟩
 | label l => intro p a γ ρ w K hs h; exact wp_label ⟨γ,ρ,hs,Frm.refl _ _,by cases p <;> exact h⟩
 | region id ops draw =>
  intro p a γ ρ w K hs h
  cases p
  case inv =>
   have h : (bif draw then vcInv P T n ops ρ (w.drew) fun ρ w => K .normal [] ρ w else False):=h
   cases draw with
   | false => exact h.elim
   | true =>
    obtain ⟨J,hJ0,hJ⟩:=(h : vcInv P T n ops ρ (w.drew) fun ρ w => K .normal [] ρ w)
    refine wp_region_any hT.mixed ?_
    exact vcInv_says hT (Q:=Post n (asn (.region id ops true)) a K) (a0:=a) (fun a' ρ' w' h1 h2 h3 => ⟨[],ρ',h1,h2,h3⟩) hJ ops.size _ a ρ w.drew (Nat.le_trans List.count_le_length (by simp)) hs.bare (Frm.refl _ _) hJ0
  all_goals exact vcRegion_says hT hs h
 | exit id => intro p a γ ρ w K hs h; exact wp_exit ⟨γ,ρ,hs,Frm.refl _ _,by cases p <;> exact h⟩
 | ret => intro p a γ ρ w K hs h; exact wp_ret ⟨γ,ρ,hs,Frm.refl _ _,by cases p <;> exact h⟩
 | rangeFunc f ps x y => intro p a γ ρ w K hs h; cases p <;> exact h.elim
 | goto l => intro p a γ ρ w K hs h; cases p <;> exact h.elim
 | refuse why => intro p a γ ρ w K hs h; cases p <;> exact h.elim
 | seq x y ihx ihy =>
  intro p a γ ρ w K hs h
  have plain : ∀ p q,vc P T n p x γ ρ w (fun e γ' ρ' w' => match e with | .normal => vc P T n q y γ' ρ' w' K | e => K e γ' ρ' w') ->
    (Code.seq x y).wp P (Post n (asn (.seq x y)) a K) a w:=by
   intro p q h
   refine wp_seq (wp_mono (ihx p a γ ρ w _ hs h) fun e a' w' hp => ?_)
   cases e with
   | normal =>
    obtain ⟨γ',ρ',h1,h2,h3⟩:=hp
    exact wp_mono (ihy q a' γ' ρ' w' K h1 h3) (Post.frm (h2.mono fun t ht => not_app_l ht) fun t ht => not_app_r ht)
   | exit id => obtain ⟨γ',ρ',h1,h2,h3⟩:=hp; exact ⟨γ',ρ',h1,h2.mono fun t ht => not_app_l ht,h3⟩
   | ret => obtain ⟨γ',ρ',h1,h2,h3⟩:=hp; exact ⟨γ',ρ',h1,h2.mono fun t ht => not_app_l ht,h3⟩
   | goto l => exact hp
   | panic c => exact hp
   | outgrown => exact hp.elim
  cases p with
  | cut slots p q =>
   obtain ⟨R,h1,h2⟩:=h
   refine wp_seq (wp_mono (ihx p a γ ρ w _ hs h1) fun e a' w' hp => ?_)
   cases e with
   | normal =>
    obtain ⟨γ',ρ',hs',hf,hj⟩:=hp
    obtain ⟨ρ'',R',hs'',hR,hk⟩:=join_all hs' slots R (keepEnv (asn x) ρ) (fun t v hv => by
     obtain ⟨hD,hv⟩:=eget_keep hv
     rw [hf t hD]; exact hs.env t v hv) hj h2
    exact wp_mono (ihy q a' [] ρ'' w' K hs'' (hk w' hR)) (Post.frm (hf.mono fun t ht => not_app_l ht) fun t ht => not_app_r ht)
   | exit id => obtain ⟨γ',ρ',h1,h2,h3⟩:=hp; exact ⟨γ',ρ',h1,h2.mono fun t ht => not_app_l ht,h3⟩
   | ret => obtain ⟨γ',ρ',h1,h2,h3⟩:=hp; exact ⟨γ',ρ',h1,h2.mono fun t ht => not_app_l ht,h3⟩
   | goto l => exact hp
   | panic c => exact hp
   | outgrown => exact hp.elim
  | nil => exact plain _ _ h
  | s p q => exact plain _ _ h
  | loop _ _ => exact plain _ _ h
  | c _ _ => exact plain _ _ h
  | u _ => exact plain _ _ h
  | inv => exact plain _ _ h
 | cond c x y ihx ihy =>
  intro p a γ ρ w K hs h
  have key : ∀ q r,(match c with
    | .tmp t => askK n t γ ρ fun z γ ρ => bif z then vc P T n q x γ ρ w K else vc P T n r y γ ρ w K
    | .const (.bool z) => bif z then vc P T n q x γ ρ w K else vc P T n r y γ ρ w K
    | _ => False) -> (Code.cond c x y).wp P (Post n (asn (.cond c x y)) a K) a w:=by
   intro q r h
   cases c with
   | tmp t =>
    obtain ⟨z,γ',ρ',_,hv,hs',hk⟩:=hs.askK h
    have he : a.eval (.tmp t) = .bool z:=by simpa [Act.eval] using hv
    cases z with
    | true => exact wp_cond_true he (wp_mono (ihx q a γ' ρ' w K hs' hk) (Post.frm (Frm.refl _ _) fun t ht => not_app_l ht))
    | false => exact wp_cond_false he (wp_mono (ihy r a γ' ρ' w K hs' hk) (Post.frm (Frm.refl _ _) fun t ht => not_app_r ht))
   | const v =>
    cases v with
    | bool z =>
     cases z with
     | true => exact wp_cond_true rfl (wp_mono (ihx q a γ ρ w K hs h) (Post.frm (Frm.refl _ _) fun t ht => not_app_l ht))
     | false => exact wp_cond_false rfl (wp_mono (ihy r a γ ρ w K hs h) (Post.frm (Frm.refl _ _) fun t ht => not_app_r ht))
    | _ => exact h.elim
   | _ => exact h.elim
  cases p <;> exact key _ _ h
 | block id x ih =>
  intro p a γ ρ w K hs h
  have key : ∀ q,vc P T n q x γ ρ w (fun e γ ρ w => match e with
    | .exit id' => bif Nat.beq id' id then K .normal γ ρ w else K (.exit id') γ ρ w
    | e => K e γ ρ w) -> (Code.block id x).wp P (Post n (asn (.block id x)) a K) a w:=by
   intro q h
   refine wp_block (wp_mono (ih q a γ ρ w _ hs h) fun e a' w' hp => ?_)
   cases e with
   | exit id' =>
    obtain ⟨γ',ρ',h1,h2,h3⟩:=hp
    unfold Exit.inBlock
    by_cases e : id' = id
    ·subst e; simp at h3; simp only [if_true]; exact ⟨γ',ρ',h1,h2,h3⟩
    ·simp only [nbeq_ff e,cond_false] at h3; simp only [e,if_false]; exact ⟨γ',ρ',h1,h2,h3⟩
   | normal => exact hp
   | ret => exact hp
   | goto l => exact hp
   | panic c => exact hp
   | outgrown => exact hp.elim
  cases p <;> exact key _ h
 | scope x ih =>
  intro p a γ ρ w K hs h
  have key : ∀ q,vc P T n q x γ ρ w K -> (Code.scope x).wp P (Post n (asn (.scope x)) a K) a w:=by
   intro q h
   refine wp_scope_straight (wp_mono (ih q a γ ρ w K hs h) fun e a' w' hp => ?_)
   cases e <;> exact hp
  cases p <;> exact key _ h
 | loop x ih =>
  intro p a γ ρ w K hs h
  cases p with
  | loop slots p =>
   obtain ⟨I,⟨m,hm⟩,hr⟩:=h
   refine wp_loopG (fun m a' w' => Frm (asn x) a a' /\ ∃ γ' ρ',Sim n a' γ' ρ' /\ JOIN P slots (I m) ρ' w') ⟨m,Frm.refl _ _,γ,ρ,hs,hm⟩ fun m a1 w1 hJ => ?_
   obtain ⟨hf,γ',ρ',hs',hj⟩:=hJ
   obtain ⟨ρ'',I',hs'',hI,hk⟩:=join_all hs' slots (I m) (keepEnv (asn x) ρ) (fun t v hv => by
     obtain ⟨hD,hv⟩:=eget_keep hv
     rw [hf t hD]; exact hs.env t v hv) hj (hr m)
   refine wp_mono (ih p a1 [] ρ'' w1 _ hs'' (hk w1 hI)) fun e a' w' hp => ?_
   cases e with
   | normal =>
    obtain ⟨γ2,ρ2,h1,h2,m',hlt,h3⟩:=hp
    exact ⟨m',hlt,hf.trans h2,γ2,ρ2,h1,h3⟩
   | exit id => obtain ⟨γ2,ρ2,h1,h2,h3⟩:=hp; exact ⟨γ2,ρ2,h1,hf.trans h2,h3⟩
   | ret => obtain ⟨γ2,ρ2,h1,h2,h3⟩:=hp; exact ⟨γ2,ρ2,h1,hf.trans h2,h3⟩
   | goto l => exact hp
   | panic c => exact hp
   | outgrown => exact hp.elim
  | _ => exact h.elim
/-! ### A function -/
def argEnv : Nat -> List Value -> Env
 | _,[] => []
 | i,v :: r => (i,v) :: argEnv (i + 1) r
def resK (P : Program) (ρ : Env) (w : World) : List ResultVar -> (List Value -> Prop) -> Prop
 | [],K => K []
 | .tmp t :: r,K => (match eget ρ t with
  | some v => resK P ρ w r fun vs => K (v :: vs)
  | none => False)
 | .cell t T :: r,K => (match eget ρ t with
  | some (.pointer (some a)) => RD P (loadVar T a) w fun v => asTy P T v fun v => resK P ρ w r fun vs => K (v :: vs)
  | _ => False)
def oneOf : List Value -> Value
 | [v] => v
 | vs => .tuple vs.toArray
def vcF (P : Program) (T : Tab) (f : Func) (p : Plan) (args : List Value) (w : World) (Q : Value -> World -> Prop) : Prop :=
 match f.body with
 | none => False
 | some c => bif Nat.ble args.length f.ntmps then vc P T f.ntmps p c [] (argEnv 0 args) w fun e _ ρ w' => match e with
   | .exit _ => False
   | _ => resK P ρ w' f.results.toList fun vs => Q (oneOf vs) w'
  else False
theorem argEnv_get : ∀ (l : List Value) (i t : Nat) (v : Value),eget (argEnv i l) t = some v -> i <= t /\ l[t - i]? = some v
 | [],i,t,v,h => by simp [argEnv,eget] at h
 | x :: r,i,t,v,h => by
  simp only [argEnv,eget] at h
  by_cases e : i = t
  ·subst e; simp at h; subst h; simp
  ·simp only [nbeq_ff e,cond_false] at h
   obtain ⟨h1,h2⟩:=argEnv_get r (i + 1) t v h
   refine ⟨by omega,?_⟩
   have : t - i = (t - (i + 1)) + 1:=by omega
   rw [this]; simpa using h2
theorem resK_says {P : Program} {n : Nat} {a : Act} {γ : Gam} {ρ : Env} (hs : Sim n a γ ρ) {w : World} : ∀ (l : List ResultVar) (K : List Value -> Prop),resK P ρ w l K ->
  ∃ vs,(l.mapM (m:=Sem) fun r => match r with
   | .tmp t => pure (a.tmps.getD t undef)
   | .cell b t => do loadVar t (<- asAddr (a.tmps.getD b undef))).run P w = .ok vs w /\ K vs
 | [],K,h => ⟨[],by simp,h⟩
 | .tmp t :: r,K,h => by
  unfold resK at h
  split at h
  ·rename_i v hv
   obtain ⟨vs,h1,h2⟩:=resK_says hs r _ h
   exact ⟨v :: vs,by simp only [List.mapM_cons,Sem.run_bind,Sem.run_pure,Result.andThen_ok,h1,hs.env _ _ hv],h2⟩
  ·exact h.elim
 | .cell t T :: r,K,h => by
  unfold resK at h
  split at h
  ·rename_i ad hv
   obtain ⟨v,hr,h⟩:=h
   obtain ⟨vs,h1,h2⟩:=resK_says hs r _ (asTy_out h)
   exact ⟨v :: vs,by simp only [List.mapM_cons,Sem.run_bind,Sem.run_pure,Result.andThen_ok,h1,hs.env _ _ hv,show (asAddr (.pointer (some ad)) : Sem Addr) = pure ad from rfl,hr],h2⟩
  ·exact h.elim
theorem calls_vc {P : Program} {T : Tab} (hT : TabOk P T) {g : FuncId} {f : Func} (hf : P.funcs[g]? = some f) {p : Plan} {args : List Value} {w : World} {Q : Value -> World -> Prop}
  (h : vcF P T f p args w Q) : Calls P g args.toArray w (Ret Q):=by
 unfold vcF at h
 split at h
 ·exact h.elim
 ·rename_i c hc
  cases hn : Nat.ble args.length f.ntmps with
  | false => simp only [hn,cond_false] at h
  | true =>
   simp only [hn,cond_true] at h
   have hle : args.length <= f.ntmps:=Nat.le_of_ble_eq_true hn
   refine calls_of_wp hf hc ?_
   have hs : Sim f.ntmps { tmps:=args.toArray ++ Array.replicate (f.ntmps - args.toArray.size) undef,defers:=[] } [] (argEnv 0 args):=by
    refine ⟨?_,rfl,?_,?_⟩
    ·simp; omega
    ·intro t v ht
     obtain ⟨_,h2⟩:=argEnv_get args 0 t v ht
     simp only [Nat.sub_zero] at h2
     have hlt : t < args.length:=by
      rcases Nat.lt_or_ge t args.length with h | h
      ·exact h
      ·rw [List.getElem?_eq_none h] at h2; cases h2
     simp only [Array.getD_eq_getD_getElem?]
     rw [Array.getElem?_append_left (by simpa using hlt)]
     simp [h2]
    ·intro t b ht; simp [gget] at ht
   refine wp_mono (vc_says hT c p _ [] (argEnv 0 args) w _ hs h) fun e a' w' hp => ?_
   have fin : ∀ γ ρ,Sim f.ntmps a' γ ρ -> resK P ρ w' f.results.toList (fun vs => Q (oneOf vs) w') -> a'.defers = [] /\ ∃ v,(results f a'.tmps).run P w' = .ok v w' /\ Ret Q (.returned v) w':=by
    intro γ ρ hs hk
    obtain ⟨vs,h1,h2⟩:=resK_says hs _ _ hk
    refine ⟨hs.defers,oneOf vs,?_,h2⟩
    unfold results
    rw [Array.mapM_eq_mapM_toList]
    simp only [Sem.run_bind,Sem.run_map]
    erw [h1]
    simp only [Result.andThen_ok,Sem.run_pure]
    congr 1
    match vs with
    | [] => rfl
    | [v] => rfl
    | u :: v :: r => simp [oneOf]
   cases e with
   | normal => obtain ⟨γ,ρ,h1,h2,h3⟩:=hp; exact fin γ ρ h1 h3
   | ret => obtain ⟨γ,ρ,h1,h2,h3⟩:=hp; exact fin γ ρ h1 h3
   | exit id => obtain ⟨γ,ρ,h1,h2,h3⟩:=hp; exact h3.elim
   | goto l => exact hp.elim
   | panic c => exact hp.elim
   | outgrown => exact hp.elim
theorem calls_vq (p : Plan) {P : Program} {T : Tab} (hT : TabOk P T) {g : FuncId} {f : Func} (hf : P.funcs[g]? = some f) {args : List Value} {w : World} {Q : Value -> World -> Prop} {N : Prop}
 (e : vcF P T f p args w Q = N) (h : N) : Calls P g args.toArray w (Ret Q):=calls_vc hT hf (p:=p) (e ▸ h)
abbrev QP : Type:=Value -> World -> Prop
end Go.Br
