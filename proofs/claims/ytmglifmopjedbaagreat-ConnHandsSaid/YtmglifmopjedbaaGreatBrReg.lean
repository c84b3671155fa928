/- The core: regions, in order and in whatever order they draw; whole bodies. -/
import Derived.Test.YtmglifmopjedbaaGreatBrVc
set_option linter.unusedVariables false
set_option linter.unusedSimpArgs false
namespace Go.Br
open Go
inductive Ex where
 | normal
 | exit (id : Nat)
 | ret
def Post (n : Nat) (D : List Nat) (a0 : Act) (K : Ex -> Gam -> Env -> World -> Prop) : Exit -> Act -> World -> Prop
 | .normal,a,w => ∃ γ ρ,Sim n a γ ρ /\ Frm D a0 a /\ K .normal γ ρ w
 | .exit id,a,w => ∃ γ ρ,Sim n a γ ρ /\ Frm D a0 a /\ K (.exit id) γ ρ w
 | .ret,a,w => ∃ γ ρ,Sim n a γ ρ /\ Frm D a0 a /\ K .ret γ ρ w
 | .outgrown,_,_ => False
 | .goto _,_,_ => False
 | .panic _,_,_ => False
structure TabOk (P : Program) (T : Tab) : Prop where
 fn : ∀ g, fnOk T g = true → ∃ f, P.funcs[g]? = some f ∧ f.body.isNone = false ∧ (f.name == "runtime.NumGoroutine") = false
 mixed : P.follows .mixedOrders = true
def Wp (P : Program) (o : Oper) (a : Act) (w : World) (next : Act -> World -> Prop) (Q : Exit -> Act -> World -> Prop) : Prop :=
 o.wp P a w next Q ∨ (o.asks P a w /\ LetsOut Q)
theorem impSem_says {P : Program} {n : Nat} {a : Act} {γ : Gam} {ρ : Env} (hs : Sim n a γ ρ) {o : Oper} {s : Sem Value} (h : impSem ρ o = some s) :
  execOp a.eval o = vnext s:=by
 obtain ⟨dst,op,type,pos,after,guard⟩:=o
 unfold impSem at h
 dsimp only at h
 split at h
 ·injection h with h; subst h; rfl
 ·split at h
  ·rename_i v hx; injection h with h; subst h; simp [execOp,hs.ev hx,vnext]
  ·cases h
 ·split at h
  ·rename_i parts _ vs hx
   injection h with h; subst h
   have e : Array.map (fun x => (x.1,a.eval x.2)) parts = vs.toArray:=by apply Array.ext'; simpa using evPart_map hs hx
   simp [execOp,e,vnext]
  ·cases h
 ·split at h
  ·rename_i v u hx hy; injection h with h; subst h; simp [execOp,hs.ev hx,hs.ev hy,vnext]
  ·cases h
 ·split at h
  ·rename_i v hx; injection h with h; subst h; simp [execOp,evOpt_map hs hx,vnext]
  ·cases h
 ·split at h
  ·rename_i v hx; injection h with h; subst h; simp [execOp,hs.ev hx,vnext]
  ·cases h
 ·split at h
  ·rename_i v hx; injection h with h; subst h; simp [execOp,hs.ev hx,vnext]
  ·cases h
 ·split at h
  ·rename_i v hx; injection h with h; subst h; simp [execOp,hs.ev hx,vnext]
  ·cases h
 ·split at h
  ·rename_i v u hx hy; injection h with h; subst h; simp [execOp,hs.ev hx,hs.ev hy,vnext]
  ·cases h
 ·rename_i c
  obtain ⟨callee,args,argTypes⟩:=c
  dsimp only at h
  split at h
  ·rename_i vs hx; injection h with h; subst h; simp [execOp,resolve,invoke,builtin,evsA hs hx,vnext]
  ·rename_i vs hx; injection h with h; subst h; simp [execOp,resolve,invoke,builtin,evsA hs hx,vnext]
  ·rename_i vs hx; injection h with h; subst h; simp [execOp,resolve,invoke,builtin,evsA hs hx,vnext]
  ·rename_i vs hx; injection h with h; subst h; simp [execOp,resolve,invoke,builtin,evsA hs hx,vnext]
  ·cases h
 ·cases h
theorem impUnit_says {P : Program} {n : Nat} {a : Act} {γ : Gam} {ρ : Env} (hs : Sim n a γ ρ) {o : Oper} {s : Sem Unit} (h : impUnit ρ o = some s) (w : World) :
  (execOp a.eval o).run P w = (do s; pure Next.skip : Sem Next).run P w:=by
 obtain ⟨dst,op,type,pos,after,guard⟩:=o
 unfold impUnit at h
 dsimp only at h
 split at h
 ·split at h
  ·rename_i ad v hx hy; injection h with h; subst h; simp [execOp,hs.ev hx,hs.ev hy,Instr.storeAt,Instr.sureAddr]
  ·cases h
 ·split at h
  ·rename_i v u z hx hy hz; injection h with h; subst h; simp [execOp,hs.ev hx,hs.ev hy,hs.ev hz]
  ·cases h
 ·split at h
  ·rename_i v u z hx hy hz; injection h with h; subst h; simp [execOp,hs.ev hx,hs.ev hy,hs.ev hz]
  ·cases h
 ·split at h
  ·rename_i v u z hx hy hz; injection h with h; subst h; simp [execOp,hs.ev hx,hs.ev hy,hs.ev hz]
  ·cases h
 ·cases h
theorem run_callFunc {P : Program} {g : FuncId} {f : Func} {args : Array Value} (hf : P.funcs[g]? = some f) (hb : f.body.isNone = false) (hn : (f.name == "runtime.NumGoroutine") = false) (w : World) :
  (callFunc g args).run P w = .ok (.enter g args) w := by
 have hn' : ¬ f.name = "runtime.NumGoroutine" := by simpa using hn
 have hb' : ¬ f.body = none := by cases hx : f.body <;> simp [hx] at hb ⊢
 simp [callFunc, hf, hn', hb']
theorem opImp_says {P : Program} {T : Tab} (hT : TabOk P T) {n : Nat} {w : World} {a : Act} {γ : Gam} {ρ : Env} (hs : Sim n a γ ρ) {o : Oper} {K : Gam -> Env -> World -> Prop}
  (h : opImp P T n o γ ρ w K) {next : Act -> World -> Prop} {Q : Exit -> Act -> World -> Prop}
  (hn : ∀ v γ' ρ' w',Sim n (a.put o.dst v) γ' ρ' -> K γ' ρ' w' -> next (a.put o.dst v) w') : Wp P o a w next Q:=by
 unfold opImp at h
 split at h
 ·rename_i s hu
  obtain ⟨w',hr,hk⟩:=h
  obtain ⟨γ',ρ',h1,h2⟩:=hs.putK hk
  refine .inl ?_
  unfold Oper.wp
  rw [impUnit_says hs hu]
  simp only [Sem.run_bind,hr,Result.andThen_ok,Sem.run_pure,Oper.upon]
  exact hn _ _ _ _ h1 h2
 ·split at h
  ·rename_i s hv
   have he:=impSem_says (P:=P) hs hv
   obtain ⟨v,w',hr,hk⟩:=h
   ·obtain ⟨γ',ρ',h1,h2⟩:=hs.putK (resTy_out hk)
    refine .inl ?_
    unfold Oper.wp
    rw [he]
    simp only [vnext,Sem.run_bind,hr,Result.andThen_ok,Sem.run_pure,Oper.upon]
    exact hn _ _ _ _ h1 h2
  ·rename_i x1 hn1 x2 hn2
   clear hn1 hn2
   clear x1 x2
   obtain ⟨dst,op,type,pos,after,guard⟩:=o
   dsimp only at h
   split at h
   ·rename_i c
    obtain ⟨callee,args,argTypes⟩:=c
    have enter : ∀ g xs,(execOp a.eval { dst,op:=.call { callee,args,argTypes },type,pos,after,guard }).run P w = .ok (.enter g xs) w ->
      Calls P g xs w (Ret fun v w' => asTy P type v fun v => putK n dst v γ ρ fun γ ρ => K γ ρ w') ->
      Wp P { dst,op:=.call { callee,args,argTypes },type,pos,after,guard } a w next Q:=by
     intro g xs hr hc
     refine .inl ?_
     unfold Oper.wp
     rw [hr]
     simp only [Oper.upon]
     refine hc.mono fun e w' he => ?_
     cases e with
     | returned v =>
      have he' : asTy P type v fun v => putK n dst v γ ρ fun γ ρ => K γ ρ w':=he
      obtain ⟨γ',ρ',h1,h2⟩:=hs.putK (asTy_out he')
      exact hn _ _ _ _ h1 h2
     | panicked c => exact he.elim
     | outgrown => exact he.elim
    dsimp only at h
    split at h
    ·rename_i g vs hvs
     cases hok : fnOk T g with
     | false =>
      simp only [hok,cond_false] at h
      obtain ⟨v,w',hr,hk⟩:=h
      obtain ⟨γ',ρ',h1,h2⟩:=hs.putK (asTy_out hk)
      have he : (execOp a.eval { dst,op:=.call { callee:=.value (.func g),args,argTypes },type,pos,after,guard }).run P w = .ok (.value v) w':=by
       simp [execOp,resolve,Deferred.ofValue,Act.eval,invoke,evsA hs hvs,hr]
      refine .inl ?_
      unfold Oper.wp
      rw [he]
      simp only [Oper.upon]
      exact hn _ _ _ _ h1 h2
     | true =>
      simp only [hok,cond_true] at h
      obtain ⟨f,hf,hb,hnm⟩:=hT.fn g hok
      refine enter g vs.toArray ?_ h
      simp [execOp,resolve,Deferred.ofValue,Act.eval,invoke,run_callFunc hf hb hnm,evsA hs hvs]
    ·rename_i f vs _ hvs
     split at h
     ·rename_i fv hfv
      obtain ⟨g,first,captured,rfl,hc,fn,hf,hb,hnm⟩:=h
      refine enter g _ ?_ hc
      have hb' : fn.body.isNone = false:=by cases hx : fn.body <;> simp [hx] at hb ⊢
      simp [execOp,resolve,Deferred.ofValue,hs.ev hfv,invoke,run_callFunc hf hb' (by simpa using hnm),evsA hs hvs]
     ·exact h.elim
    ·exact h.elim
   ·exact h.elim
/-! ### In order -/
def opAny (P : Program) (T : Tab) (n : Nat) (o : Oper) (γ : Gam) (ρ : Env) (w : World) (K : Gam -> Env -> World -> Prop) : Prop :=
 bif isImp P o then opImp P T n o γ ρ w K else opRead P n none w o γ ρ fun γ ρ => K γ ρ w
def vcOp (P : Program) (T : Tab) (n : Nat) (ops : Array Oper) (o : Oper) (γ : Gam) (ρ : Env) (w : World) (K : Gam -> Env -> World -> Prop) : Prop :=
 guardK n ops o γ ρ (fun γ ρ => opAny P T n o γ ρ w K) (fun γ ρ => putK n o.dst undef γ ρ fun γ ρ => K γ ρ w)
def exTyp (d j : Nat) : List Oper -> TypeId
 | [] => 0
 | q :: r => (match q.op with
  | .extract (.tmp t) i => bif Nat.beq t d && Nat.beq i j then q.type else exTyp d j r
  | _ => exTyp d j r)
def entTys (o : Oper) (r : List Oper) : Option (Operand × TypeId × TypeId) :=
 match o.op,o.dst,o.guard with
 | .entry x,some d,none => some (x,exTyp d 0 r,exTyp d 1 r)
 | _,_,_ => none
def asTy0 (P : Program) (t : TypeId) (v : Value) (K : Value -> Prop) : Prop:=bif Nat.beq t 0 then K v else asTy P t v K
theorem asTy0_out {P : Program} {t : TypeId} {v : Value} {K : Value -> Prop} (h : asTy0 P t v K) : K v:=by
 unfold asTy0 at h
 cases hb : Nat.beq t 0 with
 | true => rw [hb] at h; exact h
 | false => rw [hb] at h; exact asTy_out h
def entTy (P : Program) (t1 t2 : TypeId) (u : Value) (K : Value -> Prop) : Prop:=∃ k x : Value,u = .tuple #[k,x] /\ asTy0 P t1 k fun k => asTy0 P t2 x fun x => K (.tuple #[k,x])
theorem entTy_out {P : Program} {t1 t2 : TypeId} {u : Value} {K : Value -> Prop} (h : entTy P t1 t2 u K) : K u:=by
 obtain ⟨k,x,rfl,h⟩:=h
 exact asTy0_out (K:=fun x => K (.tuple #[k,x])) (asTy0_out (K:=fun k => asTy0 P t2 x fun x => K (.tuple #[k,x])) h)
def entK (P : Program) (n : Nat) (o : Oper) (x : Operand) (t1 t2 : TypeId) (γ : Gam) (ρ : Env) (w : World) (K : Gam -> Env -> World -> Prop) : Prop :=
 match ev ρ x with
 | some v => RD P (Instr.entry v) w fun u => entTy P t1 t2 u fun u => putK n o.dst u γ ρ fun γ ρ => K γ ρ w
 | none => False
def vcOps (P : Program) (T : Tab) (n : Nat) (ops : Array Oper) : List Oper -> Gam -> Env -> World -> (Gam -> Env -> World -> Prop) -> Prop
 | [],γ,ρ,w,K => K γ ρ w
 | o :: r,γ,ρ,w,K => (match entTys o r with
  | some (x,t1,t2) => entK P n o x t1 t2 γ ρ w fun γ ρ w => vcOps P T n ops r γ ρ w K
  | none => vcOp P T n ops o γ ρ w fun γ ρ w => vcOps P T n ops r γ ρ w K)
theorem guardK_says {n : Nat} {ops : Array Oper} {o : Oper} {a : Act} {γ : Gam} {ρ : Env} {yes no : Gam -> Env -> Prop} (hs : Sim n a γ ρ) (h : guardK n ops o γ ρ yes no) :
  (Region.wanted o (yielded ops a.tmps) = true /\ ∃ γ' ρ',Sim n a γ' ρ' /\ yes γ' ρ') ∨ (Region.wanted o (yielded ops a.tmps) = false /\ ∃ γ' ρ',Sim n a γ' ρ' /\ no γ' ρ'):=by
 unfold guardK at h
 unfold Region.wanted
 split at h
 ·rename_i hg; rw [hg]; exact .inl ⟨rfl,γ,ρ,hs,h⟩
 ·rename_i j want hg
  rw [hg]
  dsimp only
  split at h
  ·exact h.elim
  ·rename_i d hd
   split at h
   ·rename_i vs h1 h2
    have hv:=hs.env _ _ h2
    have hy : yielded ops a.tmps j = none:=by
     unfold yielded
     rw [hd]
     rw [Array.getD_eq_getD_getElem?] at hv
     cases hx : a.tmps[d]? with
     | none => simp [hx]
     | some u => rw [hx] at hv; simp at hv; subst hv; simp [hx]
    rw [hy]
    exact .inr ⟨by cases want <;> rfl,γ,ρ,hs,h⟩
   obtain ⟨b,γ',ρ',hdn,hv,hs',hk⟩:=hs.askK h
   have hy : yielded ops a.tmps j = some b:=by
    unfold yielded
    rw [hd]
    have : a.tmps[d]? = some (.bool b):=by
     have hlt : d < a.tmps.size:=by rw [hs.size]; exact hdn
     rw [Array.getElem?_eq_getElem hlt]
     rw [Array.getD_eq_getD_getElem?,Array.getElem?_eq_getElem hlt] at hv
     simpa using hv
    simp [this]
   rw [hy]
   cases want <;> cases b <;> first
    | exact .inl ⟨rfl,γ',ρ',hs',hk⟩
    | exact .inr ⟨rfl,γ',ρ',hs',hk⟩
theorem opAny_says {P : Program} {T : Tab} (hT : TabOk P T) {n : Nat} {w : World} {a : Act} {γ : Gam} {ρ : Env} (hs : Sim n a γ ρ) {o : Oper} {K : Gam -> Env -> World -> Prop}
  (h : opAny P T n o γ ρ w K) {next : Act -> World -> Prop} {Q : Exit -> Act -> World -> Prop}
  (hn : ∀ v γ' ρ' w',Sim n (a.put o.dst v) γ' ρ' -> K γ' ρ' w' -> next (a.put o.dst v) w') : Wp P o a w next Q:=by
 unfold opAny at h
 cases hi : isImp P o with
 | true => simp only [hi,cond_true] at h; exact opImp_says hT hs h hn
 | false =>
  simp only [hi,cond_false] at h
  obtain ⟨v,γ',ρ',hr,h1,h2⟩:=opRead_says hs h
  refine .inl ?_
  unfold Oper.wp
  rw [hr w rfl]
  exact hn _ _ _ _ h1 h2
theorem vcOp_says {P : Program} {T : Tab} (hT : TabOk P T) {n : Nat} {ops : Array Oper} {i : Nat} {o : Oper} (hi : ops[i]? = some o) {w : World} {a : Act} {γ : Gam} {ρ : Env} (hs : Sim n a γ ρ) {K : Gam -> Env -> World -> Prop}
  (h : vcOp P T n ops o γ ρ w K) {next : Act -> World -> Prop} {Q : Exit -> Act -> World -> Prop}
  (hn : ∀ v γ' ρ' w',Sim n (a.put o.dst v) γ' ρ' -> K γ' ρ' w' -> next (a.put o.dst v) w') : wpOp P ops Q i next a w:=by
 unfold wpOp
 simp only [hi]
 rcases guardK_says hs h with ⟨hw,γ',ρ',hs',hk⟩ | ⟨hw,γ',ρ',hs',hk⟩
 ·simp only [hw,if_true]
  exact opAny_says hT hs' hk hn
 ·simp only [hw,Bool.false_eq_true,if_false]
  obtain ⟨γ'',ρ'',h1,h2⟩:=hs'.putK hk
  exact hn _ _ _ _ h1 h2
theorem entK_says {P : Program} {n : Nat} {ops : Array Oper} {i : Nat} {o : Oper} (hi : ops[i]? = some o) {r : List Oper} {x : Operand} {t1 t2 : TypeId} (ht : entTys o r = some (x,t1,t2)) {w : World} {a : Act} {γ : Gam} {ρ : Env} (hs : Sim n a γ ρ) {K : Gam -> Env -> World -> Prop}
  (h : entK P n o x t1 t2 γ ρ w K) {next : Act -> World -> Prop} {Q : Exit -> Act -> World -> Prop}
  (hn : ∀ v γ' ρ' w',Sim n (a.put o.dst v) γ' ρ' -> K γ' ρ' w' -> next (a.put o.dst v) w') : wpOp P ops Q i next a w:=by
 obtain ⟨dst,op,type,pos,after,guard⟩:=o
 unfold entTys at ht
 dsimp only at ht
 split at ht
 ·rename_i y d
  injection ht with ht
  injection ht with h1 h2
  subst h1
  unfold wpOp
  simp only [hi]
  have hw : Region.wanted { dst:=some d,op:=.entry y,type:=type,pos:=pos,after:=after,guard:=Option.none } (yielded ops a.tmps) = true:=rfl
  simp only [hw,if_true]
  unfold entK at h
  split at h
  ·rename_i v hv
   obtain ⟨u,hr,hk⟩:=h
   obtain ⟨γ',ρ',h1,h2⟩:=hs.putK (entTy_out hk)
   refine .inl ?_
   unfold Oper.wp
   have he : (execOp a.eval { dst:=some d,op:=.entry y,type:=type,pos:=pos,after:=after,guard:=Option.none }).run P w = .ok (.value u) w:=by
    simp [execOp,hs.ev hv,hr]
   rw [he]
   exact hn _ _ _ _ h1 h2
  ·exact h.elim
 ·cases ht
def dstsOf (ops : List Oper) : List Nat:=ops.filterMap (·.dst)
theorem frm_op {ops : Array Oper} {i : Nat} {o : Oper} (hi : ops[i]? = some o) (a : Act) (v : Value) : Frm (dstsOf ops.toList) a (a.put o.dst v) :=
 Frm.put fun d hd => by
  have hm : o ∈ ops.toList:=by
   obtain ⟨h,rfl⟩:=Array.getElem?_eq_some_iff.1 hi
   simp
  simp only [dstsOf,List.contains_eq_mem,List.mem_filterMap,decide_eq_true_eq]
  exact ⟨o,hm,hd⟩
theorem vcOps_says {P : Program} {T : Tab} (hT : TabOk P T) {n : Nat} {ops : Array Oper} {K : Gam -> Env -> World -> Prop} {Q : Exit -> Act -> World -> Prop} :
  ∀ (l : List Oper) (k : Nat) (a : Act) (γ : Gam) (ρ : Env) (w : World),(∀ j,l[j]? = ops[k + j]?) -> Sim n a γ ρ -> vcOps P T n ops l γ ρ w K ->
   (∀ a' γ' ρ' w',Sim n a' γ' ρ' -> Frm (dstsOf ops.toList) a a' -> K γ' ρ' w' -> Q .normal a' w') -> wpOps P ops Q ((List.range l.length).map (k + ·)) a w
 | [],k,a,γ,ρ,w,_,hs,h,hq => hq _ _ _ _ hs (Frm.refl _ _) h
 | o :: r,k,a,γ,ρ,w,hlo,hs,h,hq => by
  have h0 : ops[k]? = some o:=by have:=hlo 0; simpa using this.symm
  have hr : (List.range (o :: r).length).map (k + ·) = k :: (List.range r.length).map (k + 1 + ·):=by
   simp only [List.length_cons,List.range_succ_eq_map,List.map_cons,List.map_map,Nat.add_zero,List.cons.injEq,true_and]
   apply List.map_congr_left
   intro j _
   simp only [Function.comp]; omega
  rw [hr,wpOps_cons]
  have hst : ∀ v γ' ρ' w',Sim n (a.put o.dst v) γ' ρ' -> vcOps P T n ops r γ' ρ' w' K -> wpOps P ops Q ((List.range r.length).map (k + 1 + ·)) (a.put o.dst v) w':=fun v γ' ρ' w' hs' hk => by
   refine vcOps_says hT r (k + 1) _ _ _ _ (fun j => ?_) hs' hk fun a' γ'' ρ'' w'' h1 h2 h3 => hq _ _ _ _ h1 ((frm_op h0 _ _).trans h2) h3
   have:=hlo (j + 1)
   simp only [List.getElem?_cons_succ] at this
   rw [this]; congr 1; omega
  unfold vcOps at h
  split at h
  ·rename_i x t1 t2 ht
   exact entK_says h0 ht hs h hst
  ·exact vcOp_says hT h0 hs h hst
/-! ### In whatever order -/
section draw
variable {P : Program} {ops : Array Oper} {Q : Exit -> Act -> World -> Prop}
inductive Waits (ops : Array Oper) : Nat -> Nat -> Prop where
 | one {j : Nat} {o : Oper} {e : Edge} (h : ops[j]? = some o) (he : e ∈ o.after) (hb : Region.binds .any e = true) : Waits ops j e.on
 | more {j i : Nat} {o : Oper} {e : Edge} (h : ops[j]? = some o) (he : e ∈ o.after) (hb : Region.binds .any e = true) (hw : Waits ops e.on i) : Waits ops j i
def maskL (acc : Array Nat) : List Edge -> Nat
 | [] => 0
 | e :: r => bif Region.binds .any e then (2 ^ e.on ||| acc.getD e.on 0) ||| maskL acc r else maskL acc r
def befL : List Oper -> Array Nat -> Array Nat
 | [],acc => acc
 | o :: r,acc => befL r (acc.push (maskL acc o.after.toList))
def waitsB (W : Array Nat) (j i : Nat) : Bool:=(W.getD j 0).testBit i
theorem maskL_says {acc : Array Nat} {j : Nat} {o : Oper} (ho : ops[j]? = some o) (hacc : ∀ j i,(acc.getD j 0).testBit i = true -> Waits ops j i) :
  ∀ (l : List Edge),(∀ e ∈ l,e ∈ o.after) -> ∀ i,(maskL acc l).testBit i = true -> Waits ops j i
 | [],_,i,h => by simp [maskL] at h
 | e :: r,hl,i,h => by
  unfold maskL at h
  have ih:=maskL_says ho hacc r (fun e he => hl e (List.mem_cons_of_mem _ he)) i
  cases hb : Region.binds .any e with
  | false => simp only [hb,cond_false] at h; exact ih h
  | true =>
   simp only [hb,cond_true,Nat.testBit_or,Bool.or_eq_true] at h
   have he:=hl e List.mem_cons_self
   rcases h with (h | h) | h
   ·have : e.on = i:=by simpa [Nat.testBit_two_pow] using h
    subst this
    exact .one ho he hb
   ·exact .more ho he hb (hacc _ _ h)
   ·exact ih h
theorem befL_says : ∀ (l : List Oper) (acc : Array Nat),(∀ j,l[j]? = ops[acc.size + j]?) -> (∀ j i,(acc.getD j 0).testBit i = true -> Waits ops j i) ->
  ∀ j i,((befL l acc).getD j 0).testBit i = true -> Waits ops j i
 | [],acc,_,h,j,i,hb => h j i hb
 | o :: r,acc,hl,h,j,i,hb => by
  refine befL_says r (acc.push (maskL acc o.after.toList)) (fun k => ?_) (fun j i hji => ?_) j i hb
  ·have:=hl (k + 1)
   simp only [List.getElem?_cons_succ] at this
   rw [this]; congr 1; simp; omega
  ·have h0 : ops[acc.size]? = some o:=by have:=hl 0; simpa using this.symm
   by_cases hj : j = acc.size
   ·subst hj
    have : (acc.push (maskL acc o.after.toList)).getD acc.size 0 = maskL acc o.after.toList:=by simp
    rw [this] at hji
    exact maskL_says h0 h _ (fun e he => by simpa using he) i hji
   ·refine h j i ?_
    have : (acc.push (maskL acc o.after.toList)).getD j 0 = acc.getD j 0:=by
     simp only [Array.getD_eq_getD_getElem?,Array.getElem?_push,hj,if_false]
    rwa [this] at hji
def Closed (ops : Array Oper) (L : Array Bool) : Prop:=∀ j,L.getD j false = true -> ∀ o,ops[j]? = some o -> ∀ e ∈ o.after,Region.binds .any e = true -> L.getD e.on false = true
theorem Closed.waits {L : Array Bool} (hc : Closed ops L) {j i : Nat} (hw : Waits ops j i) : L.getD j false = true -> L.getD i false = true:=by
 induction hw with
 | one h he hb => intro hj; exact hc _ hj _ h _ he hb
 | more h he hb _ ih => intro hj; exact ih (hc _ hj _ h _ he hb)
theorem Closed.ready {L : Array Bool} (hc : Closed ops L) {j i : Nat} (hw : Waits ops j i) (hj : j ∈ Region.ready .any ops L) : L.getD i false = true:=by
 obtain ⟨_,oj,hoj,hall⟩:=mem_ready.1 hj
 cases hw with
 | one h he hb => rw [hoj] at h; cases h; exact hall _ he hb
 | more h he hb hw => rw [hoj] at h; cases h; exact hc.waits hw (hall _ he hb)
theorem Closed.add {L : Array Bool} (hc : Closed ops L) {i : Nat} (hi : i ∈ Region.ready .any ops L) : Closed ops (L.setIfInBounds i true):=by
 intro j hj o ho e he hb
 by_cases hji : i = j
 ·subst hji
  obtain ⟨_,oj,hoj,hall⟩:=mem_ready.1 hi
  rw [hoj] at ho; cases ho
  exact getD_set_true (hall _ he hb)
 ·rw [getD_set_ne false hji] at hj
  exact getD_set_true (hc j hj o ho e he hb)
def pureOp (o : Oper) : Bool:=match o.op with
 | .move _ => true
 | .fieldAddr _ _ _ => true
 | .indexAddr _ _ _ => true
 | .nilCheck _ => true
 | .binOp op _ _ _ _ => (match op with
  | .add | .sub | .mul => true
  | _ => false)
 | _ => false
def Over (ops : Array Oper) (R : List Nat) (L : Array Bool) : Prop:=∃ J oJ,ops[J]? = some oJ /\ pureOp oJ = false /\ L.getD J false = true /\ ∀ i ∈ R,Waits ops J i
theorem Over.add {R : List Nat} {L : Array Bool} (h : Over ops R L) (i : Nat) : Over ops R (L.setIfInBounds i true):=by
 obtain ⟨J,oJ,h1,h2,h3,h4⟩:=h
 exact ⟨J,oJ,h1,h2,getD_set_true h3,h4⟩
theorem Over.sub {R : List Nat} {L : Array Bool} {i : Nat} (h : Over ops R (L.setIfInBounds i true)) : Over ops R L ∨ ∃ o,ops[i]? = some o /\ pureOp o = false /\ ∀ r ∈ R,Waits ops i r:=by
 obtain ⟨J,oJ,h1,h2,h3,h4⟩:=h
 by_cases c : i = J
 ·subst c; exact .inr ⟨oJ,h1,h2,h4⟩
 ·rw [getD_set_ne false c] at h3; exact .inl ⟨J,oJ,h1,h2,h3,h4⟩
theorem not_done {L : Array Bool} {i : Nat} (hr : i ∈ Region.ready .any ops L) (h : L.getD i false = true) : False:=by
 have h3:=(mem_ready.1 hr).1
 rcases Nat.lt_or_ge i L.size with h' | h'
 ·simp [h'] at h h3; rw [h] at h3; cases h3
 ·simp [Array.getElem?_eq_none h'] at h
def Phi (P : Program) (ops : Array Oper) (Q : Exit -> Act -> World -> Prop) (S : World -> Prop) (R : List Nat) : Nat -> Array Bool -> Act -> World -> Prop
 | 0,L,a,w => Region.ready .any ops L = [] /\ Q .normal a w
 | f + 1,L,a,w =>
  (Region.ready .any ops L = [] -> Q .normal a w) /\ ∀ i ∈ Region.ready .any ops L,wpOp P ops Q i (fun a' w' => (¬ Over ops R (L.setIfInBounds i true) -> S w') /\ Phi P ops Q S R f (L.setIfInBounds i true) a' w') a w
theorem Phi.any {S : World -> Prop} {R : List Nat} : ∀ {f : Nat} {L : Array Bool} {a : Act} {w : World},Phi P ops Q S R f L a w -> wpAny P .any ops Q f L a w
 | 0,_,_,_,h => h
 | f + 1,L,a,w,h => ⟨h.1,fun i hi => wpOp_mono (fun a' w' h' => h'.2.any) (h.2 i hi)⟩
theorem Phi.mono {S S' : World -> Prop} {R : List Nat} (hS : ∀ x,S' x -> S x) : ∀ {f : Nat} {L : Array Bool} {a : Act} {w : World},Phi P ops Q S' R f L a w -> Phi P ops Q S R f L a w
 | 0,_,_,_,h => h
 | f + 1,L,a,w,h => ⟨h.1,fun i hi => wpOp_mono (fun a' w' h' => ⟨fun hn => hS _ (h'.1 hn),Phi.mono hS h'.2⟩) (h.2 i hi)⟩
theorem Phi.over {S S' : World -> Prop} {R R' : List Nat} : ∀ {f : Nat} {L : Array Bool} {a : Act} {w : World},Over ops R L -> Phi P ops Q S' R' f L a w -> Phi P ops Q S R f L a w
 | 0,_,_,_,_,h => h
 | f + 1,L,a,w,ho,h => ⟨h.1,fun i hi => wpOp_mono (fun a' w' h' => ⟨fun hn => absurd (ho.add i) hn,Phi.over (ho.add i) h'.2⟩) (h.2 i hi)⟩
theorem Phi_first {S Y : World -> Prop} {R : List Nat} {i : Nat} {oi : Oper} {v : Value} (hi : ops[i]? = some oi) (hY : (i ∈ R /\ Y = S) ∨ (pureOp oi = true /\ Y = fun _ => True)) (hsel : ∀ (j : Nat) (o : Oper) cs b,ops[j]? = some o -> o.op ≠ .select cs b)
  (hQ : ∀ c a w,Q (.panic c) (a.put oi.dst v) w -> Q (.panic c) a w) :
  ∀ (f : Nat) (L : Array Bool) (a : Act) (w : World),Closed ops L ->
   (∀ j oj,ops[j]? = some oj -> j ≠ i -> L.getD j true = false -> (∀ e ∈ oj.after,Region.binds .any e = true -> e.on ≠ i) -> oi.apart ops oj = true) ->
   i ∈ Region.ready .any ops L -> YieldsIf P ops Y oi v a -> (¬ Over ops R L -> S w) ->
   Phi P ops Q S R f (L.setIfInBounds i true) (a.put oi.dst v) w -> Phi P ops Q S R (f + 1) L a w:=by
 -- while i is not done,the world is one in which it reads what it reads
 have look : ∀ (L : Array Bool) (w : World),Closed ops L -> i ∈ Region.ready .any ops L -> (¬ Over ops R L -> S w) -> Y w:=by
  intro L w hc hr hS
  rcases hY with ⟨hiR,rfl⟩ | ⟨_,rfl⟩
  ·exact hS fun ⟨J,oJ,h1,h2,h3,h4⟩ => not_done hr (hc.waits (h4 i hiR) h3)
  ·trivial
 -- i alone does not end the phase
 have alone : ∀ (L : Array Bool),Closed ops L -> i ∈ Region.ready .any ops L -> (∃ o,ops[i]? = some o /\ pureOp o = false /\ ∀ r ∈ R,Waits ops i r) -> False:=by
  intro L hc hr ⟨o,h1,h2,h3⟩
  rcases hY with ⟨hiR,_⟩ | ⟨hp,_⟩
  ·exact not_done hr (hc.ready (h3 i hiR) hr)
  ·rw [hi] at h1; cases h1; rw [hp] at h2; cases h2
 intro f
 induction f with
 | zero =>
  intro L a w hc _ hr hy hS H
  refine ⟨fun h => (by rw [h] at hr; cases hr),fun j hj => ?_⟩
  by_cases hji : j = i
  ·subst hji; exact hy.wpOp hi (look L w hc hr hS) ⟨fun hn => hS fun ho => hn (ho.add j),H⟩
  ·have:=ready_mono hj hji
   rw [H.1] at this
   cases this
 | succ f ih =>
  intro L a w hc hfree hr hy hS H
  refine ⟨fun h => (by rw [h] at hr; cases hr),fun j hj => ?_⟩
  by_cases hji : j = i
  ·subst hji; exact hy.wpOp hi (look L w hc hr hS) ⟨fun hn => hS fun ho => hn (ho.add j),H⟩
  ·have h1:=H.2 j (ready_mono hj hji)
   obtain ⟨hjun,oj,hoj,hall⟩:=mem_ready.1 hj
   have hnot : ∀ e ∈ oj.after,Region.binds .any e = true -> e.on ≠ i:=fun e he hb heq => by
    have h1:=hall e he hb
    rw [heq] at h1
    exact not_done hr h1
   have h2:=wpOp_putIf hoj (hfree j oj hoj hji hjun hnot) (fun cs b => hsel i oi cs b hi) (fun cs b => hsel j oj cs b hoj) hQ hy h1
   have hfree' : ∀ k ok,ops[k]? = some ok -> k ≠ i -> (L.setIfInBounds j true).getD k true = false ->
     (∀ e ∈ ok.after,Region.binds .any e = true -> e.on ≠ i) -> oi.apart ops ok = true:=fun k ok hk hki hun hno => by
    refine hfree k ok hk hki ?_ hno
    by_cases hjk : j = k
    ·subst hjk; exact hjun
    ·rw [getD_set_ne true hjk] at hun; exact hun
   have hr':=ready_mono hr (Ne.symm hji)
   have hc':=hc.add hj
   have hS' : ∀ w',(¬ Over ops R ((L.setIfInBounds i true).setIfInBounds j true) -> S w') -> (¬ Over ops R (L.setIfInBounds j true) -> S w'):=by
    intro w' h hn
    refine h fun ho => ?_
    rw [Array.setIfInBounds_comm _ _ (Ne.symm hji)] at ho
    rcases ho.sub with h | h
    ·exact hn h
    ·exact alone _ hc' hr' h
   refine wpOp_mono (fun a' w' h3 => ⟨hS' w' h3.2.1,ih (L.setIfInBounds j true) a' w' hc' hfree' hr' h3.1 (hS' w' h3.2.1) ?_⟩) h2
   rw [Array.setIfInBounds_comm _ _ hji]
   exact h3.2.2
end draw
def nextTake (P : Program) (ops : Array Oper) (L : Array Bool) : Option Nat :=
 (Region.ready .any ops L).find? fun i => match ops[i]? with
  | some o => !isImp P o && Region.free .any ops L i
  | none => false
def pureAt (ops : Array Oper) (i : Nat) : Bool:=match ops[i]? with
 | some o => pureOp o
 | none => false
def lookS (R : List Nat) (i : Nat) (S : Option (World -> Prop)) : Option (World -> Prop):=bif R.contains i then S else some fun _ => True
def simR (P : Program) (ops : Array Oper) (W : Array Nat) : Nat -> Array Bool -> List Nat -> Bool -> List Nat × Bool
 | 0,_,R,k => (R,k)
 | f + 1,L,R,k => match nextTake P ops L with
  | some i => simR P ops W f (L.setIfInBounds i true) (bif pureAt ops i then R else i :: R) k
  | none => (match Region.ready .any ops L with
   | [j] => bif !(pureAt ops j) && R.all (waitsB W j) then (R,k) else simR P ops W f (L.setIfInBounds j true) R true
   | j :: _ => simR P ops W f (L.setIfInBounds j true) R true
   | [] => (R,k))
def startK (p : List Nat × Bool) (w : World) (vc : Option (World -> Prop) -> List Nat -> Prop) : Prop :=
  match p with
  | (R,true) => ∃ S : World -> Prop,S w /\ vc (some S) R
  | (R,false) => vc none R
def allL (F : Nat -> Prop) : List Nat -> Prop
 | [] => True
 | [j] => F j
 | j :: r => F j /\ allL F r
theorem allL_mem {F : Nat -> Prop} : ∀ {l : List Nat},allL F l -> ∀ j ∈ l,F j
 | [],_,j,hj => by cases hj
 | [i],h,j,hj => by simp at hj; subst hj; exact h
 | i :: k :: r,h,j,hj => by
  rcases List.mem_cons.1 hj with rfl | hj
  ·exact h.1
  ·exact allL_mem (l:=k :: r) h.2 j hj
def vcD (P : Program) (T : Tab) (n : Nat) (ops : Array Oper) (W : Array Nat) : Nat -> Option (World -> Prop) -> List Nat -> Array Bool -> Gam -> Env -> World -> (Gam -> Env -> World -> Prop) -> Prop
 | 0,S,R,L,γ,ρ,w,K => (match Region.ready .any ops L with
  | [] => K γ ρ w
  | _ => False)
 | f + 1,S,R,L,γ,ρ,w,K => (match nextTake P ops L with
  | some i => (match ops[i]? with
   | none => False
   | some o => bif R.contains i || pureOp o then guardK n ops o γ ρ (fun γ ρ => opRead P n (lookS R i S) w o γ ρ fun γ ρ => vcD P T n ops W f S R (L.setIfInBounds i true) γ ρ w K)
     (fun γ ρ => putK n o.dst undef γ ρ fun γ ρ => vcD P T n ops W f S R (L.setIfInBounds i true) γ ρ w K) else False)
  | none => (match Region.ready .any ops L with
   | [] => K γ ρ w
   | [j] => (match ops[j]? with
    | none => False
    | some o => bif !(pureOp o) && R.all (waitsB W j) then
      vcOp P T n ops o γ ρ w fun γ ρ w => startK (simR P ops W f (L.setIfInBounds j true) [] false) w fun S R => vcD P T n ops W f S R (L.setIfInBounds j true) γ ρ w K
     else (match S with
      | none => False
      | some S => guardK n ops o γ ρ
        (fun γ ρ => opAny P T n o γ ρ w fun γ ρ w => ∃ S' : World -> Prop,(∀ x,S' x -> S x) /\ S' w /\ vcD P T n ops W f (some S') R (L.setIfInBounds j true) γ ρ w K)
        (fun γ ρ => putK n o.dst undef γ ρ fun γ ρ => vcD P T n ops W f (some S) R (L.setIfInBounds j true) γ ρ w K)))
   | rs => (match S with
    | none => False
    | some S => allL (fun j => match ops[j]? with
     | none => False
     | some o => guardK n ops o γ ρ
        (fun γ ρ => opAny P T n o γ ρ w fun γ ρ w => ∃ S' : World -> Prop,(∀ x,S' x -> S x) /\ S' w /\ vcD P T n ops W f (some S') R (L.setIfInBounds j true) γ ρ w K)
        (fun γ ρ => putK n o.dst undef γ ρ fun γ ρ => vcD P T n ops W f (some S) R (L.setIfInBounds j true) γ ρ w K)) rs)))
theorem vcD_says {P : Program} {T : Tab} (hT : TabOk P T) {n : Nat} {ops : Array Oper} {W : Array Nat} (hW : ∀ j i,waitsB W j i = true -> Waits ops j i) (hsel : Region.noSelect ops = true)
  {K : Gam -> Env -> World -> Prop} {Q : Exit -> Act -> World -> Prop} (hQ : ∀ c a w,¬ Q (.panic c) a w) {a0 : Act} (hq : ∀ a' γ' ρ' w',Sim n a' γ' ρ' -> Frm (dstsOf ops.toList) a0 a' -> K γ' ρ' w' -> Q .normal a' w') :
  ∀ (f : Nat) (S : Option (World -> Prop)) (R : List Nat) (L : Array Bool) (a : Act) (γ : Gam) (ρ : Env) (w : World),Closed ops L -> Sim n a γ ρ -> Frm (dstsOf ops.toList) a0 a -> inS S w w ->
   vcD P T n ops W f S R L γ ρ w K -> Phi P ops Q (inS S w) R f L a w
 | 0,S,R,L,a,γ,ρ,w,hc,hs,hf,hS,h => by
  unfold vcD at h
  split at h
  ·rename_i hr; exact ⟨hr,hq _ _ _ _ hs hf h⟩
  ·exact h.elim
 | f + 1,S,R,L,a,γ,ρ,w,hc,hs,hf,hS,h => by
  unfold vcD at h
  split at h
  ·rename_i i hi
   have hmem : i ∈ Region.ready .any ops L:=List.mem_of_find?_eq_some hi
   have hfr:=List.find?_some hi
   split at h
   ·exact h.elim
   ·rename_i o ho
    simp only [ho,Bool.and_eq_true] at hfr
    cases hR : (R.contains i || pureOp o) with
    | false => simp only [hR,cond_false] at h
    | true =>
     simp only [hR,cond_true] at h
     have hY : (i ∈ R /\ inS (lookS R i S) w = inS S w) ∨ (pureOp o = true /\ inS (lookS R i S) w = fun _ => True):=by
      unfold lookS
      cases hc : R.contains i with
      | true => exact .inl ⟨by simpa using hc,rfl⟩
      | false => rw [hc,Bool.false_or] at hR; exact .inr ⟨hR,rfl⟩
     rcases guardK_says hs h with ⟨hw,γ',ρ',hs',hk⟩ | ⟨hw,γ',ρ',hs',hk⟩
     ·obtain ⟨v,γ'',ρ'',hr,h1,h2⟩:=opRead_says hs' hk
      exact Phi_first ho hY (Region.noSelect_spec hsel) (fun c a w hx => absurd hx (hQ _ _ _)) f L a w hc (Region.free_spec ho hfr.2) hmem (.inl ⟨hw,hr⟩) (fun _ => hS)
       (vcD_says hT hW hsel hQ hq f S R _ _ _ _ w (hc.add hmem) h1 (hf.trans (frm_op ho _ _)) hS h2)
     ·obtain ⟨γ'',ρ'',h1,h2⟩:=hs'.putK hk
      exact Phi_first ho hY (Region.noSelect_spec hsel) (fun c a w hx => absurd hx (hQ _ _ _)) f L a w hc (Region.free_spec ho hfr.2) hmem (.inr ⟨hw,rfl⟩) (fun _ => hS)
       (vcD_says hT hW hsel hQ hq f S R _ _ _ _ w (hc.add hmem) h1 (hf.trans (frm_op ho _ _)) hS h2)
  ·split at h
   ·rename_i hr
    exact ⟨fun _ => hq _ _ _ _ hs hf h,by rw [hr]; simp⟩
   ·rename_i j hr
    have hmem : j ∈ Region.ready .any ops L:=by rw [hr]; simp
    split at h
    ·exact h.elim
    ·rename_i o ho
     cases hb : (!(pureOp o) && R.all (waitsB W j)) with
     | true =>
      simp only [hb,cond_true] at h
      rw [Bool.and_eq_true,Bool.not_eq_true'] at hb
      have hlt : (L.setIfInBounds j true).getD j false = true:=by
       have h3:=(mem_ready.1 hmem).1
       rcases Nat.lt_or_ge j L.size with h' | h'
       ·simp [h']
       ·exfalso; exact absurd h3 (by simp [Array.getElem?_eq_none h'])
      have hov : Over ops R (L.setIfInBounds j true):=⟨j,o,ho,hb.1,hlt,fun i hi => hW j i (List.all_eq_true.1 hb.2 i hi)⟩
      refine ⟨fun h0 => (by rw [h0] at hr; cases hr),fun i hi => ?_⟩
      rw [hr] at hi
      obtain rfl : i = j:=by simpa using hi
      refine vcOp_says hT ho hs h fun v γ' ρ' w' hs' hk => ⟨fun hn => absurd hov hn,?_⟩
      unfold startK at hk
      split at hk
      ·obtain ⟨S',hS',hk⟩:=hk
       exact (vcD_says hT hW hsel hQ hq f (some S') _ _ _ _ _ w' (hc.add hmem) hs' (hf.trans (frm_op ho _ _)) hS' hk).over hov
      ·exact (vcD_says hT hW hsel hQ hq f none _ _ _ _ _ w' (hc.add hmem) hs' (hf.trans (frm_op ho _ _)) rfl hk).over hov
     | false =>
      simp only [hb,cond_false] at h
      cases S with
      | none => exact h.elim
      | some S =>
       refine ⟨fun h0 => (by rw [h0] at hr; cases hr),fun i hi => ?_⟩
       rw [hr] at hi
       obtain rfl : i = j:=by simpa using hi
       unfold wpOp
       simp only [ho]
       rcases guardK_says hs h with ⟨hw,γ1,ρ1,hs1,hk1⟩ | ⟨hw,γ1,ρ1,hs1,hk1⟩
       ·simp only [hw,if_true]
        refine opAny_says hT hs1 hk1 fun v γ' ρ' w' hs' hk => ?_
        obtain ⟨S',hsub,hS',hk⟩:=hk
        exact ⟨fun _ => hsub _ hS',Phi.mono hsub (vcD_says hT hW hsel hQ hq f (some S') R _ _ _ _ w' (hc.add hmem) hs' (hf.trans (frm_op ho _ _)) hS' hk)⟩
       ·simp only [hw,Bool.false_eq_true,if_false]
        obtain ⟨γ2,ρ2,h1,h2⟩:=hs1.putK hk1
        exact ⟨fun _ => hS,vcD_says hT hW hsel hQ hq f (some S) R _ _ _ _ w (hc.add hmem) h1 (hf.trans (frm_op ho _ _)) hS h2⟩
   ·rename_i rs hne1 hne2
    cases S with
    | none => exact h.elim
    | some S =>
     refine ⟨fun h0 => absurd h0 (fun h0 => hne1 (by first | exact h0 | rw [h0])),fun i hi => ?_⟩
     have hk0:=allL_mem h i hi
     split at hk0
     ·exact hk0.elim
     ·rename_i o ho
      unfold wpOp
      simp only [ho]
      rcases guardK_says hs hk0 with ⟨hw,γ1,ρ1,hs1,hk1⟩ | ⟨hw,γ1,ρ1,hs1,hk1⟩
      ·simp only [hw,if_true]
       refine opAny_says hT hs1 hk1 fun v γ' ρ' w' hs' hk => ?_
       obtain ⟨S',hsub,hS',hk⟩:=hk
       exact ⟨fun _ => hsub _ hS',Phi.mono hsub (vcD_says hT hW hsel hQ hq f (some S') R _ _ _ _ w' (hc.add hi) hs' (hf.trans (frm_op ho _ _)) hS' hk)⟩
      ·simp only [hw,Bool.false_eq_true,if_false]
       obtain ⟨γ2,ρ2,h1,h2⟩:=hs1.putK hk1
       exact ⟨fun _ => hS,vcD_says hT hW hsel hQ hq f (some S) R _ _ _ _ w (hc.add hi) h1 (hf.trans (frm_op ho _ _)) hS h2⟩
/-! ### A region by an invariant: for regions with too many orders to be listed -/
def vcInv (P : Program) (T : Tab) (n : Nat) (ops : Array Oper) (ρ : Env) (w : World) (K : Env -> World -> Prop) : Prop :=
 ∃ J : Array Bool -> Env -> World -> Prop,J (Array.replicate ops.size false) ρ w /\
  ∀ L ρ w,J L ρ w -> (Region.ready .any ops L = [] -> K ρ w) /\
   ∀ i ∈ Region.ready .any ops L,∀ o,ops[i]? = some o -> vcOp P T n ops o [] ρ w fun _ ρ' w' => J (L.setIfInBounds i true) ρ' w'
theorem Sim.bare {n : Nat} {a : Act} {γ : Gam} {ρ : Env} (h : Sim n a γ ρ) : Sim n a [] ρ:=⟨h.size,h.defers,h.env,fun t b e => by simp [gget] at e⟩
theorem undone {ops : Array Oper} {L : Array Bool} {i : Nat} (h : i ∈ Region.ready .any ops L) : i < L.size /\ L.toList[i]? = some false:=by
 have h3:=(mem_ready.1 h).1
 rcases Nat.lt_or_ge i L.size with h' | h'
 ·refine ⟨h',?_⟩
  rw [Array.getElem?_toList]
  simp [h'] at h3 ⊢
  exact h3
 ·simp [Array.getElem?_eq_none h'] at h3
theorem vcInv_says {P : Program} {T : Tab} (hT : TabOk P T) {n : Nat} {ops : Array Oper} {K : Env -> World -> Prop} {Q : Exit -> Act -> World -> Prop} {a0 : Act}
  (hq : ∀ a' ρ' w',Sim n a' [] ρ' -> Frm (dstsOf ops.toList) a0 a' -> K ρ' w' -> Q .normal a' w') {J : Array Bool -> Env -> World -> Prop}
  (hJ : ∀ L ρ w,J L ρ w -> (Region.ready .any ops L = [] -> K ρ w) /\ ∀ i ∈ Region.ready .any ops L,∀ o,ops[i]? = some o -> vcOp P T n ops o [] ρ w fun _ ρ' w' => J (L.setIfInBounds i true) ρ' w') :
  ∀ (f : Nat) (L : Array Bool) (a : Act) (ρ : Env) (w : World),L.toList.count false <= f -> Sim n a [] ρ -> Frm (dstsOf ops.toList) a0 a -> J L ρ w -> wpAny P .any ops Q f L a w
 | 0,L,a,ρ,w,hf,hs,hfr,h => by
  have hr : Region.ready .any ops L = []:=by
   rcases hl : Region.ready .any ops L with _ | ⟨i,r⟩
   ·rfl
   ·have hm : i ∈ Region.ready .any ops L:=by rw [hl]; simp
    have:=List.count_pos_iff.2 (List.mem_of_getElem? (undone hm).2)
    omega
  exact ⟨hr,hq _ _ _ hs hfr ((hJ L ρ w h).1 hr)⟩
 | f + 1,L,a,ρ,w,hf,hs,hfr,h => by
  refine ⟨fun hr => hq _ _ _ hs hfr ((hJ L ρ w h).1 hr),fun i hi => ?_⟩
  obtain ⟨o,ho,_⟩:=(mem_ready.1 hi).2
  refine vcOp_says hT ho hs ((hJ L ρ w h).2 i hi o ho) fun v γ' ρ' w' hs' hk => ?_
  refine vcInv_says hT hq hJ f _ _ ρ' w' ?_ hs'.bare (hfr.trans (frm_op ho _ _)) hk
  obtain ⟨h1,h2⟩:=undone hi
  rw [Array.toList_setIfInBounds]
  have h3 : i < L.toList.length:=by simpa using h1
  have h4 : L.toList[i] = false:=by
   rw [List.getElem?_eq_getElem h3] at h2
   exact Option.some.inj h2
  rw [List.count_set h3,h4]
  have:=List.count_pos_iff.2 (List.mem_of_getElem? h2)
  rw [if_pos (show (false == false) = true from rfl),if_neg (show ¬ ((true == false) = true) by decide)]
  omega
end Go.Br
