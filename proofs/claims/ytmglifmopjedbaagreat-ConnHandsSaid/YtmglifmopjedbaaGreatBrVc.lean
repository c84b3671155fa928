/- The core: what a region of operations does, in whatever order it draws. -/
import Derived.Test.YtmglifmopjedbaaGreatBrOps
set_option linter.unusedVariables false
set_option linter.unusedSimpArgs false
namespace Go.Br
open Go
def RUNU (P : Program) (s : Sem Unit) (w : World) (K : World -> Prop) : Prop:=∃ w',s.run P w = .ok () w' /\ K w'
def putK (n : Nat) (dst : Option Nat) (v : Value) (γ : Gam) (ρ : Env) (K : Gam -> Env -> Prop) : Prop :=
 match dst with
 | some d => bif Nat.blt d n then K (gdel γ d) ((d,v) :: ρ) else False
 | none => K γ ρ
def putG (n : Nat) (dst : Option Nat) (b : Bool) (v : Value) (γ : Gam) (ρ : Env) (K : Gam -> Env -> Prop) : Prop :=
 match dst with
 | some d => bif Nat.blt d n then K ((d,b) :: gdel γ d) ((d,v) :: ρ) else False
 | none => K γ ρ
def constB (γ : Gam) : Operand -> Option Bool
 | .const (.bool b) => some b
 | .tmp t => gget γ t
 | _ => none
def moveK (n : Nat) (dst : Option Nat) (x : Operand) (γ : Gam) (ρ : Env) (K : Gam -> Env -> Prop) : Prop :=
 match ev ρ x with
 | none => False
 | some v => (match constB γ x with
  | some b => putG n dst b v γ ρ K
  | none => putK n dst v γ ρ K)
def letV (v : Value) (K : Value -> Prop) : Prop :=
 match v with
 | .int k x => LETI x fun x => K (.int k x)
 | .bool x => LETB x fun x => K (.bool x)
 | .string x => LETS x fun x => K (.string x)
 | v => K v
theorem letV_eq (v : Value) (K : Value -> Prop) : letV v K = K v:=by cases v <;> rfl
def askK (n : Nat) (d : Nat) (γ : Gam) (ρ : Env) (K : Bool -> Gam -> Env -> Prop) : Prop :=
 match gget γ d with
 | some b => K b γ ρ
 | none => (match eget ρ d with
  | some (.bool b) => bif Nat.blt d n then IFB b (K true ((d,true) :: gdel γ d) ((d,.bool true) :: ρ)) (K false ((d,false) :: gdel γ d) ((d,.bool false) :: ρ)) else False
  | _ => False)
def guardK (n : Nat) (ops : Array Oper) (o : Oper) (γ : Gam) (ρ : Env) (yes no : Gam -> Env -> Prop) : Prop :=
 match o.guard with
 | none => yes γ ρ
 | some (j,want) => (match (ops[j]?).bind (·.dst) with
  | none => False
  | some d => (match gget γ d,eget ρ d with
   | none,some (.tuple _) => no γ ρ
   | _,_ => askK n d γ ρ fun b γ ρ => bif (bif want then b else !b) then yes γ ρ else no γ ρ))
def evPart (ρ : Env) : List (Nat × Operand) -> Option (List (Nat × Value))
  | [] => some []
  | (i,x) :: r => match ev ρ x,evPart ρ r with
    | some v,some vs => some ((i,v) :: vs)
    | _,_ => none
def evOpt (ρ : Env) : Option Operand -> Option (Option Value)
 | none => some none
 | some x => match ev ρ x with
  | some v => some (some v)
  | none => none
def readSem (ρ : Env) (o : Oper) : Option (Sem Value) :=
 match o.op with
 | .load t x => (match ev ρ x with | some (.pointer (some ad)) => some (loadVar t ad) | _ => none)
 | .convert src dst x => (match ev ρ x with | some v => some (convert src dst v) | none => none)
 | .binOp op T x y _ => (match ev ρ x,ev ρ y with | some a,some b => some (do eqGuard op T x y a b; binOp op T a b) | _,_ => none)
 | .build t parts => (match evPart ρ parts.toList with | some vs => some (Instr.build t vs.toArray) | none => none)
 | .lookup T x i ok => (match ev ρ x,ev ρ i with | some a,some b => some (Instr.lookup T a b ok) | _,_ => none)
 | .index T x i => (match ev ρ x,ev ρ i with | some a,some b => some (Instr.index T a b) | _,_ => none)
 | .field T x f => (match ev ρ x with | some v => some (Instr.field T v f) | none => none)
 | .fieldAddr T x f => (match ev ρ x with | some v => some (Instr.fieldAt T v f) | none => none)
 | .slice T x lo hi mx => (match ev ρ x,evOpt ρ lo,evOpt ρ hi,evOpt ρ mx with | some v,some a,some b,some c => some (Instr.sliceAt T v a b c) | _,_,_,_ => none)
 | .call c => (match c.callee,evs ρ c.args.toList with
  | .builtin .len,some vs => some (Builtin.len_ c.argTypes o.type vs.toArray)
  | .builtin .min,some vs => some (Builtin.min_ c.argTypes o.type vs.toArray)
  | .builtin .max,some vs => some (Builtin.max_ c.argTypes o.type vs.toArray)
  | _,_ => none)
 | .makeInterface t x => (match ev ρ x with | some v => some (Instr.makeInterface t v) | none => none)
 | .typeAssert x T A ok => (match ev ρ x with | some v => some (Instr.typeAssert v T A ok) | none => none)
 | .entry x => (match ev ρ x with | some v => some (Instr.entry v) | none => none)
 | _ => none
def impSem (ρ : Env) (o : Oper) : Option (Sem Value) :=
 match o.op with
 | .alloc e => some (Instr.alloc e true (.tuple #[]))
 | .box e x => (match ev ρ x with | some v => some (Instr.box e v) | none => none)
 | .buildSlice t k parts => (match evPart ρ parts.toList with | some vs => some (Instr.buildSlice t k vs.toArray) | none => none)
 | .makeSlice t x y => (match ev ρ x,ev ρ y with | some a,some b => some (Instr.makeSlice t a b) | _,_ => none)
 | .makeMap t r => (match evOpt ρ r with | some v => some (Instr.makeMap t v) | none => none)
 | .convert src dst x => (match ev ρ x with | some v => some (convert src dst v) | none => none)
 | .range t x => (match ev ρ x with | some v => some (Instr.range t v) | none => none)
 | .next x s => (match ev ρ x with | some v => some (Instr.next v s o.type) | none => none)
 | .mapEntry T x y => (match ev ρ x,ev ρ y with | some a,some b => some (Instr.mapEntry T a b) | _,_ => none)
 | .call c => (match c.callee,evs ρ c.args.toList with
  | .builtin .append,some vs => some (Builtin.append_ c.argTypes o.type vs.toArray)
  | .builtin .copy,some vs => some (Builtin.copy_ c.argTypes o.type vs.toArray)
  | .builtin .clear,some vs => some (Builtin.clear_ c.argTypes o.type vs.toArray)
  | .builtin .delete,some vs => some (Builtin.delete_ c.argTypes o.type vs.toArray)
  | _,_ => none)
 | _ => none
def impUnit (ρ : Env) (o : Oper) : Option (Sem Unit) :=
 match o.op with
 | .store t x y => (match ev ρ x,ev ρ y with | some (.pointer (some ad)),some v => some (storeVar t ad v) | _,_ => none)
 | .mapUpdate T m k x | .insert T m k x => (match ev ρ m,ev ρ k,ev ρ x with | some a,some b,some c => some (Instr.mapUpdate T a b c) | _,_,_ => none)
 | .entryStore T m k x => (match ev ρ m,ev ρ k,ev ρ x with | some a,some b,some c => some (Instr.entryStore T a b c) | _,_,_ => none)
 | _ => none
def toSliceT (P : Program) (t : TypeId) : Bool:=match P.underlying t with | some (.slice _) => true | _ => false
def isImp (P : Program) (o : Oper) : Bool :=
 match o.op with
 | .move _ | .assign _ | .pick .. | .nilCheck _ | .indexAddr .. | .load .. | .binOp .. | .build .. | .lookup .. | .index .. | .field .. | .fieldAddr ..
 | .slice .. | .unOp .. | .extract .. | .makeFunc .. | .makeInterface .. | .typeAssert .. | .entry _ => false
 | .convert _ dst _ => toSliceT P dst
 | .call c => (match c.callee with | .builtin .len | .builtin .min | .builtin .max | .builtin .cap => false | _ => true)
 | _ => true
def isLit : Operand -> Bool
 | .const _ => true
 | _ => false
def rdK (P : Program) (S : Option (World -> Prop)) (s : Sem Value) (w : World) (K : Value -> Prop) : Prop :=
 match S with
 | none => RD P s w K
 | some S => RDS P s S K
def genRead (P : Program) (n : Nat) (S : Option (World -> Prop)) (w : World) (o : Oper) (γ : Gam) (ρ : Env) (K : Gam -> Env -> Prop) : Prop :=
 match purePV P ρ o with
 | .val v => putK n o.dst v γ ρ K
 | .need c v => NEED c (putK n o.dst v γ ρ K)
 | .no => (match readSem ρ o with
  | some s => rdK P S s w fun v => asTy P o.type v fun v => putK n o.dst v γ ρ K
  | none => False)
def opRead (P : Program) (n : Nat) (S : Option (World -> Prop)) (w : World) (o : Oper) (γ : Gam) (ρ : Env) (K : Gam -> Env -> Prop) : Prop :=
 match o.op with
 | .pick c x y => (match c with
  | .tmp t => askK n t γ ρ fun b γ ρ => bif b then moveK n o.dst x γ ρ K else moveK n o.dst y γ ρ K
  | _ => False)
 | .move x => moveK n o.dst x γ ρ K
 | .assign x => (match ev ρ x with
  | none => False
  | some v => bif isLit x then putK n o.dst v γ ρ K else letV v fun v => putK n o.dst v γ ρ K)
 | .nilCheck x => (match ev ρ x with
  | some (.pointer p) => NILC p fun a => putK n o.dst (.pointer (some a)) γ ρ K
  | some (.func (.func g) f c) => putK n o.dst (.func (.func g) f c) γ ρ K
  | _ => False)
 | .indexAddr T x i => (match P.underlying T,ev ρ x,ev ρ i with
  | some (.slice e),some (.slice A m c),some (.int k i) => (match sizeAt P e with
   | some z => IDX A m i fun a => putK n o.dst (.pointer (some (a.add (i.toNat * z)))) γ ρ K
   | none => False)
  | some (.array m e),some (.pointer (some a)),some (.int k i) => (match sizeAt P e with
   | some z => NEED (0 <= i /\ i < m) (putK n o.dst (.pointer (some (a.add (i.toNat * z)))) γ ρ K)
   | none => False)
  | _,_,_ => False)
 | _ => genRead P n S w o γ ρ K
def resTy (P : Program) (o : Oper) (v : Value) (K : Value -> Prop) : Prop :=
 match o.op with
 | .alloc _ | .box _ _ | .range _ _ => ∃ a : Addr,v = .pointer (some a) /\ K (.pointer (some a))
 | .next _ _ => ∃ b : Bool,∃ xs : List Value,v = .tuple ⟨.bool b :: xs⟩ /\ K (.tuple ⟨.bool b :: xs⟩)
 | _ => asTy P o.type v K
theorem resTy_out {P : Program} {o : Oper} {v : Value} {K : Value -> Prop} (h : resTy P o v K) : K v:=by
 unfold resTy at h
 split at h
 ·obtain ⟨a,rfl,h⟩:=h; exact h
 ·obtain ⟨a,rfl,h⟩:=h; exact h
 ·obtain ⟨a,rfl,h⟩:=h; exact h
 ·obtain ⟨b,xs,rfl,h⟩:=h; exact h
 ·exact asTy_out h
structure Tab where
 fns : Nat
 bad : List Nat
def fnOk (T : Tab) (g : Nat) : Bool:=Nat.blt g T.fns && !(T.bad.contains g)
def CALLX (P : Program) (g : FuncId) (args : List Value) (w : World) (K : Value -> World -> Prop) : Prop:=∃ v w',(callFunc g args.toArray).run P w = .ok (.value v) w' /\ K v w'
def opImp (P : Program) (T : Tab) (n : Nat) (o : Oper) (γ : Gam) (ρ : Env) (w : World) (K : Gam -> Env -> World -> Prop) : Prop :=
 match impUnit ρ o with
 | some s => RUNU P s w fun w' => putK n o.dst undef γ ρ fun γ ρ => K γ ρ w'
 | none => (match impSem ρ o with
  | some s => RUN P s w fun v w' => resTy P o v fun v => putK n o.dst v γ ρ fun γ ρ => K γ ρ w'
  | none => (match o.op with
   | .call c => (match c.callee,evs ρ c.args.toList with
    | .value (.func g),some vs => bif fnOk T g then CALL P g vs w fun v w' => asTy P o.type v fun v => putK n o.dst v γ ρ fun γ ρ => K γ ρ w' else CALLX P g vs w fun v w' => asTy P o.type v fun v => putK n o.dst v γ ρ fun γ ρ => K γ ρ w'
    | .value f,some vs => (match ev ρ f with
     | some f => CALLV P f vs w fun v w' => asTy P o.type v fun v => putK n o.dst v γ ρ fun γ ρ => K γ ρ w'
     | none => False)
    | _,_ => False)
   | _ => False))
/-! ### Soundness -/
theorem Sim.putK {n : Nat} {a : Act} {γ : Gam} {ρ : Env} (h : Sim n a γ ρ) {dst : Option Nat} {v : Value} {K : Gam -> Env -> Prop} (hk : putK n dst v γ ρ K) :
  ∃ γ' ρ',Sim n (a.put dst v) γ' ρ' /\ K γ' ρ':=by
 cases dst with
 | none => exact ⟨γ,ρ,h,hk⟩
 | some d =>
  unfold Br.putK at hk
  cases hb : Nat.blt d n with
  | true => simp only [hb,cond_true] at hk; exact ⟨_,_,h.put d v (Nat.le_of_ble_eq_true hb),hk⟩
  | false => simp only [hb,cond_false] at hk
theorem Sim.putG {n : Nat} {a : Act} {γ : Gam} {ρ : Env} (h : Sim n a γ ρ) {dst : Option Nat} {b : Bool} {K : Gam -> Env -> Prop} (hk : putG n dst b (.bool b) γ ρ K) :
  ∃ γ' ρ',Sim n (a.put dst (.bool b)) γ' ρ' /\ K γ' ρ':=by
 cases dst with
 | none => exact ⟨γ,ρ,h,hk⟩
 | some d =>
  unfold Br.putG at hk
  cases hb : Nat.blt d n with
  | true =>
   simp only [hb,cond_true] at hk
   have hd : d < n:=Nat.le_of_ble_eq_true hb
   have h1:=h.put d (.bool b) hd
   have h2:=h1.knowG (t:=d) (b:=b) hd (h1.env d _ (by simp [eget]))
   refine ⟨_,_,⟨h2.size,h2.defers,h2.env,?_⟩,hk⟩
   intro t c ht
   simp only [gget] at ht
   by_cases e : d = t
   ·subst e; exact h2.gam d c (by simpa [gget] using ht)
   ·have e1:=nbeq_ff e
    simp only [e1,cond_false] at ht
    rw [gget_gdel_ne e] at ht
    refine h2.gam t c ?_
    simp only [gget,e1,cond_false]
    rw [gget_gdel_ne e,gget_gdel_ne e]; exact ht
  | false => simp only [hb,cond_false] at hk
theorem Sim.constB {n : Nat} {a : Act} {γ : Gam} {ρ : Env} (h : Sim n a γ ρ) {x : Operand} {v : Value} {b : Bool} (hv : Br.ev ρ x = some v) (hb : constB γ x = some b) : v = .bool b:=by
 unfold Br.constB at hb
 split at hb
 ·simp [Br.ev] at hv hb; subst hb; exact hv.symm
 ·rename_i t
  have h1:=(h.gam _ _ hb).2
  have h2:=h.env t v (by simpa [Br.ev] using hv)
  rw [<- h2,h1]
 ·cases hb
theorem Sim.moveK {n : Nat} {a : Act} {γ : Gam} {ρ : Env} (h : Sim n a γ ρ) {dst : Option Nat} {x : Operand} {K : Gam -> Env -> Prop} (hk : moveK n dst x γ ρ K) :
  ∃ γ' ρ',Sim n (a.put dst (a.eval x)) γ' ρ' /\ K γ' ρ':=by
 unfold Br.moveK at hk
 split at hk
 ·exact hk.elim
 ·rename_i v hv
  rw [h.ev hv]
  split at hk
  ·rename_i b hb
   obtain rfl:=h.constB hv hb
   exact h.putG hk
  ·exact h.putK hk
theorem Sim.askK {n : Nat} {a : Act} {γ : Gam} {ρ : Env} (h : Sim n a γ ρ) {d : Nat} {K : Bool -> Gam -> Env -> Prop} (hk : askK n d γ ρ K) :
  ∃ b γ' ρ',d < n /\ a.tmps.getD d undef = .bool b /\ Sim n a γ' ρ' /\ K b γ' ρ':=by
 unfold Br.askK at hk
 split at hk
 ·rename_i b hb
  exact ⟨b,γ,ρ,(h.gam _ _ hb).1,(h.gam _ _ hb).2,h,hk⟩
 ·split at hk
  ·rename_i b hb
   cases hn : Nat.blt d n with
   | false => simp only [hn,cond_false] at hk
   | true =>
    simp only [hn,cond_true] at hk
    have hd : d < n:=Nat.le_of_ble_eq_true hn
    have hv:=h.env _ _ hb
    cases b with
    | true => exact ⟨true,_,_,hd,hv,h.know hd hv,hk.1 rfl⟩
    | false => exact ⟨false,_,_,hd,hv,h.know hd hv,hk.2 rfl⟩
  ·exact hk.elim
theorem evPart_map {n : Nat} {a : Act} {γ : Gam} {ρ : Env} (h : Sim n a γ ρ) : ∀ {xs : List (Nat × Operand)} {vs : List (Nat × Value)},evPart ρ xs = some vs -> xs.map (fun p => (p.1,a.eval p.2)) = vs
  | [],vs,hv => by simp [evPart] at hv; simp [hv]
  | (i,x) :: r,vs,hv => by
    simp only [evPart] at hv
    split at hv
    · rename_i v us h1 h2
      injection hv with hv
      subst hv
      simp [h.ev h1,evPart_map h h2]
    · cases hv
theorem evOpt_map {n : Nat} {a : Act} {γ : Gam} {ρ : Env} (h : Sim n a γ ρ) {x : Option Operand} {v : Option Value} (hv : evOpt ρ x = some v) : x.map a.eval = v:=by
 unfold evOpt at hv
 split at hv
 ·simpa using hv
 ·split at hv
  ·rename_i u hu; simp at hv; subst hv; simp [h.ev hu]
  ·cases hv
theorem evsA {n : Nat} {a : Act} {γ : Gam} {ρ : Env} (h : Sim n a γ ρ) {xs : Array Operand} {vs : List Value} (hv : evs ρ xs.toList = some vs) : xs.map a.eval = vs.toArray:=by
 apply Array.ext'
 simp [<- h.evs hv]
theorem readSem_says {P : Program} {n : Nat} {a : Act} {γ : Gam} {ρ : Env} (hs : Sim n a γ ρ) {o : Oper} {s : Sem Value} (h : readSem ρ o = some s) (w : World) :
  (execOp a.eval o).run P w = (vnext s).run P w:=by
 obtain ⟨dst,op,type,pos,after,guard⟩:=o
 unfold readSem at h
 dsimp only at h
 split at h
 ·split at h
  ·rename_i ad hx; injection h with h; subst h; simp [execOp,hs.ev hx,Instr.loadAt,Instr.sureAddr,vnext]
  ·cases h
 ·split at h
  ·rename_i v hx; injection h with h; subst h; simp [execOp,hs.ev hx,vnext]
  ·cases h
 ·split at h
  ·rename_i v u hx hy; injection h with h; subst h; simp [execOp,hs.ev hx,hs.ev hy,vnext]
  ·cases h
 ·split at h
  ·rename_i parts _ vs hx
   injection h with h; subst h
   have e : Array.map (fun x => (x.1,a.eval x.2)) parts = vs.toArray:=by apply Array.ext'; simpa using evPart_map hs hx
   simp [execOp,e,vnext]
  ·cases h
 ·split at h
  ·rename_i v u hx hy; injection h with h; subst h; simp [execOp,hs.ev hx,hs.ev hy,vnext]
  ·cases h
 ·split at h
  ·rename_i v u hx hy; injection h with h; subst h; simp [execOp,hs.ev hx,hs.ev hy,vnext]
  ·cases h
 ·split at h
  ·rename_i v hx; injection h with h; subst h; simp [execOp,hs.ev hx,vnext]
  ·cases h
 ·split at h
  ·rename_i v hx; injection h with h; subst h; simp [execOp,hs.ev hx,vnext]
  ·cases h
 ·split at h
  ·rename_i v x y z hx h1 h2 h3; injection h with h; subst h; simp [execOp,hs.ev hx,evOpt_map hs h1,evOpt_map hs h2,evOpt_map hs h3,vnext]
  ·cases h
 ·rename_i c
  obtain ⟨callee,args,argTypes⟩:=c
  dsimp only at h
  split at h
  ·rename_i vs hx; injection h with h; subst h; simp [execOp,resolve,invoke,builtin,evsA hs hx,vnext]
  ·rename_i vs hx; injection h with h; subst h; simp [execOp,resolve,invoke,builtin,evsA hs hx,vnext]
  ·rename_i vs hx; injection h with h; subst h; simp [execOp,resolve,invoke,builtin,evsA hs hx,vnext]
  ·cases h
 ·split at h
  ·rename_i v hx; injection h with h; subst h; simp [execOp,hs.ev hx,vnext]
  ·cases h
 ·split at h
  ·rename_i v hx; injection h with h; subst h; simp [execOp,hs.ev hx,vnext]
  ·cases h
 ·split at h
  ·rename_i v hx; injection h with h; subst h; simp [execOp,hs.ev hx,vnext]
  ·cases h
 ·cases h
def inS (S : Option (World -> Prop)) (w : World) : World -> Prop :=
 match S with
 | none => fun w' => w' = w
 | some S => S
theorem genRead_says {P : Program} {n : Nat} {S : Option (World -> Prop)} {w : World} {a : Act} {γ : Gam} {ρ : Env} (hs : Sim n a γ ρ) {o : Oper} {K : Gam -> Env -> Prop}
  (h : genRead P n S w o γ ρ K) : ∃ v γ' ρ',(∀ w',inS S w w' -> (execOp a.eval o).run P w' = .ok (.value v) w') /\ Sim n (a.put o.dst v) γ' ρ' /\ K γ' ρ':=by
 unfold genRead at h
 have hp:=purePV_says (P:=P) hs o
 cases hpv : purePV P ρ o with
 | val v =>
  rw [hpv] at h hp
  obtain ⟨γ',ρ',h1,h2⟩:=hs.putK h
  exact ⟨v,γ',ρ',fun w' _ => hp w',h1,h2⟩
 | need c v =>
  rw [hpv] at h hp
  obtain ⟨γ',ρ',h1,h2⟩:=hs.putK h.2
  exact ⟨v,γ',ρ',fun w' _ => hp h.1 w',h1,h2⟩
 | no =>
  rw [hpv] at h
  dsimp only at h
  split at h
  ·rename_i s hr
   have key : ∀ v,(∀ w',inS S w w' -> s.run P w' = .ok v w') -> asTy P o.type v (fun v => putK n o.dst v γ ρ K) ->
     ∃ v γ' ρ',(∀ w',inS S w w' -> (execOp a.eval o).run P w' = .ok (.value v) w') /\ Sim n (a.put o.dst v) γ' ρ' /\ K γ' ρ':=by
    intro v hv hk
    obtain ⟨γ',ρ',h1,h2⟩:=hs.putK (asTy_out hk)
    exact ⟨v,γ',ρ',fun w' hw' => by rw [readSem_says hs hr]; simp [vnext,hv w' hw'],h1,h2⟩
   cases S with
   | none => obtain ⟨v,hv,hk⟩:=h; exact key v (fun w' e => by cases e; exact hv) hk
   | some S => obtain ⟨v,hv,hk⟩:=h; exact key v hv hk
  ·exact h.elim
theorem opRead_says {P : Program} {n : Nat} {S : Option (World -> Prop)} {w : World} {a : Act} {γ : Gam} {ρ : Env} (hs : Sim n a γ ρ) {o : Oper} {K : Gam -> Env -> Prop}
  (h : opRead P n S w o γ ρ K) : ∃ v γ' ρ',(∀ w',inS S w w' -> (execOp a.eval o).run P w' = .ok (.value v) w') /\ Sim n (a.put o.dst v) γ' ρ' /\ K γ' ρ':=by
 obtain ⟨dst,op,type,pos,after,guard⟩:=o
 unfold opRead at h
 dsimp only at h
 split at h
 ·rename_i c x y
  split at h
  ·rename_i t
   obtain ⟨b,γ',ρ',hd,hv,hs',hk⟩:=hs.askK h
   have hc : a.eval (.tmp t) = .bool b:=by simpa [Act.eval] using hv
   cases b with
   | true =>
    obtain ⟨γ'',ρ'',h1,h2⟩:=hs'.moveK hk
    exact ⟨_,γ'',ρ'',fun w' _ => by simp [execOp,hc,asBool],h1,h2⟩
   | false =>
    obtain ⟨γ'',ρ'',h1,h2⟩:=hs'.moveK hk
    exact ⟨_,γ'',ρ'',fun w' _ => by simp [execOp,hc,asBool],h1,h2⟩
  ·exact h.elim
 ·rename_i x
  obtain ⟨γ',ρ',h1,h2⟩:=hs.moveK h
  exact ⟨_,γ',ρ',fun w' _ => by simp [execOp],h1,h2⟩
 ·rename_i x
  split at h
  ·exact h.elim
  ·rename_i v hv
   have hk : putK n dst v γ ρ K:=by
    cases hl : isLit x with
    | true => simpa only [hl,cond_true] using h
    | false => simp only [hl,cond_false,letV_eq] at h; exact h
   obtain ⟨γ',ρ',h1,h2⟩:=hs.putK hk
   exact ⟨v,γ',ρ',fun w' _ => by simp [execOp,hs.ev hv],h1,h2⟩
 ·rename_i x
  split at h
  ·rename_i p hp
   cases p with
   | none => exact h.elim
   | some ad =>
   obtain ⟨γ',ρ',h1,h2⟩:=hs.putK h
   exact ⟨_,γ',ρ',fun w' _ => by simp [execOp,hs.ev hp],h1,h2⟩
  ·rename_i g f c hp
   obtain ⟨γ',ρ',h1,h2⟩:=hs.putK h
   exact ⟨_,γ',ρ',fun w' _ => by simp [execOp,hs.ev hp],h1,h2⟩
  ·exact h.elim
 ·rename_i T x i
  split at h
  ·rename_i e A m c k i hu hx hi
   split at h
   ·rename_i z hz
    obtain ⟨⟨hi0,hi1⟩,ad,rfl,hk⟩:=h
    obtain ⟨γ',ρ',h1,h2⟩:=hs.putK hk
    refine ⟨_,γ',ρ',fun w' _ => ?_,h1,h2⟩
    unfold sizeAt at hz
    cases hinf : P.info? e with
    | none => simp [hinf] at hz
    | some info =>
     simp [hinf] at hz
     simp [execOp,hs.ev hx,hs.ev hi,Instr.indexAt,asIntOf,run_und hu,hi0,hi1,sizeOf,run_info hinf,hz]
   ·exact h.elim
  ·rename_i m e ad k i hu hx hi
   split at h
   ·rename_i z hz
    obtain ⟨⟨hi0,hi1⟩,hk⟩:=h
    obtain ⟨γ',ρ',h1,h2⟩:=hs.putK hk
    refine ⟨_,γ',ρ',fun w' _ => ?_,h1,h2⟩
    unfold sizeAt at hz
    cases hinf : P.info? e with
    | none => simp [hinf] at hz
    | some info =>
     simp [hinf] at hz
     simp [execOp,hs.ev hx,hs.ev hi,Instr.indexAt,asIntOf,run_und hu,hi0,hi1,sizeOf,run_info hinf,hz,Instr.sureAddr]
   ·exact h.elim
  ·exact h.elim
 ·exact genRead_says hs h
end Go.Br
