/- The core: a program's code, read as a proposition on numbers, slices and memory ('vc'), and the proof that a call does what that proposition says. -/
import Derived.OrdersHeld
import Derived.Scope
import Derived.KernelRfl
import Derived.Laws.Entries
import Derived.Laws.Small
set_option linter.unusedVariables false
set_option linter.unusedSimpArgs false
namespace Go.Br
open Go
/-! ### 1. Slots,and what is known of them -/
abbrev Env:=List (Nat × Value)
abbrev Gam:=List (Nat × Bool)
def eget : Env -> Nat -> Option Value
  | [],_ => none
  | (d,v) :: r,t => bif Nat.beq d t then some v else eget r t
def gget : Gam -> Nat -> Option Bool
  | [],_ => none
  | (d,v) :: r,t => bif Nat.beq d t then some v else gget r t
def gdel (γ : Gam) (t : Nat) : Gam:=γ.filter fun p => !(Nat.beq p.1 t)
def ev (ρ : Env) : Operand -> Option Value
 | .tmp t => eget ρ t
 | .const v => some v
 | .global g => some (.pointer (some ⟨g,0,none⟩))
 | .func f => some (.func (.func f) #[] #[])
def evs (ρ : Env) : List Operand -> Option (List Value)
 | [] => some []
 | x :: r => match ev ρ x with
  | some v => (match evs ρ r with | some vs => some (v :: vs) | none => none)
  | none => none
structure Sim (n : Nat) (a : Act) (γ : Gam) (ρ : Env) : Prop where
 size : a.tmps.size = n
 defers : a.defers = []
 env : ∀ t v,eget ρ t = some v -> a.tmps.getD t undef = v
 gam : ∀ t b,gget γ t = some b -> t < n /\ a.tmps.getD t undef = .bool b
theorem Sim.ev {n : Nat} {a : Act} {γ : Gam} {ρ : Env} (h : Sim n a γ ρ) {x : Operand} {v : Value} (hx : ev ρ x = some v) : a.eval x = v:=by
 cases x <;> simp [Br.ev] at hx <;> simp [Act.eval]
 ·have:=h.env _ _ hx; simpa using this
 all_goals exact hx
theorem Sim.evs {n : Nat} {a : Act} {γ : Gam} {ρ : Env} (h : Sim n a γ ρ) : ∀ {xs : List Operand} {vs : List Value},evs ρ xs = some vs -> xs.map a.eval = vs:=by
 intro xs
 induction xs with
 | nil => intro vs hv; simp [Br.evs] at hv; simp [hv]
 | cons x r ih =>
  intro vs hv
  simp only [Br.evs] at hv
  cases hx : Br.ev ρ x with
  | none => simp [hx] at hv
  | some v =>
   cases hr : Br.evs ρ r with
   | none => simp [hx,hr] at hv
   | some us =>
    simp [hx,hr] at hv
    simp [<- hv,ih hr,h.ev hx]
theorem nbeq_ff {a b : Nat} (h : a ≠ b) : Nat.beq a b = false:=by
 cases e : Nat.beq a b with
 | false => rfl
 | true => exact absurd (Nat.eq_of_beq_eq_true e) h
theorem gget_gdel_ne {γ : Gam} {d t : Nat} (h : d ≠ t) : gget (gdel γ d) t = gget γ t:=by
 induction γ with
 | nil => rfl
 | cons p r ih =>
  obtain ⟨e,b⟩:=p
  unfold gdel at *
  simp only [List.filter_cons]
  by_cases he : e = d
  ·subst he
   have : Nat.beq e t = false:=nbeq_ff h
   simp [gget,this,ih]
  ·have h1 : Nat.beq e d = false:=nbeq_ff he
   simp only [h1,Bool.not_false,if_true,gget,ih]
theorem gget_gdel_eq {γ : Gam} {d : Nat} : gget (gdel γ d) d = none:=by
 induction γ with
 | nil => rfl
 | cons p r ih =>
  obtain ⟨e,b⟩:=p
  unfold gdel at *
  simp only [List.filter_cons]
  by_cases he : e = d
  ·subst he
   simp [ih]
  ·have h1 : Nat.beq e d = false:=nbeq_ff he
   simp only [h1,Bool.not_false,if_true,gget,ih]; rfl
theorem Sim.put {n : Nat} {a : Act} {γ : Gam} {ρ : Env} (h : Sim n a γ ρ) (d : Nat) (v : Value) (hd : d < n) : Sim n (a.put (some d) v) (gdel γ d) ((d,v) :: ρ) where
 size:=by simp [Act.put,h.size]
 defers:=h.defers
 env:=by
  intro t u ht
  simp only [eget] at ht
  by_cases e : d = t
  ·subst e
   simp at ht
   subst ht
   simp [Act.put,h.size,hd]
  ·have h1 : Nat.beq d t = false:=nbeq_ff e
   simp only [h1,cond_false] at ht
   have:=h.env t u ht
   simpa [Act.put,Array.getElem?_setIfInBounds_ne e] using this
 gam:=by
  intro t b ht
  by_cases e : d = t
  ·subst e; rw [gget_gdel_eq] at ht; cases ht
  ·rw [gget_gdel_ne e] at ht
   have:=h.gam t b ht
   refine ⟨this.1,?_⟩
   simpa [Act.put,Array.getElem?_setIfInBounds_ne e] using this.2
theorem Sim.know {n : Nat} {a : Act} {γ : Gam} {ρ : Env} (h : Sim n a γ ρ) {t : Nat} {b : Bool} (ht : t < n) (hb : a.tmps.getD t undef = .bool b) : Sim n a ((t,b) :: gdel γ t) ((t,.bool b) :: ρ) where
 size:=h.size
 defers:=h.defers
 env:=by
  intro s u hs
  simp only [eget] at hs
  by_cases e : t = s
  ·subst e; simp at hs; rw [<- hs]; exact hb
  ·have h1 : Nat.beq t s = false:=nbeq_ff e
   simp only [h1,cond_false] at hs
   exact h.env s u hs
 gam:=by
  intro s c hs
  simp only [gget] at hs
  by_cases e : t = s
  ·subst e; simp at hs; subst hs; exact ⟨ht,hb⟩
  ·have h1 : Nat.beq t s = false:=nbeq_ff e
   simp only [h1,cond_false] at hs
   rw [gget_gdel_ne e] at hs
   exact h.gam s c hs
theorem Sim.knowG {n : Nat} {a : Act} {γ : Gam} {ρ : Env} (h : Sim n a γ ρ) {t : Nat} {b : Bool} (ht : t < n) (hb : a.tmps.getD t undef = .bool b) : Sim n a ((t,b) :: gdel γ t) ρ where
 size:=h.size
 defers:=h.defers
 env:=h.env
 gam:=(h.know ht hb).gam
def Frm (D : List Nat) (a a' : Act) : Prop:=∀ t,D.contains t = false -> a'.tmps.getD t undef = a.tmps.getD t undef
theorem Frm.refl (D : List Nat) (a : Act) : Frm D a a:=fun _ _ => rfl
theorem Frm.trans {D : List Nat} {a b c : Act} (h : Frm D a b) (k : Frm D b c) : Frm D a c:=fun t ht => (k t ht).trans (h t ht)
theorem Frm.mono {D E : List Nat} {a b : Act} (h : Frm D a b) (hs : ∀ t,E.contains t = false -> D.contains t = false) : Frm E a b:=fun t ht => h t (hs t ht)
theorem Frm.put {D : List Nat} {a : Act} {dst : Option Nat} {v : Value} (h : ∀ d,dst = some d -> D.contains d = true) : Frm D a (a.put dst v):=by
 intro t ht
 cases dst with
 | none => rfl
 | some d =>
  have : d ≠ t:=fun e => by subst e; rw [h d rfl] at ht; cases ht
  simp [Act.put,Array.getElem?_setIfInBounds_ne this]
/-! ### 2. The words of a proposition -/
def NEED (c X : Prop) : Prop:=c /\ X
def IFB (b : Bool) (X Y : Prop) : Prop:=(b = true -> X) /\ (b = false -> Y)
def NILC (p : Option Addr) (K : Addr -> Prop) : Prop :=
 match p with
 | some a => K a
 | none => False
def IDX (A : Option Addr) (n : Nat) (i : Int) (K : Addr -> Prop) : Prop:=(0 <= i /\ i < n) /\ ∃ a,A = some a /\ K a
def LETI (x : Int) (K : Int -> Prop) : Prop:=K x
def LETB (x : Bool) (K : Bool -> Prop) : Prop:=K x
def LETS (x : ByteArray) (K : ByteArray -> Prop) : Prop:=K x
def RDS (P : Program) (s : Sem Value) (S : World -> Prop) (K : Value -> Prop) : Prop:=∃ v,(∀ w,S w -> s.run P w = .ok v w) /\ K v
def RD (P : Program) (s : Sem Value) (w : World) (K : Value -> Prop) : Prop:=∃ v,s.run P w = .ok v w /\ K v
def vnext (s : Sem Value) : Sem Next:=do pure (.value (<- s))
def RUN (P : Program) (s : Sem Value) (w : World) (K : Value -> World -> Prop) : Prop:=(∃ v w',s.run P w = .ok v w' /\ K v w')
def Ret (Q : Value -> World -> Prop) : Ending -> World -> Prop
 | .returned v,w => Q v w
 | .panicked _,_ => False
 | .outgrown,_ => False
def CALL (P : Program) (f : FuncId) (args : List Value) (w : World) (K : Value -> World -> Prop) : Prop:=Calls P f args.toArray w (Ret K)
def CALLV (P : Program) (f : Value) (args : List Value) (w : World) (K : Value → World → Prop) : Prop :=
 ∃ g first captured, f = .func (.func g) first captured ∧ CALL P g ((first ++ args.toArray) ++ captured).toList w K ∧ ∃ fn, P.funcs[g]? = some fn ∧ fn.body.isSome = true ∧ fn.name ≠ "runtime.NumGoroutine"
/-! ### 3. A value by its type -/
inductive Leaf where
 | it (k : IntKind) | bo | st | pt | sl | any
def leafsOf (P : Program) : Nat -> TypeId -> Option (List Leaf)
 | 0,_ => none
 | d + 1,t => match P.underlying t with
  | some (.int k) => some [.it k]
  | some .bool => some [.bo]
  | some .string => some [.st]
  | some (.pointer _) => some [.pt]
  | some (.slice _) => some [.sl]
  | some (.struct fs) => fs.toList.foldr (fun f acc => match leafsOf P d f.type,acc with | some x,some y => some (x ++ y) | _,_ => none) (some [])
  | some (.array _ _) => none
  | _ => some [.any]
def exLeaf : Leaf -> (Value -> Prop) -> Prop
 | .it k,K => ∃ x : Int,K (.int k x)
 | .bo,K => ∃ x : Bool,K (.bool x)
 | .st,K => ∃ x : ByteArray,K (.string x)
 | .pt,K => ∃ x : Option Addr,K (.pointer x)
 | .sl,K => ∃ (x : Option Addr) (n c : Nat),K (.slice x n c)
 | .any,K => ∃ x : Value,K x
def exLeafs : List Leaf -> (List Value -> Prop) -> Prop
 | [],K => K []
 | x :: r,K => exLeaf x fun v => exLeafs r fun vs => K (v :: vs)
def few : Nat:=24
def exTy (P : Program) (t : TypeId) (K : Value -> Prop) : Prop :=
 match P.underlying t with
 | some (.struct _) => (match leafsOf P 9 t with
  | some L => bif Nat.ble L.length few then exLeafs L fun vs => K (.agg vs.toArray) else ∃ x : Value,K x
  | none => ∃ x : Value,K x)
 | some (.array _ _) => ∃ x : Value,K x
 | _ => (match leafsOf P 1 t with
  | some [L] => exLeaf L K
  | _ => ∃ x : Value,K x)
def exTys (P : Program) : List TypeId -> (List Value -> Prop) -> Prop
 | [],K => K []
 | t :: r,K => exTy P t fun v => exTys P r fun vs => K (v :: vs)
def asTy (P : Program) (t : TypeId) (v : Value) (K : Value -> Prop) : Prop :=
 match P.underlying t with
 | some (.tuple ts) => exTys P ts.toList fun vs => v = .tuple vs.toArray /\ K (.tuple vs.toArray)
 | _ => exTy P t fun v' => v = v' /\ K v'
theorem exLeaf_some {L : Leaf} {K : Value -> Prop} (h : exLeaf L K) : ∃ v,K v:=by
 cases L <;> simp only [exLeaf] at h
 case sl => obtain ⟨x,n,c,h⟩:=h; exact ⟨_,h⟩
 all_goals (obtain ⟨x,h⟩:=h; exact ⟨_,h⟩)
theorem exLeafs_some : ∀ {L : List Leaf} {K : List Value -> Prop},exLeafs L K -> ∃ v,K v
 | [],K,h => ⟨_,h⟩
 | x :: r,K,h => by
  obtain ⟨v,h⟩:=exLeaf_some h
  obtain ⟨vs,h⟩:=exLeafs_some h
  exact ⟨_,h⟩
theorem exTy_some {P : Program} {t : TypeId} {K : Value -> Prop} (h : exTy P t K) : ∃ v,K v:=by
 unfold exTy at h
 split at h
 ·split at h
  ·rename_i L _
   cases hb : Nat.ble L.length few with
   | true => simp only [hb,cond_true] at h; obtain ⟨vs,h⟩:=exLeafs_some h; exact ⟨_,h⟩
   | false => simpa only [hb,cond_false] using h
  ·exact h
 ·exact h
 ·split at h
  ·exact exLeaf_some h
  ·exact h
theorem exTys_some {P : Program} : ∀ {ts : List TypeId} {K : List Value -> Prop},exTys P ts K -> ∃ v,K v
 | [],K,h => ⟨_,h⟩
 | x :: r,K,h => by
  obtain ⟨v,h⟩:=exTy_some h
  obtain ⟨vs,h⟩:=exTys_some h
  exact ⟨_,h⟩
theorem asTy_out {P : Program} {t : TypeId} {v : Value} {K : Value -> Prop} (h : asTy P t v K) : K v:=by
 unfold asTy at h
 split at h
 ·obtain ⟨vs,hv,hk⟩:=exTys_some h; rw [hv]; exact hk
 ·obtain ⟨v',hv,hk⟩:=exTy_some h; rw [hv]; exact hk
end Go.Br
