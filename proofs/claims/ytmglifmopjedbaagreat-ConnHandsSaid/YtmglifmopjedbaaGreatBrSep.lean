/- Memory in pieces: what is held of it is a list of pieces apart from each other; a step changes one of them. -/
import Derived.Test.YtmglifmopjedbaaGreatBrForm
import Derived.Test.YtmglifmopjedbaaGreatBrMore
import Derived.Laws.StructEq
set_option linter.unusedVariables false
set_option linter.unusedSimpArgs false
namespace Go.Br
open Go
attribute [local semireducible] RDI RDB RDT RDP RDL RDSI RDSB RDST RDSP RDSL RUNA RUNI RUNL
structure SA where
 p : List Nat -> List Nat -> World -> Prop
 loc : ∀ {F G : List Nat} {w w' : World},p F G w -> (∀ i,i ∈ F ∨ i ∈ G -> w'.heap[i]? = w.heap[i]?) -> p F G w'
 lt : ∀ {F G : List Nat} {w : World},p F G w -> ∀ i,i ∈ F ∨ i ∈ G -> i < w.heap.size
theorem lt_same {w w' : World} {i : Nat} (h : i < w.heap.size) (e : w'.heap[i]? = w.heap[i]?) : i < w'.heap.size:=by
 rcases Nat.lt_or_ge i w'.heap.size with h' | h'
 ·exact h'
 ·rw [Array.getElem?_eq_none h',Array.getElem?_eq_getElem h] at e; cases e
@[irreducible] def emp : SA:=⟨fun F G _ => F = [] /\ G = [],fun h _ => h,fun h i hi => by obtain ⟨rfl,rfl⟩:=h; simp at hi⟩
def SA.sepP (A B : SA) (F G : List Nat) (w : World) : Prop:=∃ F1 G1 F2 G2,F = F1 ++ F2 /\ G = G1 ++ G2 /\ A.p F1 G1 w /\ B.p F2 G2 w /\ (∀ i ∈ F1,i ∉ F2 /\ i ∉ G2) /\ (∀ i ∈ F2,i ∉ G1)
@[irreducible] def sep (A B : SA) : SA:=⟨A.sepP B,
 fun {F G w w'} h hw => by
  obtain ⟨F1,G1,F2,G2,rfl,rfl,h1,h2,h3,h4⟩:=h
  exact ⟨F1,G1,F2,G2,rfl,rfl,A.loc h1 (fun i hi => hw i (by simp; rcases hi with h | h <;> simp [h])),B.loc h2 (fun i hi => hw i (by simp; rcases hi with h | h <;> simp [h])),h3,h4⟩,
 fun {F G w} h i hi => by
  obtain ⟨F1,G1,F2,G2,rfl,rfl,h1,h2,h3,h4⟩:=h
  simp only [List.mem_append] at hi
  rcases hi with (h | h) | (h | h)
  ·exact A.lt h1 i (.inl h)
  ·exact B.lt h2 i (.inl h)
  ·exact A.lt h1 i (.inr h)
  ·exact B.lt h2 i (.inr h)⟩
@[irreducible] def ex {α : Type} (f : α -> SA) : SA:=⟨fun F G w => ∃ x,(f x).p F G w,fun h hw => by obtain ⟨x,h⟩:=h; exact ⟨x,(f x).loc h hw⟩,fun h i hi => by obtain ⟨x,h⟩:=h; exact (f x).lt h i hi⟩
@[irreducible] def pr (c : Prop) : SA:=⟨fun F G _ => F = [] /\ G = [] /\ c,fun h _ => h,fun h i hi => by obtain ⟨rfl,rfl,_⟩:=h; simp at hi⟩
@[irreducible] def blk (B : Nat) (T : TypeId) (cs : List Value) : SA:=⟨fun F G w => F = [B] /\ G = [] /\ Blk w B T cs,
 fun {F G w w'} h hw => by
  obtain ⟨rfl,rfl,lo,hi,h1,h2⟩:=h
  exact ⟨rfl,rfl,lo,hi,(hw B (by simp)).trans h1,h2⟩,
 fun {F G w} h i hi => by obtain ⟨rfl,rfl,h⟩:=h; simp at hi; subst hi; exact h.lt⟩
@[irreducible] def own (e : TypeId) (z : Nat) (A : Option Addr) (n c : Nat) (cs : List Value) : SA:=⟨fun F G w => F = fpA A /\ G = [] /\ Own w e z A n c cs,
 fun {F G w w'} h hw => by
  obtain ⟨rfl,rfl,h⟩:=h
  refine ⟨rfl,rfl,?_⟩
  rcases h with h | ⟨B,spare,rfl,⟨lo,hi,h1,h2⟩,h3⟩
  ·exact .inl h
  ·exact .inr ⟨B,spare,rfl,⟨lo,hi,(hw B (by simp [fpA])).trans h1,h2⟩,h3⟩,
 fun {F G w} h i hi => by obtain ⟨rfl,rfl,h⟩:=h; simp at hi; exact h.lt i hi⟩
@[irreducible] def ro (φ : World -> Prop) : SA:=⟨fun F G w => F = [] /\ (∀ i ∈ G,i < w.heap.size) /\ ∀ w' : World,(∀ i ∈ G,w'.heap[i]? = w.heap[i]?) -> φ w',
 fun {F G w w'} h hw => by
  obtain ⟨rfl,h1,h2⟩:=h
  exact ⟨rfl,fun i hi => lt_same (h1 i hi) (hw i (.inr hi)),fun w'' h => h2 w'' fun i hi => (h i hi).trans (hw i (.inr hi))⟩,
 fun {F G w} h i hi => by obtain ⟨rfl,h1,h2⟩:=h; simp at hi; exact h1 i hi⟩
abbrev rows (A : Option Addr) (cs : List Value) : SA:=ro fun w => Row w A cs
def all : List SA -> SA
 | [] => emp
 | A :: L => sep A (all L)
structure Ctx where
 S0 : List Nat
 w0 : World
structure St (c : Ctx) (w : World) (L : List SA) : Prop where
 kp : Kp c.S0 c.w0 w
 mem : ∃ F G,(all L).p F G w /\ ∀ i ∈ F,i < c.w0.heap.size -> i ∈ c.S0
theorem sep_p {A B : SA} {F G : List Nat} {w : World} : (sep A B).p F G w ↔ A.sepP B F G w:=by unfold sep; exact Iff.rfl
theorem all_cons {A : SA} {L : List SA} {F G : List Nat} {w : World} : (all (A :: L)).p F G w ↔ A.sepP (all L) F G w:=sep_p
theorem emp_p {F G : List Nat} {w : World} : emp.p F G w ↔ F = [] /\ G = []:=by unfold emp; exact Iff.rfl
theorem blk_p {B : Nat} {T : TypeId} {cs : List Value} {F G : List Nat} {w : World} : (blk B T cs).p F G w ↔ F = [B] /\ G = [] /\ Blk w B T cs:=by unfold blk; exact Iff.rfl
theorem own_p {e z n c : Nat} {A : Option Addr} {cs : List Value} {F G : List Nat} {w : World} : (own e z A n c cs).p F G w ↔ F = fpA A /\ G = [] /\ Own w e z A n c cs:=by unfold own; exact Iff.rfl
theorem ro_p {φ : World -> Prop} {F G : List Nat} {w : World} : (ro φ).p F G w ↔ F = [] /\ (∀ i ∈ G,i < w.heap.size) /\ ∀ w' : World,(∀ i ∈ G,w'.heap[i]? = w.heap[i]?) -> φ w':=by unfold ro; exact Iff.rfl
theorem ex_p {α : Type} {f : α -> SA} {F G : List Nat} {w : World} : (ex f).p F G w ↔ ∃ x,(f x).p F G w:=by unfold ex; exact Iff.rfl
def Ent (A B : SA) : Prop:=∀ F G w,A.p F G w -> ∃ F' G',B.p F' G' w /\ (∀ i ∈ F',i ∈ F) /\ (∀ i ∈ G',i ∈ F ∨ i ∈ G)
theorem Ent.refl (A : SA) : Ent A A:=fun F G w h => ⟨F,G,h,fun _ h => h,fun _ h => .inr h⟩
theorem Ent.trans {A B C : SA} (h : Ent A B) (k : Ent B C) : Ent A C:=fun F G w hA => by
 obtain ⟨F1,G1,h1,h2,h3⟩:=h F G w hA
 obtain ⟨F2,G2,k1,k2,k3⟩:=k F1 G1 w h1
 refine ⟨F2,G2,k1,fun i hi => h2 i (k2 i hi),fun i hi => ?_⟩
 rcases k3 i hi with h | h
 ·exact .inl (h2 i h)
 ·exact h3 i h
theorem Ent.sep {A B A' B' : SA} (h : Ent A A') (k : Ent B B') : Ent (sep A B) (sep A' B'):=fun F G w hs => by
 rw [sep_p] at hs
 obtain ⟨F1,G1,F2,G2,rfl,rfl,h1,h2,h3,h4⟩:=hs
 obtain ⟨F1',G1',a1,a2,a3⟩:=h _ _ _ h1
 obtain ⟨F2',G2',b1,b2,b3⟩:=k _ _ _ h2
 refine ⟨F1' ++ F2',G1' ++ G2',sep_p.2 ⟨F1',G1',F2',G2',rfl,rfl,a1,b1,fun i hi => ⟨fun hc => (h3 i (a2 i hi)).1 (b2 i hc),fun hc => ?_⟩,fun i hi hc => ?_⟩,fun i hi => ?_,fun i hi => ?_⟩
 ·rcases b3 i hc with h | h
  ·exact (h3 i (a2 i hi)).1 h
  ·exact (h3 i (a2 i hi)).2 h
 ·rcases a3 i hc with h | h
  ·exact (h3 i h).1 (b2 i hi)
  ·exact h4 i (b2 i hi) h
 ·simp only [List.mem_append] at hi ⊢
  exact hi.imp (a2 i) (b2 i)
 ·simp only [List.mem_append] at hi ⊢
  rcases hi with h | h
  ·rcases a3 i h with h | h <;> simp [h]
  ·rcases b3 i h with h | h <;> simp [h]
theorem Ent.comm (A B : SA) : Ent (Br.sep A B) (Br.sep B A):=fun F G w h => by
 rw [sep_p] at h
 obtain ⟨F1,G1,F2,G2,rfl,rfl,h1,h2,h3,h4⟩:=h
 refine ⟨F2 ++ F1,G2 ++ G1,sep_p.2 ⟨F2,G2,F1,G1,rfl,rfl,h2,h1,fun i hi => ⟨fun hc => (h3 i hc).1 hi,h4 i hi⟩,fun i hi => (h3 i hi).2⟩,fun i hi => ?_,fun i hi => .inr ?_⟩
 ·simp only [List.mem_append] at hi ⊢; exact hi.symm
 ·simp only [List.mem_append] at hi ⊢; exact hi.symm
theorem Ent.assoc (A B C : SA) : Ent (Br.sep (Br.sep A B) C) (Br.sep A (Br.sep B C)):=fun F G w h => by
 rw [sep_p] at h
 obtain ⟨F1,G1,F2,G2,rfl,rfl,h1,h2,h3,h4⟩:=h
 rw [sep_p] at h1
 obtain ⟨F3,G3,F4,G4,rfl,rfl,k1,k2,k3,k4⟩:=h1
 refine ⟨F3 ++ (F4 ++ F2),G3 ++ (G4 ++ G2),sep_p.2 ⟨F3,G3,F4 ++ F2,G4 ++ G2,rfl,rfl,k1,sep_p.2 ⟨F4,G4,F2,G2,rfl,rfl,k2,h2,fun i hi => h3 i (by simp [hi]),fun i hi hc => h4 i hi (by simp [hc])⟩,fun i hi => ?_,fun i hi => ?_⟩,fun i hi => by simpa [List.append_assoc] using hi,fun i hi => .inr (by simpa [List.append_assoc] using hi)⟩
 ·have:=h3 i (by simp [hi])
  have:=k3 i hi
  simp only [List.mem_append]; grind
 ·simp only [List.mem_append] at hi
  rcases hi with h | h
  ·exact k4 i h
  ·intro hc; exact h4 i h (by simp [hc])
theorem Ent.assoc' (A B C : SA) : Ent (Br.sep A (Br.sep B C)) (Br.sep (Br.sep A B) C):=((Ent.comm _ _).trans ((Ent.comm _ _).sep (Ent.refl _))).trans ((Ent.assoc _ _ _).trans ((Ent.comm _ _).trans ((Ent.comm _ _).sep (Ent.refl _) |>.trans (Ent.refl _))))
theorem Ent.drop (A B : SA) : Ent (Br.sep A B) B:=fun F G w h => by
 rw [sep_p] at h
 obtain ⟨F1,G1,F2,G2,rfl,rfl,h1,h2,h3,h4⟩:=h
 exact ⟨F2,G2,h2,fun i hi => by simp [hi],fun i hi => .inr (by simp [hi])⟩
theorem Ent.swap (A B C : SA) : Ent (Br.sep A (Br.sep B C)) (Br.sep B (Br.sep A C)):=(Ent.assoc' A B C).trans (((Ent.comm A B).sep (Ent.refl C)).trans (Ent.assoc B A C))
theorem St.ent {c : Ctx} {w : World} {L L' : List SA} (h : St c w L) (e : Ent (all L) (all L')) : St c w L':=by
 obtain ⟨k,F,G,h1,h2⟩:=h
 obtain ⟨F',G',h3,h4,_⟩:=e _ _ _ h1
 exact ⟨k,F',G',h3,fun i hi => h2 i (h4 i hi)⟩
theorem St.enth {c : Ctx} {w : World} {A A' : SA} {L : List SA} (h : St c w (A :: L)) (e : Ent A A') : St c w (A' :: L):=h.ent (e.sep (Ent.refl _))
theorem St.drop {c : Ctx} {w : World} {A : SA} {L : List SA} (h : St c w (A :: L)) : St c w L:=h.ent (Ent.drop _ _)
theorem St.swap {c : Ctx} {w : World} {A B : SA} {L : List SA} (h : St c w (A :: B :: L)) : St c w (B :: A :: L):=h.ent (Ent.swap _ _ _)
theorem St.join {c : Ctx} {w : World} {A B : SA} {L : List SA} (h : St c w (A :: B :: L)) : St c w (sep A B :: L):=h.ent (Ent.assoc' _ _ _)
theorem St.split {c : Ctx} {w : World} {A B : SA} {L : List SA} (h : St c w (sep A B :: L)) : St c w (A :: B :: L):=h.ent (Ent.assoc _ _ _)
theorem St.drew {c : Ctx} {w : World} {L : List SA} (h : St c w L) : St c w.drew L:=by
 obtain ⟨k,F,G,h1,h2⟩:=h
 exact ⟨k.then ((Kp.drew w).mono (by simp)),F,G,(all L).loc h1 (fun _ _ => rfl),h2⟩
inductive Pick (A : SA) : List SA -> List SA -> Prop where
 | head {L : List SA} : Pick A (A :: L) L
 | tail {B : SA} {L R : List SA} (h : Pick A L R) : Pick A (B :: L) (B :: R)
theorem Pick.ent {A : SA} {L R : List SA} (h : Pick A L R) : Ent (all L) (all (A :: R)):=by
 induction h with
 | head => exact Ent.refl _
 | tail h ih => exact ((Ent.refl _).sep ih).trans (Ent.swap _ _ _)
theorem Pick.back {A : SA} {L R : List SA} (h : Pick A L R) : Ent (all (A :: R)) (all L):=by
 induction h with
 | head => exact Ent.refl _
 | tail h ih => exact (Ent.swap _ _ _).trans ((Ent.refl _).sep ih)
theorem St.back {c : Ctx} {w : World} {A : SA} {L R : List SA} (h : St c w (A :: R)) (hp : Pick A L R) : St c w L:=h.ent hp.back
theorem St.pick {c : Ctx} {w : World} {A : SA} {L R : List SA} (h : St c w L) (hp : Pick A L R) : St c w (A :: R):=h.ent hp.ent
inductive Sub : List SA -> List SA -> Prop where
 | nil {L : List SA} : Sub L []
 | cons {A : SA} {L R L' : List SA} (h : Pick A L R) (k : Sub R L') : Sub L (A :: L')
theorem Sub.ent {L L' : List SA} (h : Sub L L') : Ent (all L) (all L'):=by
 induction h with
 | nil => exact fun F G w _ => ⟨[],[],emp_p.2 ⟨rfl,rfl⟩,by simp,by simp⟩
 | cons h k ih => exact h.ent.trans ((Ent.refl _).sep ih)
theorem St.sub {c : Ctx} {w : World} {L L' : List SA} (h : St c w L) (hs : Sub L L') : St c w L':=h.ent hs.ent
theorem Sub.same : ∀ (L : List SA),Sub L L
 | [] => .nil
 | _ :: L => .cons .head (Sub.same L)
theorem Sub.more {X : SA} : ∀ {L L' : List SA},Sub L L' -> Sub (X :: L) L'
 | _,_,.nil => .nil
 | _,_,.cons h k => .cons (.tail h) k.more
theorem St.to {c : Ctx} {w : World} {L L' : List SA} (h : St c w L) (hs : Sub L L':=by repeat' (first | exact .nil | exact (Sub.same _) | exact (Sub.same _).more | exact (Sub.same _).more.more | exact (Sub.same _).more.more.more | exact (Sub.same _).more.more.more.more | exact (Sub.same _).more.more.more.more.more | exact (Sub.same _).more.more.more.more.more.more | exact (Sub.same _).more.more.more.more.more.more.more | refine .cons (by first | exact .head | exact .tail .head | exact .tail (.tail .head) | exact .tail (.tail (.tail .head)) | exact .tail (.tail (.tail (.tail .head))) | exact .tail (.tail (.tail (.tail (.tail .head)))) | exact .tail (.tail (.tail (.tail (.tail (.tail .head))))) | exact .tail (.tail (.tail (.tail (.tail (.tail (.tail .head)))))) | exact .tail (.tail (.tail (.tail (.tail (.tail (.tail (.tail .head))))))) | exact .tail (.tail (.tail (.tail (.tail (.tail (.tail (.tail (.tail .head)))))))) | exact .tail (.tail (.tail (.tail (.tail (.tail (.tail (.tail (.tail (.tail .head))))))))) | exact .tail (.tail (.tail (.tail (.tail (.tail (.tail (.tail (.tail (.tail (.tail .head))))))))))) ?_)) : St c w L':=h.ent hs.ent
theorem St.get {c : Ctx} {w : World} {A : SA} {L R : List SA} (h : St c w L) (hp : Pick A L R) : ∃ F G,A.p F G w:=by
 obtain ⟨_,F,G,h1,_⟩:=h.pick hp
 rw [all_cons] at h1
 obtain ⟨F1,G1,F2,G2,_,_,h1,_⟩:=h1
 exact ⟨F1,G1,h1⟩
theorem St.blk {c : Ctx} {w : World} {B : Nat} {T : TypeId} {cs : List Value} {L R : List SA} (h : St c w L) (hp : Pick (blk B T cs) L R) : Blk w B T cs:=by
 obtain ⟨F,G,h⟩:=h.get hp
 rw [blk_p] at h; exact h.2.2
theorem St.own {c : Ctx} {w : World} {e z n k : Nat} {A : Option Addr} {cs : List Value} {L R : List SA} (h : St c w L) (hp : Pick (own e z A n k cs) L R) : Own w e z A n k cs:=by
 obtain ⟨F,G,h⟩:=h.get hp
 rw [own_p] at h; exact h.2.2
theorem St.ro {c : Ctx} {w : World} {φ : World -> Prop} {L R : List SA} (h : St c w L) (hp : Pick (ro φ) L R) : φ w:=by
 obtain ⟨F,G,h⟩:=h.get hp
 rw [ro_p] at h; exact h.2.2 w fun _ _ => rfl
theorem St.ex {c : Ctx} {w : World} {α : Type} {f : α -> SA} {L : List SA} (h : St c w (ex f :: L)) : ∃ x,St c w (f x :: L):=by
 obtain ⟨k,F,G,h1,h2⟩:=h
 rw [all_cons] at h1
 obtain ⟨F1,G1,F2,G2,rfl,rfl,h1,h3⟩:=h1
 rw [ex_p] at h1
 obtain ⟨x,h1⟩:=h1
 exact ⟨x,k,_,_,all_cons.2 ⟨F1,G1,F2,G2,rfl,rfl,h1,h3⟩,h2⟩
theorem St.exi {c : Ctx} {w : World} {α : Type} {f : α -> SA} {L : List SA} (x : α) (h : St c w (f x :: L)) : St c w (Br.ex f :: L):=h.enth fun F G w h => ⟨F,G,ex_p.2 ⟨x,h⟩,fun _ h => h,fun _ h => .inr h⟩
theorem St.addRo {c : Ctx} {w : World} {φ ψ : World -> Prop} {L R : List SA} (h : St c w L) (hp : Pick (Br.ro φ) L R) (hi : ∀ w,φ w -> ψ w) : St c w (Br.ro ψ :: L):=by
 have e : Ent (all L) (all (Br.ro ψ :: L)):=hp.ent.trans (Ent.trans (B:=all (Br.ro ψ :: Br.ro φ :: R)) ?_ ?_)
 ·exact h.ent e
 ·intro F G w h
  rw [all_cons] at h
  obtain ⟨F1,G1,F2,G2,rfl,rfl,h1,h2,h3,h4⟩:=h
  rw [ro_p] at h1
  obtain ⟨rfl,h5,h6⟩:=h1
  refine ⟨[] ++ ([] ++ F2),G1 ++ (G1 ++ G2),all_cons.2 ⟨[],G1,[] ++ F2,G1 ++ G2,rfl,rfl,ro_p.2 ⟨rfl,h5,fun w' hw => hi _ (h6 w' hw)⟩,all_cons.2 ⟨[],G1,F2,G2,rfl,rfl,ro_p.2 ⟨rfl,h5,h6⟩,h2,h3,h4⟩,by simp,?_⟩,by simp,?_⟩
  ·intro i hi; exact h4 i (by simpa using hi)
  ·intro i hi; simp only [List.mem_append] at hi ⊢; grind
 ·refine (Ent.refl _).sep ?_
  clear h
  induction hp with
  | head => exact Ent.refl _
  | tail h ih => exact (Ent.swap _ _ _).trans ((Ent.refl _).sep ih)
theorem own_rows {e z n k : Nat} {A : Option Addr} {cs : List Value} : Ent (Br.own e z A n k cs) (rows A cs):=fun F G w h => by
 rw [own_p] at h
 obtain ⟨rfl,rfl,h⟩:=h
 refine ⟨[],fpA A,ro_p.2 ⟨rfl,h.lt,fun w' hw => ?_⟩,by simp,fun i hi => .inl hi⟩
 rcases h with ⟨_,_,_,rfl⟩ | ⟨B,spare,rfl,⟨lo,hi,h1,h2⟩,h3,h4⟩
 ·exact Row.nil _ _
 ·have hb : Blk w' B e (cs ++ spare):=⟨lo,hi,(hw B (by simp [fpA])).trans h1,h2⟩
  have:=hb.row 0 cs.length
  simpa using this
theorem blk_own {B e z k : Nat} {cs : List Value} (hl : cs.length = k * z) : Ent (Br.blk B e cs) (Br.own e z (some ⟨B,0,none⟩) k k cs):=fun F G w h => by
 rw [blk_p] at h
 obtain ⟨rfl,rfl,h⟩:=h
 exact ⟨[B],[],own_p.2 ⟨rfl,rfl,Own.full h hl⟩,fun _ h => h,by simp⟩
theorem St.open {c : Ctx} {w : World} {A : SA} {R : List SA} (h : St c w (A :: R)) : ∃ F G,A.p F G w /\ ∀ {A' : SA} {w' : World} {F' G' : List Nat},Kp F w w' -> A'.p F' G' w' ->
  (∀ i ∈ F',i ∈ F ∨ w.heap.size <= i) -> (∀ i ∈ G',i ∈ F ∨ i ∈ G ∨ w.heap.size <= i) -> St c w' (A' :: R):=by
 obtain ⟨k,F,G,h1,h2⟩:=h
 rw [all_cons] at h1
 obtain ⟨F1,G1,F2,G2,rfl,rfl,h1,h3,h4,h5⟩:=h1
 refine ⟨F1,G1,h1,fun {A' w' F' G'} k' hA' hF hG => ⟨?_,F' ++ F2,G' ++ G2,all_cons.2 ⟨F',G',F2,G2,rfl,rfl,hA',?_,fun i hi => ?_,fun i hi hc => ?_⟩,fun i hi hlt => ?_⟩⟩
 ·exact k.trans k' (fun _ h => h) fun i hi hlt => h2 i (by simp [hi]) hlt
 ·refine (all R).loc h3 fun i hi => k'.block i ((all R).lt h3 i hi) fun hc => ?_
  rcases hi with h | h
  ·exact (h4 i hc).1 h
  ·exact (h4 i hc).2 h
 ·rcases hF i hi with h | h
  ·exact h4 i h
  ·exact ⟨fun hc => absurd ((all R).lt h3 i (.inl hc)) (by omega),fun hc => absurd ((all R).lt h3 i (.inr hc)) (by omega)⟩
 ·rcases hG i hc with h | h | h
  ·exact (h4 i h).1 hi
  ·exact h5 i hi h
  ·exact absurd ((all R).lt h3 i (.inl hi)) (by omega)
 ·simp only [List.mem_append] at hi
  rcases hi with h | h
  ·rcases hF i h with h | h
   ·exact h2 i (by simp [h]) hlt
   ·have:=k.size; omega
  ·exact h2 i (by simp [h]) hlt
theorem St.new {c : Ctx} {w w' : World} {L : List SA} {A : SA} {F G : List Nat} (h : St c w L) (k : Kp [] w w') (hA : A.p F G w') (hF : ∀ i ∈ F,w.heap.size <= i) (hG : ∀ i ∈ G,w.heap.size <= i) : St c w' (A :: L):=by
 have h0 : St c w (emp :: L):=h.ent fun F G w h => ⟨F,G,all_cons.2 ⟨[],[],F,G,rfl,rfl,emp_p.2 ⟨rfl,rfl⟩,h,by simp,by simp⟩,fun _ h => h,fun _ h => .inr h⟩
 obtain ⟨F0,G0,h1,h2⟩:=h0.open
 rw [emp_p] at h1
 obtain ⟨rfl,rfl⟩:=h1
 exact h2 k hA (fun i hi => .inr (hF i hi)) (fun i hi => .inr (.inr (hG i hi)))
theorem St.start {w : World} {φ : World -> Prop} (h : ∀ w',(∀ i,i < w.heap.size -> w'.heap[i]? = w.heap[i]?) -> φ w') : St ⟨[],w⟩ w [Br.ro φ] :=
 ⟨Kp.refl w,[],List.range w.heap.size ++ [],all_cons.2 ⟨[],List.range w.heap.size,[],[],rfl,rfl,ro_p.2 ⟨rfl,by simp,fun w' hw => h w' fun i hi => hw i (by simpa using hi)⟩,emp_p.2 ⟨rfl,rfl⟩,by simp,by simp⟩,by simp⟩
/-! ### Steps -/
class PkB (B : Nat) (L : List SA) (T : outParam TypeId) (cs : outParam (List Value)) (R : outParam (List SA)) : Prop where
 pk : Pick (Br.blk B T cs) L R
instance PkB.here {B : Nat} {L : List SA} {T : TypeId} {cs : List Value} : PkB B (Br.blk B T cs :: L) T cs L:=⟨.head⟩
instance (priority:=low) PkB.there {B : Nat} {L R : List SA} {T : TypeId} {cs : List Value} {X : SA} [h : PkB B L T cs R] : PkB B (X :: L) T cs (X :: R):=⟨.tail h.pk⟩
class PkO (A : Option Addr) (L : List SA) (e z n k : outParam Nat) (cs : outParam (List Value)) (R : outParam (List SA)) : Prop where
 pk : Pick (Br.own e z A n k cs) L R
instance (priority:=low) PkO.there {A : Option Addr} {L R : List SA} {e z n k : Nat} {cs : List Value} {X : SA} [h : PkO A L e z n k cs R] : PkO A (X :: L) e z n k cs (X :: R):=⟨.tail h.pk⟩
class PkR (A : Option Addr) (L : List SA) (cs : outParam (List Value)) (R : outParam (List SA)) : Prop where
 pk : Pick (rows A cs) L R
instance (priority:=low) PkR.there {A : Option Addr} {L R : List SA} {cs : List Value} {X : SA} [h : PkR A L cs R] : PkR A (X :: L) cs (X :: R):=⟨.tail h.pk⟩
def RdIn (L : List SA) (A : Option Addr) (cs : List Value) : Prop:=∀ c w,St c w L -> Row w A cs
theorem RdIn.rows {L R : List SA} {A : Option Addr} {cs : List Value} (hp : Pick (rows A cs) L R:=by exact PkR.pk) : RdIn L A cs:=fun c w h => h.ro hp
theorem RdIn.own {L R : List SA} {e z n k : Nat} {A : Option Addr} {cs : List Value} (hp : Pick (Br.own e z A n k cs) L R:=by exact PkO.pk) : RdIn L A cs:=fun c w h => (h.own hp).row
theorem RdIn.nil {L : List SA} {A : Option Addr} : RdIn L A []:=fun c w h => Row.nil w A
theorem RdIn.cut {L : List SA} {A : Option Addr} {cs : List Value} (h : RdIn L A cs) {c z : Nat} (hc : cs.length <= c * z) (l : Int) : RdIn L (cutA A c z l) (cs.drop (l.toNat * z)):=fun c' w hs => cutA_row (h c' w hs) hc
theorem RdIn.take {L : List SA} {A : Option Addr} {cs : List Value} (h : RdIn L A cs) (n : Nat) : RdIn L A (cs.take n):=fun c' w hs => (h c' w hs).take n
theorem RdIn.more {L : List SA} {A : Option Addr} {cs : List Value} (h : RdIn L A cs) {X : SA} : RdIn (X :: L) A cs:=fun c w hs => h c w hs.drop
theorem row_at {α : Type} {g : α -> List Value} {z : Nat} {w : World} {a : Addr} {Y : List α} {i j : Nat} {y : α} {v : Value} (h : Row w (some a) (Y.flatMap g)) (hy : Y[i]? = some y) (hz : ∀ x,(g x).length = z) (hv : (g y)[j]? = some v) :
  w.cell? (Addr.add (Addr.add a (Int.toNat (i : Int) * z)) j) = some v:=by
 have hj : j < (g y).length:=(List.getElem?_eq_some_iff.1 hv).1
 rw [hz] at hj
 obtain ⟨b,hb,hc⟩:=row_get hz (by omega) h hy
 injection hb with hb
 subst hb
 exact hc j v hv
theorem row_at0 {α : Type} {g : α -> List Value} {z : Nat} {w : World} {a : Addr} {Y : List α} {i : Nat} {y : α} {v : Value} (h : Row w (some a) (Y.flatMap g)) (hy : Y[i]? = some y) (hz : ∀ x,(g x).length = z) (hv : (g y)[0]? = some v) :
  w.cell? (Addr.add a (Int.toNat (i : Int) * z)) = some v:=by
 have:=row_at h hy hz hv
 rwa [add_add,Nat.add_zero] at this
theorem St.rdI {c : Ctx} {w : World} {L R : List SA} {P : Program} {B : Nat} {T t : TypeId} {cs : List Value} {k : IntKind} {x : Int} {K : Int -> Prop} (h : St c w L) (o : Nat) (hk : K x) (hp : Pick (Br.blk B T cs) L R:=by exact PkB.pk) (hv : cs[o]? = some (.int k x):=by rfl) (ht : ldT P t = true:=by kernel_rfl) : RDI P (loadVar t (Addr.add ⟨B,0,none⟩ o)) k w K:=RD.of (ld o (h.blk hp) hv ht) ⟨_,rfl,hk⟩
theorem St.rdsI {c : Ctx} {L R : List SA} {P : Program} {B : Nat} {T t : TypeId} {cs : List Value} {k : IntKind} {x : Int} {K : Int -> Prop} (o : Nat) (hk : K x) (hp : Pick (Br.blk B T cs) L R:=by exact PkB.pk) (hv : cs[o]? = some (.int k x):=by rfl) (ht : ldT P t = true:=by kernel_rfl) : RDSI P (loadVar t (Addr.add ⟨B,0,none⟩ o)) k (fun w => St c w L) K:=⟨_,fun w h => ld o (h.blk hp) hv ht,_,rfl,hk⟩
theorem St.rdEI {α : Type} {g : α -> List Value} {Y : List α} {i z : Nat} {y : α} {a : Addr} {c : Ctx} {w : World} {L : List SA} {P : Program} {t : TypeId} {k : IntKind} {x : Int} {K : Int -> Prop} (h : St c w L) (j : Nat) (hr : RdIn L (some a) (Y.flatMap g)) (hy : Y[i]? = some y) (hk : K x) (hv : (g y)[j]? = some (.int k x):=by rfl) (hz : ∀ x,(g x).length = z:=by intros; rfl) (ht : ldT P t = true:=by kernel_rfl) : RDI P (loadVar t (Addr.add (Addr.add a (Int.toNat (i : Int) * z)) j)) k w K :=
 RD.of (ldc (row_at (hr c w h) hy hz hv) ht) ⟨_,rfl,hk⟩
theorem St.rdWI {α : Type} {g : α -> List Value} {Y : List α} {i z : Nat} {y : α} {a : Addr} {c : Ctx} {w : World} {L : List SA} {P : Program} {t : TypeId} {k : IntKind} {x : Int} {K : Int -> Prop} (h : St c w L) (hr : RdIn L (some a) (Y.flatMap g)) (hy : Y[i]? = some y) (hk : K x) (hv : g y = [.int k x]:=by rfl) (hz : ∀ x,(g x).length = z:=by intros; rfl) (ht : ldT P t = true:=by kernel_rfl) : RDI P (loadVar t (Addr.add a (Int.toNat (i : Int) * z))) k w K :=
 RD.of (ldc (row_at0 (hr c w h) hy hz (by rw [hv]; rfl)) ht) ⟨_,rfl,hk⟩
theorem St.rdsEI {α : Type} {g : α -> List Value} {Y : List α} {i z : Nat} {y : α} {a : Addr} {c : Ctx} {L : List SA} {P : Program} {t : TypeId} {k : IntKind} {x : Int} {K : Int -> Prop} (j : Nat) (hr : RdIn L (some a) (Y.flatMap g)) (hy : Y[i]? = some y) (hk : K x) (hv : (g y)[j]? = some (.int k x):=by rfl) (hz : ∀ x,(g x).length = z:=by intros; rfl) (ht : ldT P t = true:=by kernel_rfl) : RDSI P (loadVar t (Addr.add (Addr.add a (Int.toNat (i : Int) * z)) j)) k (fun w => St c w L) K :=
 ⟨_,fun w h => ldc (row_at (hr c w h) hy hz hv) ht,_,rfl,hk⟩
theorem St.rdsWI {α : Type} {g : α -> List Value} {Y : List α} {i z : Nat} {y : α} {a : Addr} {c : Ctx} {L : List SA} {P : Program} {t : TypeId} {k : IntKind} {x : Int} {K : Int -> Prop} (hr : RdIn L (some a) (Y.flatMap g)) (hy : Y[i]? = some y) (hk : K x) (hv : g y = [.int k x]:=by rfl) (hz : ∀ x,(g x).length = z:=by intros; rfl) (ht : ldT P t = true:=by kernel_rfl) : RDSI P (loadVar t (Addr.add a (Int.toNat (i : Int) * z))) k (fun w => St c w L) K :=
 ⟨_,fun w h => ldc (row_at0 (hr c w h) hy hz (by rw [hv]; rfl)) ht,_,rfl,hk⟩
theorem St.rdB {c : Ctx} {w : World} {L R : List SA} {P : Program} {B : Nat} {T t : TypeId} {cs : List Value} {x : Bool} {K : Bool -> Prop} (h : St c w L) (o : Nat) (hk : K x) (hp : Pick (Br.blk B T cs) L R:=by exact PkB.pk) (hv : cs[o]? = some (.bool x):=by rfl) (ht : ldT P t = true:=by kernel_rfl) : RDB P (loadVar t (Addr.add ⟨B,0,none⟩ o)) w K:=RD.of (ld o (h.blk hp) hv ht) ⟨_,rfl,hk⟩
theorem St.rdsB {c : Ctx} {L R : List SA} {P : Program} {B : Nat} {T t : TypeId} {cs : List Value} {x : Bool} {K : Bool -> Prop} (o : Nat) (hk : K x) (hp : Pick (Br.blk B T cs) L R:=by exact PkB.pk) (hv : cs[o]? = some (.bool x):=by rfl) (ht : ldT P t = true:=by kernel_rfl) : RDSB P (loadVar t (Addr.add ⟨B,0,none⟩ o)) (fun w => St c w L) K:=⟨_,fun w h => ld o (h.blk hp) hv ht,_,rfl,hk⟩
theorem St.rdsT {c : Ctx} {L R : List SA} {P : Program} {B : Nat} {T t : TypeId} {cs : List Value} {x : ByteArray} {K : ByteArray -> Prop} (o : Nat) (hk : K x) (hp : Pick (Br.blk B T cs) L R:=by exact PkB.pk) (hv : cs[o]? = some (.string x):=by rfl) (ht : ldT P t = true:=by kernel_rfl) : RDST P (loadVar t (Addr.add ⟨B,0,none⟩ o)) (fun w => St c w L) K:=⟨_,fun w h => ld o (h.blk hp) hv ht,_,rfl,hk⟩
theorem St.rdP {c : Ctx} {w : World} {L R : List SA} {P : Program} {B : Nat} {T t : TypeId} {cs : List Value} {x : Option Addr} {K : Option Addr -> Prop} (h : St c w L) (o : Nat) (hk : K x) (hp : Pick (Br.blk B T cs) L R:=by exact PkB.pk) (hv : cs[o]? = some (.pointer x):=by rfl) (ht : ldT P t = true:=by kernel_rfl) : RDP P (loadVar t (Addr.add ⟨B,0,none⟩ o)) w K:=RD.of (ld o (h.blk hp) hv ht) ⟨_,rfl,hk⟩
theorem St.rdsP {c : Ctx} {L R : List SA} {P : Program} {B : Nat} {T t : TypeId} {cs : List Value} {x : Option Addr} {K : Option Addr -> Prop} (o : Nat) (hk : K x) (hp : Pick (Br.blk B T cs) L R:=by exact PkB.pk) (hv : cs[o]? = some (.pointer x):=by rfl) (ht : ldT P t = true:=by kernel_rfl) : RDSP P (loadVar t (Addr.add ⟨B,0,none⟩ o)) (fun w => St c w L) K:=⟨_,fun w h => ld o (h.blk hp) hv ht,_,rfl,hk⟩
theorem St.rdWP {α : Type} {g : α -> List Value} {Y : List α} {i z : Nat} {y : α} {a : Addr} {c : Ctx} {w : World} {L : List SA} {P : Program} {t : TypeId} {x : Option Addr} {K : Option Addr -> Prop} (h : St c w L) (hr : RdIn L (some a) (Y.flatMap g)) (hy : Y[i]? = some y) (hk : K x) (hv : g y = [.pointer x]:=by rfl) (hz : ∀ x,(g x).length = z:=by intros; rfl) (ht : ldT P t = true:=by kernel_rfl) : RDP P (loadVar t (Addr.add a (Int.toNat (i : Int) * z))) w K :=
 RD.of (ldc (row_at0 (hr c w h) hy hz (by rw [hv]; rfl)) ht) ⟨_,rfl,hk⟩
theorem St.rdL {c : Ctx} {w : World} {L R : List SA} {P : Program} {B : Nat} {T t : TypeId} {cs : List Value} {x : Option Addr} {n : Nat} {d : Nat} {K : Option Addr -> Nat -> Nat -> Prop} (h : St c w L) (o : Nat) (hk : K x n d) (hp : Pick (Br.blk B T cs) L R:=by exact PkB.pk) (hv : cs[o]? = some (.slice x n d):=by rfl) (ht : ldT P t = true:=by kernel_rfl) : RDL P (loadVar t (Addr.add ⟨B,0,none⟩ o)) w K:=RD.of (ld o (h.blk hp) hv ht) ⟨_,_,_,rfl,hk⟩
theorem St.rdsL {c : Ctx} {L R : List SA} {P : Program} {B : Nat} {T t : TypeId} {cs : List Value} {x : Option Addr} {n : Nat} {d : Nat} {K : Option Addr -> Nat -> Nat -> Prop} (o : Nat) (hk : K x n d) (hp : Pick (Br.blk B T cs) L R:=by exact PkB.pk) (hv : cs[o]? = some (.slice x n d):=by rfl) (ht : ldT P t = true:=by kernel_rfl) : RDSL P (loadVar t (Addr.add ⟨B,0,none⟩ o)) (fun w => St c w L) K:=⟨_,fun w h => ld o (h.blk hp) hv ht,_,_,_,rfl,hk⟩
theorem St.rdWL {α : Type} {g : α -> List Value} {Y : List α} {i z : Nat} {y : α} {a : Addr} {c : Ctx} {w : World} {L : List SA} {P : Program} {t : TypeId} {x : Option Addr} {n : Nat} {d : Nat} {K : Option Addr -> Nat -> Nat -> Prop} (h : St c w L) (hr : RdIn L (some a) (Y.flatMap g)) (hy : Y[i]? = some y) (hk : K x n d) (hv : g y = [.slice x n d]:=by rfl) (hz : ∀ x,(g x).length = z:=by intros; rfl) (ht : ldT P t = true:=by kernel_rfl) : RDL P (loadVar t (Addr.add a (Int.toNat (i : Int) * z))) w K :=
 RD.of (ldc (row_at0 (hr c w h) hy hz (by rw [hv]; rfl)) ht) ⟨_,_,_,rfl,hk⟩
theorem St.rdsEL {α : Type} {g : α -> List Value} {Y : List α} {i z : Nat} {y : α} {a : Addr} {c : Ctx} {L : List SA} {P : Program} {t : TypeId} {x : Option Addr} {n : Nat} {d : Nat} {K : Option Addr -> Nat -> Nat -> Prop} (j : Nat) (hr : RdIn L (some a) (Y.flatMap g)) (hy : Y[i]? = some y) (hk : K x n d) (hv : (g y)[j]? = some (.slice x n d):=by rfl) (hz : ∀ x,(g x).length = z:=by intros; rfl) (ht : ldT P t = true:=by kernel_rfl) : RDSL P (loadVar t (Addr.add (Addr.add a (Int.toNat (i : Int) * z)) j)) (fun w => St c w L) K :=
 ⟨_,fun w h => ldc (row_at (hr c w h) hy hz hv) ht,_,_,_,rfl,hk⟩
theorem St.rdG {c : Ctx} {w : World} {L R : List SA} {P : Program} {B : Nat} {T t : TypeId} {cs : List Value} {K : Value -> Prop} (h : St c w L) (hk : K (.agg cs.toArray)) (hp : Pick (Br.blk B T cs) L R:=by exact PkB.pk) (ht : isAggT P t = true:=by kernel_rfl) (hz : sizeAt P t = some cs.length:=by kernel_rfl) : RD P (loadVar t ⟨B,0,none⟩) w K:=RD.of (ldAll (h.blk hp) ht hz) hk
theorem St.rdsG {c : Ctx} {L R : List SA} {P : Program} {B : Nat} {T t : TypeId} {cs : List Value} {K : Value -> Prop} (hk : K (.agg cs.toArray)) (hp : Pick (Br.blk B T cs) L R:=by exact PkB.pk) (ht : isAggT P t = true:=by kernel_rfl) (hz : sizeAt P t = some cs.length:=by kernel_rfl) : RDS P (loadVar t ⟨B,0,none⟩) (fun w => St c w L) K:=⟨_,fun w h => ldAll (h.blk hp) ht hz,hk⟩
theorem St.rdEG {α : Type} {g : α -> List Value} {Y : List α} {i z : Nat} {y : α} {a : Addr} {c : Ctx} {w : World} {L : List SA} {P : Program} {t : TypeId} {K : Value -> Prop} (h : St c w L) (hr : RdIn L (some a) (Y.flatMap g)) (hy : Y[i]? = some y) (hk : K (.agg (g y).toArray)) (hz : ∀ x,(g x).length = z:=by intros; rfl) (ht : isAggT P t = true:=by kernel_rfl) (hs : sizeAt P t = some z:=by kernel_rfl) : RD P (loadVar t (Addr.add a (Int.toNat (i : Int) * z))) w K :=
 RD.of (ldAt ht (by rw [hz]; exact hs) fun j v hj => row_at (hr c w h) hy hz hj) hk
theorem St.ix {α : Type} {g : α -> List Value} {Y : List α} {i z n : Nat} {y : α} {A : Option Addr} {c : Ctx} {w : World} {L : List SA} {K : Addr -> Prop} (h : St c w L) (hr : RdIn L A (Y.flatMap g)) (hy : Y[i]? = some y) (hk : ∀ a,A = some a -> K a) (hn : i < n:=by omega) (hz : ∀ x,(g x).length = z + 1:=by intros; rfl) : IDX A n (i : Int) K:=by
 obtain ⟨a,ha,_⟩:=row_get hz (by omega) (hr c w h) hy
 exact ⟨⟨by omega,by omega⟩,a,ha,hk a ha⟩
theorem flat_all {vs : List Value} (h : vs.all Value.oneCell' = true) : Flat vs:=fun v hv => by simpa using List.all_eq_true.1 h v hv
theorem St.st {c : Ctx} {w : World} {L R : List SA} {P : Program} {B : Nat} {T t : TypeId} {cs : List Value} {v : Value} {K : World -> Prop} (h : St c w L) (o : Nat) (hk : ∀ w',St c w' (Br.blk B T (cs.set o v) :: R) -> K w') (hp : Pick (Br.blk B T cs) L R:=by exact PkB.pk) (hz : sizeAt P t = some 1:=by kernel_rfl) (hv : v.oneCell' = true:=by kernel_rfl) (ho : o < cs.length:=by exact Nat.le_of_ble_eq_true rfl) : RUNU P (storeVar t (Addr.add ⟨B,0,none⟩ o) v) w K:=by
 obtain ⟨F,G,h1,h2⟩:=(h.pick hp).open
 rw [blk_p] at h1
 obtain ⟨rfl,rfl,hb⟩:=h1
 exact Br.st o hb hz hv ho fun w' k s hb' => hk w' (h2 k (blk_p.2 ⟨rfl,rfl,hb'⟩) (by simp) (by simp))
theorem St.st2 {c : Ctx} {w : World} {L R : List SA} {P : Program} {B : Nat} {T t : TypeId} {cs : List Value} {v : Value} {K : World -> Prop} (h : St c w L) (o o' : Nat) (hk : ∀ w',St c w' (Br.blk B T (cs.set (o + o') v) :: R) -> K w') (hp : Pick (Br.blk B T cs) L R:=by exact PkB.pk) (hz : sizeAt P t = some 1:=by kernel_rfl) (hv : v.oneCell' = true:=by kernel_rfl) (ho : o + o' < cs.length:=by exact Nat.le_of_ble_eq_true rfl) : RUNU P (storeVar t (Addr.add (Addr.add ⟨B,0,none⟩ o) o') v) w K:=by
 rw [add_add]
 exact h.st (o + o') hk hp hz hv ho
theorem St.stG {c : Ctx} {w : World} {L R : List SA} {P : Program} {B : Nat} {T t : TypeId} {cs vs : List Value} {K : World -> Prop} (h : St c w L) (hk : ∀ w',St c w' (Br.blk B T vs :: R) -> K w') (hp : Pick (Br.blk B T cs) L R:=by exact PkB.pk) (hz : sizeAt P t = some vs.length:=by kernel_rfl) (hl : cs.length = vs.length:=by kernel_rfl) (hf : vs.all Value.oneCell' = true:=by kernel_rfl) : RUNU P (storeVar t ⟨B,0,none⟩ (.agg vs.toArray)) w K:=by
 obtain ⟨F,G,h1,h2⟩:=(h.pick hp).open
 rw [blk_p] at h1
 obtain ⟨rfl,rfl,hb⟩:=h1
 have hf : Flat vs:=flat_all hf
 exact stAll (v:=.agg vs.toArray) hb hl hz (by simp [Value.cells]) (by simpa [Value.cells] using hf) fun w' k s hb' => hk w' (h2 k (blk_p.2 ⟨rfl,rfl,by simpa [Value.cells] using hb'⟩) (by simp) (by simp))
theorem St.newBlk {c : Ctx} {w : World} {L : List SA} (h : St c w L) (cs : Array Value) (T : TypeId) : St c (w.alloc (.cells cs T)) (Br.blk w.heap.size T cs.toList :: L) :=
 h.new (alloc_kp w _) (blk_p.2 ⟨rfl,rfl,Blk.new w cs T⟩) (by simp) (by simp)
theorem St.box {c : Ctx} {w : World} {L : List SA} {P : Program} {t : TypeId} {vs : List Value} {K : Addr -> World -> Prop} (h : St c w L) (hk : ∀ p w',St c w' (Br.blk p t vs :: L) -> K ⟨p,0,none⟩ w') : RUNA P (Instr.box t (.agg vs.toArray)) w K :=
 ⟨_,_,run_box w t _,_,rfl,hk _ _ (by have:=h.newBlk (Value.agg vs.toArray).cells t; simpa [Value.cells] using this)⟩
theorem St.alloc {c : Ctx} {w : World} {L : List SA} {P : Program} {t : TypeId} {z b : Nat} {zv : Value} {K : Addr -> World -> Prop} (h : St c w L) (hi : TI P t z b zv) (hk : ∀ p w',St c w' (Br.blk p t zv.cells.toList :: L) -> K ⟨p,0,none⟩ w') : RUNA P (Instr.alloc t true (.tuple #[])) w K:=by
 obtain ⟨i,h1,h2,h3,h4⟩:=hi
 exact ⟨_,_,run_alloc w t h1 h4,_,rfl,hk _ _ (h.newBlk zv.cells t)⟩
theorem St.allocG {c : Ctx} {w : World} {L : List SA} {P : Program} {t : TypeId} {z b : Nat} {cs : List Value} {K : Addr -> World -> Prop} (h : St c w L) (hi : TI P t z b (.agg cs.toArray)) (hk : ∀ p w',St c w' (Br.blk p t cs :: L) -> K ⟨p,0,none⟩ w') : RUNA P (Instr.alloc t true (.tuple #[])) w K :=
 h.alloc hi fun p w' h => hk p w' (by simpa [Value.cells] using h)
class Bld (P : Program) (s : Sem Value) (v : outParam Value) : Prop where
 run : ∀ w,s.run P w = .ok v w
theorem RD.bld {P : Program} {s : Sem Value} {v : Value} {w : World} {K : Value -> Prop} [h : Bld P s v] (hk : K v) : RD P s w K:=RD.of (h.run w) hk
theorem RDS.bld {P : Program} {s : Sem Value} {v : Value} {S : World -> Prop} {K : Value -> Prop} [h : Bld P s v] (hk : K v) : RDS P s S K:=⟨v,fun w _ => h.run w,hk⟩
class Zro (P : Program) (t : TypeId) (z b : outParam Nat) (zv : outParam Value) : Prop where
 ti : TI P t z b zv
theorem St.allocZ {c : Ctx} {w : World} {L : List SA} {P : Program} {t : TypeId} {z b : Nat} {cs : List Value} {K : Addr -> World -> Prop} (h : St c w L) [hi : Zro P t z b (.agg cs.toArray)] (hk : ∀ p w',St c w' (Br.blk p t cs :: L) -> K ⟨p,0,none⟩ w') : RUNA P (Instr.alloc t true (.tuple #[])) w K :=
 h.allocG hi.ti hk
theorem sat {c : Ctx} {w : World} {L : List SA} {X : (World -> Prop) -> Prop} (h : St c w L) (hk : X fun w => St c w L) : ∃ S : World -> Prop,S w /\ X S:=⟨_,h,hk⟩
theorem sat1 {c : Ctx} {w : World} {L : List SA} {T : World -> Prop} {X : (World -> Prop) -> Prop} (h : St c w L) (hs : ∀ w,St c w L -> T w) (hk : X fun w => St c w L) : ∃ S : World -> Prop,(∀ x,S x -> T x) /\ S w /\ X S:=⟨_,hs,h,hk⟩
theorem jWp {c : Ctx} {w : World} {L : List SA} {A : (World -> Prop) -> Prop} {B : World -> Prop} (h : St c w L) (φ : Prop) (h1 : A fun w' => φ /\ St c w' L) (h2 : φ -> ∀ w',St c w' L -> B w') : ∃ R : World -> Prop,A R /\ ∀ w',R w' -> B w':=⟨_,h1,fun w' ⟨a,b⟩ => h2 a w' b⟩
theorem jB {c : Ctx} {w : World} {L : List SA} {A : (Bool -> World -> Prop) -> Prop} {B : Bool -> World -> Prop} (h : St c w L) (φ : Bool -> Prop) (h1 : A fun x w' => φ x /\ St c w' L) (h2 : ∀ x w',φ x -> St c w' L -> B x w') : ∃ R : Bool -> World -> Prop,A R /\ ∀ x w',R x w' -> B x w':=⟨_,h1,fun x w' ⟨a,b⟩ => h2 x w' a b⟩
theorem jI {c : Ctx} {w : World} {L : List SA} {A : (Int -> World -> Prop) -> Prop} {B : Int -> World -> Prop} (h : St c w L) (φ : Int -> Prop) (h1 : A fun x w' => φ x /\ St c w' L) (h2 : ∀ x w',φ x -> St c w' L -> B x w') : ∃ R : Int -> World -> Prop,A R /\ ∀ x w',R x w' -> B x w':=⟨_,h1,fun x w' ⟨a,b⟩ => h2 x w' a b⟩
theorem St.lit {c : Ctx} {w : World} {L : List SA} {P : Program} {t n : Nat} {parts : Array (Nat × Value)} {K : Option Addr -> Nat -> Nat -> World -> Prop} (h : St c w L) (e : TypeId) (z : Nat) (cs : List Value) (hk : ∀ p w',St c w' (Br.own e z (some ⟨p,0,none⟩) n n cs :: L) -> K (some ⟨p,0,none⟩) n n w') (hl : ∀ w,(Instr.buildSlice t n parts).run P w = .ok (.slice (some ⟨w.heap.size,0,none⟩) n n) (w.alloc (.cells cs.toArray e)):=by intro w; kernel_rfl) (hc : cs.length = n * z:=by rfl) :
  RUNL P (Instr.buildSlice t n parts) w K :=
 ⟨_,_,hl w,_,_,_,rfl,hk _ _ ((h.newBlk cs.toArray e).enth (by simpa using blk_own hc))⟩
theorem St.append {c : Ctx} {w : World} {L R : List SA} {P : Program} {t ty e : TypeId} {z b : Nat} {zv : Value} {A A2 : Option Addr} {n d m c2 : Nat} {cs new : List Value} {K : Option Addr -> Nat -> Nat -> World -> Prop} (h : St c w L) (hu : P.underlying t = some (.slice e)) (hi : TI P e z b zv) (hp : Pick (Br.own e z A n d cs) L R) (hr : RdIn L A2 new) (hl : new.length = m * z) (hf : Flat new) (hbig : (n + m) * b <= 140737488355328) (hk : ∀ A' c' w',St c w' (Br.own e z A' (n + m) c' (cs ++ new) :: R) -> K A' (n + m) c' w') (hzc : zv.cells.size = z:=by rfl) (hb0 : b ≠ 0:=by decide) (hz0 : z <= b:=by decide) : RUNL P (Builtin.append_ #[t,t] ty #[.slice A n d,.slice A2 m c2]) w K:=by
 have hrow:=hr c w h
 obtain ⟨F,G,h1,h2⟩:=(h.pick hp).open
 rw [own_p] at h1
 obtain ⟨rfl,rfl,ho⟩:=h1
 exact append1 hu hi hzc hb0 hz0 ho hrow hl hf hbig fun A' c' w' k ho' hA => ⟨_,_,_,rfl,hk A' c' w' (h2 k (own_p.2 ⟨rfl,rfl,ho'⟩) (fun i hi => by
  rcases hA with rfl | ⟨a,rfl,ha⟩
  ·exact .inl hi
  ·simp [fpA] at hi; subst hi; exact .inr ha) (by simp))⟩
theorem St.app1 {c : Ctx} {w : World} {L R : List SA} {P : Program} {t ty e : TypeId} {z b : Nat} {zv v : Value} {A : Option Addr} {n d : Nat} {cs : List Value} {K : Option Addr -> Nat -> Nat -> World -> Prop} (h : St c w L) (hu : P.underlying t = some (.slice e)) (hi : TI P e z b zv) (new : List Value) (hp : Pick (Br.own e z A n d cs) L R) (hf : Flat new) (hbig : (n + 1) * b <= 140737488355328) (hk : ∀ A' c' w',St c w' (Br.own e z A' (n + 1) c' (cs ++ new) :: R) -> K A' (n + 1) c' w') (hlit : ∀ w,(Instr.buildSlice t 1 #[(0,v)]).run P w = .ok (.slice (some ⟨w.heap.size,0,none⟩) 1 1) (w.alloc (.cells new.toArray e)):=by intro w; kernel_rfl) (hn : new.length = z:=by rfl) (hzc : zv.cells.size = z:=by rfl) (hb0 : b ≠ 0:=by decide) (hz0 : z <= b:=by decide) :
  RUNL P (Instr.buildSlice t 1 #[(0,v)]) w fun x xN xC w3 => RUNL P (Builtin.append_ #[t,t] ty #[.slice A n d,.slice x xN xC]) w3 K :=
 h.lit (n:=1) e z new (hl:=hlit) (hc:=by rw [hn]; omega) fun p w' h' => h'.append hu hi (.tail hp) (.own .head) (by rw [hn]; omega) hf hbig (fun A' c' w'' h'' => hk A' c' w'' (h''.sub (.cons .head (by
  clear h'' h' hf hk
  have : ∀ {X : SA} {R : List SA},Sub (X :: R) R:=fun {X R} => by
   induction R generalizing X with
   | nil => exact .nil
   | cons Y R ih => exact .cons (.tail .head) ih
  exact this)))) hzc hb0 hz0
theorem St.make {c : Ctx} {w : World} {L : List SA} {P : Program} {t e : TypeId} {z b : Nat} {zv : Value} {l d : Int} {K : Option Addr -> Nat -> Nat -> World -> Prop} (h : St c w L) (hu : P.underlying t = some (.slice e)) (hi : TI P e z b zv) (h0 : 0 <= l) (h1 : l <= d) (hbig : (b : Int) * d <= 140737488355328) (hc : d <= 140737488355328) (hk : ∀ p w',St c w' (Br.blk p e (zeros zv.cells.toList d.toNat) :: L) -> K (some ⟨p,0,none⟩) l.toNat d.toNat w') (hzc : zv.cells.size = z:=by rfl) : RUNL P (Instr.makeSlice t (.int .i64 l) (.int .i64 d)) w K :=
 make1 hu hi hzc h0 h1 hbig hc fun w' k s hb => ⟨_,_,_,rfl,hk _ w' (h.new k (blk_p.2 ⟨rfl,rfl,hb⟩) (by simp) (by simp))⟩
theorem St.addOwnNil {c : Ctx} {w : World} {L : List SA} (h : St c w L) (e : TypeId) (z : Nat) : St c w (Br.own e z none 0 0 [] :: L) :=
 h.new (F:=[]) (G:=[]) (Kp.refl w) (own_p.2 ⟨rfl,rfl,Own.nil _ _ _⟩) (by simp) (by simp)
theorem St.stEF {α : Type} {g : α -> List Value} {Y : List α} {i j : Nat} {x : α} {a : Addr} {c : Ctx} {w : World} {L R : List SA} {P : Program} {t e : TypeId} {z n d : Nat} {v : Value} {K : World -> Prop} (h : St c w L) (hp : Pick (Br.own e z (some a) n d (Y.flatMap g)) L R) (hx : Y[i]? = some x) (y : α) (hk : ∀ w',St c w' (Br.own e z (some a) n d ((Y.set i y).flatMap g) :: R) -> K w') (hy : g y = (g x).set j v:=by rfl) (hz : ∀ x,(g x).length = z:=by intros; rfl) (hj : j < z:=by decide) (hv : v.oneCell' = true:=by kernel_rfl) (h1 : sizeAt P t = some 1:=by kernel_rfl) : RUNU P (storeVar t (Addr.add (Addr.add a (Int.toNat (i : Int) * z)) j) v) w K:=by
 obtain ⟨F,G,h1',h2⟩:=(h.pick hp).open
 rw [own_p] at h1'
 obtain ⟨rfl,rfl,ho⟩:=h1'
 exact st_own hz ho hx hj hy h1 hv fun w' k s ho' => hk w' (h2 k (own_p.2 ⟨rfl,rfl,ho'⟩) (fun _ h => .inl h) (by simp))
theorem bvs_flat (bs : List UInt8) : bvs bs = bs.flatMap fun b => [bv b]:=by simp [bvs,List.flatMap_def]; induction bs <;> simp_all
theorem letw {x : Int} {K : Int -> Prop} (hk : K x) (h1 : -9223372036854775808 <= x:=by omega) (h2 : x <= 9223372036854775807:=by omega) : LETI (IntKind.i64.wrap x) K:=leti (wrap_i64 h1 h2) hk
@[irreducible] def held (F : List Nat) (φ : World -> Prop) : SA:=⟨fun F' G w => F' = F /\ G = [] /\ (∀ i ∈ F,i < w.heap.size) /\ ∀ w' : World,(∀ i ∈ F,w'.heap[i]? = w.heap[i]?) -> φ w',
 fun {F' G w w'} h hw => by
  obtain ⟨rfl,rfl,h1,h2⟩:=h
  exact ⟨rfl,rfl,fun i hi => lt_same (h1 i hi) (hw i (.inl hi)),fun w'' h => h2 w'' fun i hi => (h i hi).trans (hw i (.inl hi))⟩,
 fun {F' G w} h i hi => by obtain ⟨rfl,rfl,h1,h2⟩:=h; simp at hi; exact h1 i hi⟩
theorem held_p {F F' G : List Nat} {φ : World -> Prop} {w : World} : (held F φ).p F' G w ↔ F' = F /\ G = [] /\ (∀ i ∈ F,i < w.heap.size) /\ ∀ w' : World,(∀ i ∈ F,w'.heap[i]? = w.heap[i]?) -> φ w':=by unfold held; exact Iff.rfl
theorem held_mk {F : List Nat} {φ : World -> Prop} {w : World} (lt : ∀ i ∈ F,i < w.heap.size) (h : ∀ w' : World,(∀ i ∈ F,w'.heap[i]? = w.heap[i]?) -> φ w') : (held F φ).p F [] w:=held_p.2 ⟨rfl,rfl,lt,h⟩
theorem St.held {c : Ctx} {w : World} {F : List Nat} {φ : World -> Prop} {L R : List SA} (h : St c w L) (hp : Pick (Br.held F φ) L R) : φ w /\ ∀ i ∈ F,i < w.heap.size:=by
 obtain ⟨F,G,h⟩:=h.get hp
 rw [held_p] at h; exact ⟨h.2.2.2 w fun _ _ => rfl,h.2.2.1⟩
theorem Blk.same {w w' : World} {B : Nat} {T : TypeId} {cs : List Value} (h : Blk w B T cs) (e : w'.heap[B]? = w.heap[B]?) : Blk w' B T cs:=by
 obtain ⟨lo,hi,h1,h2⟩:=h.at_
 exact ⟨lo,hi,e.trans h1,h2⟩
theorem nilc {a : Addr} {K : Addr -> Prop} (h : K a) : NILC (some a) K:=h
theorem ifq {x y : Int} {X Y : Prop} (hx : x = y -> X) (hy : x ≠ y -> Y) : IFB (x == y) X Y:=⟨fun h => hx (by simpa using h),fun h => hy (by simpa using h)⟩
theorem ifn {x y : Int} {X Y : Prop} (hx : x ≠ y -> X) (hy : x = y -> Y) : IFB (x != y) X Y:=⟨fun h => hx (by simpa using h),fun h => hy (by simpa using h)⟩
theorem ifb {b : Bool} {X Y : Prop} (hx : b = true -> X) (hy : b = false -> Y) : IFB b X Y:=⟨hx,hy⟩
theorem ifnot {b : Bool} {X Y : Prop} (hx : b = false -> X) (hy : b = true -> Y) : IFB (!b) X Y:=⟨fun h => hx (by simpa using h),fun h => hy (by simpa using h)⟩
theorem ifnsame {a b : Int} {X Y : Prop} (h : a = b) (hy : Y) : IFB (a != b) X Y:=iff_ (by simp [h]) hy
theorem putBlk_none (w : World) {i : Nat} {a : Addr} (h : a.block = i) : (World.putBlk w i []).cell? a = none:=by
 subst h
 unfold World.cell? World.putBlk
 simp only [Array.getElem?_modify,if_true]
 cases w.heap[a.block]? with
 | none => rfl
 | some o => cases o <;> simp
theorem St.openR {c : Ctx} {w : World} {A : SA} {R : List SA} (h : St c w (A :: R)) : ∃ F G,A.p F G w /\ (∀ {X : Option Addr} {cs : List Value},RdIn R X cs -> ∀ a,X = some a -> cs ≠ [] -> a.block ∉ F) /\ ∀ {A' : SA} {w' : World} {F' G' : List Nat},Kp F w w' -> A'.p F' G' w' ->
  (∀ i ∈ F',i ∈ F ∨ w.heap.size <= i) -> (∀ i ∈ G',i ∈ F ∨ i ∈ G ∨ w.heap.size <= i) -> St c w' (A' :: R):=by
 obtain ⟨F,G,h1,h2⟩:=h.open
 refine ⟨F,G,h1,fun {X cs} hr a ha hne hm => ?_,h2⟩
 have h3:=h2 (A':=emp) (w':=World.putBlk w a.block []) (F':=[]) (G':=[]) ((putBlk_kp w a.block []).mono (by simpa using hm)) (emp_p.2 ⟨rfl,rfl⟩) (by simp) (by simp)
 have hrow:=hr _ _ h3.drop
 cases cs with
 | nil => exact hne rfl
 | cons v r =>
  obtain ⟨b,hb,hc⟩:=hrow 0 v rfl
  rw [ha] at hb
  injection hb with hb
  subst hb
  rw [putBlk_none w (add_block _ _)] at hc
  cases hc
theorem agg_rd {α : Type} {P : Program} {W : World} {t : TypeId} {g : α -> List Value} {WF : World -> α -> Prop} {v : Value} (hrd : ∀ {f : Nat} {es : List Value},RdT P W f t es -> ∃ x,es = g x /\ WF W x) (h : ArgOk P W t v) (ha : isAggT P t = true:=by kernel_rfl) :
  ∃ x,v = .agg (g x).toArray /\ WF W x:=by
 obtain ⟨f,cs,h1,h2,_,h3⟩:=h
 obtain ⟨xs,rfl⟩:=h3 ha
 obtain ⟨x,rfl,hw⟩:=hrd h1
 simp only [Value.cells] at h2
 exact ⟨x,by rw [<- h2],hw⟩
/-! ### Structs that are compared -/
def sameV : Value -> Value -> Bool
 | .int _ a,.int _ b => a == b
 | .bool a,.bool b => a == b
 | .string a,.string b => a.toList == b.toList
 | _,_ => false
def eqCell (P : Program) (t : TypeId) (x y : Option Value) : Bool :=
 ldT P t && (match P.underlying t,x,y with
 | some (.int _),some (.int k _),some (.int k' _) => sameK k k'
 | some .bool,some (.bool _),some (.bool _) => true
 | some .string,some (.string _),some (.string _) => true
 | _,_,_ => false)
def eqOk (P : Program) (xs ys : List Value) : List Field → Bool
 | [] => true
 | f :: fs => (f.name != "_") && eqCell P f.type xs[f.offset]? ys[f.offset]? && eqOk P xs ys fs
def eqRes (xs ys : List Value) : List Field -> Bool
 | [] => true
 | f :: fs => (match xs[f.offset]?,ys[f.offset]? with | some x,some y => sameV x y | _,_ => false) && eqRes xs ys fs
theorem run_eqFields {P : Program} (w : World) (d : Nat) {xs ys : List Value} : ∀ {fs : List Field},eqOk P xs ys fs = true -> (Op.eqFields (d + 1) xs.toArray ys.toArray fs).run P w = .ok (eqRes xs ys fs) w
 | [],_ => by simp [Op.eqFields,eqRes]
 | f :: fs,h => by
  simp only [eqOk,Bool.and_eq_true,bne_iff_ne,ne_eq] at h
  obtain ⟨⟨h1,h2⟩,h3⟩:=h
  have ih:=run_eqFields w d h3
  unfold eqCell at h2
  simp only [Bool.and_eq_true] at h2
  obtain ⟨hl,h2⟩:=h2
  simp only [ldT,Bool.and_eq_true,Bool.not_eq_true'] at hl
  have hag : (isAgg f.type).run P w = .ok false w:=by
   have h4:=hl.1
   unfold isAggT at h4
   cases hu : P.underlying f.type with
   | none => rw [hu] at hl; cases hl.2
   | some dd =>
    rw [hu] at h4
    simp only [isAgg,Sem.run_bind,run_und hu,Result.andThen_ok]
    cases dd <;> first | rfl | cases h4
  have hp : ∀ (l : List Value) (v : Value),l[f.offset]? = some v -> (part f.type l.toArray f.offset).run P w = .ok v w:=fun l v hv => by
   simp [part,hag,hv]
  split at h2
  ·rename_i k kx a ky b hu hx hy
   obtain rfl:=sameK_eq h2
   have he:=run_equalIn_int (P:=P) w d f.type kx k a b hu
   simp only [Op.eqFields,h1,ne_eq,not_false_eq_true,if_true,Sem.run_bind,hp _ _ hx,hp _ _ hy,Result.andThen_ok,he,eqRes,hx,hy,sameV]
   cases hab : (a == b) <;> simp [ih]
  ·rename_i a b hu hx hy
   have he:=run_equalIn_bool' (P:=P) w d f.type a b hu
   simp only [Op.eqFields,h1,ne_eq,not_false_eq_true,if_true,Sem.run_bind,hp _ _ hx,hp _ _ hy,Result.andThen_ok,he,eqRes,hx,hy,sameV]
   cases hab : (a == b) <;> simp [ih]
  ·rename_i a b hu hx hy
   have he:=run_equalIn_string (P:=P) w d f.type a b hu
   simp only [Op.eqFields,h1,ne_eq,not_false_eq_true,if_true,Sem.run_bind,hp _ _ hx,hp _ _ hy,Result.andThen_ok,he,eqRes,hx,hy,sameV]
   cases hab : (a.toList == b.toList) <;> simp [ih]
  ·cases h2
def eqOkN (P : Program) : Nat → List Value → List Value → List Field → Bool
 | 0, _, _, _ => false
 | _ + 1, _, _, [] => true
 | k + 1, xs, ys, f :: fs => (f.name != "_") && (bif isAggT P f.type then (match P.underlying f.type, sizeAt P f.type with
   | some (.struct _), some z => !(P.stoodInHeld f.type) && eqOkN P k ((xs.drop f.offset).take z) ((ys.drop f.offset).take z) (P.fieldsOf f.type).toList
   | _, _ => false) else eqCell P f.type xs[f.offset]? ys[f.offset]?) && eqOkN P k xs ys fs
def eqResN (P : Program) : Nat -> List Value -> List Value -> List Field -> Bool
 | 0,_,_,_ => true
 | _ + 1,_,_,[] => true
 | k + 1,xs,ys,f :: fs => (bif isAggT P f.type then (match sizeAt P f.type with
   | some z => eqResN P k ((xs.drop f.offset).take z) ((ys.drop f.offset).take z) (P.fieldsOf f.type).toList
   | none => true) else (match xs[f.offset]?,ys[f.offset]? with | some x,some y => sameV x y | _,_ => false)) && eqResN P k xs ys fs
theorem run_eqFieldsN {P : Program} (w : World) : ∀ (k d : Nat) {xs ys : List Value} {fs : List Field},k <= d -> eqOkN P k xs ys fs = true -> (Op.eqFields (d + 1) xs.toArray ys.toArray fs).run P w = .ok (eqResN P k xs ys fs) w:=by
 intro k
 induction k with
 | zero => intro d xs ys fs hd h; simp [eqOkN] at h
 | succ k ih =>
  intro d xs ys fs hd h
  cases fs with
  | nil => simp [Op.eqFields,eqResN]
  | cons f fs =>
   simp only [eqOkN,Bool.and_eq_true,bne_iff_ne,ne_eq] at h
   obtain ⟨⟨h1,h2⟩,h3⟩:=h
   have hrest:=ih d (by omega) h3
   obtain ⟨d,rfl⟩ : ∃ d',d = d' + 1:=⟨d - 1,by omega⟩
   cases ha : isAggT P f.type with
   | true =>
    rw [ha] at h2
    simp only [cond_true] at h2
    split at h2
    ·rename_i fs' z hu hz
     simp only [Bool.and_eq_true,Bool.not_eq_true'] at h2
     have hag : (isAgg f.type).run P w = .ok true w:=by simp [isAgg,run_und hu]
     have hp : ∀ l : List Value,(part f.type l.toArray f.offset).run P w = .ok (.agg ((l.drop f.offset).take z).toArray) w:=fun l => by
      unfold sizeAt at hz
      cases hi : P.info? f.type with
      | none => simp [hi] at hz
      | some info =>
       simp [hi] at hz
       simp [part,hag,sizeOf,run_info hi,hz]
     have hfs : P.underlying f.type = some (.struct (P.fieldsOf f.type)):=by
      rw [hu]; simp [Program.fieldsOf,hu]
     have he:=run_equalIn_struct w (d + 1) f.type ((xs.drop f.offset).take z).toArray ((ys.drop f.offset).take z).toArray hfs h2.1
     rw [ih d (by omega) h2.2] at he
     simp only [Op.eqFields,h1,ne_eq,not_false_eq_true,if_true,Sem.run_bind,hp,Result.andThen_ok,he,eqResN,ha,cond_true,hz]
     cases hb : eqResN P k ((xs.drop f.offset).take z) ((ys.drop f.offset).take z) (P.fieldsOf f.type).toList <;> simp [hrest]
    ·cases h2
   | false =>
    rw [ha] at h2
    simp only [cond_false] at h2
    unfold eqCell at h2
    simp only [Bool.and_eq_true] at h2
    obtain ⟨hl,h2⟩:=h2
    simp only [ldT,Bool.and_eq_true,Bool.not_eq_true'] at hl
    have hag : (isAgg f.type).run P w = .ok false w:=by
     have h4:=hl.1
     unfold isAggT at h4
     cases hu : P.underlying f.type with
     | none => rw [hu] at hl; cases hl.2
     | some dd =>
      rw [hu] at h4
      simp only [isAgg,Sem.run_bind,run_und hu,Result.andThen_ok]
      cases dd <;> first | rfl | cases h4
    have hp : ∀ (l : List Value) (v : Value),l[f.offset]? = some v -> (part f.type l.toArray f.offset).run P w = .ok v w:=fun l v hv => by
     simp [part,hag,hv]
    split at h2
    ·rename_i k' kx a ky b hu hx hy
     obtain rfl:=sameK_eq h2
     have he:=run_equalIn_int (P:=P) w (d + 1) f.type kx k' a b hu
     simp only [Op.eqFields,h1,ne_eq,not_false_eq_true,if_true,Sem.run_bind,hp _ _ hx,hp _ _ hy,Result.andThen_ok,he,eqResN,ha,cond_false,hx,hy,sameV]
     cases hab : (a == b) <;> simp [hrest]
    ·rename_i a b hu hx hy
     have he:=run_equalIn_bool' (P:=P) w (d + 1) f.type a b hu
     simp only [Op.eqFields,h1,ne_eq,not_false_eq_true,if_true,Sem.run_bind,hp _ _ hx,hp _ _ hy,Result.andThen_ok,he,eqResN,ha,cond_false,hx,hy,sameV]
     cases hab : (a == b) <;> simp [hrest]
    ·rename_i a b hu hx hy
     have he:=run_equalIn_string (P:=P) w (d + 1) f.type a b hu
     simp only [Op.eqFields,h1,ne_eq,not_false_eq_true,if_true,Sem.run_bind,hp _ _ hx,hp _ _ hy,Result.andThen_ok,he,eqResN,ha,cond_false,hx,hy,sameV]
     cases hab : (a.toList == b.toList) <;> simp [hrest]
    ·cases h2
theorem run_eqN {P : Program} (w : World) {T : TypeId} {x y : Operand} {xs ys : List Value} {op : BinOp} (hop : op = .eql ∨ op = .neq) (hg : P.eqGuardType P.depth T = false) (ht : P.underlying T = some (.struct (P.fieldsOf T))) (hp : P.stoodInHeld T = false) (ho : eqOkN P 60 xs ys (P.fieldsOf T).toList = true) :
  (do eqGuard op T x y (.agg xs.toArray) (.agg ys.toArray); binOp op T (.agg xs.toArray) (.agg ys.toArray) : Sem Value).run P w = .ok (.bool (if op = .eql then eqResN P 60 xs ys (P.fieldsOf T).toList else !(eqResN P 60 xs ys (P.fieldsOf T).toList))) w:=by
 rcases hop with rfl | rfl
 ·simp only [Sem.run_bind,run_eqGuard_agg w .eql T x y _ _ hg,Result.andThen_ok,run_eql_struct,run_equalIn_struct w 9999 T _ _ ht hp]
  rw [run_eqFieldsN w 60 9998 (by decide) ho]
  rfl
 ·simp only [Sem.run_bind,run_eqGuard_agg w .neq T x y _ _ hg,Result.andThen_ok,run_neq_struct,run_equalIn_struct w 9999 T _ _ ht hp]
  rw [run_eqFieldsN w 60 9998 (by decide) ho]
  rfl
theorem RDB.eqN {P : Program} {w : World} {T : TypeId} {x y : Operand} {xs ys : List Value} {K : Bool -> Prop} (r : Bool) (hk : K r) (hr : eqResN P 60 xs ys (P.fieldsOf T).toList = r:=by kernel_rfl) (hg : P.eqGuardType P.depth T = false:=by kernel_rfl) (ht : P.underlying T = some (.struct (P.fieldsOf T)):=by kernel_rfl) (hp : P.stoodInHeld T = false:=by kernel_rfl) (ho : eqOkN P 60 xs ys (P.fieldsOf T).toList = true:=by kernel_rfl) :
 RDB P (do eqGuard .eql T x y (.agg xs.toArray) (.agg ys.toArray); binOp .eql T (.agg xs.toArray) (.agg ys.toArray)) w K:=⟨_,run_eqN w (.inl rfl) hg ht hp ho,r,by rw [hr]; rfl,hk⟩
theorem RDSB.eqN {P : Program} {S : World -> Prop} {T : TypeId} {x y : Operand} {xs ys : List Value} {K : Bool -> Prop} (r : Bool) (hk : K r) (hr : eqResN P 60 xs ys (P.fieldsOf T).toList = r:=by kernel_rfl) (hg : P.eqGuardType P.depth T = false:=by kernel_rfl) (ht : P.underlying T = some (.struct (P.fieldsOf T)):=by kernel_rfl) (hp : P.stoodInHeld T = false:=by kernel_rfl) (ho : eqOkN P 60 xs ys (P.fieldsOf T).toList = true:=by kernel_rfl) :
 RDSB P (do eqGuard .eql T x y (.agg xs.toArray) (.agg ys.toArray); binOp .eql T (.agg xs.toArray) (.agg ys.toArray)) S K:=⟨.bool r,fun w _ => by rw [run_eqN w (.inl rfl) hg ht hp ho,hr]; rfl,r,rfl,hk⟩
theorem St.rdI2 {c : Ctx} {w : World} {L R : List SA} {P : Program} {B : Nat} {T t : TypeId} {cs : List Value} {k : IntKind} {x : Int} {K : Int -> Prop} (h : St c w L) (o o' : Nat) (hk : K x)
 (hp : Pick (Br.blk B T cs) L R:=by exact PkB.pk) (hv : cs[o + o']? = some (.int k x):=by rfl) (ht : ldT P t = true:=by kernel_rfl) : RDI P (loadVar t (Addr.add (Addr.add ⟨B,0,none⟩ o) o')) k w K:=RD.of (by rw [add_add]; exact ld (o + o') (h.blk hp) hv ht) ⟨_,rfl,hk⟩
theorem St.rdsI2 {c : Ctx} {L R : List SA} {P : Program} {B : Nat} {T t : TypeId} {cs : List Value} {k : IntKind} {x : Int} {K : Int -> Prop} (o o' : Nat) (hk : K x)
 (hp : Pick (Br.blk B T cs) L R:=by exact PkB.pk) (hv : cs[o + o']? = some (.int k x):=by rfl) (ht : ldT P t = true:=by kernel_rfl) : RDSI P (loadVar t (Addr.add (Addr.add ⟨B,0,none⟩ o) o')) k (fun w => St c w L) K:=⟨_,fun w h => by rw [add_add]; exact ld (o + o') (h.blk hp) hv ht,_,rfl,hk⟩
theorem St.rdsB2 {c : Ctx} {L R : List SA} {P : Program} {B : Nat} {T t : TypeId} {cs : List Value} {x : Bool} {K : Bool -> Prop} (o o' : Nat) (hk : K x)
 (hp : Pick (Br.blk B T cs) L R:=by exact PkB.pk) (hv : cs[o + o']? = some (.bool x):=by rfl) (ht : ldT P t = true:=by kernel_rfl) : RDSB P (loadVar t (Addr.add (Addr.add ⟨B,0,none⟩ o) o')) (fun w => St c w L) K:=⟨_,fun w h => by rw [add_add]; exact ld (o + o') (h.blk hp) hv ht,_,rfl,hk⟩
theorem St.rdGo {c : Ctx} {w : World} {L R : List SA} {P : Program} {B : Nat} {T t : TypeId} {cs : List Value} {K : Value -> Prop} (h : St c w L) (o z : Nat) (hk : K (.agg ((cs.drop o).take z).toArray))
  (hp : Pick (Br.blk B T cs) L R:=by exact PkB.pk) (ht : isAggT P t = true:=by kernel_rfl) (hz : sizeAt P t = some z:=by kernel_rfl) (hl : o + z <= cs.length:=by exact Nat.le_of_ble_eq_true rfl) : RD P (loadVar t (Addr.add ⟨B,0,none⟩ o)) w K :=
 RD.of (ldAt ht (by rw [List.length_take,List.length_drop,hz]; congr 1; omega) fun j v hj => by
  rw [add_add,add_lit,(h.blk hp).cell,Nat.zero_add]
  rw [List.getElem?_take] at hj
  split at hj
  ·rwa [List.getElem?_drop] at hj
  ·cases hj) hk
theorem St.rdsGo {c : Ctx} {L R : List SA} {P : Program} {B : Nat} {T t : TypeId} {cs : List Value} {K : Value -> Prop} (o z : Nat) (hk : K (.agg ((cs.drop o).take z).toArray))
  (hp : Pick (Br.blk B T cs) L R:=by exact PkB.pk) (ht : isAggT P t = true:=by kernel_rfl) (hz : sizeAt P t = some z:=by kernel_rfl) (hl : o + z <= cs.length:=by exact Nat.le_of_ble_eq_true rfl) : RDS P (loadVar t (Addr.add ⟨B,0,none⟩ o)) (fun w => St c w L) K:=by
 have key : ∀ w,St c w L -> (loadVar t (Addr.add ⟨B,0,none⟩ o)).run P w = .ok (.agg ((cs.drop o).take z).toArray) w:=fun w h => ldAt ht (by rw [List.length_take,List.length_drop,hz]; congr 1; omega) fun j v hj => by
  rw [add_add,add_lit,(h.blk hp).cell,Nat.zero_add]
  rw [List.getElem?_take] at hj
  split at hj
  ·rwa [List.getElem?_drop] at hj
  ·cases hj
 exact ⟨_,key,hk⟩
end Go.Br
