/- Pieces of numbers that rise and don't touch, in plain lists. -/
import Derived.Test.YtmglifmopjedbaaGreatSpansRep
set_option linter.unusedVariables false
set_option linter.unusedSimpArgs false
set_option linter.unnecessarySimpa false
namespace Go.Br
open Go
attribute [local irreducible] Addr.add
def SpOk (p : Sp) : Prop:=0 <= p.f /\ p.f < p.t /\ p.t < 18446744073709551616
def Sep (S : List Sp) : Prop:=S.Pairwise (fun a b => a.t < b.f) /\ ∀ a ∈ S,SpOk a
def inP (S : List Sp) (n : Int) : Prop:=∃ p ∈ S,p.f <= n /\ n < p.t
theorem Sep.cons {p : Sp} {S : List Sp} : Sep (p :: S) ↔ (∀ b ∈ S,p.t < b.f) /\ SpOk p /\ Sep S:=by
 unfold Sep
 rw [List.pairwise_cons]
 constructor
 ·rintro ⟨⟨h1,h2⟩,h3⟩
  exact ⟨h1,h3 p (by simp),h2,fun a ha => h3 a (by simp [ha])⟩
 ·rintro ⟨h1,h2,h3,h4⟩
  exact ⟨⟨h1,h3⟩,fun a ha => by
   rcases List.mem_cons.1 ha with rfl | ha
   ·exact h2
   ·exact h4 a ha⟩
theorem Sep.append {X Y : List Sp} : Sep (X ++ Y) ↔ Sep X /\ Sep Y /\ ∀ a ∈ X,∀ b ∈ Y,a.t < b.f:=by
 unfold Sep
 rw [List.pairwise_append]
 constructor
 ·rintro ⟨⟨h1,h2,h3⟩,h4⟩
  exact ⟨⟨h1,fun a ha => h4 a (by simp [ha])⟩,⟨h2,fun a ha => h4 a (by simp [ha])⟩,h3⟩
 ·rintro ⟨⟨h1,h2⟩,⟨h3,h4⟩,h5⟩
  exact ⟨⟨h1,h3,h5⟩,fun a ha => by
   rcases List.mem_append.1 ha with ha | ha
   ·exact h2 a ha
   ·exact h4 a ha⟩
theorem inP_nil (n : Int) : ¬ inP [] n:=fun ⟨p,h,_⟩ => by cases h
theorem inP_cons {p : Sp} {S : List Sp} {n : Int} : inP (p :: S) n ↔ (p.f <= n /\ n < p.t) ∨ inP S n:=by simp [inP]
/-! ### Adding -/
def spA (S : List Sp) (f : Int) : List Sp:=S.takeWhile fun p => decide (p.t < f)
def spB (S : List Sp) (f : Int) : List Sp:=S.dropWhile fun p => decide (p.t < f)
def spM (B : List Sp) (t : Int) : List Sp:=B.takeWhile fun p => decide (p.f <= t)
def spZ (B : List Sp) (t : Int) : List Sp:=B.dropWhile fun p => decide (p.f <= t)
def jF (f : Int) (M : List Sp) : Int:=M.foldl (fun a p => minN a p.f) f
def jT (t : Int) (M : List Sp) : Int:=M.foldl (fun a p => maxN a p.t) t
def addS (S : List Sp) (f t : Int) : List Sp:=spA S f ++ ⟨jF f (spM (spB S f) t),jT t (spM (spB S f) t)⟩ :: spZ (spB S f) t
def addR (S : List Sp) (f t most : Int) : List Sp × Bool :=
 if t <= f then (S,true) else if spM (spB S f) t = [] /\ (S.length : Int) = most then (S,false) else (addS S f t,true)
theorem spAB (S : List Sp) (f : Int) : spA S f ++ spB S f = S:=List.takeWhile_append_dropWhile
theorem spMZ (B : List Sp) (t : Int) : spM B t ++ spZ B t = B:=List.takeWhile_append_dropWhile
theorem mem_takeWhile' {α : Type} {p : α -> Bool} : ∀ {l : List α} {x : α},x ∈ l.takeWhile p -> p x = true
 | [],x,h => by cases h
 | y :: l,x,h => by
  rw [List.takeWhile_cons] at h
  split at h
  ·rcases List.mem_cons.1 h with rfl | h
   ·assumption
   ·exact mem_takeWhile' h
  ·cases h
theorem spM_le {B : List Sp} {t : Int} {p : Sp} (h : p ∈ spM B t) : p.f <= t:=by simpa using mem_takeWhile' h
theorem jT_ge (M : List Sp) : ∀ t : Int,t <= jT t M /\ (∀ p ∈ M,p.t <= jT t M) /\ (jT t M = t ∨ ∃ p ∈ M,jT t M = p.t):=by
 induction M with
 | nil => intro t; exact ⟨Int.le_refl _,(fun p h => by cases h),.inl rfl⟩
 | cons a M ih =>
  intro t
  obtain ⟨h1,h2,h3⟩:=ih (maxN t a.t)
  have e : jT t (a :: M) = jT (maxN t a.t) M:=rfl
  rw [e]
  have hm : t <= maxN t a.t /\ a.t <= maxN t a.t /\ (maxN t a.t = t ∨ maxN t a.t = a.t):=by unfold maxN; split <;> omega
  refine ⟨by omega,fun p hp => ?_,?_⟩
  ·rcases List.mem_cons.1 hp with rfl | hp
   ·omega
   ·exact h2 p hp
  ·rcases h3 with h3 | ⟨p,hp,h3⟩
   ·rcases hm.2.2 with e | e
    ·exact .inl (by omega)
    ·exact .inr ⟨a,by simp,by omega⟩
   ·exact .inr ⟨p,by simp [hp],h3⟩
theorem sep_parts {S : List Sp} {f t : Int} (h : Sep S) : Sep (spA S f) /\ Sep (spM (spB S f) t) /\ Sep (spZ (spB S f) t) /\ Sep (spB S f) /\ (∀ a ∈ spA S f,∀ b ∈ spB S f,a.t < b.f) /\ ∀ a ∈ spM (spB S f) t,∀ b ∈ spZ (spB S f) t,a.t < b.f:=by
 have h1:=h
 rw [<- spAB S f] at h1
 obtain ⟨a1,a2,a3⟩:=Sep.append.1 h1
 have h2:=a2
 rw [<- spMZ (spB S f) t] at h2
 obtain ⟨b1,b2,b3⟩:=Sep.append.1 h2
 exact ⟨a1,b1,b2,a2,a3,b3⟩
/-! ### What is there -/
def runS (S : List Sp) (x : Int) : Int:=match S.find? (fun p => decide (p.f <= x) && decide (x < p.t)) with
 | some p => p.t
 | none => x
theorem runS_in {S : List Sp} {x : Int} (h : inP S x) : ∃ p ∈ S,p.f <= x /\ x < p.t /\ runS S x = p.t:=by
 unfold runS
 split
 ·rename_i p hp
  have h1:=List.find?_some hp
  simp at h1
  exact ⟨p,List.mem_of_find?_eq_some hp,h1.1,h1.2,rfl⟩
 ·rename_i hn
  rw [List.find?_eq_none] at hn
  obtain ⟨p,hp,h1,h2⟩:=h
  have:=hn p hp
  simp at this
  omega
theorem runS_out {S : List Sp} {x : Int} (h : ¬ inP S x) : runS S x = x:=by
 unfold runS
 split
 ·rename_i p hp
  have h1:=List.find?_some hp
  simp at h1
  exact absurd ⟨p,List.mem_of_find?_eq_some hp,h1⟩ h
 ·rfl
/-! ### Gaps -/
def gapsS : List Sp -> Int -> Int -> List Sp
 | [],f,t => if f < t then [⟨f,t⟩] else []
 | p :: S,f,t => if p.t <= f then gapsS S f t else if t <= p.f then gapsS S f t else (if f < p.f then [⟨f,p.f⟩] else []) ++ gapsS S p.t t
theorem gaps_mem : ∀ {S : List Sp} {f t : Int},Sep S -> ∀ g ∈ gapsS S f t,f <= g.f /\ g.f < g.t /\ g.t <= t /\ ∀ n,g.f <= n -> n < g.t -> ¬ inP S n
 | [],f,t,_,g,hg => by
  unfold gapsS at hg
  split at hg
  ·simp at hg; subst hg
   exact ⟨Int.le_refl _,by assumption,Int.le_refl _,fun n _ _ => inP_nil n⟩
  ·cases hg
 | p :: S,f,t,hs,g,hg => by
  obtain ⟨h1,h2,h3⟩:=Sep.cons.1 hs
  unfold gapsS at hg
  split at hg
  ·rename_i hc
   obtain ⟨a1,a2,a3,a4⟩:=gaps_mem h3 g hg
   exact ⟨a1,a2,a3,fun n hn1 hn2 hi => by
    rcases inP_cons.1 hi with hi | hi
    ·omega
    ·exact a4 n hn1 hn2 hi⟩
  ·split at hg
   ·rename_i hc
    obtain ⟨a1,a2,a3,a4⟩:=gaps_mem h3 g hg
    exact ⟨a1,a2,a3,fun n hn1 hn2 hi => by
     rcases inP_cons.1 hi with hi | hi
     ·omega
     ·exact a4 n hn1 hn2 hi⟩
   ·rename_i hc1 hc2
    rcases List.mem_append.1 hg with hg | hg
    ·split at hg
     ·simp at hg; subst hg
      refine ⟨Int.le_refl _,by assumption,by simp only; omega,fun n hn1 hn2 hi => ?_⟩
      simp only at hn1 hn2
      rcases inP_cons.1 hi with hi | ⟨b,hb,hi1,hi2⟩
      ·omega
      ·have:=h1 b hb
       have:=h2.2.1
       omega
     ·cases hg
    ·obtain ⟨a1,a2,a3,a4⟩:=gaps_mem h3 g hg
     exact ⟨by omega,a2,a3,fun n hn1 hn2 hi => by
      rcases inP_cons.1 hi with hi | hi
      ·omega
      ·exact a4 n hn1 hn2 hi⟩
theorem gaps_len : ∀ (S : List Sp) (f t : Int),(gapsS S f t).length <= S.length + 1
 | [],f,t => by unfold gapsS; split <;> simp
 | p :: S,f,t => by
  unfold gapsS
  split
  ·have:=gaps_len S f t; simp; omega
  ·split
   ·have:=gaps_len S f t; simp; omega
   ·have:=gaps_len S p.t t
    rw [List.length_append,List.length_cons]
    split <;> simp <;> omega
/-! ### Cutting -/
def cutP (S : List Sp) (b : Int) : List Sp:=match S.dropWhile (fun p => decide (p.t <= b)) with
 | [] => []
 | p :: r => ⟨maxN p.f b,p.t⟩ :: r
/-! ### How many -/
end Go.Br
