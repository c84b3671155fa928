/- Plain lists: rows that go round, and pieces of rows put anew. -/
import Derived.Test.YtmglifmopjedbaaGreatBrSlice
set_option linter.unusedVariables false
set_option linter.unusedSimpArgs false
namespace Go.Br
open Go
def spl {α : Type} (l : List α) (o : Nat) (new : List α) : List α:=l.take o ++ new ++ l.drop (o + new.length)
theorem spl_length {α : Type} {l : List α} {o : Nat} {new : List α} (h : o + new.length <= l.length) : (spl l o new).length = l.length:=by simp [spl]; omega
theorem spl_get {α : Type} {l : List α} {o : Nat} {new : List α} (h : o + new.length <= l.length) (i : Nat) :
  (spl l o new)[i]? = if o <= i /\ i < o + new.length then new[i - o]? else l[i]?:=by
 unfold spl
 have hl : (List.take o l).length = o:=by simp; omega
 by_cases h1 : i < o
 ·rw [List.append_assoc,List.getElem?_append_left (by omega)]
  rw [if_neg (by omega),List.getElem?_take_of_lt h1]
 ·by_cases h2 : i < o + new.length
  ·rw [List.getElem?_append_left (by simp; omega),List.getElem?_append_right (by omega),if_pos ⟨by omega,h2⟩,hl]
  ·rw [List.getElem?_append_right (by simp; omega),if_neg (by omega)]
   simp only [List.length_append,hl,List.getElem?_drop]
   congr 1; omega
def rot {α : Type} (l : List α) (a : Nat) : List α:=l.drop a ++ l.take a
@[simp] theorem rot_length {α : Type} (l : List α) (a : Nat) : (rot l a).length = l.length:=by simp [rot]; omega
theorem mod_two {x n : Nat} (h : x < 2 * n) : (x < n /\ x % n = x) ∨ (n <= x /\ x % n = x - n):=by
 by_cases h1 : x < n
 ·exact .inl ⟨h1,Nat.mod_eq_of_lt h1⟩
 ·refine .inr ⟨by omega,?_⟩
  rw [Nat.mod_eq_sub_mod (by omega),Nat.mod_eq_of_lt (by omega)]
theorem rot_get {α : Type} {l : List α} {a i : Nat} (ha : a < l.length) (hi : i < l.length) : (rot l a)[i]? = l[(a + i) % l.length]?:=by
 unfold rot
 rcases mod_two (x:=a + i) (n:=l.length) (by omega) with ⟨h1,h2⟩ | ⟨h1,h2⟩
 ·rw [List.getElem?_append_left (by simp; omega),h2,List.getElem?_drop]
 ·rw [List.getElem?_append_right (by simp; omega),h2]
  simp only [List.length_drop]
  rw [List.getElem?_take_of_lt (by omega)]
  congr 1; omega
theorem ext_lt {α : Type} {l l' : List α} (hl : l.length = l'.length) (h : ∀ i,i < l.length -> l[i]? = l'[i]?) : l = l':=by
 apply List.ext_getElem?
 intro i
 by_cases hi : i < l.length
 ·exact h i hi
 ·rw [List.getElem?_eq_none (by omega),List.getElem?_eq_none (by omega)]
theorem rot_set {α : Type} {l : List α} {a o : Nat} {x : α} (ha : a < l.length) (ho : o < l.length) : rot (l.set ((a + o) % l.length) x) a = (rot l a).set o x:=by
 have hj : (a + o) % l.length < l.length:=Nat.mod_lt _ (by omega)
 refine ext_lt (by simp) fun i hi => ?_
 simp only [rot_length,List.length_set] at hi
 rw [rot_get (by simpa using ha) (by simpa using hi),List.getElem?_set,List.getElem?_set,rot_get ha hi]
 simp only [List.length_set,rot_length]
 have hk : (a + i) % l.length < l.length:=Nat.mod_lt _ (by omega)
 rw [if_pos hj,if_pos ho]
 have : ((a + o) % l.length = (a + i) % l.length) ↔ o = i:=by
  rcases mod_two (x:=a + o) (n:=l.length) (by omega) with ⟨h1,h2⟩ | ⟨h1,h2⟩ <;>
  rcases mod_two (x:=a + i) (n:=l.length) (by omega) with ⟨h3,h4⟩ | ⟨h3,h4⟩ <;> rw [h2,h4] <;> omega
 by_cases e : o = i
 ·rw [if_pos (this.2 e),if_pos e]
 ·rw [if_neg (fun h => e (this.1 h)),if_neg e]
theorem spl_snoc {α : Type} {l : List α} {o : Nat} {xs : List α} {i : Nat} (hi : i < xs.length) (h : o + i < l.length) : spl l o (xs.take (i + 1)) = (spl l o (xs.take i)).set (o + i) xs[i]:=by
 have h1 : (xs.take i).length = i:=by simp; omega
 have h2 : (xs.take (i + 1)).length = i + 1:=by simp; omega
 have l1 : (spl l o (xs.take i)).length = l.length:=spl_length (by omega)
 refine ext_lt (by rw [List.length_set,l1,spl_length (by omega)]) fun j hj => ?_
 rw [spl_length (by omega)] at hj
 rw [List.getElem?_set,l1,if_pos h,spl_get (by omega),spl_get (by omega),h1,h2]
 by_cases e : o + i = j
 ·subst e
  rw [if_pos (by omega),if_pos rfl]
  rw [List.getElem?_take_of_lt (by omega)]
  have : o + i - o = i:=by omega
  rw [this,List.getElem?_eq_getElem hi]
 ·rw [if_neg e]
  by_cases c : o <= j /\ j < o + i
  ·rw [if_pos (by omega),if_pos c,List.getElem?_take_of_lt (by omega),List.getElem?_take_of_lt (by omega)]
  ·rw [if_neg (by omega),if_neg c]
theorem spl_zero {α : Type} (l : List α) (o : Nat) : spl l o [] = l:=by simp [spl]
end Go.Br
