/- Where the first one of a kind stands. -/
import Derived.Test.YtccmlfekmmeloaaBrList
set_option linter.unusedVariables false
set_option linter.unusedSimpArgs false
set_option linter.unnecessarySimpa false
namespace Go.Br
open Go
attribute [local irreducible] Addr.add

def ixI {α : Type} (p : α → Bool) (l : List α) : Int := if l.findIdx p < l.length then (l.findIdx p : Int) else -1
theorem ixI_none {α : Type} {p : α → Bool} {l : List α} (h : ∀ x ∈ l, p x = false) : ixI p l = -1 := by
  unfold ixI
  rw [if_neg]
  intro hlt
  have := List.findIdx_getElem (w := hlt)
  rw [h _ (List.getElem_mem hlt)] at this
  cases this
theorem findIdx_at {α : Type} {p : α → Bool} {l : List α} {j : Nat} {x : α} (hx : l[j]? = some x) (h : ∀ y ∈ l.take j, p y = false) (hp : p x = true) : l.findIdx p = j := by
  obtain ⟨h1, h2⟩ := List.getElem?_eq_some_iff.1 hx
  refine (List.findIdx_eq h1).2 ⟨by rw [h2]; exact hp, fun i hi => ?_⟩
  exact h _ (List.mem_iff_getElem?.2 ⟨i, by rw [List.getElem?_take, if_pos hi]; simp⟩)
theorem ixI_some {α : Type} {p : α → Bool} {l : List α} {j : Nat} {x : α} (hx : l[j]? = some x) (h : ∀ y ∈ l.take j, p y = false) (hp : p x = true) : ixI p l = (j : Int) := by
  unfold ixI
  rw [findIdx_at hx h hp, if_pos (List.getElem?_eq_some_iff.1 hx).1]
end Go.Br
