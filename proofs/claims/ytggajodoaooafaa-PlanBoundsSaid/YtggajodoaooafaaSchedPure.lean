/- The order of paths, in plain Lean. -/
import Derived.Test.YtggajodoaooafaaSchedSort
set_option linter.unusedVariables false
set_option linter.unusedSimpArgs false
set_option linter.unnecessarySimpa false
namespace Go.Br
open Go

def cmp3 (x y : Int) : Int := if x < y then -1 else if x > y then 1 else 0
def or2 (a b : Int) : Int := if a ≠ 0 then a else b
def prk (p : Pth) : Int := (if p.backup then 1 else 0) + (if p.bad then 2 else 0)
def pturn (id last : Int) : Int := if id > last then 0 else 1
def psec (pol last : Int) (p : Pth) : Int := if pol = 2 then pturn p.id last else p.mean
/-- What the comparison of two paths says. -/
def scmp (pol last : Int) (a b : Pth) : Int :=
  let c := cmp3 (prk a) (prk b)
  if c ≠ 0 then c else if pol = 2 then or2 (cmp3 (pturn a.id last) (pturn b.id last)) (cmp3 a.id b.id) else or2 (cmp3 a.mean b.mean) (cmp3 a.id b.id)
abbrev K3 : Type := Int × Int × Int
def pkey (pol last : Int) (p : Pth) : K3 := (prk p, psec pol last p, p.id)
def lt3 (a b : K3) : Prop := a.1 < b.1 ∨ (a.1 = b.1 ∧ (a.2.1 < b.2.1 ∨ (a.2.1 = b.2.1 ∧ a.2.2 < b.2.2)))
instance (a b : K3) : Decidable (lt3 a b) := by unfold lt3; exact inferInstance
theorem cmp3_neg {x y : Int} : cmp3 x y < 0 ↔ x < y := by unfold cmp3; split <;> (try split) <;> omega
theorem cmp3_zero {x y : Int} : cmp3 x y = 0 ↔ x = y := by unfold cmp3; split <;> (try split) <;> omega
theorem scmp_neg {pol last : Int} {a b : Pth} : scmp pol last a b < 0 ↔ lt3 (pkey pol last a) (pkey pol last b) := by
  unfold scmp lt3 pkey psec or2
  simp only
  have h1 := @cmp3_neg (prk a) (prk b); have z1 := @cmp3_zero (prk a) (prk b)
  have h2 := @cmp3_neg a.id b.id
  by_cases hp : pol = 2
  · have h3 := @cmp3_neg (pturn a.id last) (pturn b.id last); have z3 := @cmp3_zero (pturn a.id last) (pturn b.id last)
    simp only [hp, if_true]
    split
    · omega
    · split <;> omega
  · have h3 := @cmp3_neg a.mean b.mean; have z3 := @cmp3_zero a.mean b.mean
    simp only [hp, if_false]
    split
    · omega
    · split <;> omega
theorem scmp_le {pol last : Int} {a b : Pth} : 0 ≤ scmp pol last a b ↔ ¬ lt3 (pkey pol last a) (pkey pol last b) := by rw [← scmp_neg]; omega
theorem scmp_ord (pol last : Int) : Ord Pth (scmp pol last) where
  refl x := scmp_le.2 (by unfold lt3; omega)
  trans x y z h1 h2 := by
    rw [scmp_le] at h1 h2 ⊢
    generalize pkey pol last x = a at *
    generalize pkey pol last y = b at *
    generalize pkey pol last z = c at *
    unfold lt3 at *; omega
  total x y h := by
    rw [scmp_neg] at h
    rw [scmp_le]
    unfold lt3 at *; omega
/-- Sorted rows of the same paths have the same keys. -/
theorem keys_same {pol last : Int} {C D : List Pth} (hC : Srt (scmp pol last) C) (hD : Srt (scmp pol last) D) (p : C.Perm D) : C.map (pkey pol last) = D.map (pkey pol last) := by
  have mp : ∀ {E : List Pth}, Srt (scmp pol last) E → (E.map (pkey pol last)).Pairwise fun a b => ¬ lt3 b a := by
    intro E h
    rw [List.pairwise_map]
    exact h.imp fun {a b} hab => scmp_le.1 hab
  refine List.Perm.eq_of_pairwise (le := fun a b => ¬ lt3 b a) (fun a b _ _ h1 h2 => ?_) (mp hC) (mp hD) (p.map _)
  unfold lt3 at h1 h2
  have : a.1 = b.1 ∧ a.2.1 = b.2.1 ∧ a.2.2 = b.2.2 := by omega
  obtain ⟨e1, e2, e3⟩ := this
  exact Prod.ext e1 (Prod.ext e2 e3)
theorem ids_of_keys {pol last : Int} (C : List Pth) : (C.map (pkey pol last)).map (fun k => k.2.2) = C.map (·.id) := by rw [List.map_map]; rfl
theorem ids_same {pol last : Int} {C D : List Pth} (h : C.map (pkey pol last) = D.map (pkey pol last)) : C.map (·.id) = D.map (·.id) := by
  rw [← ids_of_keys (pol := pol) (last := last) C, h, ids_of_keys]
/-- May a piece of so many bytes be sent on it? -/
def pfits (n : Int) (p : Pth) : Bool := p.up && (decide (n ≤ p.room) || p.under == 0)
end Go.Br
