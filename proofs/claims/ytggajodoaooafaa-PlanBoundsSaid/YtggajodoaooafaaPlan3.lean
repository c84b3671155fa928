/- Planning: the used paths but the best one. -/
import Derived.Test.YtggajodoaooafaaNPlan3
import Derived.Test.YtggajodoaooafaaPlan2
set_option linter.unusedVariables false
set_option linter.unusedSimpArgs false
set_option linter.unnecessarySimpa false
namespace Go.Br
open Go
attribute [local irreducible] Addr.add

def extraL : List Pp → List Int
  | [] => []
  | x :: t => if x.bad then [] else t.map (·.id)
def spareL (C : List Pp) : List Int := ((C.drop 1).filter fun x => !x.backup).map (·.id)
section
variable {c : Ctx} {w : World} {L R : List SA}
theorem extra_ok (h : St c w L) {A : Option Addr} {k : Nat} {l : List Pp} (hr : RdIn L A (l.flatMap pp)) (hl : l.length ≤ 1000) {Q : Value → World → Prop}
    (hk : ∀ O oc w' C, Srt bcmp C → C.Perm (l.filter isUsed) → St c w' (own 3 1 O (extraL C).length oc ((extraL C).flatMap iv) :: L) → Q (.slice O (extraL C).length oc) w') : CALL PG 100 [.slice A l.length k] w Q := by
  refine call100 ?_
  unfold N100
  refine best_ok h hr hl fun O oc w' C hC pC h => ⟨_, _, _, rfl, ?_⟩
  have lC := pC.length_eq
  have lf := List.length_filter_le isUsed l
  have hk := fun O oc w' => hk O oc w' C hC pC
  have hle := (h.own .head).le
  cases C with
  | nil => exact ift rfl (hk none 0 _ (h.drop.addOwnNil _ _))
  | cons x t =>
    refine iff_ (by simp; omega) ?_
    refine h.ix (z := 6) (i := 0) (RdIn.own .head) rfl (fun a ha => ?_) (by simp)
    subst ha
    refine h.rdEB (i := 0) 4 (RdIn.own .head) rfl ?_
    refine ifb (fun h1 => ?_) fun h1 => ?_
    · have := hk none 0 w'
      rw [show extraL (x :: t) = [] by simp [extraL, h1]] at this
      exact this (h.drop.addOwnNil _ _)
    · simp only [List.length_cons] at hle lC
      refine ⟨by simp only [List.length_cons]; omega, ?_⟩
      rw [show (Int.toNat (((x :: t).length : Nat) : Int) - Int.toNat (1 : Int)) = t.length by simp]
      refine ids_ok h (l := t) (RdIn.cut (cs := (x :: t).flatMap pp) (RdIn.own .head) (by rw [flat_length pp_length]; simp only [List.length_cons]; omega) 1) (by omega) (by simp; omega) fun O' oc' w' h => ⟨_, _, _, rfl, ?_⟩
      have e : many (((x :: t).length : Nat) : Int) t.length = t.length := by
        unfold many minN maxN
        simp only [List.length_cons]
        split <;> split <;> omega
      rw [e, List.take_length] at h
      rw [e]
      have := hk O' oc' w'
      rw [show extraL (x :: t) = t.map (·.id) by simp [extraL, h1], List.length_map] at this
      exact this h.swap.drop
theorem spare_ok (h : St c w L) {A : Option Addr} {k : Nat} {l : List Pp} (hr : RdIn L A (l.flatMap pp)) (hl : l.length ≤ 1000) {Q : Value → World → Prop}
    (hk : ∀ O oc w' C, Srt bcmp C → C.Perm (l.filter isUsed) → St c w' (own 3 1 O (spareL C).length oc ((spareL C).flatMap iv) :: L) → Q (.slice O (spareL C).length oc) w') : CALL PG 99 [.slice A l.length k] w Q := by
  refine call99 ?_
  unfold N99
  refine best_ok h hr hl fun O oc w' C hC pC h => ⟨_, _, _, rfl, ?_⟩
  have lC := pC.length_eq
  have lf := List.length_filter_le isUsed l
  have next : ∀ {j : Nat}, j < C.length → IntKind.i64.wrap ((j : Int) + 1) = ((j + 1 : Nat) : Int) := fun hj => wrap_i64 (by omega) (by omega)
  refine ⟨fun m O2 on oc2 i w' => ∃ j : Nat, j + m = C.length ∧ i = (j : Int) ∧ (spareL (C.take j)).length = on ∧ St c w' (own 3 1 O2 on oc2 ((spareL (C.take j)).flatMap iv) :: own 108 7 O C.length oc (C.flatMap pp) :: L), ⟨C.length, 0, by omega, rfl, by simp [spareL], by simpa [spareL] using h.addOwnNil 3 1⟩, ?_⟩
  rintro m O2 on oc2 _ w' ⟨j, hj, rfl, rfl, h⟩
  refine ifd (fun hlt => ?_) fun hge => ?_
  · obtain ⟨x, hx⟩ := ex_get (L := C) (j := j) (by omega)
    have et : C.take (j + 1) = C.take j ++ [x] := take_snoc' hx
    have skip : (j = 0 ∨ x.backup = true) → ∀ {w' : World}, St c w' (own 3 1 O2 (spareL (C.take j)).length oc2 ((spareL (C.take j)).flatMap iv) :: own 108 7 O C.length oc (C.flatMap pp) :: L) → ∃ m2, m2 < m ∧ ∃ j' : Nat, j' + m2 = C.length ∧ IntKind.i64.wrap ((j : Int) + 1) = (j' : Int) ∧ (spareL (C.take j')).length = (spareL (C.take j)).length ∧ St c w' (own 3 1 O2 (spareL (C.take j)).length oc2 ((spareL (C.take j')).flatMap iv) :: own 108 7 O C.length oc (C.flatMap pp) :: L) := fun hf w' h => by
      have e : spareL (C.take (j + 1)) = spareL (C.take j) := by
        unfold spareL
        rw [et]
        rcases hf with rfl | hf
        · simp
        · by_cases h0 : j = 0
          · subst h0; simp
          · rw [List.drop_append_of_le_length (by rw [List.length_take]; omega), List.filter_append, List.filter_cons_of_neg (by simp [hf]), List.filter_nil, List.append_nil]
      exact ⟨m - 1, by omega, j + 1, by omega, next (by omega), by rw [e], by rw [e]; exact h⟩
    refine h.ix (z := 6) (RdIn.own (.tail .head)) hx fun a ha => ?_
    subst ha
    refine h.rdEG (RdIn.own (.tail .head)) hx ⟨_, _, _, _, _, _, _, rfl, ?_⟩
    refine h.allocG tiPp fun q w' h => leti rfl ?_
    repeat' (first
      | ((with_reducible show NILC (some _) _); refine nilc ?_)
      | ((with_reducible show RDI _ (loadVar _ (Addr.add (Addr.add ⟨_, 0, none⟩ _) _)) _ _ _); refine h.rdI2 _ _ ?_)
      | ((with_reducible show RDB _ (loadVar _ (Addr.add (Addr.add ⟨_, 0, none⟩ _) _)) _ _); refine h.rdB2 _ _ ?_)
      | ((with_reducible show RDP _ (loadVar _ (Addr.add (Addr.add ⟨_, 0, none⟩ _) _)) _ _); refine h.rdP2 _ _ ?_)
      | ((with_reducible show RDL _ (loadVar _ (Addr.add (Addr.add ⟨_, 0, none⟩ _) _)) _ _); refine h.rdL2 _ _ ?_)
      | ((with_reducible show RDI _ (loadVar _ (Addr.add _ _)) _ _ _); refine h.rdI _ ?_)
      | ((with_reducible show RDB _ (loadVar _ (Addr.add _ _)) _ _); refine h.rdB _ ?_)
      | ((with_reducible show RDP _ (loadVar _ (Addr.add _ _)) _ _); refine h.rdP _ ?_)
      | ((with_reducible show RDL _ (loadVar _ (Addr.add _ _)) _ _); refine h.rdL _ ?_)
      | ((with_reducible show RDT _ (loadVar _ (Addr.add _ _)) _ _); refine h.rdT _ ?_)
      | ((with_reducible show RUNU _ (storeVar _ (Addr.add (Addr.add ⟨_, 0, none⟩ _) _) _) _ _); refine h.st2 _ _ fun w' h => ?_)
      | ((with_reducible show RUNU _ (storeVar _ (Addr.add _ _) _) _ _); refine h.st _ fun w' h => ?_)
      | ((with_reducible show RDI _ (loadVar _ ⟨_, _, _⟩) _ _ _); refine h.rdvI ?_)
      | ((with_reducible show RDB _ (loadVar _ ⟨_, _, _⟩) _ _); refine h.rdvB ?_)
      | ((with_reducible show RDP _ (loadVar _ ⟨_, _, _⟩) _ _); refine h.rdvP ?_)
      | ((with_reducible show RDL _ (loadVar _ ⟨_, _, _⟩) _ _); refine h.rdvL ?_)
      | ((with_reducible show RDT _ (loadVar _ ⟨_, _, _⟩) _ _); refine h.rdvT ?_)
      | ((with_reducible show RD _ (loadVar _ ⟨_, _, _⟩) _ _); refine h.rdG ?_; first | refine ⟨_, rfl, ?_⟩ | refine ⟨_, _, rfl, ?_⟩ | refine ⟨_, _, _, rfl, ?_⟩ | refine ⟨_, _, _, _, rfl, ?_⟩ | refine ⟨_, _, _, _, _, rfl, ?_⟩ | refine ⟨_, _, _, _, _, _, rfl, ?_⟩ | refine ⟨_, _, _, _, _, _, _, rfl, ?_⟩ | refine ⟨_, _, _, _, _, _, _, _, rfl, ?_⟩ | refine ⟨_, _, _, _, _, _, _, _, _, rfl, ?_⟩)
      | ((with_reducible show RUNU _ (storeVar _ ⟨_, _, _⟩ (.agg _)) _ _); refine h.stG fun w' h => ?_)
      | ((with_reducible show RUNU _ (storeVar _ ⟨_, _, _⟩ _) _ _); refine h.stV fun w' h => ?_))
    refine ifd (fun h1 => ?_) fun h1 => skip (.inl (by omega)) h.drop
    repeat' (first
      | ((with_reducible show NILC (some _) _); refine nilc ?_)
      | ((with_reducible show RDI _ (loadVar _ (Addr.add (Addr.add ⟨_, 0, none⟩ _) _)) _ _ _); refine h.rdI2 _ _ ?_)
      | ((with_reducible show RDB _ (loadVar _ (Addr.add (Addr.add ⟨_, 0, none⟩ _) _)) _ _); refine h.rdB2 _ _ ?_)
      | ((with_reducible show RDP _ (loadVar _ (Addr.add (Addr.add ⟨_, 0, none⟩ _) _)) _ _); refine h.rdP2 _ _ ?_)
      | ((with_reducible show RDL _ (loadVar _ (Addr.add (Addr.add ⟨_, 0, none⟩ _) _)) _ _); refine h.rdL2 _ _ ?_)
      | ((with_reducible show RDI _ (loadVar _ (Addr.add _ _)) _ _ _); refine h.rdI _ ?_)
      | ((with_reducible show RDB _ (loadVar _ (Addr.add _ _)) _ _); refine h.rdB _ ?_)
      | ((with_reducible show RDP _ (loadVar _ (Addr.add _ _)) _ _); refine h.rdP _ ?_)
      | ((with_reducible show RDL _ (loadVar _ (Addr.add _ _)) _ _); refine h.rdL _ ?_)
      | ((with_reducible show RDT _ (loadVar _ (Addr.add _ _)) _ _); refine h.rdT _ ?_)
      | ((with_reducible show RUNU _ (storeVar _ (Addr.add (Addr.add ⟨_, 0, none⟩ _) _) _) _ _); refine h.st2 _ _ fun w' h => ?_)
      | ((with_reducible show RUNU _ (storeVar _ (Addr.add _ _) _) _ _); refine h.st _ fun w' h => ?_)
      | ((with_reducible show RDI _ (loadVar _ ⟨_, _, _⟩) _ _ _); refine h.rdvI ?_)
      | ((with_reducible show RDB _ (loadVar _ ⟨_, _, _⟩) _ _); refine h.rdvB ?_)
      | ((with_reducible show RDP _ (loadVar _ ⟨_, _, _⟩) _ _); refine h.rdvP ?_)
      | ((with_reducible show RDL _ (loadVar _ ⟨_, _, _⟩) _ _); refine h.rdvL ?_)
      | ((with_reducible show RDT _ (loadVar _ ⟨_, _, _⟩) _ _); refine h.rdvT ?_)
      | ((with_reducible show RD _ (loadVar _ ⟨_, _, _⟩) _ _); refine h.rdG ?_; first | refine ⟨_, rfl, ?_⟩ | refine ⟨_, _, rfl, ?_⟩ | refine ⟨_, _, _, rfl, ?_⟩ | refine ⟨_, _, _, _, rfl, ?_⟩ | refine ⟨_, _, _, _, _, rfl, ?_⟩ | refine ⟨_, _, _, _, _, _, rfl, ?_⟩ | refine ⟨_, _, _, _, _, _, _, rfl, ?_⟩ | refine ⟨_, _, _, _, _, _, _, _, rfl, ?_⟩ | refine ⟨_, _, _, _, _, _, _, _, _, rfl, ?_⟩)
      | ((with_reducible show RUNU _ (storeVar _ ⟨_, _, _⟩ (.agg _)) _ _); refine h.stG fun w' h => ?_)
      | ((with_reducible show RUNU _ (storeVar _ ⟨_, _, _⟩ _) _ _); refine h.stV fun w' h => ?_))
    refine ifnot (fun h2 => ?_) fun h2 => skip (.inr h2) h.drop
    repeat' (first
      | ((with_reducible show NILC (some _) _); refine nilc ?_)
      | ((with_reducible show RDI _ (loadVar _ (Addr.add (Addr.add ⟨_, 0, none⟩ _) _)) _ _ _); refine h.rdI2 _ _ ?_)
      | ((with_reducible show RDB _ (loadVar _ (Addr.add (Addr.add ⟨_, 0, none⟩ _) _)) _ _); refine h.rdB2 _ _ ?_)
      | ((with_reducible show RDP _ (loadVar _ (Addr.add (Addr.add ⟨_, 0, none⟩ _) _)) _ _); refine h.rdP2 _ _ ?_)
      | ((with_reducible show RDL _ (loadVar _ (Addr.add (Addr.add ⟨_, 0, none⟩ _) _)) _ _); refine h.rdL2 _ _ ?_)
      | ((with_reducible show RDI _ (loadVar _ (Addr.add _ _)) _ _ _); refine h.rdI _ ?_)
      | ((with_reducible show RDB _ (loadVar _ (Addr.add _ _)) _ _); refine h.rdB _ ?_)
      | ((with_reducible show RDP _ (loadVar _ (Addr.add _ _)) _ _); refine h.rdP _ ?_)
      | ((with_reducible show RDL _ (loadVar _ (Addr.add _ _)) _ _); refine h.rdL _ ?_)
      | ((with_reducible show RDT _ (loadVar _ (Addr.add _ _)) _ _); refine h.rdT _ ?_)
      | ((with_reducible show RUNU _ (storeVar _ (Addr.add (Addr.add ⟨_, 0, none⟩ _) _) _) _ _); refine h.st2 _ _ fun w' h => ?_)
      | ((with_reducible show RUNU _ (storeVar _ (Addr.add _ _) _) _ _); refine h.st _ fun w' h => ?_)
      | ((with_reducible show RDI _ (loadVar _ ⟨_, _, _⟩) _ _ _); refine h.rdvI ?_)
      | ((with_reducible show RDB _ (loadVar _ ⟨_, _, _⟩) _ _); refine h.rdvB ?_)
      | ((with_reducible show RDP _ (loadVar _ ⟨_, _, _⟩) _ _); refine h.rdvP ?_)
      | ((with_reducible show RDL _ (loadVar _ ⟨_, _, _⟩) _ _); refine h.rdvL ?_)
      | ((with_reducible show RDT _ (loadVar _ ⟨_, _, _⟩) _ _); refine h.rdvT ?_)
      | ((with_reducible show RD _ (loadVar _ ⟨_, _, _⟩) _ _); refine h.rdG ?_; first | refine ⟨_, rfl, ?_⟩ | refine ⟨_, _, rfl, ?_⟩ | refine ⟨_, _, _, rfl, ?_⟩ | refine ⟨_, _, _, _, rfl, ?_⟩ | refine ⟨_, _, _, _, _, rfl, ?_⟩ | refine ⟨_, _, _, _, _, _, rfl, ?_⟩ | refine ⟨_, _, _, _, _, _, _, rfl, ?_⟩ | refine ⟨_, _, _, _, _, _, _, _, rfl, ?_⟩ | refine ⟨_, _, _, _, _, _, _, _, _, rfl, ?_⟩)
      | ((with_reducible show RUNU _ (storeVar _ ⟨_, _, _⟩ (.agg _)) _ _); refine h.stG fun w' h => ?_)
      | ((with_reducible show RUNU _ (storeVar _ ⟨_, _, _⟩ _) _ _); refine h.stV fun w' h => ?_))
    refine h.app1 huInts tiInt (iv x.id) (.tail .head) (by intro v hv; simp [iv] at hv; rcases hv with rfl; rfl) (by have := List.length_filter_le (fun x : Pp => !x.backup) ((C.take j).drop 1); simp [spareL] at this ⊢; omega) fun O' oc' w' h => ?_
    have e : spareL (C.take (j + 1)) = spareL (C.take j) ++ [x.id] := by
      unfold spareL
      rw [et, List.drop_append_of_le_length (by rw [List.length_take]; omega), List.filter_append, List.filter_cons_of_pos (by simp [h2]), List.filter_nil, List.map_append]
      rfl
    refine ⟨m - 1, by omega, j + 1, by omega, next (by omega), by rw [e]; simp, ?_⟩
    rw [e, List.flatMap_append, List.flatMap_cons, List.flatMap_nil, List.append_nil]
    exact h.to
  · have : j = C.length := by omega
    subst this
    rw [List.take_length] at h ⊢
    exact hk O2 oc2 w' C hC pC h.swap.drop
end
end Go.Br
