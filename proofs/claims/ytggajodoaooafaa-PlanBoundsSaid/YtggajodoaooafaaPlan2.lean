/- Planning: the used paths in order, the numbers of some. -/
import Derived.Test.YtggajodoaooafaaNPlan2
import Derived.Test.YtggajodoaooafaaPlan
set_option linter.unusedVariables false
set_option linter.unusedSimpArgs false
set_option linter.unnecessarySimpa false
namespace Go.Br
open Go
attribute [local irreducible] Addr.add

section
variable {c : Ctx} {w : World} {L R : List SA}
theorem best_ok (h : St c w L) {A : Option Addr} {k : Nat} {l : List Pp} (hr : RdIn L A (l.flatMap pp)) (hl : l.length ≤ 1000) {Q : Value → World → Prop}
    (hk : ∀ O oc w' C, Srt bcmp C → C.Perm (l.filter isUsed) → St c w' (own 108 7 O C.length oc (C.flatMap pp) :: L) → Q (.slice O C.length oc) w') : CALL PG 127 [.slice A l.length k] w Q := by
  refine call127 ?_
  unfold N127
  have next : ∀ {j : Nat}, j < l.length → IntKind.i64.wrap ((j : Int) + 1) = ((j + 1 : Nat) : Int) := fun hj => wrap_i64 (by omega) (by omega)
  refine ⟨fun m O on oc i w' => ∃ j : Nat, j + m = l.length ∧ i = (j : Int) ∧ ((l.take j).filter isUsed).length = on ∧ St c w' (own 108 7 O on oc (((l.take j).filter isUsed).flatMap pp) :: L),
    ⟨l.length, 0, by omega, rfl, by simp, by simpa using h.addOwnNil 108 7⟩, ?_⟩
  rintro m O on oc _ w' ⟨j, hj, rfl, rfl, h⟩
  have lf := List.length_filter_le isUsed (l.take j)
  have lt : (l.take j).length ≤ 1000 := by rw [List.length_take]; omega
  refine ifd (fun hlt => ?_) fun hge => ?_
  · obtain ⟨x, hx⟩ := ex_get (L := l) (j := j) (by omega)
    have skip : isUsed x = false → ∀ {w' : World}, St c w' (own 108 7 O ((l.take j).filter isUsed).length oc (((l.take j).filter isUsed).flatMap pp) :: L) → ∃ m2, m2 < m ∧ ∃ j' : Nat, j' + m2 = l.length ∧ IntKind.i64.wrap ((j : Int) + 1) = (j' : Int) ∧ ((l.take j').filter isUsed).length = ((l.take j).filter isUsed).length ∧ St c w' (own 108 7 O ((l.take j).filter isUsed).length oc (((l.take j').filter isUsed).flatMap pp) :: L) := fun hf w' h => by
      refine ⟨m - 1, by omega, j + 1, by omega, next (by omega), ?_⟩
      rw [take_snoc' hx, List.filter_append, List.filter_cons_of_neg (by simp [hf]), List.filter_nil, List.append_nil]
      exact ⟨rfl, h⟩
    refine h.ix (z := 6) hr.more hx fun a ha => ?_
    subst ha
    refine h.rdEG hr.more hx ⟨_, _, _, _, _, _, _, rfl, ?_⟩
    refine h.allocG tiPp fun q w' h => ?_
    repeat' (first
      | ((with_reducible show NILC (some _) _); refine nilc ?_)
      | ((with_reducible show RDI _ (loadVar _ (Addr.add (Addr.add ⟨_, 0, none⟩ _) _)) _ _ _); refine h.rdI2 _ _ ?_)
      | ((with_reducible show RDB _ (loadVar _ (Addr.add (Addr.add ⟨_, 0, none⟩ _) _)) _ _); refine h.rdB2 _ _ ?_)
      | ((with_reducible show RDP _ (loadVar _ (Addr.add (Addr.add ⟨_, 0, none⟩ _) _)) _ _); refine h.rdP2 _ _ ?_)
      | ((with_reducible show RDL _ (loadVar _ (Addr.add (Addr.add ⟨_, 0, none⟩ _) _)) _ _); refine h.rdL2 _ _ ?_)
      | ((with_reducible show RDI _ (loadVar _ (Addr.add _ _)) _ _ _); refine h.rdI _ ?_)
      | ((with_reducible show RDB _ (loadVar _ (Addr.add _ _)) _ _); refine h.rdB _ ?_)
      | ((with_reducible show RDP _ (loadVar _ (Addr.add _ _)) _ _); refine h.rdP _ ?_)
      | ((with_reducible show RDL _ (loadVar _ (Addr.add _ _)) _ _); refine h.rdL _ ?_)
      | ((with_reducible show RDT _ (loadVar _ (Addr.add _ _)) _ _); refine h.rdT _ ?_)
      | ((with_reducible show RUNU _ (storeVar _ (Addr.add (Addr.add ⟨_, 0, none⟩ _) _) _) _ _); refine h.st2 _ _ fun w' h => ?_)
      | ((with_reducible show RUNU _ (storeVar _ (Addr.add _ _) _) _ _); refine h.st _ fun w' h => ?_)
      | ((with_reducible show RDI _ (loadVar _ ⟨_, _, _⟩) _ _ _); refine h.rdvI ?_)
      | ((with_reducible show RDB _ (loadVar _ ⟨_, _, _⟩) _ _); refine h.rdvB ?_)
      | ((with_reducible show RDP _ (loadVar _ ⟨_, _, _⟩) _ _); refine h.rdvP ?_)
      | ((with_reducible show RDL _ (loadVar _ ⟨_, _, _⟩) _ _); refine h.rdvL ?_)
      | ((with_reducible show RDT _ (loadVar _ ⟨_, _, _⟩) _ _); refine h.rdvT ?_)
      | ((with_reducible show RD _ (loadVar _ ⟨_, _, _⟩) _ _); refine h.rdG ?_; first | refine ⟨_, rfl, ?_⟩ | refine ⟨_, _, rfl, ?_⟩ | refine ⟨_, _, _, rfl, ?_⟩ | refine ⟨_, _, _, _, rfl, ?_⟩ | refine ⟨_, _, _, _, _, rfl, ?_⟩ | refine ⟨_, _, _, _, _, _, rfl, ?_⟩ | refine ⟨_, _, _, _, _, _, _, rfl, ?_⟩ | refine ⟨_, _, _, _, _, _, _, _, rfl, ?_⟩ | refine ⟨_, _, _, _, _, _, _, _, _, rfl, ?_⟩)
      | ((with_reducible show RUNU _ (storeVar _ ⟨_, _, _⟩ (.agg _)) _ _); refine h.stG fun w' h => ?_)
      | ((with_reducible show RUNU _ (storeVar _ ⟨_, _, _⟩ _) _ _); refine h.stV fun w' h => ?_))
    refine ifb (fun h1 => ?_) fun h1 => skip (by simp [isUsed, h1]) h.drop
    repeat' (first
      | ((with_reducible show NILC (some _) _); refine nilc ?_)
      | ((with_reducible show RDI _ (loadVar _ (Addr.add (Addr.add ⟨_, 0, none⟩ _) _)) _ _ _); refine h.rdI2 _ _ ?_)
      | ((with_reducible show RDB _ (loadVar _ (Addr.add (Addr.add ⟨_, 0, none⟩ _) _)) _ _); refine h.rdB2 _ _ ?_)
      | ((with_reducible show RDP _ (loadVar _ (Addr.add (Addr.add ⟨_, 0, none⟩ _) _)) _ _); refine h.rdP2 _ _ ?_)
      | ((with_reducible show RDL _ (loadVar _ (Addr.add (Addr.add ⟨_, 0, none⟩ _) _)) _ _); refine h.rdL2 _ _ ?_)
      | ((with_reducible show RDI _ (loadVar _ (Addr.add _ _)) _ _ _); refine h.rdI _ ?_)
      | ((with_reducible show RDB _ (loadVar _ (Addr.add _ _)) _ _); refine h.rdB _ ?_)
      | ((with_reducible show RDP _ (loadVar _ (Addr.add _ _)) _ _); refine h.rdP _ ?_)
      | ((with_reducible show RDL _ (loadVar _ (Addr.add _ _)) _ _); refine h.rdL _ ?_)
      | ((with_reducible show RDT _ (loadVar _ (Addr.add _ _)) _ _); refine h.rdT _ ?_)
      | ((with_reducible show RUNU _ (storeVar _ (Addr.add (Addr.add ⟨_, 0, none⟩ _) _) _) _ _); refine h.st2 _ _ fun w' h => ?_)
      | ((with_reducible show RUNU _ (storeVar _ (Addr.add _ _) _) _ _); refine h.st _ fun w' h => ?_)
      | ((with_reducible show RDI _ (loadVar _ ⟨_, _, _⟩) _ _ _); refine h.rdvI ?_)
      | ((with_reducible show RDB _ (loadVar _ ⟨_, _, _⟩) _ _); refine h.rdvB ?_)
      | ((with_reducible show RDP _ (loadVar _ ⟨_, _, _⟩) _ _); refine h.rdvP ?_)
      | ((with_reducible show RDL _ (loadVar _ ⟨_, _, _⟩) _ _); refine h.rdvL ?_)
      | ((with_reducible show RDT _ (loadVar _ ⟨_, _, _⟩) _ _); refine h.rdvT ?_)
      | ((with_reducible show RD _ (loadVar _ ⟨_, _, _⟩) _ _); refine h.rdG ?_; first | refine ⟨_, rfl, ?_⟩ | refine ⟨_, _, rfl, ?_⟩ | refine ⟨_, _, _, rfl, ?_⟩ | refine ⟨_, _, _, _, rfl, ?_⟩ | refine ⟨_, _, _, _, _, rfl, ?_⟩ | refine ⟨_, _, _, _, _, _, rfl, ?_⟩ | refine ⟨_, _, _, _, _, _, _, rfl, ?_⟩ | refine ⟨_, _, _, _, _, _, _, _, rfl, ?_⟩ | refine ⟨_, _, _, _, _, _, _, _, _, rfl, ?_⟩)
      | ((with_reducible show RUNU _ (storeVar _ ⟨_, _, _⟩ (.agg _)) _ _); refine h.stG fun w' h => ?_)
      | ((with_reducible show RUNU _ (storeVar _ ⟨_, _, _⟩ _) _ _); refine h.stV fun w' h => ?_))
    refine ifb (fun h2 => ?_) fun h2 => skip (by simp [isUsed, h2]) h.drop
    repeat' (first
      | ((with_reducible show NILC (some _) _); refine nilc ?_)
      | ((with_reducible show RDI _ (loadVar _ (Addr.add (Addr.add ⟨_, 0, none⟩ _) _)) _ _ _); refine h.rdI2 _ _ ?_)
      | ((with_reducible show RDB _ (loadVar _ (Addr.add (Addr.add ⟨_, 0, none⟩ _) _)) _ _); refine h.rdB2 _ _ ?_)
      | ((with_reducible show RDP _ (loadVar _ (Addr.add (Addr.add ⟨_, 0, none⟩ _) _)) _ _); refine h.rdP2 _ _ ?_)
      | ((with_reducible show RDL _ (loadVar _ (Addr.add (Addr.add ⟨_, 0, none⟩ _) _)) _ _); refine h.rdL2 _ _ ?_)
      | ((with_reducible show RDI _ (loadVar _ (Addr.add _ _)) _ _ _); refine h.rdI _ ?_)
      | ((with_reducible show RDB _ (loadVar _ (Addr.add _ _)) _ _); refine h.rdB _ ?_)
      | ((with_reducible show RDP _ (loadVar _ (Addr.add _ _)) _ _); refine h.rdP _ ?_)
      | ((with_reducible show RDL _ (loadVar _ (Addr.add _ _)) _ _); refine h.rdL _ ?_)
      | ((with_reducible show RDT _ (loadVar _ (Addr.add _ _)) _ _); refine h.rdT _ ?_)
      | ((with_reducible show RUNU _ (storeVar _ (Addr.add (Addr.add ⟨_, 0, none⟩ _) _) _) _ _); refine h.st2 _ _ fun w' h => ?_)
      | ((with_reducible show RUNU _ (storeVar _ (Addr.add _ _) _) _ _); refine h.st _ fun w' h => ?_)
      | ((with_reducible show RDI _ (loadVar _ ⟨_, _, _⟩) _ _ _); refine h.rdvI ?_)
      | ((with_reducible show RDB _ (loadVar _ ⟨_, _, _⟩) _ _); refine h.rdvB ?_)
      | ((with_reducible show RDP _ (loadVar _ ⟨_, _, _⟩) _ _); refine h.rdvP ?_)
      | ((with_reducible show RDL _ (loadVar _ ⟨_, _, _⟩) _ _); refine h.rdvL ?_)
      | ((with_reducible show RDT _ (loadVar _ ⟨_, _, _⟩) _ _); refine h.rdvT ?_)
      | ((with_reducible show RD _ (loadVar _ ⟨_, _, _⟩) _ _); refine h.rdG ?_; first | refine ⟨_, rfl, ?_⟩ | refine ⟨_, _, rfl, ?_⟩ | refine ⟨_, _, _, rfl, ?_⟩ | refine ⟨_, _, _, _, rfl, ?_⟩ | refine ⟨_, _, _, _, _, rfl, ?_⟩ | refine ⟨_, _, _, _, _, _, rfl, ?_⟩ | refine ⟨_, _, _, _, _, _, _, rfl, ?_⟩ | refine ⟨_, _, _, _, _, _, _, _, rfl, ?_⟩ | refine ⟨_, _, _, _, _, _, _, _, _, rfl, ?_⟩)
      | ((with_reducible show RUNU _ (storeVar _ ⟨_, _, _⟩ (.agg _)) _ _); refine h.stG fun w' h => ?_)
      | ((with_reducible show RUNU _ (storeVar _ ⟨_, _, _⟩ _) _ _); refine h.stV fun w' h => ?_))
    refine h.app1 huPp tiPp (pp x) (.tail .head) (pp_flat1 x) (by omega) fun O' oc' w' h => ?_
    refine ⟨m - 1, by omega, j + 1, by omega, next (by omega), ?_⟩
    rw [take_snoc' hx, List.filter_append, List.filter_cons_of_pos (by simp [isUsed, h1, h2]), List.filter_nil]
    refine ⟨by simp, ?_⟩
    simp only [List.flatMap_append, List.flatMap_cons, List.flatMap_nil, List.append_nil]
    exact h.to
  have hjl : j = l.length := by omega
  subst hjl
  rw [List.take_length] at h lf ⊢
  refine plsort_ok bcmp_ord (V := fun _ => True) (fun _ _ x y _ _ _ _ h hk => callv (by kernel_rfl) (bcmp_ok h x y hk)) (by omega) rfl (fun _ _ => trivial) h fun w' C hC pC h => ⟨rfl, ?_⟩
  rw [← pC.length_eq] at h ⊢
  exact hk O oc w' C hC pC h

def many (n : Int) (len : Nat) : Nat := (minN (maxN n 0) (len : Int)).toNat
theorem many_le (n : Int) (len : Nat) : many n len ≤ len ∧ ((many n len : Nat) : Int) = minN (maxN n 0) (len : Int) := by
  unfold many minN maxN
  split <;> split <;> omega
theorem ids_ok (h : St c w L) {A : Option Addr} {k : Nat} {l : List Pp} {n : Int} (hr : RdIn L A (l.flatMap pp)) (hl : l.length ≤ 1000) (hlk : l.length ≤ k) {Q : Value → World → Prop}
    (hk : ∀ O oc w', St c w' (own 3 1 O (many n l.length) oc (((l.take (many n l.length)).map (·.id)).flatMap iv) :: L) → Q (.slice O (many n l.length) oc) w') : CALL PG 98 [.slice A l.length k, .int .i64 n] w Q := by
  obtain ⟨m1, m2⟩ := many_le n l.length
  refine call98 ?_
  unfold N98
  rw [← m2]
  refine ⟨by omega, ?_⟩
  rw [show Int.toNat ((many n l.length : Nat) : Int) - Int.toNat (0 : Int) = many n l.length by simp]
  generalize many n l.length = N at *
  have hr2 : RdIn L (cutA A k 7 0) (l.flatMap pp) := by
    have := RdIn.cut (c := k) (z := 7) hr (by rw [flat_length pp_length]; omega) 0
    simpa using this
  have next : ∀ {j : Nat}, j < l.length → IntKind.i64.wrap ((j : Int) + 1) = ((j + 1 : Nat) : Int) := fun hj => wrap_i64 (by omega) (by omega)
  refine ⟨fun m O on oc i w' => ∃ j : Nat, j + m = N ∧ i = (j : Int) ∧ j = on ∧ St c w' (own 3 1 O on oc (((l.take j).map (·.id)).flatMap iv) :: L), ⟨N, 0, by omega, rfl, rfl, by simpa using h.addOwnNil 3 1⟩, ?_⟩
  rintro m O on oc _ w' ⟨j, hj, rfl, rfl, h⟩
  refine ifd (fun hlt => ?_) fun hge => ?_
  · obtain ⟨x, hx⟩ := ex_get (L := l) (j := j) (by omega)
    refine h.ix (z := 6) hr2.more hx (fun a ha => ?_) (by omega)
    have hr3 := hr2
    rw [ha] at hr3
    refine h.rdEG hr3.more hx ⟨_, _, _, _, _, _, _, rfl, ?_⟩
    refine h.allocG tiPp fun q w' h => ?_
    repeat' (first
      | ((with_reducible show NILC (some _) _); refine nilc ?_)
      | ((with_reducible show RDI _ (loadVar _ (Addr.add (Addr.add ⟨_, 0, none⟩ _) _)) _ _ _); refine h.rdI2 _ _ ?_)
      | ((with_reducible show RDB _ (loadVar _ (Addr.add (Addr.add ⟨_, 0, none⟩ _) _)) _ _); refine h.rdB2 _ _ ?_)
      | ((with_reducible show RDP _ (loadVar _ (Addr.add (Addr.add ⟨_, 0, none⟩ _) _)) _ _); refine h.rdP2 _ _ ?_)
      | ((with_reducible show RDL _ (loadVar _ (Addr.add (Addr.add ⟨_, 0, none⟩ _) _)) _ _); refine h.rdL2 _ _ ?_)
      | ((with_reducible show RDI _ (loadVar _ (Addr.add _ _)) _ _ _); refine h.rdI _ ?_)
      | ((with_reducible show RDB _ (loadVar _ (Addr.add _ _)) _ _); refine h.rdB _ ?_)
      | ((with_reducible show RDP _ (loadVar _ (Addr.add _ _)) _ _); refine h.rdP _ ?_)
      | ((with_reducible show RDL _ (loadVar _ (Addr.add _ _)) _ _); refine h.rdL _ ?_)
      | ((with_reducible show RDT _ (loadVar _ (Addr.add _ _)) _ _); refine h.rdT _ ?_)
      | ((with_reducible show RUNU _ (storeVar _ (Addr.add (Addr.add ⟨_, 0, none⟩ _) _) _) _ _); refine h.st2 _ _ fun w' h => ?_)
      | ((with_reducible show RUNU _ (storeVar _ (Addr.add _ _) _) _ _); refine h.st _ fun w' h => ?_)
      | ((with_reducible show RDI _ (loadVar _ ⟨_, _, _⟩) _ _ _); refine h.rdvI ?_)
      | ((with_reducible show RDB _ (loadVar _ ⟨_, _, _⟩) _ _); refine h.rdvB ?_)
      | ((with_reducible show RDP _ (loadVar _ ⟨_, _, _⟩) _ _); refine h.rdvP ?_)
      | ((with_reducible show RDL _ (loadVar _ ⟨_, _, _⟩) _ _); refine h.rdvL ?_)
      | ((with_reducible show RDT _ (loadVar _ ⟨_, _, _⟩) _ _); refine h.rdvT ?_)
      | ((with_reducible show RD _ (loadVar _ ⟨_, _, _⟩) _ _); refine h.rdG ?_; first | refine ⟨_, rfl, ?_⟩ | refine ⟨_, _, rfl, ?_⟩ | refine ⟨_, _, _, rfl, ?_⟩ | refine ⟨_, _, _, _, rfl, ?_⟩ | refine ⟨_, _, _, _, _, rfl, ?_⟩ | refine ⟨_, _, _, _, _, _, rfl, ?_⟩ | refine ⟨_, _, _, _, _, _, _, rfl, ?_⟩ | refine ⟨_, _, _, _, _, _, _, _, rfl, ?_⟩ | refine ⟨_, _, _, _, _, _, _, _, _, rfl, ?_⟩)
      | ((with_reducible show RUNU _ (storeVar _ ⟨_, _, _⟩ (.agg _)) _ _); refine h.stG fun w' h => ?_)
      | ((with_reducible show RUNU _ (storeVar _ ⟨_, _, _⟩ _) _ _); refine h.stV fun w' h => ?_))
    refine h.app1 huInts tiInt (iv x.id) (.tail .head) (by intro v hv; simp [iv] at hv; rcases hv with rfl; rfl) (by omega) fun O' oc' w' h => ?_
    refine ⟨m - 1, by omega, j + 1, by omega, next (by omega), rfl, ?_⟩
    rw [take_snoc' hx, List.map_append, List.flatMap_append, List.map_cons, List.map_nil, List.flatMap_cons, List.flatMap_nil, List.append_nil]
    exact h.to
  · have : j = N := by omega
    subst this
    exact hk O oc w' h
end
end Go.Br
