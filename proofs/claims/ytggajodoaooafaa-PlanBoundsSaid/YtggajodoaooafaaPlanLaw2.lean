/- The law of bounds, walked. -/
import Derived.Test.YtggajodoaooafaaNPlanLaw2
import Derived.Test.YtggajodoaooafaaPlanLaw
set_option linter.unusedVariables false
set_option linter.unusedSimpArgs false
set_option linter.unnecessarySimpa false
namespace Go.Br
open Go
attribute [local irreducible] Addr.add

section
variable {c : Ctx} {w : World} {L R : List SA}
theorem bounds_ok (h : St c w L) {A : Option Addr} {k : Nat} {l : List Pp} {wv most : Int} (hr : RdIn L A (l.flatMap pp)) {Q : Value → World → Prop} (hk : ∀ w', St c w' L → Q (.bool true) w') :
    CALL PG 12 [.int .i64 wv, .int .i64 most, .slice A l.length k] w Q := by
  refine call12 ?_
  unfold N12
  refine ifd (fun _ => hk _ h) fun hn => ?_
  refine ifd (fun _ => hk _ h) fun hm0 => ?_
  refine ifd (fun _ => hk _ h) fun hm4 => ?_
  have next : ∀ {j : Nat}, j < 1000 → IntKind.i64.wrap ((j : Int) + 1) = ((j + 1 : Nat) : Int) := fun hj => wrap_i64 (by omega) (by omega)
  refine ⟨fun m used good i w' => ∃ j : Nat, j + m = l.length ∧ i = (j : Int) ∧ used = (((l.take j).filter isUsed).length : Int) ∧ good = (((l.take j).filter isGood).length : Int) ∧ St c w' L, ⟨l.length, 0, by omega, rfl, by simp, by simp, h⟩, ?_⟩
  clear h
  rintro m _ _ _ w' ⟨j, hj, rfl, rfl, rfl, h⟩
  have lu := List.length_filter_le isUsed (l.take j)
  have lg := List.length_filter_le isGood (l.take j)
  rw [List.length_take] at lu lg
  refine ifd (fun hlt => ?_) fun hge => ?_
  · obtain ⟨x, hx⟩ := ex_get (L := l) (j := j) (by omega)
    have fU := fun b (hb : isUsed x = b) => show ((l.take (j + 1)).filter isUsed).length = ((l.take j).filter isUsed).length + (if b then 1 else 0) by
      rw [take_snoc' hx, List.filter_append, List.length_append]; cases b <;> simp [hb]
    have fG := fun b (hb : isGood x = b) => show ((l.take (j + 1)).filter isGood).length = ((l.take j).filter isGood).length + (if b then 1 else 0) by
      rw [take_snoc' hx, List.filter_append, List.length_append]; cases b <;> simp [hb]
    refine ⟨fun m2 kk w' => ∃ q : Nat, q + m2 = j ∧ kk = (q : Int) ∧ St c w' L, ⟨j, 0, by omega, rfl, h⟩, ?_⟩
    clear h
    rintro m2 _ w' ⟨q, hq, rfl, h⟩
    refine ifd (fun hlt2 => ?_) fun hge2 => ?_
    · obtain ⟨y, hy⟩ := ex_get (L := l) (j := q) (by omega)
      have h := h.drew
      refine h.ix (z := 6) hr hy fun a ha => ?_
      subst ha
      refine h.rdEI 0 hr hy ?_
      refine h.ix (z := 6) hr hx fun b hb => ?_
      injection hb with hb
      subst hb
      refine h.rdEI 0 hr hx ?_
      exact ifq (fun _ => hk _ h) fun _ => leti (next (by omega)) ⟨m2 - 1, by omega, q + 1, by omega, rfl, h⟩
    · refine h.ix (z := 6) hr hx fun a ha => ?_
      subst ha
      refine h.rdEB 2 hr hx ?_
      refine ifb (fun h1 => ?_) fun h1 => ?_
      rotate_left
      · have hu : isUsed x = false := by simp [isUsed, h1]
        have hgd : isGood x = false := by simp [isGood, hu]
        exact leti (next (by omega)) ⟨m - 1, by omega, j + 1, by omega, rfl, by rw [fU _ hu]; simp, by rw [fG _ hgd]; simp, h⟩
      refine h.ix (z := 6) hr hx fun b hb => ?_
      injection hb with hb
      subst hb
      refine h.rdEB 1 hr hx ?_
      refine ifb (fun h2 => ?_) fun h2 => ?_
      rotate_left
      · have hu : isUsed x = false := by simp [isUsed, h2]
        have hgd : isGood x = false := by simp [isGood, hu]
        exact leti (next (by omega)) ⟨m - 1, by omega, j + 1, by omega, rfl, by rw [fU _ hu]; simp, by rw [fG _ hgd]; simp, h⟩
      have hu : isUsed x = true := by simp [isUsed, h1, h2]
      refine leti (y := (((l.take j).filter isUsed).length : Int) + 1) (wrap_i64 (by omega) (by omega)) ?_
      refine h.ix (z := 6) hr hx fun b hb => ?_
      injection hb with hb
      subst hb
      refine h.rdEB 4 hr hx ?_
      refine ifnot (fun h3 => ?_) fun h3 => ?_
      · have hgd : isGood x = true := by simp [isGood, hu, h3]
        refine leti (y := (((l.take j).filter isGood).length : Int) + 1) (wrap_i64 (by omega) (by omega)) ?_
        exact leti (next (by omega)) ⟨m - 1, by omega, j + 1, by omega, rfl, by rw [fU _ hu]; simp, by rw [fG _ hgd]; simp, h⟩
      · have hgd : isGood x = false := by simp [isGood, hu, h3]
        exact leti (next (by omega)) ⟨m - 1, by omega, j + 1, by omega, rfl, by rw [fU _ hu]; simp, by rw [fG _ hgd]; simp, h⟩
  have hjl : j = l.length := by omega
  subst hjl
  rw [List.take_length]
  refine make_ok h hr (by omega) fun F B O k1 O2 k2 O3 k3 w' hF pF hB pB h => ⟨_, _, _, _, _, _, _, _, _, rfl, ?_⟩
  have hap := ask_le (wv := wv) (l := l) (by omega) (by omega) (by omega : l.length ≤ 60) (most := most)
  refine h.allocG tiPlan fun a11 w' h => ?_
  repeat' (first
    | ((with_reducible show NILC (some _) _); refine nilc ?_)
    | ((with_reducible show RDI _ (loadVar _ (Addr.add (Addr.add ⟨_, 0, none⟩ _) _)) _ _ _); refine h.rdI2 _ _ ?_)
    | ((with_reducible show RDB _ (loadVar _ (Addr.add (Addr.add ⟨_, 0, none⟩ _) _)) _ _); refine h.rdB2 _ _ ?_)
    | ((with_reducible show RDP _ (loadVar _ (Addr.add (Addr.add ⟨_, 0, none⟩ _) _)) _ _); refine h.rdP2 _ _ ?_)
    | ((with_reducible show RDL _ (loadVar _ (Addr.add (Addr.add ⟨_, 0, none⟩ _) _)) _ _); refine h.rdL2 _ _ ?_)
    | ((with_reducible show RDI _ (loadVar _ (Addr.add _ _)) _ _ _); refine h.rdI _ ?_)
    | ((with_reducible show RDB _ (loadVar _ (Addr.add _ _)) _ _); refine h.rdB _ ?_)
    | ((with_reducible show RDP _ (loadVar _ (Addr.add _ _)) _ _); refine h.rdP _ ?_)
    | ((with_reducible show RDL _ (loadVar _ (Addr.add _ _)) _ _); refine h.rdL _ ?_)
    | ((with_reducible show RDT _ (loadVar _ (Addr.add _ _)) _ _); refine h.rdT _ ?_)
    | ((with_reducible show RUNU _ (storeVar _ (Addr.add (Addr.add ⟨_, 0, none⟩ _) _) _) _ _); refine h.st2 _ _ fun w' h => ?_)
    | ((with_reducible show RUNU _ (storeVar _ (Addr.add _ _) _) _ _); refine h.st _ fun w' h => ?_)
    | ((with_reducible show RDI _ (loadVar _ ⟨_, _, _⟩) _ _ _); refine h.rdvI ?_)
    | ((with_reducible show RDB _ (loadVar _ ⟨_, _, _⟩) _ _); refine h.rdvB ?_)
    | ((with_reducible show RDP _ (loadVar _ ⟨_, _, _⟩) _ _); refine h.rdvP ?_)
    | ((with_reducible show RDL _ (loadVar _ ⟨_, _, _⟩) _ _); refine h.rdvL ?_)
    | ((with_reducible show RDT _ (loadVar _ ⟨_, _, _⟩) _ _); refine h.rdvT ?_)
    | ((with_reducible show RD _ (loadVar _ ⟨_, _, _⟩) _ _); refine h.rdG ?_; first | refine ⟨_, rfl, ?_⟩ | refine ⟨_, _, rfl, ?_⟩ | refine ⟨_, _, _, rfl, ?_⟩ | refine ⟨_, _, _, _, rfl, ?_⟩ | refine ⟨_, _, _, _, _, rfl, ?_⟩ | refine ⟨_, _, _, _, _, _, rfl, ?_⟩ | refine ⟨_, _, _, _, _, _, _, rfl, ?_⟩ | refine ⟨_, _, _, _, _, _, _, _, rfl, ?_⟩ | refine ⟨_, _, _, _, _, _, _, _, _, rfl, ?_⟩)
    | ((with_reducible show RUNU _ (storeVar _ ⟨_, _, _⟩ (.agg _)) _ _); refine h.stG fun w' h => ?_)
    | ((with_reducible show RUNU _ (storeVar _ ⟨_, _, _⟩ _) _ _); refine h.stV fun w' h => ?_))
  have lff := List.length_filter_le isFree l
  have lF := pF.length_eq
  have hN : (F.take (askN wv most l)).length = askN wv most l := by have := ask_free wv most l; rw [List.length_take]; omega
  refine ⟨fun m i w' => ∃ q : Nat, q + m = askN wv most l ∧ i = (q : Int) ∧ St c w' (blk a11 110 [.slice O (askN wv most l) k1, .slice O2 (dropL wv l B).length k2, .slice O3 (spL wv B).length k3] :: own 3 1 O (askN wv most l) k1 (((F.take (askN wv most l)).map (·.id)).flatMap iv) :: L), ⟨askN wv most l, 0, by omega, rfl, h.to⟩, ?_⟩
  clear h
  rintro m _ w' ⟨q, hq, rfl, h⟩
  repeat' (first
    | ((with_reducible show NILC (some _) _); refine nilc ?_)
    | ((with_reducible show RDI _ (loadVar _ (Addr.add (Addr.add ⟨_, 0, none⟩ _) _)) _ _ _); refine h.rdI2 _ _ ?_)
    | ((with_reducible show RDB _ (loadVar _ (Addr.add (Addr.add ⟨_, 0, none⟩ _) _)) _ _); refine h.rdB2 _ _ ?_)
    | ((with_reducible show RDP _ (loadVar _ (Addr.add (Addr.add ⟨_, 0, none⟩ _) _)) _ _); refine h.rdP2 _ _ ?_)
    | ((with_reducible show RDL _ (loadVar _ (Addr.add (Addr.add ⟨_, 0, none⟩ _) _)) _ _); refine h.rdL2 _ _ ?_)
    | ((with_reducible show RDI _ (loadVar _ (Addr.add _ _)) _ _ _); refine h.rdI _ ?_)
    | ((with_reducible show RDB _ (loadVar _ (Addr.add _ _)) _ _); refine h.rdB _ ?_)
    | ((with_reducible show RDP _ (loadVar _ (Addr.add _ _)) _ _); refine h.rdP _ ?_)
    | ((with_reducible show RDL _ (loadVar _ (Addr.add _ _)) _ _); refine h.rdL _ ?_)
    | ((with_reducible show RDT _ (loadVar _ (Addr.add _ _)) _ _); refine h.rdT _ ?_)
    | ((with_reducible show RUNU _ (storeVar _ (Addr.add (Addr.add ⟨_, 0, none⟩ _) _) _) _ _); refine h.st2 _ _ fun w' h => ?_)
    | ((with_reducible show RUNU _ (storeVar _ (Addr.add _ _) _) _ _); refine h.st _ fun w' h => ?_)
    | ((with_reducible show RDI _ (loadVar _ ⟨_, _, _⟩) _ _ _); refine h.rdvI ?_)
    | ((with_reducible show RDB _ (loadVar _ ⟨_, _, _⟩) _ _); refine h.rdvB ?_)
    | ((with_reducible show RDP _ (loadVar _ ⟨_, _, _⟩) _ _); refine h.rdvP ?_)
    | ((with_reducible show RDL _ (loadVar _ ⟨_, _, _⟩) _ _); refine h.rdvL ?_)
    | ((with_reducible show RDT _ (loadVar _ ⟨_, _, _⟩) _ _); refine h.rdvT ?_)
    | ((with_reducible show RD _ (loadVar _ ⟨_, _, _⟩) _ _); refine h.rdG ?_; first | refine ⟨_, rfl, ?_⟩ | refine ⟨_, _, rfl, ?_⟩ | refine ⟨_, _, _, rfl, ?_⟩ | refine ⟨_, _, _, _, rfl, ?_⟩ | refine ⟨_, _, _, _, _, rfl, ?_⟩ | refine ⟨_, _, _, _, _, _, rfl, ?_⟩ | refine ⟨_, _, _, _, _, _, _, rfl, ?_⟩ | refine ⟨_, _, _, _, _, _, _, _, rfl, ?_⟩ | refine ⟨_, _, _, _, _, _, _, _, _, rfl, ?_⟩)
    | ((with_reducible show RUNU _ (storeVar _ ⟨_, _, _⟩ (.agg _)) _ _); refine h.stG fun w' h => ?_)
    | ((with_reducible show RUNU _ (storeVar _ ⟨_, _, _⟩ _) _ _); refine h.stV fun w' h => ?_))
  refine ifd (fun hlt => ?_) fun hge => ?_
  · obtain ⟨y, hy⟩ := ex_get (L := F.take (askN wv most l)) (j := q) (by omega)
    have hyF : y ∈ l.filter isFree := pF.mem_iff.1 (List.mem_of_mem_take (List.mem_of_getElem? hy))
    obtain ⟨hyl, hyf⟩ := List.mem_filter.1 hyF
    have hyi : ((F.take (askN wv most l)).map (·.id))[q]? = some y.id := by rw [List.getElem?_map, hy]; rfl
    have hfr : y.may = true ∧ y.used = false ∧ y.tries < 4 := by simp [isFree] at hyf; exact ⟨hyf.1.1, hyf.1.2, hyf.2⟩
    refine ⟨fun m2 okv kk w' => ∃ j : Nat, j + m2 = l.length ∧ kk = (j : Int) ∧ (okv = false → y ∈ l.drop j) ∧ St c w' (blk a11 110 [.slice O (askN wv most l) k1, .slice O2 (dropL wv l B).length k2, .slice O3 (spL wv B).length k3] :: own 3 1 O (askN wv most l) k1 (((F.take (askN wv most l)).map (·.id)).flatMap iv) :: L), ⟨l.length, 0, by omega, rfl, fun _ => by simpa using hyl, h⟩, ?_⟩
    clear h
    rintro m2 okv _ w' ⟨j, hj, rfl, hok, h⟩
    refine ifd (fun hlt2 => ?_) fun hge2 => ?_
    · have h := h.drew
      refine ifb (fun ho => letb rfl (leti (next (by omega)) ⟨m2 - 1, by omega, j + 1, by omega, rfl, fun hc => (by cases hc), h⟩)) fun ho => ?_
      obtain ⟨x, hx⟩ := ex_get (L := l) (j := j) (by omega)
      have hmem := hok ho
      rw [drop_cons' hx] at hmem
      have go : ∀ (b : Bool), (y = x → b = true) → (b = false → y ∈ l.drop (j + 1)) := fun b hb hf => by
        rcases List.mem_cons.1 hmem with e | e
        · rw [hb e] at hf; cases hf
        · exact e
      have fin : ∀ (b : Bool), (y = x → b = true) → ∀ {w' : World}, St c w' (blk a11 110 [.slice O (askN wv most l) k1, .slice O2 (dropL wv l B).length k2, .slice O3 (spL wv B).length k3] :: own 3 1 O (askN wv most l) k1 (((F.take (askN wv most l)).map (·.id)).flatMap iv) :: L) → ∃ m3, m3 < m2 ∧ ∃ j' : Nat, j' + m3 = l.length ∧ ((j + 1 : Nat) : Int) = (j' : Int) ∧ (b = false → y ∈ l.drop j') ∧ St c w' (blk a11 110 [.slice O (askN wv most l) k1, .slice O2 (dropL wv l B).length k2, .slice O3 (spL wv B).length k3] :: own 3 1 O (askN wv most l) k1 (((F.take (askN wv most l)).map (·.id)).flatMap iv) :: L) := fun b hb w' h => ⟨m2 - 1, by omega, j + 1, by omega, rfl, go b hb, h⟩
      refine h.ix (z := 6) hr.more.more hx fun a ha => ?_
      subst ha
      refine h.rdEI 0 hr.more.more hx ?_
      repeat' (first
        | ((with_reducible show NILC (some _) _); refine nilc ?_)
        | ((with_reducible show RDI _ (loadVar _ (Addr.add (Addr.add ⟨_, 0, none⟩ _) _)) _ _ _); refine h.rdI2 _ _ ?_)
        | ((with_reducible show RDB _ (loadVar _ (Addr.add (Addr.add ⟨_, 0, none⟩ _) _)) _ _); refine h.rdB2 _ _ ?_)
        | ((with_reducible show RDP _ (loadVar _ (Addr.add (Addr.add ⟨_, 0, none⟩ _) _)) _ _); refine h.rdP2 _ _ ?_)
        | ((with_reducible show RDL _ (loadVar _ (Addr.add (Addr.add ⟨_, 0, none⟩ _) _)) _ _); refine h.rdL2 _ _ ?_)
        | ((with_reducible show RDI _ (loadVar _ (Addr.add _ _)) _ _ _); refine h.rdI _ ?_)
        | ((with_reducible show RDB _ (loadVar _ (Addr.add _ _)) _ _); refine h.rdB _ ?_)
        | ((with_reducible show RDP _ (loadVar _ (Addr.add _ _)) _ _); refine h.rdP _ ?_)
        | ((with_reducible show RDL _ (loadVar _ (Addr.add _ _)) _ _); refine h.rdL _ ?_)
        | ((with_reducible show RDT _ (loadVar _ (Addr.add _ _)) _ _); refine h.rdT _ ?_)
        | ((with_reducible show RUNU _ (storeVar _ (Addr.add (Addr.add ⟨_, 0, none⟩ _) _) _) _ _); refine h.st2 _ _ fun w' h => ?_)
        | ((with_reducible show RUNU _ (storeVar _ (Addr.add _ _) _) _ _); refine h.st _ fun w' h => ?_)
        | ((with_reducible show RDI _ (loadVar _ ⟨_, _, _⟩) _ _ _); refine h.rdvI ?_)
        | ((with_reducible show RDB _ (loadVar _ ⟨_, _, _⟩) _ _); refine h.rdvB ?_)
        | ((with_reducible show RDP _ (loadVar _ ⟨_, _, _⟩) _ _); refine h.rdvP ?_)
        | ((with_reducible show RDL _ (loadVar _ ⟨_, _, _⟩) _ _); refine h.rdvL ?_)
        | ((with_reducible show RDT _ (loadVar _ ⟨_, _, _⟩) _ _); refine h.rdvT ?_)
        | ((with_reducible show RD _ (loadVar _ ⟨_, _, _⟩) _ _); refine h.rdG ?_; first | refine ⟨_, rfl, ?_⟩ | refine ⟨_, _, rfl, ?_⟩ | refine ⟨_, _, _, rfl, ?_⟩ | refine ⟨_, _, _, _, rfl, ?_⟩ | refine ⟨_, _, _, _, _, rfl, ?_⟩ | refine ⟨_, _, _, _, _, _, rfl, ?_⟩ | refine ⟨_, _, _, _, _, _, _, rfl, ?_⟩ | refine ⟨_, _, _, _, _, _, _, _, rfl, ?_⟩ | refine ⟨_, _, _, _, _, _, _, _, _, rfl, ?_⟩)
        | ((with_reducible show RUNU _ (storeVar _ ⟨_, _, _⟩ (.agg _)) _ _); refine h.stG fun w' h => ?_)
        | ((with_reducible show RUNU _ (storeVar _ ⟨_, _, _⟩ _) _ _); refine h.stV fun w' h => ?_))
      refine h.ix (z := 0) (RdIn.own (.tail .head)) hyi fun b hb => ?_
      subst hb
      refine h.rdWI (RdIn.own (.tail .head)) hyi ?_
      refine ifq (fun h1 => ?_) fun h1 => letb rfl (leti (next (by omega)) (fin false (fun e => by subst e; exact absurd rfl h1) h))
      refine h.ix (z := 6) hr.more.more hx fun b hb => ?_
      injection hb with hb
      subst hb
      refine h.rdEB 1 hr.more.more hx ?_
      refine ifb (fun h2 => ?_) fun h2 => letb rfl (leti (next (by omega)) (fin false (fun e => by subst e; simp [hfr.1] at h2) h))
      refine h.ix (z := 6) hr.more.more hx fun b hb => ?_
      injection hb with hb
      subst hb
      refine h.rdEB 2 hr.more.more hx ?_
      refine ifnot (fun h3 => ?_) fun h3 => letb rfl (leti (next (by omega)) (fin false (fun e => by subst e; simp [hfr.2.1] at h3) h))
      refine h.ix (z := 6) hr.more.more hx fun b hb => ?_
      injection hb with hb
      subst hb
      refine h.rdEI 6 hr.more.more hx ?_
      exact letb rfl (leti (next (by omega)) (fin (decide (x.tries < 4)) (fun e => by subst e; exact decide_eq_true hfr.2.2) h))
    · refine ifnot (fun hf => ?_) fun _ => leti (next (by omega)) ⟨m - 1, by omega, q + 1, by omega, rfl, h⟩
      have := hok hf
      rw [show j = l.length by omega, List.drop_length] at this
      cases this
  have hNq : q = askN wv most l := by omega
  refine ⟨fun w' => St c w' (blk a11 110 [.slice O (askN wv most l) k1, .slice O2 (dropL wv l B).length k2, .slice O3 (spL wv B).length k3] :: L), ?_, ?_⟩
  · repeat' (first
      | ((with_reducible show NILC (some _) _); refine nilc ?_)
      | ((with_reducible show RDI _ (loadVar _ (Addr.add (Addr.add ⟨_, 0, none⟩ _) _)) _ _ _); refine h.rdI2 _ _ ?_)
      | ((with_reducible show RDB _ (loadVar _ (Addr.add (Addr.add ⟨_, 0, none⟩ _) _)) _ _); refine h.rdB2 _ _ ?_)
      | ((with_reducible show RDP _ (loadVar _ (Addr.add (Addr.add ⟨_, 0, none⟩ _) _)) _ _); refine h.rdP2 _ _ ?_)
      | ((with_reducible show RDL _ (loadVar _ (Addr.add (Addr.add ⟨_, 0, none⟩ _) _)) _ _); refine h.rdL2 _ _ ?_)
      | ((with_reducible show RDI _ (loadVar _ (Addr.add _ _)) _ _ _); refine h.rdI _ ?_)
      | ((with_reducible show RDB _ (loadVar _ (Addr.add _ _)) _ _); refine h.rdB _ ?_)
      | ((with_reducible show RDP _ (loadVar _ (Addr.add _ _)) _ _); refine h.rdP _ ?_)
      | ((with_reducible show RDL _ (loadVar _ (Addr.add _ _)) _ _); refine h.rdL _ ?_)
      | ((with_reducible show RDT _ (loadVar _ (Addr.add _ _)) _ _); refine h.rdT _ ?_)
      | ((with_reducible show RUNU _ (storeVar _ (Addr.add (Addr.add ⟨_, 0, none⟩ _) _) _) _ _); refine h.st2 _ _ fun w' h => ?_)
      | ((with_reducible show RUNU _ (storeVar _ (Addr.add _ _) _) _ _); refine h.st _ fun w' h => ?_)
      | ((with_reducible show RDI _ (loadVar _ ⟨_, _, _⟩) _ _ _); refine h.rdvI ?_)
      | ((with_reducible show RDB _ (loadVar _ ⟨_, _, _⟩) _ _); refine h.rdvB ?_)
      | ((with_reducible show RDP _ (loadVar _ ⟨_, _, _⟩) _ _); refine h.rdvP ?_)
      | ((with_reducible show RDL _ (loadVar _ ⟨_, _, _⟩) _ _); refine h.rdvL ?_)
      | ((with_reducible show RDT _ (loadVar _ ⟨_, _, _⟩) _ _); refine h.rdvT ?_)
      | ((with_reducible show RD _ (loadVar _ ⟨_, _, _⟩) _ _); refine h.rdG ?_; first | refine ⟨_, rfl, ?_⟩ | refine ⟨_, _, rfl, ?_⟩ | refine ⟨_, _, _, rfl, ?_⟩ | refine ⟨_, _, _, _, rfl, ?_⟩ | refine ⟨_, _, _, _, _, rfl, ?_⟩ | refine ⟨_, _, _, _, _, _, rfl, ?_⟩ | refine ⟨_, _, _, _, _, _, _, rfl, ?_⟩ | refine ⟨_, _, _, _, _, _, _, _, rfl, ?_⟩ | refine ⟨_, _, _, _, _, _, _, _, _, rfl, ?_⟩)
      | ((with_reducible show RUNU _ (storeVar _ ⟨_, _, _⟩ (.agg _)) _ _); refine h.stG fun w' h => ?_)
      | ((with_reducible show RUNU _ (storeVar _ ⟨_, _, _⟩ _) _ _); refine h.stV fun w' h => ?_))
    refine ifd (fun hp => ?_) fun hp => h.to
    repeat' (first
      | ((with_reducible show NILC (some _) _); refine nilc ?_)
      | ((with_reducible show RDI _ (loadVar _ (Addr.add (Addr.add ⟨_, 0, none⟩ _) _)) _ _ _); refine h.rdI2 _ _ ?_)
      | ((with_reducible show RDB _ (loadVar _ (Addr.add (Addr.add ⟨_, 0, none⟩ _) _)) _ _); refine h.rdB2 _ _ ?_)
      | ((with_reducible show RDP _ (loadVar _ (Addr.add (Addr.add ⟨_, 0, none⟩ _) _)) _ _); refine h.rdP2 _ _ ?_)
      | ((with_reducible show RDL _ (loadVar _ (Addr.add (Addr.add ⟨_, 0, none⟩ _) _)) _ _); refine h.rdL2 _ _ ?_)
      | ((with_reducible show RDI _ (loadVar _ (Addr.add _ _)) _ _ _); refine h.rdI _ ?_)
      | ((with_reducible show RDB _ (loadVar _ (Addr.add _ _)) _ _); refine h.rdB _ ?_)
      | ((with_reducible show RDP _ (loadVar _ (Addr.add _ _)) _ _); refine h.rdP _ ?_)
      | ((with_reducible show RDL _ (loadVar _ (Addr.add _ _)) _ _); refine h.rdL _ ?_)
      | ((with_reducible show RDT _ (loadVar _ (Addr.add _ _)) _ _); refine h.rdT _ ?_)
      | ((with_reducible show RUNU _ (storeVar _ (Addr.add (Addr.add ⟨_, 0, none⟩ _) _) _) _ _); refine h.st2 _ _ fun w' h => ?_)
      | ((with_reducible show RUNU _ (storeVar _ (Addr.add _ _) _) _ _); refine h.st _ fun w' h => ?_)
      | ((with_reducible show RDI _ (loadVar _ ⟨_, _, _⟩) _ _ _); refine h.rdvI ?_)
      | ((with_reducible show RDB _ (loadVar _ ⟨_, _, _⟩) _ _); refine h.rdvB ?_)
      | ((with_reducible show RDP _ (loadVar _ ⟨_, _, _⟩) _ _); refine h.rdvP ?_)
      | ((with_reducible show RDL _ (loadVar _ ⟨_, _, _⟩) _ _); refine h.rdvL ?_)
      | ((with_reducible show RDT _ (loadVar _ ⟨_, _, _⟩) _ _); refine h.rdvT ?_)
      | ((with_reducible show RD _ (loadVar _ ⟨_, _, _⟩) _ _); refine h.rdG ?_; first | refine ⟨_, rfl, ?_⟩ | refine ⟨_, _, rfl, ?_⟩ | refine ⟨_, _, _, rfl, ?_⟩ | refine ⟨_, _, _, _, rfl, ?_⟩ | refine ⟨_, _, _, _, _, rfl, ?_⟩ | refine ⟨_, _, _, _, _, _, rfl, ?_⟩ | refine ⟨_, _, _, _, _, _, _, rfl, ?_⟩ | refine ⟨_, _, _, _, _, _, _, _, rfl, ?_⟩ | refine ⟨_, _, _, _, _, _, _, _, _, rfl, ?_⟩)
      | ((with_reducible show RUNU _ (storeVar _ ⟨_, _, _⟩ (.agg _)) _ _); refine h.stG fun w' h => ?_)
      | ((with_reducible show RUNU _ (storeVar _ ⟨_, _, _⟩ _) _ _); refine h.stV fun w' h => ?_))
    have hle := hap (by omega)
    exact iff_ (by rw [wrap_i64 (by omega) (by omega)]; exact decide_eq_false (by omega)) h.to
  clear h
  intro w' h
  refine ⟨fun b w' => b = decide (wv = 3 ∧ 0 < (l.filter isGood).length) ∧ St c w' (blk a11 110 [.slice O (askN wv most l) k1, .slice O2 (dropL wv l B).length k2, .slice O3 (spL wv B).length k3] :: L), ?_, ?_⟩
  · refine ifq (fun h3 => ⟨by congr 1; simp [h3], h⟩) fun h3 => ⟨by simp [h3], h⟩
  clear h
  rintro _ w' ⟨rfl, h⟩
  refine ifb (fun hs => ?_) fun hs => ?_
  rotate_left
  · exact palive_ok h fun w' h => ⟨_, rfl, letb rfl (hk _ h.drop)⟩
  obtain ⟨h3, hg⟩ := of_decide_eq_true hs
  have hel := extra_len hB pB hg
  have lu2 := List.length_filter_le isUsed l
  have hd : (dropL wv l B).length + 1 = (l.filter isGone).length + (l.filter isUsed).length := by
    simp only [dropL, h3, if_true, List.length_append, List.length_map]; omega
  have ha0 : askN wv most l = 0 := by
    unfold askN
    simp only
    rw [if_neg (by omega), if_neg (by omega), if_pos h3, if_neg (by omega)]
  refine ⟨fun m gone i w' => ∃ j : Nat, j + m = l.length ∧ i = (j : Int) ∧ gone = (((l.take j).filter isGone).length : Int) ∧ St c w' (blk a11 110 [.slice O (askN wv most l) k1, .slice O2 (dropL wv l B).length k2, .slice O3 (spL wv B).length k3] :: L), ⟨l.length, 0, by omega, rfl, by simp, h⟩, ?_⟩
  clear h
  rintro m _ _ w' ⟨j, hj, rfl, rfl, h⟩
  have ln := List.length_filter_le isGone (l.take j)
  rw [List.length_take] at ln
  refine ifd (fun hlt => ?_) fun hge => ?_
  · obtain ⟨x, hx⟩ := ex_get (L := l) (j := j) (by omega)
    have fN := fun b (hb : isGone x = b) => show ((l.take (j + 1)).filter isGone).length = ((l.take j).filter isGone).length + (if b then 1 else 0) by
      rw [take_snoc' hx, List.filter_append, List.length_append]; cases b <;> simp [hb]
    refine h.ix (z := 6) hr.more hx fun a ha => ?_
    subst ha
    refine h.rdEB 2 hr.more hx ?_
    refine ifb (fun h1 => ?_) fun h1 => leti (next (by omega)) ⟨m - 1, by omega, j + 1, by omega, rfl, by rw [fN false (by simp [isGone, h1])]; simp, h⟩
    refine h.ix (z := 6) hr.more hx fun b hb => ?_
    injection hb with hb
    subst hb
    refine h.rdEB 1 hr.more hx ?_
    refine ifnot (fun h2 => ?_) fun h2 => leti (next (by omega)) ⟨m - 1, by omega, j + 1, by omega, rfl, by rw [fN false (by simp [isGone, h2])]; simp, h⟩
    refine leti (y := (((l.take j).filter isGone).length : Int) + 1) (wrap_i64 (by omega) (by omega)) ?_
    exact leti (next (by omega)) ⟨m - 1, by omega, j + 1, by omega, rfl, by rw [fN true (by simp [isGone, h1, h2])]; simp, h⟩
  have hjl : j = l.length := by omega
  subst hjl
  rw [List.take_length] at ln ⊢
  repeat' (first
    | ((with_reducible show NILC (some _) _); refine nilc ?_)
    | ((with_reducible show RDI _ (loadVar _ (Addr.add (Addr.add ⟨_, 0, none⟩ _) _)) _ _ _); refine h.rdI2 _ _ ?_)
    | ((with_reducible show RDB _ (loadVar _ (Addr.add (Addr.add ⟨_, 0, none⟩ _) _)) _ _); refine h.rdB2 _ _ ?_)
    | ((with_reducible show RDP _ (loadVar _ (Addr.add (Addr.add ⟨_, 0, none⟩ _) _)) _ _); refine h.rdP2 _ _ ?_)
    | ((with_reducible show RDL _ (loadVar _ (Addr.add (Addr.add ⟨_, 0, none⟩ _) _)) _ _); refine h.rdL2 _ _ ?_)
    | ((with_reducible show RDI _ (loadVar _ (Addr.add _ _)) _ _ _); refine h.rdI _ ?_)
    | ((with_reducible show RDB _ (loadVar _ (Addr.add _ _)) _ _); refine h.rdB _ ?_)
    | ((with_reducible show RDP _ (loadVar _ (Addr.add _ _)) _ _); refine h.rdP _ ?_)
    | ((with_reducible show RDL _ (loadVar _ (Addr.add _ _)) _ _); refine h.rdL _ ?_)
    | ((with_reducible show RDT _ (loadVar _ (Addr.add _ _)) _ _); refine h.rdT _ ?_)
    | ((with_reducible show RUNU _ (storeVar _ (Addr.add (Addr.add ⟨_, 0, none⟩ _) _) _) _ _); refine h.st2 _ _ fun w' h => ?_)
    | ((with_reducible show RUNU _ (storeVar _ (Addr.add _ _) _) _ _); refine h.st _ fun w' h => ?_)
    | ((with_reducible show RDI _ (loadVar _ ⟨_, _, _⟩) _ _ _); refine h.rdvI ?_)
    | ((with_reducible show RDB _ (loadVar _ ⟨_, _, _⟩) _ _); refine h.rdvB ?_)
    | ((with_reducible show RDP _ (loadVar _ ⟨_, _, _⟩) _ _); refine h.rdvP ?_)
    | ((with_reducible show RDL _ (loadVar _ ⟨_, _, _⟩) _ _); refine h.rdvL ?_)
    | ((with_reducible show RDT _ (loadVar _ ⟨_, _, _⟩) _ _); refine h.rdvT ?_)
    | ((with_reducible show RD _ (loadVar _ ⟨_, _, _⟩) _ _); refine h.rdG ?_; first | refine ⟨_, rfl, ?_⟩ | refine ⟨_, _, rfl, ?_⟩ | refine ⟨_, _, _, rfl, ?_⟩ | refine ⟨_, _, _, _, rfl, ?_⟩ | refine ⟨_, _, _, _, _, rfl, ?_⟩ | refine ⟨_, _, _, _, _, _, rfl, ?_⟩ | refine ⟨_, _, _, _, _, _, _, rfl, ?_⟩ | refine ⟨_, _, _, _, _, _, _, _, rfl, ?_⟩ | refine ⟨_, _, _, _, _, _, _, _, _, rfl, ?_⟩)
    | ((with_reducible show RUNU _ (storeVar _ ⟨_, _, _⟩ (.agg _)) _ _); refine h.stG fun w' h => ?_)
    | ((with_reducible show RUNU _ (storeVar _ ⟨_, _, _⟩ _) _ _); refine h.stV fun w' h => ?_))
  refine ift (by simp [ha0]) ?_
  repeat' (first
    | ((with_reducible show NILC (some _) _); refine nilc ?_)
    | ((with_reducible show RDI _ (loadVar _ (Addr.add (Addr.add ⟨_, 0, none⟩ _) _)) _ _ _); refine h.rdI2 _ _ ?_)
    | ((with_reducible show RDB _ (loadVar _ (Addr.add (Addr.add ⟨_, 0, none⟩ _) _)) _ _); refine h.rdB2 _ _ ?_)
    | ((with_reducible show RDP _ (loadVar _ (Addr.add (Addr.add ⟨_, 0, none⟩ _) _)) _ _); refine h.rdP2 _ _ ?_)
    | ((with_reducible show RDL _ (loadVar _ (Addr.add (Addr.add ⟨_, 0, none⟩ _) _)) _ _); refine h.rdL2 _ _ ?_)
    | ((with_reducible show RDI _ (loadVar _ (Addr.add _ _)) _ _ _); refine h.rdI _ ?_)
    | ((with_reducible show RDB _ (loadVar _ (Addr.add _ _)) _ _); refine h.rdB _ ?_)
    | ((with_reducible show RDP _ (loadVar _ (Addr.add _ _)) _ _); refine h.rdP _ ?_)
    | ((with_reducible show RDL _ (loadVar _ (Addr.add _ _)) _ _); refine h.rdL _ ?_)
    | ((with_reducible show RDT _ (loadVar _ (Addr.add _ _)) _ _); refine h.rdT _ ?_)
    | ((with_reducible show RUNU _ (storeVar _ (Addr.add (Addr.add ⟨_, 0, none⟩ _) _) _) _ _); refine h.st2 _ _ fun w' h => ?_)
    | ((with_reducible show RUNU _ (storeVar _ (Addr.add _ _) _) _ _); refine h.st _ fun w' h => ?_)
    | ((with_reducible show RDI _ (loadVar _ ⟨_, _, _⟩) _ _ _); refine h.rdvI ?_)
    | ((with_reducible show RDB _ (loadVar _ ⟨_, _, _⟩) _ _); refine h.rdvB ?_)
    | ((with_reducible show RDP _ (loadVar _ ⟨_, _, _⟩) _ _); refine h.rdvP ?_)
    | ((with_reducible show RDL _ (loadVar _ ⟨_, _, _⟩) _ _); refine h.rdvL ?_)
    | ((with_reducible show RDT _ (loadVar _ ⟨_, _, _⟩) _ _); refine h.rdvT ?_)
    | ((with_reducible show RD _ (loadVar _ ⟨_, _, _⟩) _ _); refine h.rdG ?_; first | refine ⟨_, rfl, ?_⟩ | refine ⟨_, _, rfl, ?_⟩ | refine ⟨_, _, _, rfl, ?_⟩ | refine ⟨_, _, _, _, rfl, ?_⟩ | refine ⟨_, _, _, _, _, rfl, ?_⟩ | refine ⟨_, _, _, _, _, _, rfl, ?_⟩ | refine ⟨_, _, _, _, _, _, _, rfl, ?_⟩ | refine ⟨_, _, _, _, _, _, _, _, rfl, ?_⟩ | refine ⟨_, _, _, _, _, _, _, _, _, rfl, ?_⟩)
    | ((with_reducible show RUNU _ (storeVar _ ⟨_, _, _⟩ (.agg _)) _ _); refine h.stG fun w' h => ?_)
    | ((with_reducible show RUNU _ (storeVar _ ⟨_, _, _⟩ _) _ _); refine h.stV fun w' h => ?_))
  refine ift (by rw [show (((l.filter isGone).length : Int) + ((l.filter isUsed).length : Int)) = ((dropL wv l B).length : Int) + 1 by omega, wrap_i64 (n := ((dropL wv l B).length : Int) + 1) (by omega) (by omega), wrap_i64 (by omega) (by omega)]; simp) ?_
  exact palive_ok h fun w' h => ⟨_, rfl, letb rfl (hk _ h.drop)⟩
end
end Go.Br
