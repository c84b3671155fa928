/- Planning: the orders of free and of used paths, and the rows in them. -/
import Derived.Test.YtggajodoaooafaaNPlan
import Derived.Test.YtggajodoaooafaaPlanSort
import Derived.Test.YtggajodoaooafaaSched
set_option linter.unusedVariables false
set_option linter.unusedSimpArgs false
set_option linter.unnecessarySimpa false
namespace Go.Br
open Go
attribute [local irreducible] Addr.add

theorem tiPp : TI PG 108 7 32 (.agg #[.int .i64 0, .bool false, .bool false, .bool false, .bool false, .int .i64 0, .int .i64 0]) := tiOf (by kernel_rfl)
theorem huPp : PG.underlying 106 = some (.slice 108) := by kernel_rfl
def fcmp (a b : Pp) : Int := or2 (cmp3 a.tries b.tries) (or2 (cmp3 a.mean b.mean) (cmp3 a.id b.id))
def bcmp (a b : Pp) : Int := if a.bad ≠ b.bad then (if a.bad then 1 else -1) else or2 (cmp3 a.mean b.mean) (cmp3 a.id b.id)
section
variable {c : Ctx} {w : World} {L R : List SA}
theorem or3_ok (h : St c w L) {A : Option Addr} {a b e : Int} {k : Nat} (hr : RdIn L A ([a, b, e].flatMap iv)) {Q : Value → World → Prop} (hk : Q (.int .i64 (or2 a (or2 b e))) w) : CALL PG 92 [.slice A 3 k] w Q := by
  refine call92 ?_
  unfold N92
  unfold or2 at hk
  refine ⟨fun m i w' => w' = w ∧ ((m = 3 ∧ i = 0) ∨ (m = 2 ∧ i = 1 ∧ a = 0) ∨ (m = 1 ∧ i = 2 ∧ a = 0 ∧ b = 0) ∨ (m = 0 ∧ i = 3 ∧ a = 0 ∧ b = 0 ∧ e = 0)), ⟨3, rfl, .inl ⟨rfl, rfl⟩⟩, ?_⟩
  rintro m i w' ⟨rfl, hi⟩
  rcases hi with ⟨rfl, rfl⟩ | ⟨rfl, rfl, ha⟩ | ⟨rfl, rfl, ha, hb⟩ | ⟨rfl, rfl, ha, hb, he⟩
  · refine ift rfl ?_
    refine h.ix (z := 0) (i := 0) (y := a) hr rfl (fun x hx => ?_) (by omega)
    subst hx
    refine h.rdWI (i := 0) (y := a) hr rfl (leti rfl ?_)
    refine ifn (fun h1 => leti rfl (by rwa [if_pos h1] at hk)) fun h1 => ⟨2, by omega, rfl, .inr (.inl ⟨rfl, by decide, h1⟩)⟩
  · rw [if_neg (by omega)] at hk
    refine ift rfl ?_
    refine h.ix (z := 0) (i := 1) (y := b) hr rfl (fun x hx => ?_) (by omega)
    subst hx
    refine h.rdWI (i := 1) (y := b) hr rfl (leti rfl ?_)
    exact ifn (fun h1 => leti rfl (by rwa [if_pos h1] at hk)) fun h1 => ⟨1, by omega, rfl, .inr (.inr (.inl ⟨rfl, by decide, ha, h1⟩))⟩
  · rw [if_neg (by omega), if_neg (by omega)] at hk
    refine ift rfl ?_
    refine h.ix (z := 0) (i := 2) (y := e) hr rfl (fun x hx => ?_) (by omega)
    subst hx
    refine h.rdWI (i := 2) (y := e) hr rfl (leti rfl ?_)
    exact ifn (fun h1 => leti rfl hk) fun h1 => ⟨0, by omega, rfl, .inr (.inr (.inr ⟨rfl, by decide, ha, hb, h1⟩))⟩
  · rw [if_neg (by omega), if_neg (by omega), he] at hk
    exact iff_ rfl (leti rfl hk)
theorem fcmp_ok (h : St c w L) (a b : Pp) {Q : Value → World → Prop} (hk : ∀ w', St c w' L → Q (.int .i64 (fcmp a b)) w') : CALL PG 126 [ppv a, ppv b] w Q := by
  refine call126 ?_
  unfold N126
  refine h.box fun q1 w' h => ?_
  refine h.box fun q2 w' h => ?_
  have hd := h.drew
  refine ⟨fun w => St c w _, hd, ?_⟩
  refine St.rdsI 6 (St.rdsI 6 (St.rdsI 5 (St.rdsI 5 (St.rdsI 0 (St.rdsI 0 ?_)))))
  refine cmp3_ok ⟨_, rfl, _, fun _ h => h, hd, ?_⟩
  refine cmp3_ok ⟨_, rfl, _, fun _ h => h, hd, ?_⟩
  refine cmp3_ok ⟨_, rfl, ?_⟩
  refine hd.lit (n := 3) 3 1 ([cmp3 a.tries b.tries, cmp3 a.mean b.mean, cmp3 a.id b.id].flatMap iv) fun q w' h => ?_
  refine or3_ok h (RdIn.own .head) ⟨_, rfl, leti rfl ?_⟩
  exact hk _ h.drop.drop.drop
theorem bcmp_ok (h : St c w L) (a b : Pp) {Q : Value → World → Prop} (hk : ∀ w', St c w' L → Q (.int .i64 (bcmp a b)) w') : CALL PG 143 [ppv a, ppv b] w Q := by
  refine call143 ?_
  unfold N143
  refine h.box fun q1 w' h => ?_
  refine h.box fun q2 w' h => ?_
  repeat' (first
    | ((with_reducible show NILC (some _) _); refine nilc ?_)
    | ((with_reducible show RDI _ (loadVar _ (Addr.add (Addr.add ⟨_, 0, none⟩ _) _)) _ _ _); refine h.rdI2 _ _ ?_)
    | ((with_reducible show RDB _ (loadVar _ (Addr.add (Addr.add ⟨_, 0, none⟩ _) _)) _ _); refine h.rdB2 _ _ ?_)
    | ((with_reducible show RDP _ (loadVar _ (Addr.add (Addr.add ⟨_, 0, none⟩ _) _)) _ _); refine h.rdP2 _ _ ?_)
    | ((with_reducible show RDL _ (loadVar _ (Addr.add (Addr.add ⟨_, 0, none⟩ _) _)) _ _); refine h.rdL2 _ _ ?_)
    | ((with_reducible show RDI _ (loadVar _ (Addr.add _ _)) _ _ _); refine h.rdI _ ?_)
    | ((with_reducible show RDB _ (loadVar _ (Addr.add _ _)) _ _); refine h.rdB _ ?_)
    | ((with_reducible show RDP _ (loadVar _ (Addr.add _ _)) _ _); refine h.rdP _ ?_)
    | ((with_reducible show RDL _ (loadVar _ (Addr.add _ _)) _ _); refine h.rdL _ ?_)
    | ((with_reducible show RDT _ (loadVar _ (Addr.add _ _)) _ _); refine h.rdT _ ?_)
    | ((with_reducible show RUNU _ (storeVar _ (Addr.add (Addr.add ⟨_, 0, none⟩ _) _) _) _ _); refine h.st2 _ _ fun w' h => ?_)
    | ((with_reducible show RUNU _ (storeVar _ (Addr.add _ _) _) _ _); refine h.st _ fun w' h => ?_)
    | ((with_reducible show RDI _ (loadVar _ ⟨_, _, _⟩) _ _ _); refine h.rdvI ?_)
    | ((with_reducible show RDB _ (loadVar _ ⟨_, _, _⟩) _ _); refine h.rdvB ?_)
    | ((with_reducible show RDP _ (loadVar _ ⟨_, _, _⟩) _ _); refine h.rdvP ?_)
    | ((with_reducible show RDL _ (loadVar _ ⟨_, _, _⟩) _ _); refine h.rdvL ?_)
    | ((with_reducible show RDT _ (loadVar _ ⟨_, _, _⟩) _ _); refine h.rdvT ?_)
    | ((with_reducible show RD _ (loadVar _ ⟨_, _, _⟩) _ _); refine h.rdG ?_; first | refine ⟨_, rfl, ?_⟩ | refine ⟨_, _, rfl, ?_⟩ | refine ⟨_, _, _, rfl, ?_⟩ | refine ⟨_, _, _, _, rfl, ?_⟩ | refine ⟨_, _, _, _, _, rfl, ?_⟩ | refine ⟨_, _, _, _, _, _, rfl, ?_⟩ | refine ⟨_, _, _, _, _, _, _, rfl, ?_⟩ | refine ⟨_, _, _, _, _, _, _, _, rfl, ?_⟩ | refine ⟨_, _, _, _, _, _, _, _, _, rfl, ?_⟩)
    | ((with_reducible show RUNU _ (storeVar _ ⟨_, _, _⟩ (.agg _)) _ _); refine h.stG fun w' h => ?_)
    | ((with_reducible show RUNU _ (storeVar _ ⟨_, _, _⟩ _) _ _); refine h.stV fun w' h => ?_))
  have hk' := fun w' h => hk w' h
  unfold bcmp at hk'
  refine ifnot (fun hne => ?_) fun heq => ?_
  · have hne : a.bad ≠ b.bad := by simpa using hne
    repeat' (first
      | ((with_reducible show NILC (some _) _); refine nilc ?_)
      | ((with_reducible show RDI _ (loadVar _ (Addr.add (Addr.add ⟨_, 0, none⟩ _) _)) _ _ _); refine h.rdI2 _ _ ?_)
      | ((with_reducible show RDB _ (loadVar _ (Addr.add (Addr.add ⟨_, 0, none⟩ _) _)) _ _); refine h.rdB2 _ _ ?_)
      | ((with_reducible show RDP _ (loadVar _ (Addr.add (Addr.add ⟨_, 0, none⟩ _) _)) _ _); refine h.rdP2 _ _ ?_)
      | ((with_reducible show RDL _ (loadVar _ (Addr.add (Addr.add ⟨_, 0, none⟩ _) _)) _ _); refine h.rdL2 _ _ ?_)
      | ((with_reducible show RDI _ (loadVar _ (Addr.add _ _)) _ _ _); refine h.rdI _ ?_)
      | ((with_reducible show RDB _ (loadVar _ (Addr.add _ _)) _ _); refine h.rdB _ ?_)
      | ((with_reducible show RDP _ (loadVar _ (Addr.add _ _)) _ _); refine h.rdP _ ?_)
      | ((with_reducible show RDL _ (loadVar _ (Addr.add _ _)) _ _); refine h.rdL _ ?_)
      | ((with_reducible show RDT _ (loadVar _ (Addr.add _ _)) _ _); refine h.rdT _ ?_)
      | ((with_reducible show RUNU _ (storeVar _ (Addr.add (Addr.add ⟨_, 0, none⟩ _) _) _) _ _); refine h.st2 _ _ fun w' h => ?_)
      | ((with_reducible show RUNU _ (storeVar _ (Addr.add _ _) _) _ _); refine h.st _ fun w' h => ?_)
      | ((with_reducible show RDI _ (loadVar _ ⟨_, _, _⟩) _ _ _); refine h.rdvI ?_)
      | ((with_reducible show RDB _ (loadVar _ ⟨_, _, _⟩) _ _); refine h.rdvB ?_)
      | ((with_reducible show RDP _ (loadVar _ ⟨_, _, _⟩) _ _); refine h.rdvP ?_)
      | ((with_reducible show RDL _ (loadVar _ ⟨_, _, _⟩) _ _); refine h.rdvL ?_)
      | ((with_reducible show RDT _ (loadVar _ ⟨_, _, _⟩) _ _); refine h.rdvT ?_)
      | ((with_reducible show RD _ (loadVar _ ⟨_, _, _⟩) _ _); refine h.rdG ?_; first | refine ⟨_, rfl, ?_⟩ | refine ⟨_, _, rfl, ?_⟩ | refine ⟨_, _, _, rfl, ?_⟩ | refine ⟨_, _, _, _, rfl, ?_⟩ | refine ⟨_, _, _, _, _, rfl, ?_⟩ | refine ⟨_, _, _, _, _, _, rfl, ?_⟩ | refine ⟨_, _, _, _, _, _, _, rfl, ?_⟩ | refine ⟨_, _, _, _, _, _, _, _, rfl, ?_⟩ | refine ⟨_, _, _, _, _, _, _, _, _, rfl, ?_⟩)
      | ((with_reducible show RUNU _ (storeVar _ ⟨_, _, _⟩ (.agg _)) _ _); refine h.stG fun w' h => ?_)
      | ((with_reducible show RUNU _ (storeVar _ ⟨_, _, _⟩ _) _ _); refine h.stV fun w' h => ?_))
    refine ifb (fun h1 => ?_) fun h1 => ?_
    · have := hk' w' h.drop.drop
      rwa [if_pos hne, if_pos h1] at this
    · have := hk' w' h.drop.drop
      rwa [if_pos hne, if_neg (by simp [h1])] at this
  · have heq : a.bad = b.bad := by simpa using heq
    have hd := h.drew
    refine ⟨fun w => St c w _, hd, ?_⟩
    refine St.rdsI 5 (St.rdsI 5 (St.rdsI 0 (St.rdsI 0 ?_)))
    refine cmp3_ok ⟨_, rfl, _, fun _ h => h, hd, ?_⟩
    refine cmp3_ok ⟨_, rfl, ?_⟩
    refine hd.lit (n := 2) 3 1 ([cmp3 a.mean b.mean, cmp3 a.id b.id].flatMap iv) fun q w' h => ?_
    refine or2_ok h (RdIn.own .head) ⟨_, rfl, leti rfl ?_⟩
    have := hk' _ h.drop.drop.drop
    rwa [if_neg (by simp [heq])] at this
theorem or2_neg {x y : Int} : or2 x y < 0 ↔ x < 0 ∨ (x = 0 ∧ y < 0) := by unfold or2; split <;> omega
theorem or2_zero {x y : Int} : or2 x y = 0 ↔ x = 0 ∧ y = 0 := by unfold or2; split <;> omega
theorem fcmp_neg {a b : Pp} : fcmp a b < 0 ↔ a.tries < b.tries ∨ (a.tries = b.tries ∧ (a.mean < b.mean ∨ (a.mean = b.mean ∧ a.id < b.id))) := by
  unfold fcmp
  rw [or2_neg, or2_neg, cmp3_neg, cmp3_neg, cmp3_neg, cmp3_zero, cmp3_zero]
def bn (b : Bool) : Int := if b then 1 else 0
theorem bcmp_neg {a b : Pp} : bcmp a b < 0 ↔ bn a.bad < bn b.bad ∨ (bn a.bad = bn b.bad ∧ (a.mean < b.mean ∨ (a.mean = b.mean ∧ a.id < b.id))) := by
  unfold bcmp
  by_cases h : a.bad = b.bad
  · rw [if_neg (by simp [h]), or2_neg, cmp3_neg, cmp3_neg, cmp3_zero, h]
    omega
  · rw [if_pos h]
    cases ha : a.bad <;> cases hb : b.bad <;> simp_all [bn]
theorem fcmp_ord : Ord Pp fcmp where
  refl x := by have := @fcmp_neg x x; omega
  trans x y z h1 h2 := by have a := @fcmp_neg y x; have b := @fcmp_neg z y; have c := @fcmp_neg z x; omega
  total x y h := by have a := @fcmp_neg x y; have b := @fcmp_neg y x; omega
theorem bcmp_ord : Ord Pp bcmp where
  refl x := by have := @bcmp_neg x x; omega
  trans x y z h1 h2 := by have a := @bcmp_neg y x; have b := @bcmp_neg z y; have c := @bcmp_neg z x; omega
  total x y h := by have a := @bcmp_neg x y; have b := @bcmp_neg y x; omega
def isFree (x : Pp) : Bool := x.may && !x.used && decide (x.tries < 4)
def isUsed (x : Pp) : Bool := x.used && x.may
theorem fresh_ok (h : St c w L) {A : Option Addr} {k : Nat} {l : List Pp} (hr : RdIn L A (l.flatMap pp)) (hl : l.length ≤ 1000) {Q : Value → World → Prop}
    (hk : ∀ O oc w' C, Srt fcmp C → C.Perm (l.filter isFree) → St c w' (own 108 7 O C.length oc (C.flatMap pp) :: L) → Q (.slice O C.length oc) w') : CALL PG 97 [.slice A l.length k] w Q := by
  refine call97 ?_
  unfold N97
  have next : ∀ {j : Nat}, j < l.length → IntKind.i64.wrap ((j : Int) + 1) = ((j + 1 : Nat) : Int) := fun hj => wrap_i64 (by omega) (by omega)
  refine ⟨fun m O on oc i w' => ∃ j : Nat, j + m = l.length ∧ i = (j : Int) ∧ ((l.take j).filter isFree).length = on ∧ St c w' (own 108 7 O on oc (((l.take j).filter isFree).flatMap pp) :: L),
    ⟨l.length, 0, by omega, rfl, by simp, by simpa using h.addOwnNil 108 7⟩, ?_⟩
  rintro m O on oc _ w' ⟨j, hj, rfl, rfl, h⟩
  have lf := List.length_filter_le isFree (l.take j)
  have lt : (l.take j).length ≤ 1000 := by rw [List.length_take]; omega
  refine ifd (fun hlt => ?_) fun hge => ?_
  · obtain ⟨x, hx⟩ := ex_get (L := l) (j := j) (by omega)
    have skip : isFree x = false → ∀ {w' : World}, St c w' (own 108 7 O ((l.take j).filter isFree).length oc (((l.take j).filter isFree).flatMap pp) :: L) → ∃ m2, m2 < m ∧ ∃ j' : Nat, j' + m2 = l.length ∧ IntKind.i64.wrap ((j : Int) + 1) = (j' : Int) ∧ ((l.take j').filter isFree).length = ((l.take j).filter isFree).length ∧ St c w' (own 108 7 O ((l.take j).filter isFree).length oc (((l.take j').filter isFree).flatMap pp) :: L) := fun hf w' h => by
      refine ⟨m - 1, by omega, j + 1, by omega, next (by omega), ?_⟩
      rw [take_snoc' hx, List.filter_append, List.filter_cons_of_neg (by simp [hf]), List.filter_nil, List.append_nil]
      exact ⟨rfl, h⟩
    refine h.ix (z := 6) hr.more hx fun a ha => ?_
    subst ha
    refine h.rdEG hr.more hx ⟨_, _, _, _, _, _, _, rfl, ?_⟩
    refine h.allocG tiPp fun q w' h => ?_
    repeat' (first
      | ((with_reducible show NILC (some _) _); refine nilc ?_)
      | ((with_reducible show RDI _ (loadVar _ (Addr.add (Addr.add ⟨_, 0, none⟩ _) _)) _ _ _); refine h.rdI2 _ _ ?_)
      | ((with_reducible show RDB _ (loadVar _ (Addr.add (Addr.add ⟨_, 0, none⟩ _) _)) _ _); refine h.rdB2 _ _ ?_)
      | ((with_reducible show RDP _ (loadVar _ (Addr.add (Addr.add ⟨_, 0, none⟩ _) _)) _ _); refine h.rdP2 _ _ ?_)
      | ((with_reducible show RDL _ (loadVar _ (Addr.add (Addr.add ⟨_, 0, none⟩ _) _)) _ _); refine h.rdL2 _ _ ?_)
      | ((with_reducible show RDI _ (loadVar _ (Addr.add _ _)) _ _ _); refine h.rdI _ ?_)
      | ((with_reducible show RDB _ (loadVar _ (Addr.add _ _)) _ _); refine h.rdB _ ?_)
      | ((with_reducible show RDP _ (loadVar _ (Addr.add _ _)) _ _); refine h.rdP _ ?_)
      | ((with_reducible show RDL _ (loadVar _ (Addr.add _ _)) _ _); refine h.rdL _ ?_)
      | ((with_reducible show RDT _ (loadVar _ (Addr.add _ _)) _ _); refine h.rdT _ ?_)
      | ((with_reducible show RUNU _ (storeVar _ (Addr.add (Addr.add ⟨_, 0, none⟩ _) _) _) _ _); refine h.st2 _ _ fun w' h => ?_)
      | ((with_reducible show RUNU _ (storeVar _ (Addr.add _ _) _) _ _); refine h.st _ fun w' h => ?_)
      | ((with_reducible show RDI _ (loadVar _ ⟨_, _, _⟩) _ _ _); refine h.rdvI ?_)
      | ((with_reducible show RDB _ (loadVar _ ⟨_, _, _⟩) _ _); refine h.rdvB ?_)
      | ((with_reducible show RDP _ (loadVar _ ⟨_, _, _⟩) _ _); refine h.rdvP ?_)
      | ((with_reducible show RDL _ (loadVar _ ⟨_, _, _⟩) _ _); refine h.rdvL ?_)
      | ((with_reducible show RDT _ (loadVar _ ⟨_, _, _⟩) _ _); refine h.rdvT ?_)
      | ((with_reducible show RD _ (loadVar _ ⟨_, _, _⟩) _ _); refine h.rdG ?_; first | refine ⟨_, rfl, ?_⟩ | refine ⟨_, _, rfl, ?_⟩ | refine ⟨_, _, _, rfl, ?_⟩ | refine ⟨_, _, _, _, rfl, ?_⟩ | refine ⟨_, _, _, _, _, rfl, ?_⟩ | refine ⟨_, _, _, _, _, _, rfl, ?_⟩ | refine ⟨_, _, _, _, _, _, _, rfl, ?_⟩ | refine ⟨_, _, _, _, _, _, _, _, rfl, ?_⟩ | refine ⟨_, _, _, _, _, _, _, _, _, rfl, ?_⟩)
      | ((with_reducible show RUNU _ (storeVar _ ⟨_, _, _⟩ (.agg _)) _ _); refine h.stG fun w' h => ?_)
      | ((with_reducible show RUNU _ (storeVar _ ⟨_, _, _⟩ _) _ _); refine h.stV fun w' h => ?_))
    refine ifb (fun h1 => ?_) fun h1 => skip (by simp [isFree, h1]) h.drop
    repeat' (first
      | ((with_reducible show NILC (some _) _); refine nilc ?_)
      | ((with_reducible show RDI _ (loadVar _ (Addr.add (Addr.add ⟨_, 0, none⟩ _) _)) _ _ _); refine h.rdI2 _ _ ?_)
      | ((with_reducible show RDB _ (loadVar _ (Addr.add (Addr.add ⟨_, 0, none⟩ _) _)) _ _); refine h.rdB2 _ _ ?_)
      | ((with_reducible show RDP _ (loadVar _ (Addr.add (Addr.add ⟨_, 0, none⟩ _) _)) _ _); refine h.rdP2 _ _ ?_)
      | ((with_reducible show RDL _ (loadVar _ (Addr.add (Addr.add ⟨_, 0, none⟩ _) _)) _ _); refine h.rdL2 _ _ ?_)
      | ((with_reducible show RDI _ (loadVar _ (Addr.add _ _)) _ _ _); refine h.rdI _ ?_)
      | ((with_reducible show RDB _ (loadVar _ (Addr.add _ _)) _ _); refine h.rdB _ ?_)
      | ((with_reducible show RDP _ (loadVar _ (Addr.add _ _)) _ _); refine h.rdP _ ?_)
      | ((with_reducible show RDL _ (loadVar _ (Addr.add _ _)) _ _); refine h.rdL _ ?_)
      | ((with_reducible show RDT _ (loadVar _ (Addr.add _ _)) _ _); refine h.rdT _ ?_)
      | ((with_reducible show RUNU _ (storeVar _ (Addr.add (Addr.add ⟨_, 0, none⟩ _) _) _) _ _); refine h.st2 _ _ fun w' h => ?_)
      | ((with_reducible show RUNU _ (storeVar _ (Addr.add _ _) _) _ _); refine h.st _ fun w' h => ?_)
      | ((with_reducible show RDI _ (loadVar _ ⟨_, _, _⟩) _ _ _); refine h.rdvI ?_)
      | ((with_reducible show RDB _ (loadVar _ ⟨_, _, _⟩) _ _); refine h.rdvB ?_)
      | ((with_reducible show RDP _ (loadVar _ ⟨_, _, _⟩) _ _); refine h.rdvP ?_)
      | ((with_reducible show RDL _ (loadVar _ ⟨_, _, _⟩) _ _); refine h.rdvL ?_)
      | ((with_reducible show RDT _ (loadVar _ ⟨_, _, _⟩) _ _); refine h.rdvT ?_)
      | ((with_reducible show RD _ (loadVar _ ⟨_, _, _⟩) _ _); refine h.rdG ?_; first | refine ⟨_, rfl, ?_⟩ | refine ⟨_, _, rfl, ?_⟩ | refine ⟨_, _, _, rfl, ?_⟩ | refine ⟨_, _, _, _, rfl, ?_⟩ | refine ⟨_, _, _, _, _, rfl, ?_⟩ | refine ⟨_, _, _, _, _, _, rfl, ?_⟩ | refine ⟨_, _, _, _, _, _, _, rfl, ?_⟩ | refine ⟨_, _, _, _, _, _, _, _, rfl, ?_⟩ | refine ⟨_, _, _, _, _, _, _, _, _, rfl, ?_⟩)
      | ((with_reducible show RUNU _ (storeVar _ ⟨_, _, _⟩ (.agg _)) _ _); refine h.stG fun w' h => ?_)
      | ((with_reducible show RUNU _ (storeVar _ ⟨_, _, _⟩ _) _ _); refine h.stV fun w' h => ?_))
    refine ifnot (fun h2 => ?_) fun h2 => skip (by simp [isFree, h2]) h.drop
    repeat' (first
      | ((with_reducible show NILC (some _) _); refine nilc ?_)
      | ((with_reducible show RDI _ (loadVar _ (Addr.add (Addr.add ⟨_, 0, none⟩ _) _)) _ _ _); refine h.rdI2 _ _ ?_)
      | ((with_reducible show RDB _ (loadVar _ (Addr.add (Addr.add ⟨_, 0, none⟩ _) _)) _ _); refine h.rdB2 _ _ ?_)
      | ((with_reducible show RDP _ (loadVar _ (Addr.add (Addr.add ⟨_, 0, none⟩ _) _)) _ _); refine h.rdP2 _ _ ?_)
      | ((with_reducible show RDL _ (loadVar _ (Addr.add (Addr.add ⟨_, 0, none⟩ _) _)) _ _); refine h.rdL2 _ _ ?_)
      | ((with_reducible show RDI _ (loadVar _ (Addr.add _ _)) _ _ _); refine h.rdI _ ?_)
      | ((with_reducible show RDB _ (loadVar _ (Addr.add _ _)) _ _); refine h.rdB _ ?_)
      | ((with_reducible show RDP _ (loadVar _ (Addr.add _ _)) _ _); refine h.rdP _ ?_)
      | ((with_reducible show RDL _ (loadVar _ (Addr.add _ _)) _ _); refine h.rdL _ ?_)
      | ((with_reducible show RDT _ (loadVar _ (Addr.add _ _)) _ _); refine h.rdT _ ?_)
      | ((with_reducible show RUNU _ (storeVar _ (Addr.add (Addr.add ⟨_, 0, none⟩ _) _) _) _ _); refine h.st2 _ _ fun w' h => ?_)
      | ((with_reducible show RUNU _ (storeVar _ (Addr.add _ _) _) _ _); refine h.st _ fun w' h => ?_)
      | ((with_reducible show RDI _ (loadVar _ ⟨_, _, _⟩) _ _ _); refine h.rdvI ?_)
      | ((with_reducible show RDB _ (loadVar _ ⟨_, _, _⟩) _ _); refine h.rdvB ?_)
      | ((with_reducible show RDP _ (loadVar _ ⟨_, _, _⟩) _ _); refine h.rdvP ?_)
      | ((with_reducible show RDL _ (loadVar _ ⟨_, _, _⟩) _ _); refine h.rdvL ?_)
      | ((with_reducible show RDT _ (loadVar _ ⟨_, _, _⟩) _ _); refine h.rdvT ?_)
      | ((with_reducible show RD _ (loadVar _ ⟨_, _, _⟩) _ _); refine h.rdG ?_; first | refine ⟨_, rfl, ?_⟩ | refine ⟨_, _, rfl, ?_⟩ | refine ⟨_, _, _, rfl, ?_⟩ | refine ⟨_, _, _, _, rfl, ?_⟩ | refine ⟨_, _, _, _, _, rfl, ?_⟩ | refine ⟨_, _, _, _, _, _, rfl, ?_⟩ | refine ⟨_, _, _, _, _, _, _, rfl, ?_⟩ | refine ⟨_, _, _, _, _, _, _, _, rfl, ?_⟩ | refine ⟨_, _, _, _, _, _, _, _, _, rfl, ?_⟩)
      | ((with_reducible show RUNU _ (storeVar _ ⟨_, _, _⟩ (.agg _)) _ _); refine h.stG fun w' h => ?_)
      | ((with_reducible show RUNU _ (storeVar _ ⟨_, _, _⟩ _) _ _); refine h.stV fun w' h => ?_))
    refine ifd (fun h3 => ?_) fun h3 => skip (by simp [isFree, h3]) h.drop
    repeat' (first
      | ((with_reducible show NILC (some _) _); refine nilc ?_)
      | ((with_reducible show RDI _ (loadVar _ (Addr.add (Addr.add ⟨_, 0, none⟩ _) _)) _ _ _); refine h.rdI2 _ _ ?_)
      | ((with_reducible show RDB _ (loadVar _ (Addr.add (Addr.add ⟨_, 0, none⟩ _) _)) _ _); refine h.rdB2 _ _ ?_)
      | ((with_reducible show RDP _ (loadVar _ (Addr.add (Addr.add ⟨_, 0, none⟩ _) _)) _ _); refine h.rdP2 _ _ ?_)
      | ((with_reducible show RDL _ (loadVar _ (Addr.add (Addr.add ⟨_, 0, none⟩ _) _)) _ _); refine h.rdL2 _ _ ?_)
      | ((with_reducible show RDI _ (loadVar _ (Addr.add _ _)) _ _ _); refine h.rdI _ ?_)
      | ((with_reducible show RDB _ (loadVar _ (Addr.add _ _)) _ _); refine h.rdB _ ?_)
      | ((with_reducible show RDP _ (loadVar _ (Addr.add _ _)) _ _); refine h.rdP _ ?_)
      | ((with_reducible show RDL _ (loadVar _ (Addr.add _ _)) _ _); refine h.rdL _ ?_)
      | ((with_reducible show RDT _ (loadVar _ (Addr.add _ _)) _ _); refine h.rdT _ ?_)
      | ((with_reducible show RUNU _ (storeVar _ (Addr.add (Addr.add ⟨_, 0, none⟩ _) _) _) _ _); refine h.st2 _ _ fun w' h => ?_)
      | ((with_reducible show RUNU _ (storeVar _ (Addr.add _ _) _) _ _); refine h.st _ fun w' h => ?_)
      | ((with_reducible show RDI _ (loadVar _ ⟨_, _, _⟩) _ _ _); refine h.rdvI ?_)
      | ((with_reducible show RDB _ (loadVar _ ⟨_, _, _⟩) _ _); refine h.rdvB ?_)
      | ((with_reducible show RDP _ (loadVar _ ⟨_, _, _⟩) _ _); refine h.rdvP ?_)
      | ((with_reducible show RDL _ (loadVar _ ⟨_, _, _⟩) _ _); refine h.rdvL ?_)
      | ((with_reducible show RDT _ (loadVar _ ⟨_, _, _⟩) _ _); refine h.rdvT ?_)
      | ((with_reducible show RD _ (loadVar _ ⟨_, _, _⟩) _ _); refine h.rdG ?_; first | refine ⟨_, rfl, ?_⟩ | refine ⟨_, _, rfl, ?_⟩ | refine ⟨_, _, _, rfl, ?_⟩ | refine ⟨_, _, _, _, rfl, ?_⟩ | refine ⟨_, _, _, _, _, rfl, ?_⟩ | refine ⟨_, _, _, _, _, _, rfl, ?_⟩ | refine ⟨_, _, _, _, _, _, _, rfl, ?_⟩ | refine ⟨_, _, _, _, _, _, _, _, rfl, ?_⟩ | refine ⟨_, _, _, _, _, _, _, _, _, rfl, ?_⟩)
      | ((with_reducible show RUNU _ (storeVar _ ⟨_, _, _⟩ (.agg _)) _ _); refine h.stG fun w' h => ?_)
      | ((with_reducible show RUNU _ (storeVar _ ⟨_, _, _⟩ _) _ _); refine h.stV fun w' h => ?_))
    refine h.app1 huPp tiPp (pp x) (.tail .head) (pp_flat1 x) (by omega) fun O' oc' w' h => ?_
    refine ⟨m - 1, by omega, j + 1, by omega, next (by omega), ?_⟩
    rw [take_snoc' hx, List.filter_append, List.filter_cons_of_pos (by simp [isFree, h1, h2, h3]), List.filter_nil]
    refine ⟨by simp, ?_⟩
    simp only [List.flatMap_append, List.flatMap_cons, List.flatMap_nil, List.append_nil]
    exact h.to
  have hjl : j = l.length := by omega
  subst hjl
  rw [List.take_length] at h lf ⊢
  refine plsort_ok fcmp_ord (V := fun _ => True) (fun _ _ x y _ _ _ _ h hk => callv (by kernel_rfl) (fcmp_ok h x y hk)) (by omega) rfl (fun _ _ => trivial) h fun w' C hC pC h => ⟨rfl, ?_⟩
  rw [← pC.length_eq] at h ⊢
  exact hk O oc w' C hC pC h
end
end Go.Br
