/- The document's pieces under way: what is turned, what is sent once more. -/
import Derived.Test.YtegocoicdcpgaaaNFlightPlay3
import Derived.Test.YtegocoicdcpgaaaFlightPlay2
set_option linter.unusedVariables false
namespace Go.Br
open Go
attribute [local irreducible] Addr.add

section
variable {c : Ctx} {w : World} {L R : List SA} {p : Nat} {mo : Int} {l : List Ch}
theorem rAcked16_ok (h : St c w L) {A : Option Addr} {k : Nat} {tov : Int} (hr : RdIn L A (l.flatMap ch)) (hl : l.length ≤ 1000) {Q : Value → World → Prop}
    (hk : ∀ G gc O oc w', St c w' (own 130 9 G (l.filter fun x => !decide (rto x ≤ tov)).length gc ((l.filter fun x => !decide (rto x ≤ tov)).flatMap ch) :: own 130 9 O (l.filter fun x => decide (rto x ≤ tov)).length oc ((l.filter fun x => decide (rto x ≤ tov)).flatMap ch) :: L) →
      Q (.tuple #[.slice G (l.filter fun x => !decide (rto x ≤ tov)).length gc, .slice O (l.filter fun x => decide (rto x ≤ tov)).length oc]) w') :
    CALL PG 112 [.slice A l.length k, .int .u64 tov] w Q := by
  refine call112 ?_
  unfold N112
  generalize hg : (fun x : Ch => decide (rto x ≤ tov)) = g at hk
  have hgx : ∀ x : Ch, g x = decide (rto x ≤ tov) := fun x => by rw [← hg]
  have hng : (fun x : Ch => !decide (rto x ≤ tov)) = fun x => !g x := by funext x; rw [hgx]
  rw [hng] at hk
  refine ⟨fun m G gn gc O n oc i w' => ∃ j : Nat, j + m = l.length ∧ i = (j : Int) ∧ ((l.take j).filter fun x => !g x).length = gn ∧ ((l.take j).filter g).length = n ∧
    St c w' (own 130 9 G gn gc (((l.take j).filter fun x => !g x).flatMap ch) :: own 130 9 O n oc (((l.take j).filter g).flatMap ch) :: L), ⟨l.length, 0, by omega, rfl, rfl, rfl, by simpa using (h.addOwnNil 130 9).addOwnNil 130 9⟩, ?_⟩
  rintro m G gn gc O n oc _ w' ⟨j, hj, rfl, rfl, rfl, h⟩
  refine ifd (fun hlt => ?_) fun hge => ?_
  rotate_left
  · rw [List.take_of_length_le (by omega)] at h ⊢
    exact hk G gc O oc w' h
  have l1 := List.length_filter_le g (l.take j)
  have l2 := List.length_filter_le (fun x => !g x) (l.take j)
  have l3 : (l.take j).length ≤ 1000 := by rw [List.length_take]; omega
  obtain ⟨x, hx⟩ := ex_get (L := l) (j := j) (by omega)
  refine h.ix (z := 8) hr.more.more hx fun a ha => ?_
  subst ha
  refine h.rdEG hr.more.more hx ⟨_, _, _, _, _, _, _, _, _, rfl, ?_⟩
  refine rTo_ok h x fun w' h => ⟨_, rfl, ifd (fun h1 => ?_) fun h1 => ?_⟩
  · have hgv : g x = false := by rw [hgx]; simp; omega
    refine h.ix (z := 8) hr.more.more hx fun a ha => ?_
    injection ha with ha
    subst ha
    refine h.rdEG hr.more.more hx ⟨_, _, _, _, _, _, _, _, _, rfl, ?_⟩
    refine h.app1 huC tiC (ch x) .head (ch_flat1 x) (by omega) fun G' gc' w' h => ?_
    refine leti (y := ((j + 1 : Nat) : Int)) (wrap_i64 (by omega) (by omega)) ⟨m - 1, by omega, j + 1, by omega, rfl, ?_⟩
    rw [take_snoc' hx, List.filter_append, List.filter_cons_of_pos (by simp [hgv]), List.filter_append, List.filter_cons_of_neg (by simp [hgv])]
    refine ⟨by simp, by simp, ?_⟩
    simp only [List.filter_nil, List.append_nil, List.flatMap_append, List.flatMap_cons, List.flatMap_nil]
    exact h
  · have hgv : g x = true := by rw [hgx]; simp; omega
    refine h.ix (z := 8) hr.more.more hx fun a ha => ?_
    injection ha with ha
    subst ha
    refine h.rdEG hr.more.more hx ⟨_, _, _, _, _, _, _, _, _, rfl, ?_⟩
    refine h.app1 huC tiC (ch x) (.tail .head) (ch_flat1 x) (by omega) fun O' oc' w' h => ?_
    refine leti (y := ((j + 1 : Nat) : Int)) (wrap_i64 (by omega) (by omega)) ⟨m - 1, by omega, j + 1, by omega, rfl, ?_⟩
    rw [take_snoc' hx, List.filter_append, List.filter_cons_of_neg (by simp [hgv]), List.filter_append, List.filter_cons_of_pos hgv]
    refine ⟨by simp, by simp, ?_⟩
    simp only [List.filter_nil, List.append_nil, List.flatMap_append, List.flatMap_cons, List.flatMap_nil]
    exact h.to

def diffN (a b : Int) : Int := if a - b < -2147483648 then a - b + 4294967296 else if 2147483648 ≤ a - b then a - b - 4294967296 else a - b
theorem diff_ok {a b : Int} (ha : 0 ≤ a ∧ a < 4294967296) (hb : 0 ≤ b ∧ b < 4294967296) {Q : Value → World → Prop} (hk : Q (.int .i64 (diffN a b)) w) : CALL PG 123 [.int .u32 a, .int .u32 b] w Q := by
  refine call123 ?_
  unfold N123
  unfold diffN at hk
  refine leti (y := a - b) (by rw [wrap_i64 (n := a) (by omega) (by omega), wrap_i64 (n := b) (by omega) (by omega), wrap_i64 (by omega) (by omega)]) ?_
  refine ifd (fun h1 => letw ?_) fun h1 => ?_
  · rw [if_pos h1] at hk
    exact ifd (fun h2 => absurd h2 (by omega)) fun h2 => leti rfl hk
  · rw [if_neg h1] at hk
    refine ifd (fun h2 => letw (leti rfl ?_)) fun h2 => leti rfl ?_
    · rwa [if_pos (by omega)] at hk
    · rwa [if_neg (by omega)] at hk
theorem diff_less {a b : Int} (ha : 0 ≤ a ∧ a < 4294967296) (hb : 0 ≤ b ∧ b < 4294967296) : lessN a b = decide (diffN a b < 0) := by
  unfold lessN diffN IntKind.wrap
  simp only [IntKind.bits, IntKind.signed]
  congr 1
  simp
  split <;> split <;> (try split) <;> omega

def tMark (kind flow ack now wait : Int) (x : Ch) : Option Ch :=
  let word := decide (kind = 1) && decide (0 < x.len) && !x.came && decide (0 ≤ diffN ack x.endv)
  let lost := decide (kind = 2) && !x.came && decide (wait ≤ IntKind.i64.wrap (now - x.sent)) || decide (kind = 3)
  if decide (x.flow = flow) && !x.lost && (word || lost) then some { x with came := x.came || word, lost := lost } else none
theorem rMark_ok (h : St c w L) {A : Option Addr} {k : Nat} {kind flow ack now wait : Int} (hr : RdIn L A (l.flatMap ch)) (hl : l.length ≤ 1000) (hack : 0 ≤ ack ∧ ack < 4294967296) (he : ∀ x ∈ l, 0 ≤ x.endv ∧ x.endv < 4294967296) {Q : Value → World → Prop}
    (hk : ∀ G gc O oc w', St c w' (own 130 9 G l.length gc ((mk (tMark kind flow ack now wait) l).flatMap ch) :: own 130 9 O (l.filterMap (tMark kind flow ack now wait)).length oc ((l.filterMap (tMark kind flow ack now wait)).flatMap ch) :: L) →
      Q (.tuple #[.slice G l.length gc, .slice O (l.filterMap (tMark kind flow ack now wait)).length oc]) w') :
    CALL PG 113 [.slice A l.length k, .int .i64 kind, .int .i64 flow, .int .u32 ack, .int .i64 now, .int .i64 wait] w Q := by
  refine call113 ?_
  unfold N113
  generalize ht : tMark kind flow ack now wait = t at hk
  refine ⟨fun m G gn gc O n oc i w' => ∃ j : Nat, j + m = l.length ∧ i = (j : Int) ∧ j = gn ∧ ((l.take j).filterMap t).length = n ∧
    St c w' (own 130 9 G gn gc ((mk t (l.take j)).flatMap ch) :: own 130 9 O n oc (((l.take j).filterMap t).flatMap ch) :: L), ⟨l.length, 0, by omega, rfl, rfl, rfl, by simpa [mk] using (h.addOwnNil 130 9).addOwnNil 130 9⟩, ?_⟩
  rintro m G gn gc O n oc _ w' ⟨j, hj, rfl, rfl, rfl, h⟩
  refine ifd (fun hlt => ?_) fun hge => ?_
  rotate_left
  · have : j = l.length := by omega
    subst this
    rw [List.take_length] at h ⊢
    exact hk G gc O oc w' h
  have hln : ((l.take j).filterMap t).length ≤ 1000 := by
    have := List.length_filterMap_le t (l.take j)
    rw [List.length_take] at this; omega
  obtain ⟨x, hx⟩ := ex_get (L := l) (j := j) (by omega)
  have hxe := he x (List.mem_of_getElem? hx)
  refine h.ix (z := 8) hr.more.more hx fun a ha => ?_
  subst ha
  refine h.rdEG hr.more.more hx ⟨_, _, _, _, _, _, _, _, _, rfl, ?_⟩
  refine h.allocG (cs := ch ch0) tiC fun q w' h => ?_
  repeat' (first
    | ((with_reducible show NILC (some _) _); refine nilc ?_)
    | ((with_reducible show RDI _ (loadVar _ (Addr.add (Addr.add ⟨_, 0, none⟩ _) _)) _ _ _); refine h.rdI2 _ _ ?_)
    | ((with_reducible show RDB _ (loadVar _ (Addr.add (Addr.add ⟨_, 0, none⟩ _) _)) _ _); refine h.rdB2 _ _ ?_)
    | ((with_reducible show RDP _ (loadVar _ (Addr.add (Addr.add ⟨_, 0, none⟩ _) _)) _ _); refine h.rdP2 _ _ ?_)
    | ((with_reducible show RDL _ (loadVar _ (Addr.add (Addr.add ⟨_, 0, none⟩ _) _)) _ _); refine h.rdL2 _ _ ?_)
    | ((with_reducible show RDI _ (loadVar _ (Addr.add _ _)) _ _ _); refine h.rdI _ ?_)
    | ((with_reducible show RDB _ (loadVar _ (Addr.add _ _)) _ _); refine h.rdB _ ?_)
    | ((with_reducible show RDP _ (loadVar _ (Addr.add _ _)) _ _); refine h.rdP _ ?_)
    | ((with_reducible show RDL _ (loadVar _ (Addr.add _ _)) _ _); refine h.rdL _ ?_)
    | ((with_reducible show RDT _ (loadVar _ (Addr.add _ _)) _ _); refine h.rdT _ ?_)
    | ((with_reducible show RUNU _ (storeVar _ (Addr.add _ _) _) _ _); refine h.st _ fun w' h => ?_)
    | ((with_reducible show RDI _ (loadVar _ ⟨_, _, _⟩) _ _ _); refine h.rdvI ?_)
    | ((with_reducible show RDB _ (loadVar _ ⟨_, _, _⟩) _ _); refine h.rdvB ?_)
    | ((with_reducible show RDP _ (loadVar _ ⟨_, _, _⟩) _ _); refine h.rdvP ?_)
    | ((with_reducible show RDL _ (loadVar _ ⟨_, _, _⟩) _ _); refine h.rdvL ?_)
    | ((with_reducible show RDT _ (loadVar _ ⟨_, _, _⟩) _ _); refine h.rdvT ?_)
    | ((with_reducible show RD _ (loadVar _ ⟨_, _, _⟩) _ _); refine h.rdG ?_; first | refine ⟨_, rfl, ?_⟩ | refine ⟨_, _, rfl, ?_⟩ | refine ⟨_, _, _, rfl, ?_⟩ | refine ⟨_, _, _, _, rfl, ?_⟩ | refine ⟨_, _, _, _, _, rfl, ?_⟩ | refine ⟨_, _, _, _, _, _, rfl, ?_⟩ | refine ⟨_, _, _, _, _, _, _, rfl, ?_⟩ | refine ⟨_, _, _, _, _, _, _, _, rfl, ?_⟩ | refine ⟨_, _, _, _, _, _, _, _, _, rfl, ?_⟩)
    | ((with_reducible show RUNU _ (storeVar _ ⟨_, _, _⟩ (.agg _)) _ _); refine h.stG fun w' h => ?_)
    | ((with_reducible show RUNU _ (storeVar _ ⟨_, _, _⟩ _) _ _); refine h.stV fun w' h => ?_))
  have next : (IntKind.i64.wrap ((j : Int) + 1)) = ((j + 1 : Nat) : Int) := wrap_i64 (by omega) (by omega)
  obtain ⟨word, hword⟩ : ∃ word, word = (decide (kind = 1) && decide (0 < x.len) && !x.came && decide (0 ≤ diffN ack x.endv)) := ⟨_, rfl⟩
  obtain ⟨lost, hlost⟩ : ∃ lost, lost = (decide (kind = 2) && !x.came && decide (wait ≤ IntKind.i64.wrap (now - x.sent)) || decide (kind = 3)) := ⟨_, rfl⟩
  have htx : t x = if decide (x.flow = flow) && !x.lost && (word || lost) then some { x with came := x.came || word, lost := lost } else none := by rw [← ht, hword, hlost]; rfl
  refine ⟨fun b w' => word = b ∧ St c w' (blk q 130 (ch x) :: own 130 9 G j gc ((mk t (l.take j)).flatMap ch) :: own 130 9 O ((l.take j).filterMap t).length oc (((l.take j).filterMap t).flatMap ch) :: L), ?_, ?_⟩
  · refine ifq (fun h1 => ?_) fun h1 => letb rfl ⟨by rw [hword]; simp [h1], h⟩
    repeat' (first
      | ((with_reducible show NILC (some _) _); refine nilc ?_)
      | ((with_reducible show RDI _ (loadVar _ (Addr.add (Addr.add ⟨_, 0, none⟩ _) _)) _ _ _); refine h.rdI2 _ _ ?_)
      | ((with_reducible show RDB _ (loadVar _ (Addr.add (Addr.add ⟨_, 0, none⟩ _) _)) _ _); refine h.rdB2 _ _ ?_)
      | ((with_reducible show RDP _ (loadVar _ (Addr.add (Addr.add ⟨_, 0, none⟩ _) _)) _ _); refine h.rdP2 _ _ ?_)
      | ((with_reducible show RDL _ (loadVar _ (Addr.add (Addr.add ⟨_, 0, none⟩ _) _)) _ _); refine h.rdL2 _ _ ?_)
      | ((with_reducible show RDI _ (loadVar _ (Addr.add _ _)) _ _ _); refine h.rdI _ ?_)
      | ((with_reducible show RDB _ (loadVar _ (Addr.add _ _)) _ _); refine h.rdB _ ?_)
      | ((with_reducible show RDP _ (loadVar _ (Addr.add _ _)) _ _); refine h.rdP _ ?_)
      | ((with_reducible show RDL _ (loadVar _ (Addr.add _ _)) _ _); refine h.rdL _ ?_)
      | ((with_reducible show RDT _ (loadVar _ (Addr.add _ _)) _ _); refine h.rdT _ ?_)
      | ((with_reducible show RUNU _ (storeVar _ (Addr.add _ _) _) _ _); refine h.st _ fun w' h => ?_)
      | ((with_reducible show RDI _ (loadVar _ ⟨_, _, _⟩) _ _ _); refine h.rdvI ?_)
      | ((with_reducible show RDB _ (loadVar _ ⟨_, _, _⟩) _ _); refine h.rdvB ?_)
      | ((with_reducible show RDP _ (loadVar _ ⟨_, _, _⟩) _ _); refine h.rdvP ?_)
      | ((with_reducible show RDL _ (loadVar _ ⟨_, _, _⟩) _ _); refine h.rdvL ?_)
      | ((with_reducible show RDT _ (loadVar _ ⟨_, _, _⟩) _ _); refine h.rdvT ?_)
      | ((with_reducible show RD _ (loadVar _ ⟨_, _, _⟩) _ _); refine h.rdG ?_; first | refine ⟨_, rfl, ?_⟩ | refine ⟨_, _, rfl, ?_⟩ | refine ⟨_, _, _, rfl, ?_⟩ | refine ⟨_, _, _, _, rfl, ?_⟩ | refine ⟨_, _, _, _, _, rfl, ?_⟩ | refine ⟨_, _, _, _, _, _, rfl, ?_⟩ | refine ⟨_, _, _, _, _, _, _, rfl, ?_⟩ | refine ⟨_, _, _, _, _, _, _, _, rfl, ?_⟩ | refine ⟨_, _, _, _, _, _, _, _, _, rfl, ?_⟩)
      | ((with_reducible show RUNU _ (storeVar _ ⟨_, _, _⟩ (.agg _)) _ _); refine h.stG fun w' h => ?_)
      | ((with_reducible show RUNU _ (storeVar _ ⟨_, _, _⟩ _) _ _); refine h.stV fun w' h => ?_))
    refine ifd (fun h2 => ?_) fun h2 => letb rfl ⟨by rw [hword]; simp; omega, h⟩
    repeat' (first
      | ((with_reducible show NILC (some _) _); refine nilc ?_)
      | ((with_reducible show RDI _ (loadVar _ (Addr.add (Addr.add ⟨_, 0, none⟩ _) _)) _ _ _); refine h.rdI2 _ _ ?_)
      | ((with_reducible show RDB _ (loadVar _ (Addr.add (Addr.add ⟨_, 0, none⟩ _) _)) _ _); refine h.rdB2 _ _ ?_)
      | ((with_reducible show RDP _ (loadVar _ (Addr.add (Addr.add ⟨_, 0, none⟩ _) _)) _ _); refine h.rdP2 _ _ ?_)
      | ((with_reducible show RDL _ (loadVar _ (Addr.add (Addr.add ⟨_, 0, none⟩ _) _)) _ _); refine h.rdL2 _ _ ?_)
      | ((with_reducible show RDI _ (loadVar _ (Addr.add _ _)) _ _ _); refine h.rdI _ ?_)
      | ((with_reducible show RDB _ (loadVar _ (Addr.add _ _)) _ _); refine h.rdB _ ?_)
      | ((with_reducible show RDP _ (loadVar _ (Addr.add _ _)) _ _); refine h.rdP _ ?_)
      | ((with_reducible show RDL _ (loadVar _ (Addr.add _ _)) _ _); refine h.rdL _ ?_)
      | ((with_reducible show RDT _ (loadVar _ (Addr.add _ _)) _ _); refine h.rdT _ ?_)
      | ((with_reducible show RUNU _ (storeVar _ (Addr.add _ _) _) _ _); refine h.st _ fun w' h => ?_)
      | ((with_reducible show RDI _ (loadVar _ ⟨_, _, _⟩) _ _ _); refine h.rdvI ?_)
      | ((with_reducible show RDB _ (loadVar _ ⟨_, _, _⟩) _ _); refine h.rdvB ?_)
      | ((with_reducible show RDP _ (loadVar _ ⟨_, _, _⟩) _ _); refine h.rdvP ?_)
      | ((with_reducible show RDL _ (loadVar _ ⟨_, _, _⟩) _ _); refine h.rdvL ?_)
      | ((with_reducible show RDT _ (loadVar _ ⟨_, _, _⟩) _ _); refine h.rdvT ?_)
      | ((with_reducible show RD _ (loadVar _ ⟨_, _, _⟩) _ _); refine h.rdG ?_; first | refine ⟨_, rfl, ?_⟩ | refine ⟨_, _, rfl, ?_⟩ | refine ⟨_, _, _, rfl, ?_⟩ | refine ⟨_, _, _, _, rfl, ?_⟩ | refine ⟨_, _, _, _, _, rfl, ?_⟩ | refine ⟨_, _, _, _, _, _, rfl, ?_⟩ | refine ⟨_, _, _, _, _, _, _, rfl, ?_⟩ | refine ⟨_, _, _, _, _, _, _, _, rfl, ?_⟩ | refine ⟨_, _, _, _, _, _, _, _, _, rfl, ?_⟩)
      | ((with_reducible show RUNU _ (storeVar _ ⟨_, _, _⟩ (.agg _)) _ _); refine h.stG fun w' h => ?_)
      | ((with_reducible show RUNU _ (storeVar _ ⟨_, _, _⟩ _) _ _); refine h.stV fun w' h => ?_))
    refine ifnot (fun h3 => ?_) fun h3 => letb rfl ⟨by rw [hword]; simp [h3], h⟩
    repeat' (first
      | ((with_reducible show NILC (some _) _); refine nilc ?_)
      | ((with_reducible show RDI _ (loadVar _ (Addr.add (Addr.add ⟨_, 0, none⟩ _) _)) _ _ _); refine h.rdI2 _ _ ?_)
      | ((with_reducible show RDB _ (loadVar _ (Addr.add (Addr.add ⟨_, 0, none⟩ _) _)) _ _); refine h.rdB2 _ _ ?_)
      | ((with_reducible show RDP _ (loadVar _ (Addr.add (Addr.add ⟨_, 0, none⟩ _) _)) _ _); refine h.rdP2 _ _ ?_)
      | ((with_reducible show RDL _ (loadVar _ (Addr.add (Addr.add ⟨_, 0, none⟩ _) _)) _ _); refine h.rdL2 _ _ ?_)
      | ((with_reducible show RDI _ (loadVar _ (Addr.add _ _)) _ _ _); refine h.rdI _ ?_)
      | ((with_reducible show RDB _ (loadVar _ (Addr.add _ _)) _ _); refine h.rdB _ ?_)
      | ((with_reducible show RDP _ (loadVar _ (Addr.add _ _)) _ _); refine h.rdP _ ?_)
      | ((with_reducible show RDL _ (loadVar _ (Addr.add _ _)) _ _); refine h.rdL _ ?_)
      | ((with_reducible show RDT _ (loadVar _ (Addr.add _ _)) _ _); refine h.rdT _ ?_)
      | ((with_reducible show RUNU _ (storeVar _ (Addr.add _ _) _) _ _); refine h.st _ fun w' h => ?_)
      | ((with_reducible show RDI _ (loadVar _ ⟨_, _, _⟩) _ _ _); refine h.rdvI ?_)
      | ((with_reducible show RDB _ (loadVar _ ⟨_, _, _⟩) _ _); refine h.rdvB ?_)
      | ((with_reducible show RDP _ (loadVar _ ⟨_, _, _⟩) _ _); refine h.rdvP ?_)
      | ((with_reducible show RDL _ (loadVar _ ⟨_, _, _⟩) _ _); refine h.rdvL ?_)
      | ((with_reducible show RDT _ (loadVar _ ⟨_, _, _⟩) _ _); refine h.rdvT ?_)
      | ((with_reducible show RD _ (loadVar _ ⟨_, _, _⟩) _ _); refine h.rdG ?_; first | refine ⟨_, rfl, ?_⟩ | refine ⟨_, _, rfl, ?_⟩ | refine ⟨_, _, _, rfl, ?_⟩ | refine ⟨_, _, _, _, rfl, ?_⟩ | refine ⟨_, _, _, _, _, rfl, ?_⟩ | refine ⟨_, _, _, _, _, _, rfl, ?_⟩ | refine ⟨_, _, _, _, _, _, _, rfl, ?_⟩ | refine ⟨_, _, _, _, _, _, _, _, rfl, ?_⟩ | refine ⟨_, _, _, _, _, _, _, _, _, rfl, ?_⟩)
      | ((with_reducible show RUNU _ (storeVar _ ⟨_, _, _⟩ (.agg _)) _ _); refine h.stG fun w' h => ?_)
      | ((with_reducible show RUNU _ (storeVar _ ⟨_, _, _⟩ _) _ _); refine h.stV fun w' h => ?_))
    exact diff_ok hack hxe ⟨_, rfl, letb rfl ⟨by rw [hword, h1, h3]; simp; omega, h⟩⟩
  rintro _ w' ⟨rfl, h⟩
  refine ⟨fun b w' => lost = b ∧ St c w' (blk q 130 (ch x) :: own 130 9 G j gc ((mk t (l.take j)).flatMap ch) :: own 130 9 O ((l.take j).filterMap t).length oc (((l.take j).filterMap t).flatMap ch) :: L), ?_, ?_⟩
  · have last : ¬ (kind = 2 ∧ x.came = false ∧ wait ≤ IntKind.i64.wrap (now - x.sent)) → lost = (kind == 3) := by
      intro hn
      rw [hlost]
      by_cases k2 : kind = 2
      · subst k2
        by_cases k3 : x.came = false
        · have : ¬ wait ≤ IntKind.i64.wrap (now - x.sent) := fun hc => hn ⟨rfl, k3, hc⟩
          simp [k3, this]
        · simp at k3; simp [k3]
      · simp [k2]; by_cases k3 : kind = 3 <;> simp [k3]
    refine ifq (fun h1 => ?_) fun h1 => letb rfl ⟨last fun hc => h1 hc.1, h⟩
    repeat' (first
      | ((with_reducible show NILC (some _) _); refine nilc ?_)
      | ((with_reducible show RDI _ (loadVar _ (Addr.add (Addr.add ⟨_, 0, none⟩ _) _)) _ _ _); refine h.rdI2 _ _ ?_)
      | ((with_reducible show RDB _ (loadVar _ (Addr.add (Addr.add ⟨_, 0, none⟩ _) _)) _ _); refine h.rdB2 _ _ ?_)
      | ((with_reducible show RDP _ (loadVar _ (Addr.add (Addr.add ⟨_, 0, none⟩ _) _)) _ _); refine h.rdP2 _ _ ?_)
      | ((with_reducible show RDL _ (loadVar _ (Addr.add (Addr.add ⟨_, 0, none⟩ _) _)) _ _); refine h.rdL2 _ _ ?_)
      | ((with_reducible show RDI _ (loadVar _ (Addr.add _ _)) _ _ _); refine h.rdI _ ?_)
      | ((with_reducible show RDB _ (loadVar _ (Addr.add _ _)) _ _); refine h.rdB _ ?_)
      | ((with_reducible show RDP _ (loadVar _ (Addr.add _ _)) _ _); refine h.rdP _ ?_)
      | ((with_reducible show RDL _ (loadVar _ (Addr.add _ _)) _ _); refine h.rdL _ ?_)
      | ((with_reducible show RDT _ (loadVar _ (Addr.add _ _)) _ _); refine h.rdT _ ?_)
      | ((with_reducible show RUNU _ (storeVar _ (Addr.add _ _) _) _ _); refine h.st _ fun w' h => ?_)
      | ((with_reducible show RDI _ (loadVar _ ⟨_, _, _⟩) _ _ _); refine h.rdvI ?_)
      | ((with_reducible show RDB _ (loadVar _ ⟨_, _, _⟩) _ _); refine h.rdvB ?_)
      | ((with_reducible show RDP _ (loadVar _ ⟨_, _, _⟩) _ _); refine h.rdvP ?_)
      | ((with_reducible show RDL _ (loadVar _ ⟨_, _, _⟩) _ _); refine h.rdvL ?_)
      | ((with_reducible show RDT _ (loadVar _ ⟨_, _, _⟩) _ _); refine h.rdvT ?_)
      | ((with_reducible show RD _ (loadVar _ ⟨_, _, _⟩) _ _); refine h.rdG ?_; first | refine ⟨_, rfl, ?_⟩ | refine ⟨_, _, rfl, ?_⟩ | refine ⟨_, _, _, rfl, ?_⟩ | refine ⟨_, _, _, _, rfl, ?_⟩ | refine ⟨_, _, _, _, _, rfl, ?_⟩ | refine ⟨_, _, _, _, _, _, rfl, ?_⟩ | refine ⟨_, _, _, _, _, _, _, rfl, ?_⟩ | refine ⟨_, _, _, _, _, _, _, _, rfl, ?_⟩ | refine ⟨_, _, _, _, _, _, _, _, _, rfl, ?_⟩)
      | ((with_reducible show RUNU _ (storeVar _ ⟨_, _, _⟩ (.agg _)) _ _); refine h.stG fun w' h => ?_)
      | ((with_reducible show RUNU _ (storeVar _ ⟨_, _, _⟩ _) _ _); refine h.stV fun w' h => ?_))
    refine ifnot (fun h2 => ?_) fun h2 => letb rfl ⟨last fun hc => by rw [h2] at hc; simp at hc, h⟩
    repeat' (first
      | ((with_reducible show NILC (some _) _); refine nilc ?_)
      | ((with_reducible show RDI _ (loadVar _ (Addr.add (Addr.add ⟨_, 0, none⟩ _) _)) _ _ _); refine h.rdI2 _ _ ?_)
      | ((with_reducible show RDB _ (loadVar _ (Addr.add (Addr.add ⟨_, 0, none⟩ _) _)) _ _); refine h.rdB2 _ _ ?_)
      | ((with_reducible show RDP _ (loadVar _ (Addr.add (Addr.add ⟨_, 0, none⟩ _) _)) _ _); refine h.rdP2 _ _ ?_)
      | ((with_reducible show RDL _ (loadVar _ (Addr.add (Addr.add ⟨_, 0, none⟩ _) _)) _ _); refine h.rdL2 _ _ ?_)
      | ((with_reducible show RDI _ (loadVar _ (Addr.add _ _)) _ _ _); refine h.rdI _ ?_)
      | ((with_reducible show RDB _ (loadVar _ (Addr.add _ _)) _ _); refine h.rdB _ ?_)
      | ((with_reducible show RDP _ (loadVar _ (Addr.add _ _)) _ _); refine h.rdP _ ?_)
      | ((with_reducible show RDL _ (loadVar _ (Addr.add _ _)) _ _); refine h.rdL _ ?_)
      | ((with_reducible show RDT _ (loadVar _ (Addr.add _ _)) _ _); refine h.rdT _ ?_)
      | ((with_reducible show RUNU _ (storeVar _ (Addr.add _ _) _) _ _); refine h.st _ fun w' h => ?_)
      | ((with_reducible show RDI _ (loadVar _ ⟨_, _, _⟩) _ _ _); refine h.rdvI ?_)
      | ((with_reducible show RDB _ (loadVar _ ⟨_, _, _⟩) _ _); refine h.rdvB ?_)
      | ((with_reducible show RDP _ (loadVar _ ⟨_, _, _⟩) _ _); refine h.rdvP ?_)
      | ((with_reducible show RDL _ (loadVar _ ⟨_, _, _⟩) _ _); refine h.rdvL ?_)
      | ((with_reducible show RDT _ (loadVar _ ⟨_, _, _⟩) _ _); refine h.rdvT ?_)
      | ((with_reducible show RD _ (loadVar _ ⟨_, _, _⟩) _ _); refine h.rdG ?_; first | refine ⟨_, rfl, ?_⟩ | refine ⟨_, _, rfl, ?_⟩ | refine ⟨_, _, _, rfl, ?_⟩ | refine ⟨_, _, _, _, rfl, ?_⟩ | refine ⟨_, _, _, _, _, rfl, ?_⟩ | refine ⟨_, _, _, _, _, _, rfl, ?_⟩ | refine ⟨_, _, _, _, _, _, _, rfl, ?_⟩ | refine ⟨_, _, _, _, _, _, _, _, rfl, ?_⟩ | refine ⟨_, _, _, _, _, _, _, _, _, rfl, ?_⟩)
      | ((with_reducible show RUNU _ (storeVar _ ⟨_, _, _⟩ (.agg _)) _ _); refine h.stG fun w' h => ?_)
      | ((with_reducible show RUNU _ (storeVar _ ⟨_, _, _⟩ _) _ _); refine h.stV fun w' h => ?_))
    refine ifd (fun h3 => letb rfl ⟨by rw [hlost, h1, h2]; simp; omega, h⟩) fun h3 => letb rfl ⟨last fun hc => h3 hc.2.2, h⟩
  rintro _ w' ⟨rfl, h⟩
  refine ⟨fun b w' => (decide (x.flow = flow) && !x.lost && (word || lost)) = b ∧ St c w' (blk q 130 (ch x) :: own 130 9 G j gc ((mk t (l.take j)).flatMap ch) :: own 130 9 O ((l.take j).filterMap t).length oc (((l.take j).filterMap t).flatMap ch) :: L), ?_, ?_⟩
  · repeat' (first
      | ((with_reducible show NILC (some _) _); refine nilc ?_)
      | ((with_reducible show RDI _ (loadVar _ (Addr.add (Addr.add ⟨_, 0, none⟩ _) _)) _ _ _); refine h.rdI2 _ _ ?_)
      | ((with_reducible show RDB _ (loadVar _ (Addr.add (Addr.add ⟨_, 0, none⟩ _) _)) _ _); refine h.rdB2 _ _ ?_)
      | ((with_reducible show RDP _ (loadVar _ (Addr.add (Addr.add ⟨_, 0, none⟩ _) _)) _ _); refine h.rdP2 _ _ ?_)
      | ((with_reducible show RDL _ (loadVar _ (Addr.add (Addr.add ⟨_, 0, none⟩ _) _)) _ _); refine h.rdL2 _ _ ?_)
      | ((with_reducible show RDI _ (loadVar _ (Addr.add _ _)) _ _ _); refine h.rdI _ ?_)
      | ((with_reducible show RDB _ (loadVar _ (Addr.add _ _)) _ _); refine h.rdB _ ?_)
      | ((with_reducible show RDP _ (loadVar _ (Addr.add _ _)) _ _); refine h.rdP _ ?_)
      | ((with_reducible show RDL _ (loadVar _ (Addr.add _ _)) _ _); refine h.rdL _ ?_)
      | ((with_reducible show RDT _ (loadVar _ (Addr.add _ _)) _ _); refine h.rdT _ ?_)
      | ((with_reducible show RUNU _ (storeVar _ (Addr.add _ _) _) _ _); refine h.st _ fun w' h => ?_)
      | ((with_reducible show RDI _ (loadVar _ ⟨_, _, _⟩) _ _ _); refine h.rdvI ?_)
      | ((with_reducible show RDB _ (loadVar _ ⟨_, _, _⟩) _ _); refine h.rdvB ?_)
      | ((with_reducible show RDP _ (loadVar _ ⟨_, _, _⟩) _ _); refine h.rdvP ?_)
      | ((with_reducible show RDL _ (loadVar _ ⟨_, _, _⟩) _ _); refine h.rdvL ?_)
      | ((with_reducible show RDT _ (loadVar _ ⟨_, _, _⟩) _ _); refine h.rdvT ?_)
      | ((with_reducible show RD _ (loadVar _ ⟨_, _, _⟩) _ _); refine h.rdG ?_; first | refine ⟨_, rfl, ?_⟩ | refine ⟨_, _, rfl, ?_⟩ | refine ⟨_, _, _, rfl, ?_⟩ | refine ⟨_, _, _, _, rfl, ?_⟩ | refine ⟨_, _, _, _, _, rfl, ?_⟩ | refine ⟨_, _, _, _, _, _, rfl, ?_⟩ | refine ⟨_, _, _, _, _, _, _, rfl, ?_⟩ | refine ⟨_, _, _, _, _, _, _, _, rfl, ?_⟩ | refine ⟨_, _, _, _, _, _, _, _, _, rfl, ?_⟩)
      | ((with_reducible show RUNU _ (storeVar _ ⟨_, _, _⟩ (.agg _)) _ _); refine h.stG fun w' h => ?_)
      | ((with_reducible show RUNU _ (storeVar _ ⟨_, _, _⟩ _) _ _); refine h.stV fun w' h => ?_))
    refine ifq (fun h1 => ?_) fun h1 => ⟨by simp [h1], h⟩
    repeat' (first
      | ((with_reducible show NILC (some _) _); refine nilc ?_)
      | ((with_reducible show RDI _ (loadVar _ (Addr.add (Addr.add ⟨_, 0, none⟩ _) _)) _ _ _); refine h.rdI2 _ _ ?_)
      | ((with_reducible show RDB _ (loadVar _ (Addr.add (Addr.add ⟨_, 0, none⟩ _) _)) _ _); refine h.rdB2 _ _ ?_)
      | ((with_reducible show RDP _ (loadVar _ (Addr.add (Addr.add ⟨_, 0, none⟩ _) _)) _ _); refine h.rdP2 _ _ ?_)
      | ((with_reducible show RDL _ (loadVar _ (Addr.add (Addr.add ⟨_, 0, none⟩ _) _)) _ _); refine h.rdL2 _ _ ?_)
      | ((with_reducible show RDI _ (loadVar _ (Addr.add _ _)) _ _ _); refine h.rdI _ ?_)
      | ((with_reducible show RDB _ (loadVar _ (Addr.add _ _)) _ _); refine h.rdB _ ?_)
      | ((with_reducible show RDP _ (loadVar _ (Addr.add _ _)) _ _); refine h.rdP _ ?_)
      | ((with_reducible show RDL _ (loadVar _ (Addr.add _ _)) _ _); refine h.rdL _ ?_)
      | ((with_reducible show RDT _ (loadVar _ (Addr.add _ _)) _ _); refine h.rdT _ ?_)
      | ((with_reducible show RUNU _ (storeVar _ (Addr.add _ _) _) _ _); refine h.st _ fun w' h => ?_)
      | ((with_reducible show RDI _ (loadVar _ ⟨_, _, _⟩) _ _ _); refine h.rdvI ?_)
      | ((with_reducible show RDB _ (loadVar _ ⟨_, _, _⟩) _ _); refine h.rdvB ?_)
      | ((with_reducible show RDP _ (loadVar _ ⟨_, _, _⟩) _ _); refine h.rdvP ?_)
      | ((with_reducible show RDL _ (loadVar _ ⟨_, _, _⟩) _ _); refine h.rdvL ?_)
      | ((with_reducible show RDT _ (loadVar _ ⟨_, _, _⟩) _ _); refine h.rdvT ?_)
      | ((with_reducible show RD _ (loadVar _ ⟨_, _, _⟩) _ _); refine h.rdG ?_; first | refine ⟨_, rfl, ?_⟩ | refine ⟨_, _, rfl, ?_⟩ | refine ⟨_, _, _, rfl, ?_⟩ | refine ⟨_, _, _, _, rfl, ?_⟩ | refine ⟨_, _, _, _, _, rfl, ?_⟩ | refine ⟨_, _, _, _, _, _, rfl, ?_⟩ | refine ⟨_, _, _, _, _, _, _, rfl, ?_⟩ | refine ⟨_, _, _, _, _, _, _, _, rfl, ?_⟩ | refine ⟨_, _, _, _, _, _, _, _, _, rfl, ?_⟩)
      | ((with_reducible show RUNU _ (storeVar _ ⟨_, _, _⟩ (.agg _)) _ _); refine h.stG fun w' h => ?_)
      | ((with_reducible show RUNU _ (storeVar _ ⟨_, _, _⟩ _) _ _); refine h.stV fun w' h => ?_))
    refine ifnot (fun h2 => ?_) fun h2 => ⟨by simp [h2], h⟩
    exact ifb (fun h3 => ⟨by simp [h1, h2, h3], h⟩) fun h3 => ⟨by simp [h1, h2, h3], h⟩
  rintro _ w' ⟨rfl, h⟩
  have mkn : ∀ {o : Option Ch}, t x = o → mk t (l.take (j + 1)) = mk t (l.take j) ++ [o.getD x] := by
    intro o ho
    rw [take_snoc' hx]; simp [mk, ho]
  refine ifb (fun hc => ?_) fun hc => ?_
  · rw [hc, if_pos rfl] at htx
    have fmx : (l.take (j + 1)).filterMap t = (l.take j).filterMap t ++ [{ x with came := x.came || word, lost := lost }] := fm_snoc_some hx htx
    have mkx := mkn htx
    have go : ∀ w', St c w' (blk q 130 (ch { x with came := x.came || word, lost := lost }) :: own 130 9 G j gc ((mk t (l.take j)).flatMap ch) :: own 130 9 O ((l.take j).filterMap t).length oc (((l.take j).filterMap t).flatMap ch) :: L) → True := fun _ _ => trivial
    repeat' (first
      | ((with_reducible show NILC (some _) _); refine nilc ?_)
      | ((with_reducible show RDI _ (loadVar _ (Addr.add (Addr.add ⟨_, 0, none⟩ _) _)) _ _ _); refine h.rdI2 _ _ ?_)
      | ((with_reducible show RDB _ (loadVar _ (Addr.add (Addr.add ⟨_, 0, none⟩ _) _)) _ _); refine h.rdB2 _ _ ?_)
      | ((with_reducible show RDP _ (loadVar _ (Addr.add (Addr.add ⟨_, 0, none⟩ _) _)) _ _); refine h.rdP2 _ _ ?_)
      | ((with_reducible show RDL _ (loadVar _ (Addr.add (Addr.add ⟨_, 0, none⟩ _) _)) _ _); refine h.rdL2 _ _ ?_)
      | ((with_reducible show RDI _ (loadVar _ (Addr.add _ _)) _ _ _); refine h.rdI _ ?_)
      | ((with_reducible show RDB _ (loadVar _ (Addr.add _ _)) _ _); refine h.rdB _ ?_)
      | ((with_reducible show RDP _ (loadVar _ (Addr.add _ _)) _ _); refine h.rdP _ ?_)
      | ((with_reducible show RDL _ (loadVar _ (Addr.add _ _)) _ _); refine h.rdL _ ?_)
      | ((with_reducible show RDT _ (loadVar _ (Addr.add _ _)) _ _); refine h.rdT _ ?_)
      | ((with_reducible show RUNU _ (storeVar _ (Addr.add _ _) _) _ _); refine h.st _ fun w' h => ?_)
      | ((with_reducible show RDI _ (loadVar _ ⟨_, _, _⟩) _ _ _); refine h.rdvI ?_)
      | ((with_reducible show RDB _ (loadVar _ ⟨_, _, _⟩) _ _); refine h.rdvB ?_)
      | ((with_reducible show RDP _ (loadVar _ ⟨_, _, _⟩) _ _); refine h.rdvP ?_)
      | ((with_reducible show RDL _ (loadVar _ ⟨_, _, _⟩) _ _); refine h.rdvL ?_)
      | ((with_reducible show RDT _ (loadVar _ ⟨_, _, _⟩) _ _); refine h.rdvT ?_)
      | ((with_reducible show RD _ (loadVar _ ⟨_, _, _⟩) _ _); refine h.rdG ?_; first | refine ⟨_, rfl, ?_⟩ | refine ⟨_, _, rfl, ?_⟩ | refine ⟨_, _, _, rfl, ?_⟩ | refine ⟨_, _, _, _, rfl, ?_⟩ | refine ⟨_, _, _, _, _, rfl, ?_⟩ | refine ⟨_, _, _, _, _, _, rfl, ?_⟩ | refine ⟨_, _, _, _, _, _, _, rfl, ?_⟩ | refine ⟨_, _, _, _, _, _, _, _, rfl, ?_⟩ | refine ⟨_, _, _, _, _, _, _, _, _, rfl, ?_⟩)
      | ((with_reducible show RUNU _ (storeVar _ ⟨_, _, _⟩ (.agg _)) _ _); refine h.stG fun w' h => ?_)
      | ((with_reducible show RUNU _ (storeVar _ ⟨_, _, _⟩ _) _ _); refine h.stV fun w' h => ?_))
    refine ifb (fun h1 => ?_) fun h1 => ?_
    · repeat' (first
        | ((with_reducible show NILC (some _) _); refine nilc ?_)
        | ((with_reducible show RDI _ (loadVar _ (Addr.add (Addr.add ⟨_, 0, none⟩ _) _)) _ _ _); refine h.rdI2 _ _ ?_)
        | ((with_reducible show RDB _ (loadVar _ (Addr.add (Addr.add ⟨_, 0, none⟩ _) _)) _ _); refine h.rdB2 _ _ ?_)
        | ((with_reducible show RDP _ (loadVar _ (Addr.add (Addr.add ⟨_, 0, none⟩ _) _)) _ _); refine h.rdP2 _ _ ?_)
        | ((with_reducible show RDL _ (loadVar _ (Addr.add (Addr.add ⟨_, 0, none⟩ _) _)) _ _); refine h.rdL2 _ _ ?_)
        | ((with_reducible show RDI _ (loadVar _ (Addr.add _ _)) _ _ _); refine h.rdI _ ?_)
        | ((with_reducible show RDB _ (loadVar _ (Addr.add _ _)) _ _); refine h.rdB _ ?_)
        | ((with_reducible show RDP _ (loadVar _ (Addr.add _ _)) _ _); refine h.rdP _ ?_)
        | ((with_reducible show RDL _ (loadVar _ (Addr.add _ _)) _ _); refine h.rdL _ ?_)
        | ((with_reducible show RDT _ (loadVar _ (Addr.add _ _)) _ _); refine h.rdT _ ?_)
        | ((with_reducible show RUNU _ (storeVar _ (Addr.add _ _) _) _ _); refine h.st _ fun w' h => ?_)
        | ((with_reducible show RDI _ (loadVar _ ⟨_, _, _⟩) _ _ _); refine h.rdvI ?_)
        | ((with_reducible show RDB _ (loadVar _ ⟨_, _, _⟩) _ _); refine h.rdvB ?_)
        | ((with_reducible show RDP _ (loadVar _ ⟨_, _, _⟩) _ _); refine h.rdvP ?_)
        | ((with_reducible show RDL _ (loadVar _ ⟨_, _, _⟩) _ _); refine h.rdvL ?_)
        | ((with_reducible show RDT _ (loadVar _ ⟨_, _, _⟩) _ _); refine h.rdvT ?_)
        | ((with_reducible show RD _ (loadVar _ ⟨_, _, _⟩) _ _); refine h.rdG ?_; first | refine ⟨_, rfl, ?_⟩ | refine ⟨_, _, rfl, ?_⟩ | refine ⟨_, _, _, rfl, ?_⟩ | refine ⟨_, _, _, _, rfl, ?_⟩ | refine ⟨_, _, _, _, _, rfl, ?_⟩ | refine ⟨_, _, _, _, _, _, rfl, ?_⟩ | refine ⟨_, _, _, _, _, _, _, rfl, ?_⟩ | refine ⟨_, _, _, _, _, _, _, _, rfl, ?_⟩ | refine ⟨_, _, _, _, _, _, _, _, _, rfl, ?_⟩)
        | ((with_reducible show RUNU _ (storeVar _ ⟨_, _, _⟩ (.agg _)) _ _); refine h.stG fun w' h => ?_)
        | ((with_reducible show RUNU _ (storeVar _ ⟨_, _, _⟩ _) _ _); refine h.stV fun w' h => ?_))
      refine h.app1 huC tiC (ch { x with came := true, lost := lost }) (.tail (.tail .head)) (ch_flat1 _) (by omega) fun O' oc' w' h => ?_
      repeat' (first
        | ((with_reducible show NILC (some _) _); refine nilc ?_)
        | ((with_reducible show RDI _ (loadVar _ (Addr.add (Addr.add ⟨_, 0, none⟩ _) _)) _ _ _); refine h.rdI2 _ _ ?_)
        | ((with_reducible show RDB _ (loadVar _ (Addr.add (Addr.add ⟨_, 0, none⟩ _) _)) _ _); refine h.rdB2 _ _ ?_)
        | ((with_reducible show RDP _ (loadVar _ (Addr.add (Addr.add ⟨_, 0, none⟩ _) _)) _ _); refine h.rdP2 _ _ ?_)
        | ((with_reducible show RDL _ (loadVar _ (Addr.add (Addr.add ⟨_, 0, none⟩ _) _)) _ _); refine h.rdL2 _ _ ?_)
        | ((with_reducible show RDI _ (loadVar _ (Addr.add _ _)) _ _ _); refine h.rdI _ ?_)
        | ((with_reducible show RDB _ (loadVar _ (Addr.add _ _)) _ _); refine h.rdB _ ?_)
        | ((with_reducible show RDP _ (loadVar _ (Addr.add _ _)) _ _); refine h.rdP _ ?_)
        | ((with_reducible show RDL _ (loadVar _ (Addr.add _ _)) _ _); refine h.rdL _ ?_)
        | ((with_reducible show RDT _ (loadVar _ (Addr.add _ _)) _ _); refine h.rdT _ ?_)
        | ((with_reducible show RUNU _ (storeVar _ (Addr.add _ _) _) _ _); refine h.st _ fun w' h => ?_)
        | ((with_reducible show RDI _ (loadVar _ ⟨_, _, _⟩) _ _ _); refine h.rdvI ?_)
        | ((with_reducible show RDB _ (loadVar _ ⟨_, _, _⟩) _ _); refine h.rdvB ?_)
        | ((with_reducible show RDP _ (loadVar _ ⟨_, _, _⟩) _ _); refine h.rdvP ?_)
        | ((with_reducible show RDL _ (loadVar _ ⟨_, _, _⟩) _ _); refine h.rdvL ?_)
        | ((with_reducible show RDT _ (loadVar _ ⟨_, _, _⟩) _ _); refine h.rdvT ?_)
        | ((with_reducible show RD _ (loadVar _ ⟨_, _, _⟩) _ _); refine h.rdG ?_; first | refine ⟨_, rfl, ?_⟩ | refine ⟨_, _, rfl, ?_⟩ | refine ⟨_, _, _, rfl, ?_⟩ | refine ⟨_, _, _, _, rfl, ?_⟩ | refine ⟨_, _, _, _, _, rfl, ?_⟩ | refine ⟨_, _, _, _, _, _, rfl, ?_⟩ | refine ⟨_, _, _, _, _, _, _, rfl, ?_⟩ | refine ⟨_, _, _, _, _, _, _, _, rfl, ?_⟩ | refine ⟨_, _, _, _, _, _, _, _, _, rfl, ?_⟩)
        | ((with_reducible show RUNU _ (storeVar _ ⟨_, _, _⟩ (.agg _)) _ _); refine h.stG fun w' h => ?_)
        | ((with_reducible show RUNU _ (storeVar _ ⟨_, _, _⟩ _) _ _); refine h.stV fun w' h => ?_))
      refine h.app1 huC tiC (ch { x with came := true, lost := lost }) (.tail (.tail .head)) (ch_flat1 _) (by omega) fun G' gc' w' h => ?_
      refine leti next ⟨m - 1, by omega, j + 1, by omega, rfl, rfl, ?_⟩
      rw [fmx, mkx, h1, Bool.true_or]
      refine ⟨by simp, ?_⟩
      simp only [Option.getD_some, List.flatMap_append, List.flatMap_cons, List.flatMap_nil, List.append_nil]
      exact h.to
    · repeat' (first
        | ((with_reducible show NILC (some _) _); refine nilc ?_)
        | ((with_reducible show RDI _ (loadVar _ (Addr.add (Addr.add ⟨_, 0, none⟩ _) _)) _ _ _); refine h.rdI2 _ _ ?_)
        | ((with_reducible show RDB _ (loadVar _ (Addr.add (Addr.add ⟨_, 0, none⟩ _) _)) _ _); refine h.rdB2 _ _ ?_)
        | ((with_reducible show RDP _ (loadVar _ (Addr.add (Addr.add ⟨_, 0, none⟩ _) _)) _ _); refine h.rdP2 _ _ ?_)
        | ((with_reducible show RDL _ (loadVar _ (Addr.add (Addr.add ⟨_, 0, none⟩ _) _)) _ _); refine h.rdL2 _ _ ?_)
        | ((with_reducible show RDI _ (loadVar _ (Addr.add _ _)) _ _ _); refine h.rdI _ ?_)
        | ((with_reducible show RDB _ (loadVar _ (Addr.add _ _)) _ _); refine h.rdB _ ?_)
        | ((with_reducible show RDP _ (loadVar _ (Addr.add _ _)) _ _); refine h.rdP _ ?_)
        | ((with_reducible show RDL _ (loadVar _ (Addr.add _ _)) _ _); refine h.rdL _ ?_)
        | ((with_reducible show RDT _ (loadVar _ (Addr.add _ _)) _ _); refine h.rdT _ ?_)
        | ((with_reducible show RUNU _ (storeVar _ (Addr.add _ _) _) _ _); refine h.st _ fun w' h => ?_)
        | ((with_reducible show RDI _ (loadVar _ ⟨_, _, _⟩) _ _ _); refine h.rdvI ?_)
        | ((with_reducible show RDB _ (loadVar _ ⟨_, _, _⟩) _ _); refine h.rdvB ?_)
        | ((with_reducible show RDP _ (loadVar _ ⟨_, _, _⟩) _ _); refine h.rdvP ?_)
        | ((with_reducible show RDL _ (loadVar _ ⟨_, _, _⟩) _ _); refine h.rdvL ?_)
        | ((with_reducible show RDT _ (loadVar _ ⟨_, _, _⟩) _ _); refine h.rdvT ?_)
        | ((with_reducible show RD _ (loadVar _ ⟨_, _, _⟩) _ _); refine h.rdG ?_; first | refine ⟨_, rfl, ?_⟩ | refine ⟨_, _, rfl, ?_⟩ | refine ⟨_, _, _, rfl, ?_⟩ | refine ⟨_, _, _, _, rfl, ?_⟩ | refine ⟨_, _, _, _, _, rfl, ?_⟩ | refine ⟨_, _, _, _, _, _, rfl, ?_⟩ | refine ⟨_, _, _, _, _, _, _, rfl, ?_⟩ | refine ⟨_, _, _, _, _, _, _, _, rfl, ?_⟩ | refine ⟨_, _, _, _, _, _, _, _, _, rfl, ?_⟩)
        | ((with_reducible show RUNU _ (storeVar _ ⟨_, _, _⟩ (.agg _)) _ _); refine h.stG fun w' h => ?_)
        | ((with_reducible show RUNU _ (storeVar _ ⟨_, _, _⟩ _) _ _); refine h.stV fun w' h => ?_))
      refine h.app1 huC tiC (ch { x with came := word, lost := lost }) (.tail (.tail .head)) (ch_flat1 _) (by omega) fun O' oc' w' h => ?_
      repeat' (first
        | ((with_reducible show NILC (some _) _); refine nilc ?_)
        | ((with_reducible show RDI _ (loadVar _ (Addr.add (Addr.add ⟨_, 0, none⟩ _) _)) _ _ _); refine h.rdI2 _ _ ?_)
        | ((with_reducible show RDB _ (loadVar _ (Addr.add (Addr.add ⟨_, 0, none⟩ _) _)) _ _); refine h.rdB2 _ _ ?_)
        | ((with_reducible show RDP _ (loadVar _ (Addr.add (Addr.add ⟨_, 0, none⟩ _) _)) _ _); refine h.rdP2 _ _ ?_)
        | ((with_reducible show RDL _ (loadVar _ (Addr.add (Addr.add ⟨_, 0, none⟩ _) _)) _ _); refine h.rdL2 _ _ ?_)
        | ((with_reducible show RDI _ (loadVar _ (Addr.add _ _)) _ _ _); refine h.rdI _ ?_)
        | ((with_reducible show RDB _ (loadVar _ (Addr.add _ _)) _ _); refine h.rdB _ ?_)
        | ((with_reducible show RDP _ (loadVar _ (Addr.add _ _)) _ _); refine h.rdP _ ?_)
        | ((with_reducible show RDL _ (loadVar _ (Addr.add _ _)) _ _); refine h.rdL _ ?_)
        | ((with_reducible show RDT _ (loadVar _ (Addr.add _ _)) _ _); refine h.rdT _ ?_)
        | ((with_reducible show RUNU _ (storeVar _ (Addr.add _ _) _) _ _); refine h.st _ fun w' h => ?_)
        | ((with_reducible show RDI _ (loadVar _ ⟨_, _, _⟩) _ _ _); refine h.rdvI ?_)
        | ((with_reducible show RDB _ (loadVar _ ⟨_, _, _⟩) _ _); refine h.rdvB ?_)
        | ((with_reducible show RDP _ (loadVar _ ⟨_, _, _⟩) _ _); refine h.rdvP ?_)
        | ((with_reducible show RDL _ (loadVar _ ⟨_, _, _⟩) _ _); refine h.rdvL ?_)
        | ((with_reducible show RDT _ (loadVar _ ⟨_, _, _⟩) _ _); refine h.rdvT ?_)
        | ((with_reducible show RD _ (loadVar _ ⟨_, _, _⟩) _ _); refine h.rdG ?_; first | refine ⟨_, rfl, ?_⟩ | refine ⟨_, _, rfl, ?_⟩ | refine ⟨_, _, _, rfl, ?_⟩ | refine ⟨_, _, _, _, rfl, ?_⟩ | refine ⟨_, _, _, _, _, rfl, ?_⟩ | refine ⟨_, _, _, _, _, _, rfl, ?_⟩ | refine ⟨_, _, _, _, _, _, _, rfl, ?_⟩ | refine ⟨_, _, _, _, _, _, _, _, rfl, ?_⟩ | refine ⟨_, _, _, _, _, _, _, _, _, rfl, ?_⟩)
        | ((with_reducible show RUNU _ (storeVar _ ⟨_, _, _⟩ (.agg _)) _ _); refine h.stG fun w' h => ?_)
        | ((with_reducible show RUNU _ (storeVar _ ⟨_, _, _⟩ _) _ _); refine h.stV fun w' h => ?_))
      refine h.app1 huC tiC (ch { x with came := word, lost := lost }) (.tail (.tail .head)) (ch_flat1 _) (by omega) fun G' gc' w' h => ?_
      refine leti next ⟨m - 1, by omega, j + 1, by omega, rfl, rfl, ?_⟩
      rw [fmx, mkx, h1, Bool.false_or]
      refine ⟨by simp, ?_⟩
      simp only [Option.getD_some, List.flatMap_append, List.flatMap_cons, List.flatMap_nil, List.append_nil]
      exact h.to
  · rw [hc, if_neg (by simp)] at htx
    have fmx := fm_snoc_none hx htx
    have mkx := mkn htx
    repeat' (first
      | ((with_reducible show NILC (some _) _); refine nilc ?_)
      | ((with_reducible show RDI _ (loadVar _ (Addr.add (Addr.add ⟨_, 0, none⟩ _) _)) _ _ _); refine h.rdI2 _ _ ?_)
      | ((with_reducible show RDB _ (loadVar _ (Addr.add (Addr.add ⟨_, 0, none⟩ _) _)) _ _); refine h.rdB2 _ _ ?_)
      | ((with_reducible show RDP _ (loadVar _ (Addr.add (Addr.add ⟨_, 0, none⟩ _) _)) _ _); refine h.rdP2 _ _ ?_)
      | ((with_reducible show RDL _ (loadVar _ (Addr.add (Addr.add ⟨_, 0, none⟩ _) _)) _ _); refine h.rdL2 _ _ ?_)
      | ((with_reducible show RDI _ (loadVar _ (Addr.add _ _)) _ _ _); refine h.rdI _ ?_)
      | ((with_reducible show RDB _ (loadVar _ (Addr.add _ _)) _ _); refine h.rdB _ ?_)
      | ((with_reducible show RDP _ (loadVar _ (Addr.add _ _)) _ _); refine h.rdP _ ?_)
      | ((with_reducible show RDL _ (loadVar _ (Addr.add _ _)) _ _); refine h.rdL _ ?_)
      | ((with_reducible show RDT _ (loadVar _ (Addr.add _ _)) _ _); refine h.rdT _ ?_)
      | ((with_reducible show RUNU _ (storeVar _ (Addr.add _ _) _) _ _); refine h.st _ fun w' h => ?_)
      | ((with_reducible show RDI _ (loadVar _ ⟨_, _, _⟩) _ _ _); refine h.rdvI ?_)
      | ((with_reducible show RDB _ (loadVar _ ⟨_, _, _⟩) _ _); refine h.rdvB ?_)
      | ((with_reducible show RDP _ (loadVar _ ⟨_, _, _⟩) _ _); refine h.rdvP ?_)
      | ((with_reducible show RDL _ (loadVar _ ⟨_, _, _⟩) _ _); refine h.rdvL ?_)
      | ((with_reducible show RDT _ (loadVar _ ⟨_, _, _⟩) _ _); refine h.rdvT ?_)
      | ((with_reducible show RD _ (loadVar _ ⟨_, _, _⟩) _ _); refine h.rdG ?_; first | refine ⟨_, rfl, ?_⟩ | refine ⟨_, _, rfl, ?_⟩ | refine ⟨_, _, _, rfl, ?_⟩ | refine ⟨_, _, _, _, rfl, ?_⟩ | refine ⟨_, _, _, _, _, rfl, ?_⟩ | refine ⟨_, _, _, _, _, _, rfl, ?_⟩ | refine ⟨_, _, _, _, _, _, _, rfl, ?_⟩ | refine ⟨_, _, _, _, _, _, _, _, rfl, ?_⟩ | refine ⟨_, _, _, _, _, _, _, _, _, rfl, ?_⟩)
      | ((with_reducible show RUNU _ (storeVar _ ⟨_, _, _⟩ (.agg _)) _ _); refine h.stG fun w' h => ?_)
      | ((with_reducible show RUNU _ (storeVar _ ⟨_, _, _⟩ _) _ _); refine h.stV fun w' h => ?_))
    refine h.app1 huC tiC (ch x) (.tail .head) (ch_flat1 _) (by omega) fun G' gc' w' h => ?_
    refine leti next ⟨m - 1, by omega, j + 1, by omega, rfl, rfl, ?_⟩
    rw [fmx, mkx]
    refine ⟨rfl, ?_⟩
    simp only [Option.getD_none, List.flatMap_append, List.flatMap_cons, List.flatMap_nil, List.append_nil]
    exact h.to
end
end Go.Br
