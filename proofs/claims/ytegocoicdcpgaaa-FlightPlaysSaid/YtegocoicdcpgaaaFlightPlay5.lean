/- The law of the plays of the pieces under way. -/
import Derived.Test.YtegocoicdcpgaaaNFlightPlay5
import Derived.Test.YtegocoicdcpgaaaFlightPlay4
set_option linter.unusedVariables false
set_option linter.unusedSimpArgs false
namespace Go.Br
open Go
attribute [local irreducible] Addr.add

theorem tMark1 {flow ack now wait : Int} {x : Ch} (ha : 0 ≤ ack ∧ ack < 4294967296) (he : 0 ≤ x.endv ∧ x.endv < 4294967296) : tMark 1 flow ack now wait x = tWord flow ack x := by
  unfold tMark tWord
  rw [diff_less ha he]
  cases hc : x.came <;> cases hl : x.lost <;> by_cases h1 : x.flow = flow <;> by_cases h2 : 1 ≤ x.len <;> by_cases h3 : diffN ack x.endv < 0 <;> simp [h1, h2, h3, hl] <;> omega
theorem tMark2 {flow ack now wait : Int} {x : Ch} : tMark 2 flow ack now wait x = tLate flow now wait x := by
  unfold tMark tLate
  cases hc : x.came <;> cases hl : x.lost <;> by_cases h1 : x.flow = flow <;> by_cases h2 : wait ≤ IntKind.i64.wrap (now - x.sent) <;> simp [h1, h2, hc, hl]
theorem tMark3 {flow ack now wait : Int} {x : Ch} : tMark 3 flow ack now wait x = tGone flow x := by
  unfold tMark tGone
  cases hc : x.came <;> cases hl : x.lost <;> by_cases h1 : x.flow = flow <;> simp [h1, hc, hl]
theorem mk_congr {t t' : Ch → Option Ch} : ∀ {l : List Ch}, (∀ x ∈ l, t x = t' x) → mk t l = mk t' l ∧ l.filterMap t = l.filterMap t'
  | [], _ => ⟨rfl, rfl⟩
  | x :: l, h => by
    obtain ⟨h1, h2⟩ := mk_congr (l := l) fun y hy => h y (List.mem_cons_of_mem _ hy)
    have h0 := h x List.mem_cons_self
    refine ⟨?_, ?_⟩
    · show (t x).getD x :: mk t l = (t' x).getD x :: mk t' l
      rw [h0, h1]
    · rw [List.filterMap_cons, List.filterMap_cons, h0, h2]
def WFs (l : List Ch) : Prop := ∀ x ∈ l, WFc x
theorem WFs.mk {t : Ch → Option Ch} (ht : ∀ x y, t x = some y → y.frm = x.frm ∧ y.endv = x.endv) {l : List Ch} (h : WFs l) : WFs (Br.mk t l) := by
  intro y hy
  simp only [Br.mk, List.mem_map] at hy
  obtain ⟨x, hx, rfl⟩ := hy
  have := h x hx
  cases e : t x with
  | none => exact this
  | some z =>
    have h2 := ht x z e
    unfold WFc at *
    simp only [Option.getD_some]
    omega
theorem WFs.filter {l : List Ch} (h : WFs l) (g : Ch → Bool) : WFs (l.filter g) := fun x hx => h x (List.mem_filter.1 hx).1
theorem WFs.res {frm : Int} {fin : Bool} {y : Ch} {l l' : List Ch} {b : Bool} (h : WFs l) (hy : WFc y) (hr : Res frm fin (anew y.flow y.endv y.sent) l l' b) : WFs l' := by
  rcases hr with ⟨_, rfl, _⟩ | ⟨_, i, x, hi, _, _, rfl⟩
  · exact h
  · intro z hz
    rcases List.mem_or_eq_of_mem_set hz with hz | rfl
    · exact h z hz
    · have h1 := h x (List.mem_of_getElem? hi)
      unfold WFc anew at *
      simp only
      omega
theorem tWord_keep {flow ack : Int} : ∀ x y, tWord flow ack x = some y → y.frm = x.frm ∧ y.endv = x.endv := by
  intro x y h
  unfold tWord at h
  split at h <;> cases h
  exact ⟨rfl, rfl⟩
theorem tLate_keep {flow now wait : Int} : ∀ x y, tLate flow now wait x = some y → y.frm = x.frm ∧ y.endv = x.endv := by
  intro x y h
  unfold tLate at h
  split at h <;> cases h
  exact ⟨rfl, rfl⟩
theorem tGone_keep {flow : Int} : ∀ x y, tGone flow x = some y → y.frm = x.frm ∧ y.endv = x.endv := by
  intro x y h
  unfold tGone at h
  split at h <;> cases h
  exact ⟨rfl, rfl⟩
section
variable {c : Ctx} {w : World} {L R R2 : List SA} {p : Nat} {mo : Int} {l : List Ch}
theorem same2_ok {L : List SA} (h : St c w L) {A B : Option Addr} {l1 l2 : List Ch} {k d : Nat} (e : l1 = l2) (ha : RdIn L A (l1.flatMap ch)) (hb : RdIn L B (l2.flatMap ch)) (hl : l1.length ≤ 1000) {Q : Value → World → Prop} (hk : ∀ w', St c w' L → Q (.bool true) w') :
    CALL PG 78 [.slice A l1.length k, .slice B l2.length d] w Q := by
  subst e; exact rSame_ok h ha hb hl hk
theorem do_ok (h : St c w (flA p mo l :: R)) {A : Option Addr} {k : Nat} (hA : Pick (rows A (l.flatMap ch)) R R2) (hk1 : l.length ≤ k) (hmo : 1 ≤ mo ∧ mo ≤ 64 ∧ (l.length : Int) ≤ mo) (o : OpF) (ho : WFc o.x) (hwf : WFs l) {Q : Value → World → Prop}
    (hk : ∀ l' A' k' w', St c w' (flA p mo l' :: rows A' (l'.flatMap ch) :: R) → l'.length ≤ k' → WFs l' → Q (.tuple #[.slice A' l'.length k', .bool true]) w') :
    CALL PG 74 [.pointer (some ⟨p, 0, none⟩), .slice A l.length k, opfv o, .int .i64 mo] w Q := by
  refine call74 ?_
  unfold N74
  have hl : l.length ≤ 64 := by omega
  refine h.box fun p6 w' h => ?_
  refine h.rdGo 1 9 ⟨_, _, _, _, _, _, _, _, _, rfl, ?_⟩
  refine h.allocG (cs := ch ch0) tiCh fun p11 w' h => ?_
  repeat' (first
    | ((with_reducible show NILC (some _) _); refine nilc ?_)
    | ((with_reducible show RDI _ (loadVar _ (Addr.add (Addr.add ⟨_, 0, none⟩ _) _)) _ _ _); refine h.rdI2 _ _ ?_)
    | ((with_reducible show RDB _ (loadVar _ (Addr.add (Addr.add ⟨_, 0, none⟩ _) _)) _ _); refine h.rdB2 _ _ ?_)
    | ((with_reducible show RDP _ (loadVar _ (Addr.add (Addr.add ⟨_, 0, none⟩ _) _)) _ _); refine h.rdP2 _ _ ?_)
    | ((with_reducible show RDL _ (loadVar _ (Addr.add (Addr.add ⟨_, 0, none⟩ _) _)) _ _); refine h.rdL2 _ _ ?_)
    | ((with_reducible show RDI _ (loadVar _ (Addr.add _ _)) _ _ _); refine h.rdI _ ?_)
    | ((with_reducible show RDB _ (loadVar _ (Addr.add _ _)) _ _); refine h.rdB _ ?_)
    | ((with_reducible show RDP _ (loadVar _ (Addr.add _ _)) _ _); refine h.rdP _ ?_)
    | ((with_reducible show RDL _ (loadVar _ (Addr.add _ _)) _ _); refine h.rdL _ ?_)
    | ((with_reducible show RDT _ (loadVar _ (Addr.add _ _)) _ _); refine h.rdT _ ?_)
    | ((with_reducible show RUNU _ (storeVar _ (Addr.add _ _) _) _ _); refine h.st _ fun w' h => ?_)
    | ((with_reducible show RDI _ (loadVar _ ⟨_, _, _⟩) _ _ _); refine h.rdvI ?_)
    | ((with_reducible show RDB _ (loadVar _ ⟨_, _, _⟩) _ _); refine h.rdvB ?_)
    | ((with_reducible show RDP _ (loadVar _ ⟨_, _, _⟩) _ _); refine h.rdvP ?_)
    | ((with_reducible show RDL _ (loadVar _ ⟨_, _, _⟩) _ _); refine h.rdvL ?_)
    | ((with_reducible show RDT _ (loadVar _ ⟨_, _, _⟩) _ _); refine h.rdvT ?_)
    | ((with_reducible show RD _ (loadVar _ ⟨_, _, _⟩) _ _); refine h.rdG ?_; first | refine ⟨_, rfl, ?_⟩ | refine ⟨_, _, rfl, ?_⟩ | refine ⟨_, _, _, rfl, ?_⟩ | refine ⟨_, _, _, _, rfl, ?_⟩ | refine ⟨_, _, _, _, _, rfl, ?_⟩ | refine ⟨_, _, _, _, _, _, rfl, ?_⟩ | refine ⟨_, _, _, _, _, _, _, rfl, ?_⟩ | refine ⟨_, _, _, _, _, _, _, _, rfl, ?_⟩ | refine ⟨_, _, _, _, _, _, _, _, _, rfl, ?_⟩)
    | ((with_reducible show RUNU _ (storeVar _ ⟨_, _, _⟩ (.agg _)) _ _); refine h.stG fun w' h => ?_)
    | ((with_reducible show RUNU _ (storeVar _ ⟨_, _, _⟩ _) _ _); refine h.stV fun w' h => ?_))
  have hr : RdIn (blk p11 46 (ch o.x) :: blk p6 125 (opf o) :: flA p mo l :: R) A (l.flatMap ch) := RdIn.rows (.tail (.tail (.tail hA)))
  have h : St c w' (blk p11 46 (ch o.x) :: blk p6 125 (opf o) :: flA p mo l :: R) := h
  refine ⟨by decide, by decide, letb rfl (ifb (fun _ => ?_) fun _ => letb rfl (ifb (fun _ => ?_) fun _ => letb rfl (ifb (fun _ => ?_) fun _ => letb rfl (ifb (fun _ => ?_) fun _ => letb rfl (ifb (fun _ => ?_) fun _ => ?_)))))⟩
  · -- acknowledged
    repeat' (first
      | ((with_reducible show NILC (some _) _); refine nilc ?_)
      | ((with_reducible show RDI _ (loadVar _ (Addr.add (Addr.add ⟨_, 0, none⟩ _) _)) _ _ _); refine h.rdI2 _ _ ?_)
      | ((with_reducible show RDB _ (loadVar _ (Addr.add (Addr.add ⟨_, 0, none⟩ _) _)) _ _); refine h.rdB2 _ _ ?_)
      | ((with_reducible show RDP _ (loadVar _ (Addr.add (Addr.add ⟨_, 0, none⟩ _) _)) _ _); refine h.rdP2 _ _ ?_)
      | ((with_reducible show RDL _ (loadVar _ (Addr.add (Addr.add ⟨_, 0, none⟩ _) _)) _ _); refine h.rdL2 _ _ ?_)
      | ((with_reducible show RDI _ (loadVar _ (Addr.add _ _)) _ _ _); refine h.rdI _ ?_)
      | ((with_reducible show RDB _ (loadVar _ (Addr.add _ _)) _ _); refine h.rdB _ ?_)
      | ((with_reducible show RDP _ (loadVar _ (Addr.add _ _)) _ _); refine h.rdP _ ?_)
      | ((with_reducible show RDL _ (loadVar _ (Addr.add _ _)) _ _); refine h.rdL _ ?_)
      | ((with_reducible show RDT _ (loadVar _ (Addr.add _ _)) _ _); refine h.rdT _ ?_)
      | ((with_reducible show RUNU _ (storeVar _ (Addr.add _ _) _) _ _); refine h.st _ fun w' h => ?_)
      | ((with_reducible show RDI _ (loadVar _ ⟨_, _, _⟩) _ _ _); refine h.rdvI ?_)
      | ((with_reducible show RDB _ (loadVar _ ⟨_, _, _⟩) _ _); refine h.rdvB ?_)
      | ((with_reducible show RDP _ (loadVar _ ⟨_, _, _⟩) _ _); refine h.rdvP ?_)
      | ((with_reducible show RDL _ (loadVar _ ⟨_, _, _⟩) _ _); refine h.rdvL ?_)
      | ((with_reducible show RDT _ (loadVar _ ⟨_, _, _⟩) _ _); refine h.rdvT ?_)
      | ((with_reducible show RD _ (loadVar _ ⟨_, _, _⟩) _ _); refine h.rdG ?_; first | refine ⟨_, rfl, ?_⟩ | refine ⟨_, _, rfl, ?_⟩ | refine ⟨_, _, _, rfl, ?_⟩ | refine ⟨_, _, _, _, rfl, ?_⟩ | refine ⟨_, _, _, _, _, rfl, ?_⟩ | refine ⟨_, _, _, _, _, _, rfl, ?_⟩ | refine ⟨_, _, _, _, _, _, _, rfl, ?_⟩ | refine ⟨_, _, _, _, _, _, _, _, rfl, ?_⟩ | refine ⟨_, _, _, _, _, _, _, _, _, rfl, ?_⟩)
      | ((with_reducible show RUNU _ (storeVar _ ⟨_, _, _⟩ (.agg _)) _ _); refine h.stG fun w' h => ?_)
      | ((with_reducible show RUNU _ (storeVar _ ⟨_, _, _⟩ _) _ _); refine h.stV fun w' h => ?_))
    refine rAcked16_ok h hr (by omega) fun G gc O oc w' h => ⟨_, _, _, _, _, _, rfl, ?_⟩
    have e : (l.filter fun x => decide (rto x ≤ o.x.frm)) = l.filter fun x => decide (toN x ≤ o.x.frm) := List.filter_congr fun x hx => by rw [rto_eq (hwf x hx).1 (hwf x hx).2.1]
    have e' : (l.filter fun x => !decide (rto x ≤ o.x.frm)) = l.filter fun x => !decide (toN x ≤ o.x.frm) := List.filter_congr fun x hx => by rw [rto_eq (hwf x hx).1 (hwf x hx).2.1]
    rw [e, e'] at h
    rw [e, e']
    have hlf := List.length_filter_le (fun x : Ch => decide (toN x ≤ o.x.frm)) l
    repeat' (first
      | ((with_reducible show NILC (some _) _); refine nilc ?_)
      | ((with_reducible show RDI _ (loadVar _ (Addr.add (Addr.add ⟨_, 0, none⟩ _) _)) _ _ _); refine h.rdI2 _ _ ?_)
      | ((with_reducible show RDB _ (loadVar _ (Addr.add (Addr.add ⟨_, 0, none⟩ _) _)) _ _); refine h.rdB2 _ _ ?_)
      | ((with_reducible show RDP _ (loadVar _ (Addr.add (Addr.add ⟨_, 0, none⟩ _) _)) _ _); refine h.rdP2 _ _ ?_)
      | ((with_reducible show RDL _ (loadVar _ (Addr.add (Addr.add ⟨_, 0, none⟩ _) _)) _ _); refine h.rdL2 _ _ ?_)
      | ((with_reducible show RDI _ (loadVar _ (Addr.add _ _)) _ _ _); refine h.rdI _ ?_)
      | ((with_reducible show RDB _ (loadVar _ (Addr.add _ _)) _ _); refine h.rdB _ ?_)
      | ((with_reducible show RDP _ (loadVar _ (Addr.add _ _)) _ _); refine h.rdP _ ?_)
      | ((with_reducible show RDL _ (loadVar _ (Addr.add _ _)) _ _); refine h.rdL _ ?_)
      | ((with_reducible show RDT _ (loadVar _ (Addr.add _ _)) _ _); refine h.rdT _ ?_)
      | ((with_reducible show RUNU _ (storeVar _ (Addr.add _ _) _) _ _); refine h.st _ fun w' h => ?_)
      | ((with_reducible show RDI _ (loadVar _ ⟨_, _, _⟩) _ _ _); refine h.rdvI ?_)
      | ((with_reducible show RDB _ (loadVar _ ⟨_, _, _⟩) _ _); refine h.rdvB ?_)
      | ((with_reducible show RDP _ (loadVar _ ⟨_, _, _⟩) _ _); refine h.rdvP ?_)
      | ((with_reducible show RDL _ (loadVar _ ⟨_, _, _⟩) _ _); refine h.rdvL ?_)
      | ((with_reducible show RDT _ (loadVar _ ⟨_, _, _⟩) _ _); refine h.rdvT ?_)
      | ((with_reducible show RD _ (loadVar _ ⟨_, _, _⟩) _ _); refine h.rdG ?_; first | refine ⟨_, rfl, ?_⟩ | refine ⟨_, _, rfl, ?_⟩ | refine ⟨_, _, _, rfl, ?_⟩ | refine ⟨_, _, _, _, rfl, ?_⟩ | refine ⟨_, _, _, _, _, rfl, ?_⟩ | refine ⟨_, _, _, _, _, _, rfl, ?_⟩ | refine ⟨_, _, _, _, _, _, _, rfl, ?_⟩ | refine ⟨_, _, _, _, _, _, _, _, rfl, ?_⟩ | refine ⟨_, _, _, _, _, _, _, _, _, rfl, ?_⟩)
      | ((with_reducible show RUNU _ (storeVar _ ⟨_, _, _⟩ (.agg _)) _ _); refine h.stG fun w' h => ?_)
      | ((with_reducible show RUNU _ (storeVar _ ⟨_, _, _⟩ _) _ _); refine h.stV fun w' h => ?_))
    refine fAcked_ok h (.tail (.tail (.tail (.tail .head)))) fun O2 oc2 w' h => ⟨_, _, _, rfl, ?_⟩
    refine rPlain_ok h (RdIn.own .head) (by omega) fun O3 oc3 w' h => ⟨_, _, _, rfl, ?_⟩
    refine rSame_ok h (RdIn.own .head) (RdIn.own (.tail (.tail (.tail (.tail .head))))) (by omega) fun w' h => ⟨_, rfl, letb rfl ?_⟩
    have hle := (h.own (.tail (.tail (.tail .head)))).le
    have h4 : St c w' (own 130 9 G (l.filter fun x => !decide (toN x ≤ o.x.frm)).length gc ((l.filter fun x => !decide (toN x ≤ o.x.frm)).flatMap ch) :: flA p mo (l.filter fun x => !decide (toN x ≤ o.x.frm)) :: R) := h.to
    exact hk _ G gc _ (h4.enth own_rows).swap hle (hwf.filter _)
  · -- word
    repeat' (first
      | ((with_reducible show NILC (some _) _); refine nilc ?_)
      | ((with_reducible show RDI _ (loadVar _ (Addr.add (Addr.add ⟨_, 0, none⟩ _) _)) _ _ _); refine h.rdI2 _ _ ?_)
      | ((with_reducible show RDB _ (loadVar _ (Addr.add (Addr.add ⟨_, 0, none⟩ _) _)) _ _); refine h.rdB2 _ _ ?_)
      | ((with_reducible show RDP _ (loadVar _ (Addr.add (Addr.add ⟨_, 0, none⟩ _) _)) _ _); refine h.rdP2 _ _ ?_)
      | ((with_reducible show RDL _ (loadVar _ (Addr.add (Addr.add ⟨_, 0, none⟩ _) _)) _ _); refine h.rdL2 _ _ ?_)
      | ((with_reducible show RDI _ (loadVar _ (Addr.add _ _)) _ _ _); refine h.rdI _ ?_)
      | ((with_reducible show RDB _ (loadVar _ (Addr.add _ _)) _ _); refine h.rdB _ ?_)
      | ((with_reducible show RDP _ (loadVar _ (Addr.add _ _)) _ _); refine h.rdP _ ?_)
      | ((with_reducible show RDL _ (loadVar _ (Addr.add _ _)) _ _); refine h.rdL _ ?_)
      | ((with_reducible show RDT _ (loadVar _ (Addr.add _ _)) _ _); refine h.rdT _ ?_)
      | ((with_reducible show RUNU _ (storeVar _ (Addr.add _ _) _) _ _); refine h.st _ fun w' h => ?_)
      | ((with_reducible show RDI _ (loadVar _ ⟨_, _, _⟩) _ _ _); refine h.rdvI ?_)
      | ((with_reducible show RDB _ (loadVar _ ⟨_, _, _⟩) _ _); refine h.rdvB ?_)
      | ((with_reducible show RDP _ (loadVar _ ⟨_, _, _⟩) _ _); refine h.rdvP ?_)
      | ((with_reducible show RDL _ (loadVar _ ⟨_, _, _⟩) _ _); refine h.rdvL ?_)
      | ((with_reducible show RDT _ (loadVar _ ⟨_, _, _⟩) _ _); refine h.rdvT ?_)
      | ((with_reducible show RD _ (loadVar _ ⟨_, _, _⟩) _ _); refine h.rdG ?_; first | refine ⟨_, rfl, ?_⟩ | refine ⟨_, _, rfl, ?_⟩ | refine ⟨_, _, _, rfl, ?_⟩ | refine ⟨_, _, _, _, rfl, ?_⟩ | refine ⟨_, _, _, _, _, rfl, ?_⟩ | refine ⟨_, _, _, _, _, _, rfl, ?_⟩ | refine ⟨_, _, _, _, _, _, _, rfl, ?_⟩ | refine ⟨_, _, _, _, _, _, _, _, rfl, ?_⟩ | refine ⟨_, _, _, _, _, _, _, _, _, rfl, ?_⟩)
      | ((with_reducible show RUNU _ (storeVar _ ⟨_, _, _⟩ (.agg _)) _ _); refine h.stG fun w' h => ?_)
      | ((with_reducible show RUNU _ (storeVar _ ⟨_, _, _⟩ _) _ _); refine h.stV fun w' h => ?_))
    refine rMark_ok h hr (by omega) ⟨ho.2.2.1, ho.2.2.2⟩ (fun x hx => (hwf x hx).2.2) fun G gc O oc w' h => ⟨_, _, _, _, _, _, rfl, ?_⟩
    obtain ⟨e1, e2⟩ := mk_congr (l := l) (t := tMark 1 o.x.flow o.x.endv 0 0) (t' := tWord o.x.flow o.x.endv) fun x hx => tMark1 ⟨ho.2.2.1, ho.2.2.2⟩ (hwf x hx).2.2
    rw [e1, e2] at h
    rw [e2]
    have hlf := List.length_filterMap_le (tWord o.x.flow o.x.endv) l
    repeat' (first
      | ((with_reducible show NILC (some _) _); refine nilc ?_)
      | ((with_reducible show RDI _ (loadVar _ (Addr.add (Addr.add ⟨_, 0, none⟩ _) _)) _ _ _); refine h.rdI2 _ _ ?_)
      | ((with_reducible show RDB _ (loadVar _ (Addr.add (Addr.add ⟨_, 0, none⟩ _) _)) _ _); refine h.rdB2 _ _ ?_)
      | ((with_reducible show RDP _ (loadVar _ (Addr.add (Addr.add ⟨_, 0, none⟩ _) _)) _ _); refine h.rdP2 _ _ ?_)
      | ((with_reducible show RDL _ (loadVar _ (Addr.add (Addr.add ⟨_, 0, none⟩ _) _)) _ _); refine h.rdL2 _ _ ?_)
      | ((with_reducible show RDI _ (loadVar _ (Addr.add _ _)) _ _ _); refine h.rdI _ ?_)
      | ((with_reducible show RDB _ (loadVar _ (Addr.add _ _)) _ _); refine h.rdB _ ?_)
      | ((with_reducible show RDP _ (loadVar _ (Addr.add _ _)) _ _); refine h.rdP _ ?_)
      | ((with_reducible show RDL _ (loadVar _ (Addr.add _ _)) _ _); refine h.rdL _ ?_)
      | ((with_reducible show RDT _ (loadVar _ (Addr.add _ _)) _ _); refine h.rdT _ ?_)
      | ((with_reducible show RUNU _ (storeVar _ (Addr.add _ _) _) _ _); refine h.st _ fun w' h => ?_)
      | ((with_reducible show RDI _ (loadVar _ ⟨_, _, _⟩) _ _ _); refine h.rdvI ?_)
      | ((with_reducible show RDB _ (loadVar _ ⟨_, _, _⟩) _ _); refine h.rdvB ?_)
      | ((with_reducible show RDP _ (loadVar _ ⟨_, _, _⟩) _ _); refine h.rdvP ?_)
      | ((with_reducible show RDL _ (loadVar _ ⟨_, _, _⟩) _ _); refine h.rdvL ?_)
      | ((with_reducible show RDT _ (loadVar _ ⟨_, _, _⟩) _ _); refine h.rdvT ?_)
      | ((with_reducible show RD _ (loadVar _ ⟨_, _, _⟩) _ _); refine h.rdG ?_; first | refine ⟨_, rfl, ?_⟩ | refine ⟨_, _, rfl, ?_⟩ | refine ⟨_, _, _, rfl, ?_⟩ | refine ⟨_, _, _, _, rfl, ?_⟩ | refine ⟨_, _, _, _, _, rfl, ?_⟩ | refine ⟨_, _, _, _, _, _, rfl, ?_⟩ | refine ⟨_, _, _, _, _, _, _, rfl, ?_⟩ | refine ⟨_, _, _, _, _, _, _, _, rfl, ?_⟩ | refine ⟨_, _, _, _, _, _, _, _, _, rfl, ?_⟩)
      | ((with_reducible show RUNU _ (storeVar _ ⟨_, _, _⟩ (.agg _)) _ _); refine h.stG fun w' h => ?_)
      | ((with_reducible show RUNU _ (storeVar _ ⟨_, _, _⟩ _) _ _); refine h.stV fun w' h => ?_))
    refine fWord_ok h (.tail (.tail (.tail (.tail .head)))) fun O2 oc2 w' h => ⟨_, _, _, rfl, ?_⟩
    refine rPlain_ok h (RdIn.own .head) (by omega) fun O3 oc3 w' h => ⟨_, _, _, rfl, ?_⟩
    refine rSame_ok h (RdIn.own .head) (RdIn.own (.tail (.tail (.tail (.tail .head))))) (by omega) fun w' h => ⟨_, rfl, letb rfl ?_⟩
    have hle := (h.own (.tail (.tail (.tail .head)))).le
    have h4 : St c w' (own 130 9 G l.length gc ((mk (tWord o.x.flow o.x.endv) l).flatMap ch) :: flA p mo (mk (tWord o.x.flow o.x.endv) l) :: R) := h.to
    have ln : (mk (tWord o.x.flow o.x.endv) l).length = l.length := by simp [mk]
    have := hk _ G gc _ (h4.enth own_rows).swap (by omega) (hwf.mk tWord_keep)
    rwa [ln] at this
  · -- late
    repeat' (first
      | ((with_reducible show NILC (some _) _); refine nilc ?_)
      | ((with_reducible show RDI _ (loadVar _ (Addr.add (Addr.add ⟨_, 0, none⟩ _) _)) _ _ _); refine h.rdI2 _ _ ?_)
      | ((with_reducible show RDB _ (loadVar _ (Addr.add (Addr.add ⟨_, 0, none⟩ _) _)) _ _); refine h.rdB2 _ _ ?_)
      | ((with_reducible show RDP _ (loadVar _ (Addr.add (Addr.add ⟨_, 0, none⟩ _) _)) _ _); refine h.rdP2 _ _ ?_)
      | ((with_reducible show RDL _ (loadVar _ (Addr.add (Addr.add ⟨_, 0, none⟩ _) _)) _ _); refine h.rdL2 _ _ ?_)
      | ((with_reducible show RDI _ (loadVar _ (Addr.add _ _)) _ _ _); refine h.rdI _ ?_)
      | ((with_reducible show RDB _ (loadVar _ (Addr.add _ _)) _ _); refine h.rdB _ ?_)
      | ((with_reducible show RDP _ (loadVar _ (Addr.add _ _)) _ _); refine h.rdP _ ?_)
      | ((with_reducible show RDL _ (loadVar _ (Addr.add _ _)) _ _); refine h.rdL _ ?_)
      | ((with_reducible show RDT _ (loadVar _ (Addr.add _ _)) _ _); refine h.rdT _ ?_)
      | ((with_reducible show RUNU _ (storeVar _ (Addr.add _ _) _) _ _); refine h.st _ fun w' h => ?_)
      | ((with_reducible show RDI _ (loadVar _ ⟨_, _, _⟩) _ _ _); refine h.rdvI ?_)
      | ((with_reducible show RDB _ (loadVar _ ⟨_, _, _⟩) _ _); refine h.rdvB ?_)
      | ((with_reducible show RDP _ (loadVar _ ⟨_, _, _⟩) _ _); refine h.rdvP ?_)
      | ((with_reducible show RDL _ (loadVar _ ⟨_, _, _⟩) _ _); refine h.rdvL ?_)
      | ((with_reducible show RDT _ (loadVar _ ⟨_, _, _⟩) _ _); refine h.rdvT ?_)
      | ((with_reducible show RD _ (loadVar _ ⟨_, _, _⟩) _ _); refine h.rdG ?_; first | refine ⟨_, rfl, ?_⟩ | refine ⟨_, _, rfl, ?_⟩ | refine ⟨_, _, _, rfl, ?_⟩ | refine ⟨_, _, _, _, rfl, ?_⟩ | refine ⟨_, _, _, _, _, rfl, ?_⟩ | refine ⟨_, _, _, _, _, _, rfl, ?_⟩ | refine ⟨_, _, _, _, _, _, _, rfl, ?_⟩ | refine ⟨_, _, _, _, _, _, _, _, rfl, ?_⟩ | refine ⟨_, _, _, _, _, _, _, _, _, rfl, ?_⟩)
      | ((with_reducible show RUNU _ (storeVar _ ⟨_, _, _⟩ (.agg _)) _ _); refine h.stG fun w' h => ?_)
      | ((with_reducible show RUNU _ (storeVar _ ⟨_, _, _⟩ _) _ _); refine h.stV fun w' h => ?_))
    refine rMark_ok h hr (by omega) ⟨by decide, by decide⟩ (fun x hx => (hwf x hx).2.2) fun G gc O oc w' h => ⟨_, _, _, _, _, _, rfl, ?_⟩
    obtain ⟨e1, e2⟩ := mk_congr (l := l) (t := tMark 2 o.x.flow 0 o.x.sent o.wait) (t' := tLate o.x.flow o.x.sent o.wait) fun x hx => tMark2
    rw [e1, e2] at h
    rw [e2]
    have hlf := List.length_filterMap_le (tLate o.x.flow o.x.sent o.wait) l
    repeat' (first
      | ((with_reducible show NILC (some _) _); refine nilc ?_)
      | ((with_reducible show RDI _ (loadVar _ (Addr.add (Addr.add ⟨_, 0, none⟩ _) _)) _ _ _); refine h.rdI2 _ _ ?_)
      | ((with_reducible show RDB _ (loadVar _ (Addr.add (Addr.add ⟨_, 0, none⟩ _) _)) _ _); refine h.rdB2 _ _ ?_)
      | ((with_reducible show RDP _ (loadVar _ (Addr.add (Addr.add ⟨_, 0, none⟩ _) _)) _ _); refine h.rdP2 _ _ ?_)
      | ((with_reducible show RDL _ (loadVar _ (Addr.add (Addr.add ⟨_, 0, none⟩ _) _)) _ _); refine h.rdL2 _ _ ?_)
      | ((with_reducible show RDI _ (loadVar _ (Addr.add _ _)) _ _ _); refine h.rdI _ ?_)
      | ((with_reducible show RDB _ (loadVar _ (Addr.add _ _)) _ _); refine h.rdB _ ?_)
      | ((with_reducible show RDP _ (loadVar _ (Addr.add _ _)) _ _); refine h.rdP _ ?_)
      | ((with_reducible show RDL _ (loadVar _ (Addr.add _ _)) _ _); refine h.rdL _ ?_)
      | ((with_reducible show RDT _ (loadVar _ (Addr.add _ _)) _ _); refine h.rdT _ ?_)
      | ((with_reducible show RUNU _ (storeVar _ (Addr.add _ _) _) _ _); refine h.st _ fun w' h => ?_)
      | ((with_reducible show RDI _ (loadVar _ ⟨_, _, _⟩) _ _ _); refine h.rdvI ?_)
      | ((with_reducible show RDB _ (loadVar _ ⟨_, _, _⟩) _ _); refine h.rdvB ?_)
      | ((with_reducible show RDP _ (loadVar _ ⟨_, _, _⟩) _ _); refine h.rdvP ?_)
      | ((with_reducible show RDL _ (loadVar _ ⟨_, _, _⟩) _ _); refine h.rdvL ?_)
      | ((with_reducible show RDT _ (loadVar _ ⟨_, _, _⟩) _ _); refine h.rdvT ?_)
      | ((with_reducible show RD _ (loadVar _ ⟨_, _, _⟩) _ _); refine h.rdG ?_; first | refine ⟨_, rfl, ?_⟩ | refine ⟨_, _, rfl, ?_⟩ | refine ⟨_, _, _, rfl, ?_⟩ | refine ⟨_, _, _, _, rfl, ?_⟩ | refine ⟨_, _, _, _, _, rfl, ?_⟩ | refine ⟨_, _, _, _, _, _, rfl, ?_⟩ | refine ⟨_, _, _, _, _, _, _, rfl, ?_⟩ | refine ⟨_, _, _, _, _, _, _, _, rfl, ?_⟩ | refine ⟨_, _, _, _, _, _, _, _, _, rfl, ?_⟩)
      | ((with_reducible show RUNU _ (storeVar _ ⟨_, _, _⟩ (.agg _)) _ _); refine h.stG fun w' h => ?_)
      | ((with_reducible show RUNU _ (storeVar _ ⟨_, _, _⟩ _) _ _); refine h.stV fun w' h => ?_))
    refine fLate_ok h (.tail (.tail (.tail (.tail .head)))) fun O2 oc2 w' h => ⟨_, _, _, rfl, ?_⟩
    refine rPlain_ok h (RdIn.own .head) (by omega) fun O3 oc3 w' h => ⟨_, _, _, rfl, ?_⟩
    refine rSame_ok h (RdIn.own .head) (RdIn.own (.tail (.tail (.tail (.tail .head))))) (by omega) fun w' h => ⟨_, rfl, letb rfl ?_⟩
    have hle := (h.own (.tail (.tail (.tail .head)))).le
    have h4 : St c w' (own 130 9 G l.length gc ((mk (tLate o.x.flow o.x.sent o.wait) l).flatMap ch) :: flA p mo (mk (tLate o.x.flow o.x.sent o.wait) l) :: R) := h.to
    have ln : (mk (tLate o.x.flow o.x.sent o.wait) l).length = l.length := by simp [mk]
    have := hk _ G gc _ (h4.enth own_rows).swap (by omega) (hwf.mk tLate_keep)
    rwa [ln] at this
  · -- gone
    repeat' (first
      | ((with_reducible show NILC (some _) _); refine nilc ?_)
      | ((with_reducible show RDI _ (loadVar _ (Addr.add (Addr.add ⟨_, 0, none⟩ _) _)) _ _ _); refine h.rdI2 _ _ ?_)
      | ((with_reducible show RDB _ (loadVar _ (Addr.add (Addr.add ⟨_, 0, none⟩ _) _)) _ _); refine h.rdB2 _ _ ?_)
      | ((with_reducible show RDP _ (loadVar _ (Addr.add (Addr.add ⟨_, 0, none⟩ _) _)) _ _); refine h.rdP2 _ _ ?_)
      | ((with_reducible show RDL _ (loadVar _ (Addr.add (Addr.add ⟨_, 0, none⟩ _) _)) _ _); refine h.rdL2 _ _ ?_)
      | ((with_reducible show RDI _ (loadVar _ (Addr.add _ _)) _ _ _); refine h.rdI _ ?_)
      | ((with_reducible show RDB _ (loadVar _ (Addr.add _ _)) _ _); refine h.rdB _ ?_)
      | ((with_reducible show RDP _ (loadVar _ (Addr.add _ _)) _ _); refine h.rdP _ ?_)
      | ((with_reducible show RDL _ (loadVar _ (Addr.add _ _)) _ _); refine h.rdL _ ?_)
      | ((with_reducible show RDT _ (loadVar _ (Addr.add _ _)) _ _); refine h.rdT _ ?_)
      | ((with_reducible show RUNU _ (storeVar _ (Addr.add _ _) _) _ _); refine h.st _ fun w' h => ?_)
      | ((with_reducible show RDI _ (loadVar _ ⟨_, _, _⟩) _ _ _); refine h.rdvI ?_)
      | ((with_reducible show RDB _ (loadVar _ ⟨_, _, _⟩) _ _); refine h.rdvB ?_)
      | ((with_reducible show RDP _ (loadVar _ ⟨_, _, _⟩) _ _); refine h.rdvP ?_)
      | ((with_reducible show RDL _ (loadVar _ ⟨_, _, _⟩) _ _); refine h.rdvL ?_)
      | ((with_reducible show RDT _ (loadVar _ ⟨_, _, _⟩) _ _); refine h.rdvT ?_)
      | ((with_reducible show RD _ (loadVar _ ⟨_, _, _⟩) _ _); refine h.rdG ?_; first | refine ⟨_, rfl, ?_⟩ | refine ⟨_, _, rfl, ?_⟩ | refine ⟨_, _, _, rfl, ?_⟩ | refine ⟨_, _, _, _, rfl, ?_⟩ | refine ⟨_, _, _, _, _, rfl, ?_⟩ | refine ⟨_, _, _, _, _, _, rfl, ?_⟩ | refine ⟨_, _, _, _, _, _, _, rfl, ?_⟩ | refine ⟨_, _, _, _, _, _, _, _, rfl, ?_⟩ | refine ⟨_, _, _, _, _, _, _, _, _, rfl, ?_⟩)
      | ((with_reducible show RUNU _ (storeVar _ ⟨_, _, _⟩ (.agg _)) _ _); refine h.stG fun w' h => ?_)
      | ((with_reducible show RUNU _ (storeVar _ ⟨_, _, _⟩ _) _ _); refine h.stV fun w' h => ?_))
    refine rMark_ok h hr (by omega) ⟨by decide, by decide⟩ (fun x hx => (hwf x hx).2.2) fun G gc O oc w' h => ⟨_, _, _, _, _, _, rfl, ?_⟩
    obtain ⟨e1, e2⟩ := mk_congr (l := l) (t := tMark 3 o.x.flow 0 0 0) (t' := tGone o.x.flow) fun x hx => tMark3
    rw [e1, e2] at h
    rw [e2]
    have hlf := List.length_filterMap_le (tGone o.x.flow) l
    repeat' (first
      | ((with_reducible show NILC (some _) _); refine nilc ?_)
      | ((with_reducible show RDI _ (loadVar _ (Addr.add (Addr.add ⟨_, 0, none⟩ _) _)) _ _ _); refine h.rdI2 _ _ ?_)
      | ((with_reducible show RDB _ (loadVar _ (Addr.add (Addr.add ⟨_, 0, none⟩ _) _)) _ _); refine h.rdB2 _ _ ?_)
      | ((with_reducible show RDP _ (loadVar _ (Addr.add (Addr.add ⟨_, 0, none⟩ _) _)) _ _); refine h.rdP2 _ _ ?_)
      | ((with_reducible show RDL _ (loadVar _ (Addr.add (Addr.add ⟨_, 0, none⟩ _) _)) _ _); refine h.rdL2 _ _ ?_)
      | ((with_reducible show RDI _ (loadVar _ (Addr.add _ _)) _ _ _); refine h.rdI _ ?_)
      | ((with_reducible show RDB _ (loadVar _ (Addr.add _ _)) _ _); refine h.rdB _ ?_)
      | ((with_reducible show RDP _ (loadVar _ (Addr.add _ _)) _ _); refine h.rdP _ ?_)
      | ((with_reducible show RDL _ (loadVar _ (Addr.add _ _)) _ _); refine h.rdL _ ?_)
      | ((with_reducible show RDT _ (loadVar _ (Addr.add _ _)) _ _); refine h.rdT _ ?_)
      | ((with_reducible show RUNU _ (storeVar _ (Addr.add _ _) _) _ _); refine h.st _ fun w' h => ?_)
      | ((with_reducible show RDI _ (loadVar _ ⟨_, _, _⟩) _ _ _); refine h.rdvI ?_)
      | ((with_reducible show RDB _ (loadVar _ ⟨_, _, _⟩) _ _); refine h.rdvB ?_)
      | ((with_reducible show RDP _ (loadVar _ ⟨_, _, _⟩) _ _); refine h.rdvP ?_)
      | ((with_reducible show RDL _ (loadVar _ ⟨_, _, _⟩) _ _); refine h.rdvL ?_)
      | ((with_reducible show RDT _ (loadVar _ ⟨_, _, _⟩) _ _); refine h.rdvT ?_)
      | ((with_reducible show RD _ (loadVar _ ⟨_, _, _⟩) _ _); refine h.rdG ?_; first | refine ⟨_, rfl, ?_⟩ | refine ⟨_, _, rfl, ?_⟩ | refine ⟨_, _, _, rfl, ?_⟩ | refine ⟨_, _, _, _, rfl, ?_⟩ | refine ⟨_, _, _, _, _, rfl, ?_⟩ | refine ⟨_, _, _, _, _, _, rfl, ?_⟩ | refine ⟨_, _, _, _, _, _, _, rfl, ?_⟩ | refine ⟨_, _, _, _, _, _, _, _, rfl, ?_⟩ | refine ⟨_, _, _, _, _, _, _, _, _, rfl, ?_⟩)
      | ((with_reducible show RUNU _ (storeVar _ ⟨_, _, _⟩ (.agg _)) _ _); refine h.stG fun w' h => ?_)
      | ((with_reducible show RUNU _ (storeVar _ ⟨_, _, _⟩ _) _ _); refine h.stV fun w' h => ?_))
    refine fGone_ok h (.tail (.tail (.tail (.tail .head)))) fun O2 oc2 w' h => ⟨_, _, _, rfl, ?_⟩
    refine rPlain_ok h (RdIn.own .head) (by omega) fun O3 oc3 w' h => ⟨_, _, _, rfl, ?_⟩
    refine rSame_ok h (RdIn.own .head) (RdIn.own (.tail (.tail (.tail (.tail .head))))) (by omega) fun w' h => ⟨_, rfl, letb rfl ?_⟩
    have hle := (h.own (.tail (.tail (.tail .head)))).le
    have h4 : St c w' (own 130 9 G l.length gc ((mk (tGone o.x.flow) l).flatMap ch) :: flA p mo (mk (tGone o.x.flow) l) :: R) := h.to
    have ln : (mk (tGone o.x.flow) l).length = l.length := by simp [mk]
    have := hk _ G gc _ (h4.enth own_rows).swap (by omega) (hwf.mk tGone_keep)
    rwa [ln] at this
  · -- sent once more
    have hd := h.drew
    refine ⟨fun w => St c w _, hd, ?_⟩
    refine St.rdsI _ ?_
    refine St.rdsB _ ?_
    refine St.rdsG ⟨_, _, _, _, _, _, _, _, _, rfl, ?_⟩
    refine rOne_ok hd o.x fun w' h => ⟨_, _, _, _, _, _, _, _, _, rfl, ?_⟩
    refine ⟨_, fun _ h => h, h, ?_⟩
    refine rResent_ok h o.x hr (by omega) fun l' b O oc w' hR h => ⟨_, _, _, _, rfl, letb rfl ?_⟩
    repeat' (first
      | ((with_reducible show NILC (some _) _); refine nilc ?_)
      | ((with_reducible show RDI _ (loadVar _ (Addr.add (Addr.add ⟨_, 0, none⟩ _) _)) _ _ _); refine h.rdI2 _ _ ?_)
      | ((with_reducible show RDB _ (loadVar _ (Addr.add (Addr.add ⟨_, 0, none⟩ _) _)) _ _); refine h.rdB2 _ _ ?_)
      | ((with_reducible show RDP _ (loadVar _ (Addr.add (Addr.add ⟨_, 0, none⟩ _) _)) _ _); refine h.rdP2 _ _ ?_)
      | ((with_reducible show RDL _ (loadVar _ (Addr.add (Addr.add ⟨_, 0, none⟩ _) _)) _ _); refine h.rdL2 _ _ ?_)
      | ((with_reducible show RDI _ (loadVar _ (Addr.add _ _)) _ _ _); refine h.rdI _ ?_)
      | ((with_reducible show RDB _ (loadVar _ (Addr.add _ _)) _ _); refine h.rdB _ ?_)
      | ((with_reducible show RDP _ (loadVar _ (Addr.add _ _)) _ _); refine h.rdP _ ?_)
      | ((with_reducible show RDL _ (loadVar _ (Addr.add _ _)) _ _); refine h.rdL _ ?_)
      | ((with_reducible show RDT _ (loadVar _ (Addr.add _ _)) _ _); refine h.rdT _ ?_)
      | ((with_reducible show RUNU _ (storeVar _ (Addr.add _ _) _) _ _); refine h.st _ fun w' h => ?_)
      | ((with_reducible show RDI _ (loadVar _ ⟨_, _, _⟩) _ _ _); refine h.rdvI ?_)
      | ((with_reducible show RDB _ (loadVar _ ⟨_, _, _⟩) _ _); refine h.rdvB ?_)
      | ((with_reducible show RDP _ (loadVar _ ⟨_, _, _⟩) _ _); refine h.rdvP ?_)
      | ((with_reducible show RDL _ (loadVar _ ⟨_, _, _⟩) _ _); refine h.rdvL ?_)
      | ((with_reducible show RDT _ (loadVar _ ⟨_, _, _⟩) _ _); refine h.rdvT ?_)
      | ((with_reducible show RD _ (loadVar _ ⟨_, _, _⟩) _ _); refine h.rdG ?_; first | refine ⟨_, rfl, ?_⟩ | refine ⟨_, _, rfl, ?_⟩ | refine ⟨_, _, _, rfl, ?_⟩ | refine ⟨_, _, _, _, rfl, ?_⟩ | refine ⟨_, _, _, _, _, rfl, ?_⟩ | refine ⟨_, _, _, _, _, _, rfl, ?_⟩ | refine ⟨_, _, _, _, _, _, _, rfl, ?_⟩ | refine ⟨_, _, _, _, _, _, _, _, rfl, ?_⟩ | refine ⟨_, _, _, _, _, _, _, _, _, rfl, ?_⟩)
      | ((with_reducible show RUNU _ (storeVar _ ⟨_, _, _⟩ (.agg _)) _ _); refine h.stG fun w' h => ?_)
      | ((with_reducible show RUNU _ (storeVar _ ⟨_, _, _⟩ _) _ _); refine h.stV fun w' h => ?_))
    refine fResent_ok h (.tail (.tail (.tail .head))) fun l2 b2 w' hR2 h => ⟨_, rfl, ?_⟩
    obtain ⟨rfl, rfl⟩ := hR2.uniq hR
    have hle := (h.own (.tail .head)).le
    have h4 : St c w' (own 130 9 O l2.length oc (l2.flatMap ch) :: flA p mo l2 :: R) := h.to
    exact letb (y := true) (by simp) (hk _ O oc _ (h4.enth own_rows).swap hle (hwf.res ho hR))
  · refine ifd (fun hf => ?_) fun hf => ?_
    · repeat' (first
        | ((with_reducible show NILC (some _) _); refine nilc ?_)
        | ((with_reducible show RDI _ (loadVar _ (Addr.add (Addr.add ⟨_, 0, none⟩ _) _)) _ _ _); refine h.rdI2 _ _ ?_)
        | ((with_reducible show RDB _ (loadVar _ (Addr.add (Addr.add ⟨_, 0, none⟩ _) _)) _ _); refine h.rdB2 _ _ ?_)
        | ((with_reducible show RDP _ (loadVar _ (Addr.add (Addr.add ⟨_, 0, none⟩ _) _)) _ _); refine h.rdP2 _ _ ?_)
        | ((with_reducible show RDL _ (loadVar _ (Addr.add (Addr.add ⟨_, 0, none⟩ _) _)) _ _); refine h.rdL2 _ _ ?_)
        | ((with_reducible show RDI _ (loadVar _ (Addr.add _ _)) _ _ _); refine h.rdI _ ?_)
        | ((with_reducible show RDB _ (loadVar _ (Addr.add _ _)) _ _); refine h.rdB _ ?_)
        | ((with_reducible show RDP _ (loadVar _ (Addr.add _ _)) _ _); refine h.rdP _ ?_)
        | ((with_reducible show RDL _ (loadVar _ (Addr.add _ _)) _ _); refine h.rdL _ ?_)
        | ((with_reducible show RDT _ (loadVar _ (Addr.add _ _)) _ _); refine h.rdT _ ?_)
        | ((with_reducible show RUNU _ (storeVar _ (Addr.add _ _) _) _ _); refine h.st _ fun w' h => ?_)
        | ((with_reducible show RDI _ (loadVar _ ⟨_, _, _⟩) _ _ _); refine h.rdvI ?_)
        | ((with_reducible show RDB _ (loadVar _ ⟨_, _, _⟩) _ _); refine h.rdvB ?_)
        | ((with_reducible show RDP _ (loadVar _ ⟨_, _, _⟩) _ _); refine h.rdvP ?_)
        | ((with_reducible show RDL _ (loadVar _ ⟨_, _, _⟩) _ _); refine h.rdvL ?_)
        | ((with_reducible show RDT _ (loadVar _ ⟨_, _, _⟩) _ _); refine h.rdvT ?_)
        | ((with_reducible show RD _ (loadVar _ ⟨_, _, _⟩) _ _); refine h.rdG ?_; first | refine ⟨_, rfl, ?_⟩ | refine ⟨_, _, rfl, ?_⟩ | refine ⟨_, _, _, rfl, ?_⟩ | refine ⟨_, _, _, _, rfl, ?_⟩ | refine ⟨_, _, _, _, _, rfl, ?_⟩ | refine ⟨_, _, _, _, _, _, rfl, ?_⟩ | refine ⟨_, _, _, _, _, _, _, rfl, ?_⟩ | refine ⟨_, _, _, _, _, _, _, _, rfl, ?_⟩ | refine ⟨_, _, _, _, _, _, _, _, _, rfl, ?_⟩)
        | ((with_reducible show RUNU _ (storeVar _ ⟨_, _, _⟩ (.agg _)) _ _); refine h.stG fun w' h => ?_)
        | ((with_reducible show RUNU _ (storeVar _ ⟨_, _, _⟩ _) _ _); refine h.stV fun w' h => ?_))
      refine fAdd_ok h (.tail (.tail .head)) o.x (fun _ w' h => ⟨_, rfl, letb rfl ?_⟩) fun hc => absurd hc (by omega)
      have h4 : St c w' (flA p mo l :: R) := h.to
      exact hk l A k w' ((h4.addRo (.tail hA) fun _ h => h).swap) hk1 hwf
    · have hd := h.drew
      refine ⟨fun w => St c w (blk p11 46 (ch o.x) :: blk p6 125 (opf o) :: flA p mo l :: R), hd, ?_⟩
      refine St.rdsG ⟨_, _, _, _, _, _, _, _, _, rfl, ?_⟩
      refine St.rdsG ⟨_, _, _, _, _, _, _, _, _, rfl, ?_⟩
      refine hd.lit 130 9 [] fun q w' h => ?_
      refine ⟨_, fun _ h => h, h.drop, ?_⟩
      refine h.append huC tiC .head hr.more (m := l.length) (flat_length ch_length l) (ch_flat l) (by omega) fun A1 k1 w' h => ?_
      refine ⟨_, fun _ h => h, h.drop, ?_⟩
      refine rOne_ok h o.x fun w' h => ⟨_, _, _, _, _, _, _, _, _, rfl, ?_⟩
      refine ⟨_, fun _ h => h, h.drop, ?_⟩
      simp only [Nat.zero_add, List.nil_append] at h ⊢
      refine h.lit 130 9 (ch o.x) fun q2 w' h => ?_
      refine ⟨_, fun _ h => h, h.drop.drop, ?_⟩
      refine h.append huC tiC (.tail .head) (RdIn.own .head) (m := 1) rfl (ch_flat1 _) (by omega) fun A2 k2 w' h => ?_
      refine ⟨_, fun _ h => h, h.drop.drop, ?_⟩
      refine fAdd_ok h (.tail (.tail (.tail (.tail .head)))) o.x (fun hc => absurd hc (by omega)) fun hc w' h => ⟨_, rfl, letb rfl ?_⟩
      have hle := (h.own (.tail .head)).le
      have h4 : St c w' (own 130 9 A2 (l.length + 1) k2 (l.flatMap ch ++ ch o.x) :: flA p mo (l ++ [o.x]) :: R) := h.to
      have e5 : l.flatMap ch ++ ch o.x = (l ++ [o.x]).flatMap ch := by simp
      rw [e5] at h4
      have := hk (l ++ [o.x]) A2 k2 w' (h4.enth own_rows).swap (by simp; exact hle) (fun x hx => by
        simp only [List.mem_append, List.mem_singleton] at hx
        rcases hx with hx | rfl
        · exact hwf x hx
        · exact ho)
      simpa using this
end
end Go.Br
