/- The list's other functions; the document's pieces under way. -/
import Derived.Test.YtegocoicdcpgaaaNFlightPlay2
import Derived.Test.YtegocoicdcpgaaaFlightPlay
set_option linter.unusedVariables false
namespace Go.Br
open Go
attribute [local irreducible] Addr.add

theorem tiC0 : TI PG 130 9 64 (.agg #[.int .u64 0, .int .i64 0, .bool false, .int .i64 0, .int .u32 0, .int .i64 0, .int .i64 0, .bool false, .bool false]) := tiOf (by kernel_rfl)
theorem tiC : TI PG 130 9 64 (chv ch0) := tiC0
theorem huC : PG.underlying 122 = some (.slice 130) := by kernel_rfl

/-- The first piece that fits is changed. -/
def hits (frm : Int) (fin : Bool) (x : Ch) : Prop := x.frm = frm ∧ x.fin = fin
def anew (flow e now : Int) (x : Ch) : Ch := { x with flow := flow, endv := e, sent := now, came := false, lost := false, tries := minN (IntKind.i64.wrap (x.tries + 1)) 4096 }
def Res (frm : Int) (fin : Bool) (f : Ch → Ch) (l l' : List Ch) (b : Bool) : Prop :=
  (b = false ∧ l' = l ∧ ∀ y ∈ l, ¬ hits frm fin y) ∨ (b = true ∧ ∃ i x, l[i]? = some x ∧ hits frm fin x ∧ (∀ y ∈ l.take i, ¬ hits frm fin y) ∧ l' = l.set i (f x))
theorem Res.uniq {frm : Int} {fin : Bool} {f : Ch → Ch} {l l1 l2 : List Ch} {b1 b2 : Bool} (h : Res frm fin f l l1 b1) (k : Res frm fin f l l2 b2) : l1 = l2 ∧ b1 = b2 := by
  rcases h with ⟨rfl, rfl, h1⟩ | ⟨rfl, i, x, hi, hx, hn, rfl⟩ <;> rcases k with ⟨rfl, rfl, k1⟩ | ⟨rfl, j, y, hj, hy, hm, rfl⟩
  · exact ⟨rfl, rfl⟩
  · exact absurd hy (h1 y (List.mem_of_getElem? hj))
  · exact absurd hx (k1 x (List.mem_of_getElem? hi))
  · have e : i = j := by
      rcases Nat.lt_trichotomy i j with h | h | h
      · exact absurd hx (hm x (List.mem_of_getElem? (i := i) (by rw [List.getElem?_take_of_lt h]; exact hi)))
      · exact h
      · exact absurd hy (hn y (List.mem_of_getElem? (i := j) (by rw [List.getElem?_take_of_lt h]; exact hj)))
    subst e
    rw [hi] at hj
    injection hj with hj
    subst hj
    exact ⟨rfl, rfl⟩

theorem u64w {y : Int} (h : 0 ≤ y) (h' : y < 18446744073709551616) : IntKind.u64.wrap y = y := by unfold IntKind.wrap; simp [IntKind.bits, IntKind.signed]; omega
section
variable {c : Ctx} {w : World} {L R : List SA} {p : Nat} {mo : Int} {l : List Ch}
theorem fResent_ok (h : St c w L) (hp : Pick (flA p mo l) L R) {frm flow e now : Int} {fin : Bool} {Q : Value → World → Prop} (hk : ∀ l' b w', Res frm fin (anew flow e now) l l' b → St c w' (flA p mo l' :: R) → Q (.bool b) w') :
    CALL PG 116 [.pointer (some ⟨p, 0, none⟩), .int .u64 frm, .bool fin, .int .i64 flow, .int .u32 e, .int .i64 now] w Q := by
  refine call116 ?_
  unfold N116
  obtain ⟨A, k, h, hm1, hm2, hl⟩ := flOut h hp
  repeat' (first
    | ((with_reducible show NILC (some _) _); refine nilc ?_)
    | ((with_reducible show RDI _ (loadVar _ (Addr.add (Addr.add ⟨_, 0, none⟩ _) _)) _ _ _); refine h.rdI2 _ _ ?_)
    | ((with_reducible show RDB _ (loadVar _ (Addr.add (Addr.add ⟨_, 0, none⟩ _) _)) _ _); refine h.rdB2 _ _ ?_)
    | ((with_reducible show RDP _ (loadVar _ (Addr.add (Addr.add ⟨_, 0, none⟩ _) _)) _ _); refine h.rdP2 _ _ ?_)
    | ((with_reducible show RDL _ (loadVar _ (Addr.add (Addr.add ⟨_, 0, none⟩ _) _)) _ _); refine h.rdL2 _ _ ?_)
    | ((with_reducible show RDI _ (loadVar _ (Addr.add _ _)) _ _ _); refine h.rdI _ ?_)
    | ((with_reducible show RDB _ (loadVar _ (Addr.add _ _)) _ _); refine h.rdB _ ?_)
    | ((with_reducible show RDP _ (loadVar _ (Addr.add _ _)) _ _); refine h.rdP _ ?_)
    | ((with_reducible show RDL _ (loadVar _ (Addr.add _ _)) _ _); refine h.rdL _ ?_)
    | ((with_reducible show RDT _ (loadVar _ (Addr.add _ _)) _ _); refine h.rdT _ ?_)
    | ((with_reducible show RUNU _ (storeVar _ (Addr.add _ _) _) _ _); refine h.st _ fun w' h => ?_)
    | ((with_reducible show RDI _ (loadVar _ ⟨_, _, _⟩) _ _ _); refine h.rdvI ?_)
    | ((with_reducible show RDB _ (loadVar _ ⟨_, _, _⟩) _ _); refine h.rdvB ?_)
    | ((with_reducible show RDP _ (loadVar _ ⟨_, _, _⟩) _ _); refine h.rdvP ?_)
    | ((with_reducible show RDL _ (loadVar _ ⟨_, _, _⟩) _ _); refine h.rdvL ?_)
    | ((with_reducible show RDT _ (loadVar _ ⟨_, _, _⟩) _ _); refine h.rdvT ?_)
    | ((with_reducible show RD _ (loadVar _ ⟨_, _, _⟩) _ _); refine h.rdG ?_; first | refine ⟨_, rfl, ?_⟩ | refine ⟨_, _, rfl, ?_⟩ | refine ⟨_, _, _, rfl, ?_⟩ | refine ⟨_, _, _, _, rfl, ?_⟩ | refine ⟨_, _, _, _, _, rfl, ?_⟩ | refine ⟨_, _, _, _, _, _, rfl, ?_⟩ | refine ⟨_, _, _, _, _, _, _, rfl, ?_⟩ | refine ⟨_, _, _, _, _, _, _, _, rfl, ?_⟩ | refine ⟨_, _, _, _, _, _, _, _, _, rfl, ?_⟩)
    | ((with_reducible show RUNU _ (storeVar _ ⟨_, _, _⟩ (.agg _)) _ _); refine h.stG fun w' h => ?_)
    | ((with_reducible show RUNU _ (storeVar _ ⟨_, _, _⟩ _) _ _); refine h.stV fun w' h => ?_))
  refine ⟨fun m x w' => ∃ j : Nat, j + m = l.length ∧ x = (j : Int) ∧ (∀ y ∈ l.take j, ¬ hits frm fin y) ∧ St c w' (blk p 143 [.int .i64 mo, .slice A l.length k] :: own 46 9 A l.length k (l.flatMap ch) :: R), ⟨l.length, 0, by omega, rfl, by simp, h⟩, ?_⟩
  rintro m _ w' ⟨j, hj, rfl, hno, h⟩
  refine ifd (fun hlt => leti rfl ?_) fun hge => ?_
  rotate_left
  · rw [List.take_of_length_le (by omega)] at hno
    exact hk l false w' (.inl ⟨rfl, rfl, hno⟩) (flIn h ⟨hm1, hm2, hl⟩)
  obtain ⟨x, hx⟩ := ex_get (L := l) (j := j) (by omega)
  have next : (IntKind.i64.wrap ((j : Int) + 1)) = ((j + 1 : Nat) : Int) := wrap_i64 (by omega) (by omega)
  repeat' (first
    | ((with_reducible show NILC (some _) _); refine nilc ?_)
    | ((with_reducible show RDI _ (loadVar _ (Addr.add (Addr.add ⟨_, 0, none⟩ _) _)) _ _ _); refine h.rdI2 _ _ ?_)
    | ((with_reducible show RDB _ (loadVar _ (Addr.add (Addr.add ⟨_, 0, none⟩ _) _)) _ _); refine h.rdB2 _ _ ?_)
    | ((with_reducible show RDP _ (loadVar _ (Addr.add (Addr.add ⟨_, 0, none⟩ _) _)) _ _); refine h.rdP2 _ _ ?_)
    | ((with_reducible show RDL _ (loadVar _ (Addr.add (Addr.add ⟨_, 0, none⟩ _) _)) _ _); refine h.rdL2 _ _ ?_)
    | ((with_reducible show RDI _ (loadVar _ (Addr.add _ _)) _ _ _); refine h.rdI _ ?_)
    | ((with_reducible show RDB _ (loadVar _ (Addr.add _ _)) _ _); refine h.rdB _ ?_)
    | ((with_reducible show RDP _ (loadVar _ (Addr.add _ _)) _ _); refine h.rdP _ ?_)
    | ((with_reducible show RDL _ (loadVar _ (Addr.add _ _)) _ _); refine h.rdL _ ?_)
    | ((with_reducible show RDT _ (loadVar _ (Addr.add _ _)) _ _); refine h.rdT _ ?_)
    | ((with_reducible show RUNU _ (storeVar _ (Addr.add _ _) _) _ _); refine h.st _ fun w' h => ?_)
    | ((with_reducible show RDI _ (loadVar _ ⟨_, _, _⟩) _ _ _); refine h.rdvI ?_)
    | ((with_reducible show RDB _ (loadVar _ ⟨_, _, _⟩) _ _); refine h.rdvB ?_)
    | ((with_reducible show RDP _ (loadVar _ ⟨_, _, _⟩) _ _); refine h.rdvP ?_)
    | ((with_reducible show RDL _ (loadVar _ ⟨_, _, _⟩) _ _); refine h.rdvL ?_)
    | ((with_reducible show RDT _ (loadVar _ ⟨_, _, _⟩) _ _); refine h.rdvT ?_)
    | ((with_reducible show RD _ (loadVar _ ⟨_, _, _⟩) _ _); refine h.rdG ?_; first | refine ⟨_, rfl, ?_⟩ | refine ⟨_, _, rfl, ?_⟩ | refine ⟨_, _, _, rfl, ?_⟩ | refine ⟨_, _, _, _, rfl, ?_⟩ | refine ⟨_, _, _, _, _, rfl, ?_⟩ | refine ⟨_, _, _, _, _, _, rfl, ?_⟩ | refine ⟨_, _, _, _, _, _, _, rfl, ?_⟩ | refine ⟨_, _, _, _, _, _, _, _, rfl, ?_⟩ | refine ⟨_, _, _, _, _, _, _, _, _, rfl, ?_⟩)
    | ((with_reducible show RUNU _ (storeVar _ ⟨_, _, _⟩ (.agg _)) _ _); refine h.stG fun w' h => ?_)
    | ((with_reducible show RUNU _ (storeVar _ ⟨_, _, _⟩ _) _ _); refine h.stV fun w' h => ?_))
  refine h.ix (z := 8) (RdIn.own (.tail .head)) hx fun a ha => ?_
  subst ha
  have skip : ¬ hits frm fin x → ∃ m2, m2 < m ∧ ∃ j' : Nat, j' + m2 = l.length ∧ IntKind.i64.wrap ((j : Int) + 1) = (j' : Int) ∧ (∀ y ∈ l.take j', ¬ hits frm fin y) ∧ St c w' (blk p 143 [.int .i64 mo, .slice (some a) l.length k] :: own 46 9 (some a) l.length k (l.flatMap ch) :: R) := by
    intro hn
    refine ⟨m - 1, by omega, j + 1, by omega, next, fun y hy => ?_, h⟩
    rw [take_snoc' hx] at hy
    simp only [List.mem_append, List.mem_singleton] at hy
    rcases hy with hy | rfl
    · exact hno y hy
    · exact hn
  refine h.rdEI 0 (RdIn.own (.tail .head)) hx ?_
  refine ifn (fun h1 => skip fun hc => h1 hc.1) fun h1 => ?_
  refine h.rdEB 2 (RdIn.own (.tail .head)) hx ?_
  by_cases h2 : x.fin = fin
  rotate_left
  · exact ift (by simp [h2]) (skip fun hc => h2 hc.2)
  refine iff_ (by simp [h2]) ?_
  have hjl : j < l.length := by omega
  refine h.stEF (.tail .head) hx { x with flow := flow } fun w' h => ?_
  have hx1 : (l.set j { x with flow := flow })[j]? = some { x with flow := flow } := List.getElem?_set_self hjl
  refine h.stEF .head hx1 { x with flow := flow, endv := e } fun w' h => ?_
  rw [List.set_set] at h
  have hx2 : (l.set j { x with flow := flow, endv := e })[j]? = some { x with flow := flow, endv := e } := List.getElem?_set_self hjl
  refine h.stEF .head hx2 { x with flow := flow, endv := e, sent := now } fun w' h => ?_
  rw [List.set_set] at h
  have hx3 : (l.set j { x with flow := flow, endv := e, sent := now })[j]? = some { x with flow := flow, endv := e, sent := now } := List.getElem?_set_self hjl
  refine h.stEF .head hx3 { x with flow := flow, endv := e, sent := now, came := false } fun w' h => ?_
  rw [List.set_set] at h
  have hx4 : (l.set j { x with flow := flow, endv := e, sent := now, came := false })[j]? = some { x with flow := flow, endv := e, sent := now, came := false } := List.getElem?_set_self hjl
  refine h.stEF .head hx4 { x with flow := flow, endv := e, sent := now, came := false, lost := false } fun w' h => ?_
  rw [List.set_set] at h
  have hx5 : (l.set j { x with flow := flow, endv := e, sent := now, came := false, lost := false })[j]? = some { x with flow := flow, endv := e, sent := now, came := false, lost := false } := List.getElem?_set_self hjl
  refine h.rdEI 6 (RdIn.own .head) hx5 ?_
  refine h.stEF .head hx5 (anew flow e now x) fun w' h => ?_
  rw [List.set_set] at h
  refine hk (l.set j (anew flow e now x)) true _ (.inr ⟨rfl, j, x, hx, ⟨h1, h2⟩, hno, rfl⟩) (flIn (A := some a) (k := k) ?_ (by rw [List.length_set]; exact ⟨hm1, hm2, hl⟩))
  rw [List.length_set]
  exact h.to
theorem fFirst_ok (h : St c w L) (hp : Pick (flA p mo l) L R) {Q : Value → World → Prop} (hk : ∀ w', St c w' L → Q (.tuple #[chv (l.head?.getD ch0), .bool (l.head?).isSome]) w') : CALL PG 83 [.pointer (some ⟨p, 0, none⟩)] w Q := by
  refine call83 ?_
  unfold N83
  have hL := h
  refine h.allocG (cs := ch ch0) tiCh fun q w' h0 => ?_
  have rest : ∀ w', St c w' (blk q 46 (ch (l.head?.getD ch0)) :: L) → Q (.tuple #[chv (l.head?.getD ch0), .bool (l.head?).isSome]) w' := fun w' h => hk w' h.drop
  obtain ⟨A, k, h, hm1, hm2, hl⟩ := flOut h0 (.tail hp)
  have back : ∀ w' X, St c w' (blk q 46 X :: blk p 143 [.int .i64 mo, .slice A l.length k] :: own 46 9 A l.length k (l.flatMap ch) :: R) → St c w' L := fun w' X h => by
    have h2 : St c w' (blk p 143 [.int .i64 mo, .slice A l.length k] :: own 46 9 A l.length k (l.flatMap ch) :: R) := h.to
    exact (flIn h2 ⟨hm1, hm2, hl⟩).back hp
  repeat' (first
    | ((with_reducible show NILC (some _) _); refine nilc ?_)
    | ((with_reducible show RDI _ (loadVar _ (Addr.add (Addr.add ⟨_, 0, none⟩ _) _)) _ _ _); refine h.rdI2 _ _ ?_)
    | ((with_reducible show RDB _ (loadVar _ (Addr.add (Addr.add ⟨_, 0, none⟩ _) _)) _ _); refine h.rdB2 _ _ ?_)
    | ((with_reducible show RDP _ (loadVar _ (Addr.add (Addr.add ⟨_, 0, none⟩ _) _)) _ _); refine h.rdP2 _ _ ?_)
    | ((with_reducible show RDL _ (loadVar _ (Addr.add (Addr.add ⟨_, 0, none⟩ _) _)) _ _); refine h.rdL2 _ _ ?_)
    | ((with_reducible show RDI _ (loadVar _ (Addr.add _ _)) _ _ _); refine h.rdI _ ?_)
    | ((with_reducible show RDB _ (loadVar _ (Addr.add _ _)) _ _); refine h.rdB _ ?_)
    | ((with_reducible show RDP _ (loadVar _ (Addr.add _ _)) _ _); refine h.rdP _ ?_)
    | ((with_reducible show RDL _ (loadVar _ (Addr.add _ _)) _ _); refine h.rdL _ ?_)
    | ((with_reducible show RDT _ (loadVar _ (Addr.add _ _)) _ _); refine h.rdT _ ?_)
    | ((with_reducible show RUNU _ (storeVar _ (Addr.add _ _) _) _ _); refine h.st _ fun w' h => ?_)
    | ((with_reducible show RDI _ (loadVar _ ⟨_, _, _⟩) _ _ _); refine h.rdvI ?_)
    | ((with_reducible show RDB _ (loadVar _ ⟨_, _, _⟩) _ _); refine h.rdvB ?_)
    | ((with_reducible show RDP _ (loadVar _ ⟨_, _, _⟩) _ _); refine h.rdvP ?_)
    | ((with_reducible show RDL _ (loadVar _ ⟨_, _, _⟩) _ _); refine h.rdvL ?_)
    | ((with_reducible show RDT _ (loadVar _ ⟨_, _, _⟩) _ _); refine h.rdvT ?_)
    | ((with_reducible show RD _ (loadVar _ ⟨_, _, _⟩) _ _); refine h.rdG ?_; first | refine ⟨_, rfl, ?_⟩ | refine ⟨_, _, rfl, ?_⟩ | refine ⟨_, _, _, rfl, ?_⟩ | refine ⟨_, _, _, _, rfl, ?_⟩ | refine ⟨_, _, _, _, _, rfl, ?_⟩ | refine ⟨_, _, _, _, _, _, rfl, ?_⟩ | refine ⟨_, _, _, _, _, _, _, rfl, ?_⟩ | refine ⟨_, _, _, _, _, _, _, _, rfl, ?_⟩ | refine ⟨_, _, _, _, _, _, _, _, _, rfl, ?_⟩)
    | ((with_reducible show RUNU _ (storeVar _ ⟨_, _, _⟩ (.agg _)) _ _); refine h.stG fun w' h => ?_)
    | ((with_reducible show RUNU _ (storeVar _ ⟨_, _, _⟩ _) _ _); refine h.stV fun w' h => ?_))
  cases l with
  | nil =>
    refine ift rfl ?_
    have e0 : (Instr.build 46 #[]).run PG w' = .ok (chv ch0) w' := by kernel_rfl
    refine RD.of e0 ⟨_, _, _, _, _, _, _, _, _, rfl, ?_⟩
    repeat' (first
      | ((with_reducible show NILC (some _) _); refine nilc ?_)
      | ((with_reducible show RDI _ (loadVar _ (Addr.add (Addr.add ⟨_, 0, none⟩ _) _)) _ _ _); refine h.rdI2 _ _ ?_)
      | ((with_reducible show RDB _ (loadVar _ (Addr.add (Addr.add ⟨_, 0, none⟩ _) _)) _ _); refine h.rdB2 _ _ ?_)
      | ((with_reducible show RDP _ (loadVar _ (Addr.add (Addr.add ⟨_, 0, none⟩ _) _)) _ _); refine h.rdP2 _ _ ?_)
      | ((with_reducible show RDL _ (loadVar _ (Addr.add (Addr.add ⟨_, 0, none⟩ _) _)) _ _); refine h.rdL2 _ _ ?_)
      | ((with_reducible show RDI _ (loadVar _ (Addr.add _ _)) _ _ _); refine h.rdI _ ?_)
      | ((with_reducible show RDB _ (loadVar _ (Addr.add _ _)) _ _); refine h.rdB _ ?_)
      | ((with_reducible show RDP _ (loadVar _ (Addr.add _ _)) _ _); refine h.rdP _ ?_)
      | ((with_reducible show RDL _ (loadVar _ (Addr.add _ _)) _ _); refine h.rdL _ ?_)
      | ((with_reducible show RDT _ (loadVar _ (Addr.add _ _)) _ _); refine h.rdT _ ?_)
      | ((with_reducible show RUNU _ (storeVar _ (Addr.add _ _) _) _ _); refine h.st _ fun w' h => ?_)
      | ((with_reducible show RDI _ (loadVar _ ⟨_, _, _⟩) _ _ _); refine h.rdvI ?_)
      | ((with_reducible show RDB _ (loadVar _ ⟨_, _, _⟩) _ _); refine h.rdvB ?_)
      | ((with_reducible show RDP _ (loadVar _ ⟨_, _, _⟩) _ _); refine h.rdvP ?_)
      | ((with_reducible show RDL _ (loadVar _ ⟨_, _, _⟩) _ _); refine h.rdvL ?_)
      | ((with_reducible show RDT _ (loadVar _ ⟨_, _, _⟩) _ _); refine h.rdvT ?_)
      | ((with_reducible show RD _ (loadVar _ ⟨_, _, _⟩) _ _); refine h.rdG ?_; first | refine ⟨_, rfl, ?_⟩ | refine ⟨_, _, rfl, ?_⟩ | refine ⟨_, _, _, rfl, ?_⟩ | refine ⟨_, _, _, _, rfl, ?_⟩ | refine ⟨_, _, _, _, _, rfl, ?_⟩ | refine ⟨_, _, _, _, _, _, rfl, ?_⟩ | refine ⟨_, _, _, _, _, _, _, rfl, ?_⟩ | refine ⟨_, _, _, _, _, _, _, _, rfl, ?_⟩ | refine ⟨_, _, _, _, _, _, _, _, _, rfl, ?_⟩)
      | ((with_reducible show RUNU _ (storeVar _ ⟨_, _, _⟩ (.agg _)) _ _); refine h.stG fun w' h => ?_)
      | ((with_reducible show RUNU _ (storeVar _ ⟨_, _, _⟩ _) _ _); refine h.stV fun w' h => ?_))
    exact hk _ (back _ _ h.to)
  | cons x r =>
    refine iff_ (by simp; omega) ?_
    repeat' (first
      | ((with_reducible show NILC (some _) _); refine nilc ?_)
      | ((with_reducible show RDI _ (loadVar _ (Addr.add (Addr.add ⟨_, 0, none⟩ _) _)) _ _ _); refine h.rdI2 _ _ ?_)
      | ((with_reducible show RDB _ (loadVar _ (Addr.add (Addr.add ⟨_, 0, none⟩ _) _)) _ _); refine h.rdB2 _ _ ?_)
      | ((with_reducible show RDP _ (loadVar _ (Addr.add (Addr.add ⟨_, 0, none⟩ _) _)) _ _); refine h.rdP2 _ _ ?_)
      | ((with_reducible show RDL _ (loadVar _ (Addr.add (Addr.add ⟨_, 0, none⟩ _) _)) _ _); refine h.rdL2 _ _ ?_)
      | ((with_reducible show RDI _ (loadVar _ (Addr.add _ _)) _ _ _); refine h.rdI _ ?_)
      | ((with_reducible show RDB _ (loadVar _ (Addr.add _ _)) _ _); refine h.rdB _ ?_)
      | ((with_reducible show RDP _ (loadVar _ (Addr.add _ _)) _ _); refine h.rdP _ ?_)
      | ((with_reducible show RDL _ (loadVar _ (Addr.add _ _)) _ _); refine h.rdL _ ?_)
      | ((with_reducible show RDT _ (loadVar _ (Addr.add _ _)) _ _); refine h.rdT _ ?_)
      | ((with_reducible show RUNU _ (storeVar _ (Addr.add _ _) _) _ _); refine h.st _ fun w' h => ?_)
      | ((with_reducible show RDI _ (loadVar _ ⟨_, _, _⟩) _ _ _); refine h.rdvI ?_)
      | ((with_reducible show RDB _ (loadVar _ ⟨_, _, _⟩) _ _); refine h.rdvB ?_)
      | ((with_reducible show RDP _ (loadVar _ ⟨_, _, _⟩) _ _); refine h.rdvP ?_)
      | ((with_reducible show RDL _ (loadVar _ ⟨_, _, _⟩) _ _); refine h.rdvL ?_)
      | ((with_reducible show RDT _ (loadVar _ ⟨_, _, _⟩) _ _); refine h.rdvT ?_)
      | ((with_reducible show RD _ (loadVar _ ⟨_, _, _⟩) _ _); refine h.rdG ?_; first | refine ⟨_, rfl, ?_⟩ | refine ⟨_, _, rfl, ?_⟩ | refine ⟨_, _, _, rfl, ?_⟩ | refine ⟨_, _, _, _, rfl, ?_⟩ | refine ⟨_, _, _, _, _, rfl, ?_⟩ | refine ⟨_, _, _, _, _, _, rfl, ?_⟩ | refine ⟨_, _, _, _, _, _, _, rfl, ?_⟩ | refine ⟨_, _, _, _, _, _, _, _, rfl, ?_⟩ | refine ⟨_, _, _, _, _, _, _, _, _, rfl, ?_⟩)
      | ((with_reducible show RUNU _ (storeVar _ ⟨_, _, _⟩ (.agg _)) _ _); refine h.stG fun w' h => ?_)
      | ((with_reducible show RUNU _ (storeVar _ ⟨_, _, _⟩ _) _ _); refine h.stV fun w' h => ?_))
    refine h.ix (z := 8) (i := 0) (y := x) (RdIn.own (.tail .head)) rfl (fun a ha => ?_) (by simp)
    subst ha
    refine h.rdEG (i := 0) (y := x) (RdIn.own (.tail .head)) rfl ⟨_, _, _, _, _, _, _, _, _, rfl, ?_⟩
    repeat' (first
      | ((with_reducible show NILC (some _) _); refine nilc ?_)
      | ((with_reducible show RDI _ (loadVar _ (Addr.add (Addr.add ⟨_, 0, none⟩ _) _)) _ _ _); refine h.rdI2 _ _ ?_)
      | ((with_reducible show RDB _ (loadVar _ (Addr.add (Addr.add ⟨_, 0, none⟩ _) _)) _ _); refine h.rdB2 _ _ ?_)
      | ((with_reducible show RDP _ (loadVar _ (Addr.add (Addr.add ⟨_, 0, none⟩ _) _)) _ _); refine h.rdP2 _ _ ?_)
      | ((with_reducible show RDL _ (loadVar _ (Addr.add (Addr.add ⟨_, 0, none⟩ _) _)) _ _); refine h.rdL2 _ _ ?_)
      | ((with_reducible show RDI _ (loadVar _ (Addr.add _ _)) _ _ _); refine h.rdI _ ?_)
      | ((with_reducible show RDB _ (loadVar _ (Addr.add _ _)) _ _); refine h.rdB _ ?_)
      | ((with_reducible show RDP _ (loadVar _ (Addr.add _ _)) _ _); refine h.rdP _ ?_)
      | ((with_reducible show RDL _ (loadVar _ (Addr.add _ _)) _ _); refine h.rdL _ ?_)
      | ((with_reducible show RDT _ (loadVar _ (Addr.add _ _)) _ _); refine h.rdT _ ?_)
      | ((with_reducible show RUNU _ (storeVar _ (Addr.add _ _) _) _ _); refine h.st _ fun w' h => ?_)
      | ((with_reducible show RDI _ (loadVar _ ⟨_, _, _⟩) _ _ _); refine h.rdvI ?_)
      | ((with_reducible show RDB _ (loadVar _ ⟨_, _, _⟩) _ _); refine h.rdvB ?_)
      | ((with_reducible show RDP _ (loadVar _ ⟨_, _, _⟩) _ _); refine h.rdvP ?_)
      | ((with_reducible show RDL _ (loadVar _ ⟨_, _, _⟩) _ _); refine h.rdvL ?_)
      | ((with_reducible show RDT _ (loadVar _ ⟨_, _, _⟩) _ _); refine h.rdvT ?_)
      | ((with_reducible show RD _ (loadVar _ ⟨_, _, _⟩) _ _); refine h.rdG ?_; first | refine ⟨_, rfl, ?_⟩ | refine ⟨_, _, rfl, ?_⟩ | refine ⟨_, _, _, rfl, ?_⟩ | refine ⟨_, _, _, _, rfl, ?_⟩ | refine ⟨_, _, _, _, _, rfl, ?_⟩ | refine ⟨_, _, _, _, _, _, rfl, ?_⟩ | refine ⟨_, _, _, _, _, _, _, rfl, ?_⟩ | refine ⟨_, _, _, _, _, _, _, _, rfl, ?_⟩ | refine ⟨_, _, _, _, _, _, _, _, _, rfl, ?_⟩)
      | ((with_reducible show RUNU _ (storeVar _ ⟨_, _, _⟩ (.agg _)) _ _); refine h.stG fun w' h => ?_)
      | ((with_reducible show RUNU _ (storeVar _ ⟨_, _, _⟩ _) _ _); refine h.stV fun w' h => ?_))
    exact hk _ (back _ _ h.to)

/-! ### The document -/
theorem rOne_ok (h : St c w L) (x : Ch) {Q : Value → World → Prop} (hk : ∀ w', St c w' L → Q (chv x) w') : CALL PG 82 [chv x] w Q := by
  refine call82 ?_
  unfold N82
  refine h.box fun p1 w' h => ?_
  refine h.allocG (cs := ch ch0) tiC fun p2 w' h => ?_
  repeat' (first
    | ((with_reducible show NILC (some _) _); refine nilc ?_)
    | ((with_reducible show RDI _ (loadVar _ (Addr.add (Addr.add ⟨_, 0, none⟩ _) _)) _ _ _); refine h.rdI2 _ _ ?_)
    | ((with_reducible show RDB _ (loadVar _ (Addr.add (Addr.add ⟨_, 0, none⟩ _) _)) _ _); refine h.rdB2 _ _ ?_)
    | ((with_reducible show RDP _ (loadVar _ (Addr.add (Addr.add ⟨_, 0, none⟩ _) _)) _ _); refine h.rdP2 _ _ ?_)
    | ((with_reducible show RDL _ (loadVar _ (Addr.add (Addr.add ⟨_, 0, none⟩ _) _)) _ _); refine h.rdL2 _ _ ?_)
    | ((with_reducible show RDI _ (loadVar _ (Addr.add _ _)) _ _ _); refine h.rdI _ ?_)
    | ((with_reducible show RDB _ (loadVar _ (Addr.add _ _)) _ _); refine h.rdB _ ?_)
    | ((with_reducible show RDP _ (loadVar _ (Addr.add _ _)) _ _); refine h.rdP _ ?_)
    | ((with_reducible show RDL _ (loadVar _ (Addr.add _ _)) _ _); refine h.rdL _ ?_)
    | ((with_reducible show RDT _ (loadVar _ (Addr.add _ _)) _ _); refine h.rdT _ ?_)
    | ((with_reducible show RUNU _ (storeVar _ (Addr.add _ _) _) _ _); refine h.st _ fun w' h => ?_)
    | ((with_reducible show RDI _ (loadVar _ ⟨_, _, _⟩) _ _ _); refine h.rdvI ?_)
    | ((with_reducible show RDB _ (loadVar _ ⟨_, _, _⟩) _ _); refine h.rdvB ?_)
    | ((with_reducible show RDP _ (loadVar _ ⟨_, _, _⟩) _ _); refine h.rdvP ?_)
    | ((with_reducible show RDL _ (loadVar _ ⟨_, _, _⟩) _ _); refine h.rdvL ?_)
    | ((with_reducible show RDT _ (loadVar _ ⟨_, _, _⟩) _ _); refine h.rdvT ?_)
    | ((with_reducible show RD _ (loadVar _ ⟨_, _, _⟩) _ _); refine h.rdG ?_; first | refine ⟨_, rfl, ?_⟩ | refine ⟨_, _, rfl, ?_⟩ | refine ⟨_, _, _, rfl, ?_⟩ | refine ⟨_, _, _, _, rfl, ?_⟩ | refine ⟨_, _, _, _, _, rfl, ?_⟩ | refine ⟨_, _, _, _, _, _, rfl, ?_⟩ | refine ⟨_, _, _, _, _, _, _, rfl, ?_⟩ | refine ⟨_, _, _, _, _, _, _, _, rfl, ?_⟩ | refine ⟨_, _, _, _, _, _, _, _, _, rfl, ?_⟩)
    | ((with_reducible show RUNU _ (storeVar _ ⟨_, _, _⟩ (.agg _)) _ _); refine h.stG fun w' h => ?_)
    | ((with_reducible show RUNU _ (storeVar _ ⟨_, _, _⟩ _) _ _); refine h.stV fun w' h => ?_))
  have e : (Instr.build 130 #[(0, .int .u64 x.frm), (1, .int .i64 x.len), (2, .bool x.fin), (3, .int .i64 x.flow), (4, .int .u32 x.endv), (5, .int .i64 x.sent), (6, .int .i64 x.tries), (7, .bool x.came), (8, .bool x.lost)]).run PG w' = .ok (chv x) w' := by kernel_rfl
  refine RD.of e ⟨_, _, _, _, _, _, _, _, _, rfl, ?_⟩
  repeat' (first
    | ((with_reducible show NILC (some _) _); refine nilc ?_)
    | ((with_reducible show RDI _ (loadVar _ (Addr.add (Addr.add ⟨_, 0, none⟩ _) _)) _ _ _); refine h.rdI2 _ _ ?_)
    | ((with_reducible show RDB _ (loadVar _ (Addr.add (Addr.add ⟨_, 0, none⟩ _) _)) _ _); refine h.rdB2 _ _ ?_)
    | ((with_reducible show RDP _ (loadVar _ (Addr.add (Addr.add ⟨_, 0, none⟩ _) _)) _ _); refine h.rdP2 _ _ ?_)
    | ((with_reducible show RDL _ (loadVar _ (Addr.add (Addr.add ⟨_, 0, none⟩ _) _)) _ _); refine h.rdL2 _ _ ?_)
    | ((with_reducible show RDI _ (loadVar _ (Addr.add _ _)) _ _ _); refine h.rdI _ ?_)
    | ((with_reducible show RDB _ (loadVar _ (Addr.add _ _)) _ _); refine h.rdB _ ?_)
    | ((with_reducible show RDP _ (loadVar _ (Addr.add _ _)) _ _); refine h.rdP _ ?_)
    | ((with_reducible show RDL _ (loadVar _ (Addr.add _ _)) _ _); refine h.rdL _ ?_)
    | ((with_reducible show RDT _ (loadVar _ (Addr.add _ _)) _ _); refine h.rdT _ ?_)
    | ((with_reducible show RUNU _ (storeVar _ (Addr.add _ _) _) _ _); refine h.st _ fun w' h => ?_)
    | ((with_reducible show RDI _ (loadVar _ ⟨_, _, _⟩) _ _ _); refine h.rdvI ?_)
    | ((with_reducible show RDB _ (loadVar _ ⟨_, _, _⟩) _ _); refine h.rdvB ?_)
    | ((with_reducible show RDP _ (loadVar _ ⟨_, _, _⟩) _ _); refine h.rdvP ?_)
    | ((with_reducible show RDL _ (loadVar _ ⟨_, _, _⟩) _ _); refine h.rdvL ?_)
    | ((with_reducible show RDT _ (loadVar _ ⟨_, _, _⟩) _ _); refine h.rdvT ?_)
    | ((with_reducible show RD _ (loadVar _ ⟨_, _, _⟩) _ _); refine h.rdG ?_; first | refine ⟨_, rfl, ?_⟩ | refine ⟨_, _, rfl, ?_⟩ | refine ⟨_, _, _, rfl, ?_⟩ | refine ⟨_, _, _, _, rfl, ?_⟩ | refine ⟨_, _, _, _, _, rfl, ?_⟩ | refine ⟨_, _, _, _, _, _, rfl, ?_⟩ | refine ⟨_, _, _, _, _, _, _, rfl, ?_⟩ | refine ⟨_, _, _, _, _, _, _, _, rfl, ?_⟩ | refine ⟨_, _, _, _, _, _, _, _, _, rfl, ?_⟩)
    | ((with_reducible show RUNU _ (storeVar _ ⟨_, _, _⟩ (.agg _)) _ _); refine h.stG fun w' h => ?_)
    | ((with_reducible show RUNU _ (storeVar _ ⟨_, _, _⟩ _) _ _); refine h.stV fun w' h => ?_))
  exact hk _ h.drop.drop
theorem tiCx : True := trivial
theorem rPlain_ok (h : St c w L) {A : Option Addr} {k : Nat} (hr : RdIn L A (l.flatMap ch)) (hl : l.length ≤ 1000) {Q : Value → World → Prop} (hk : ∀ O oc w', St c w' (own 130 9 O l.length oc (l.flatMap ch) :: L) → Q (.slice O l.length oc) w') :
    CALL PG 79 [.slice A l.length k] w Q := by
  refine call79 ?_
  unfold N79
  refine ⟨fun m O n oc i w' => ∃ j : Nat, j + m = l.length ∧ i = (j : Int) ∧ j = n ∧ St c w' (own 130 9 O n oc ((l.take j).flatMap ch) :: L), ⟨l.length, 0, by omega, rfl, rfl, by simpa using h.addOwnNil 130 9⟩, ?_⟩
  rintro m O n oc _ w' ⟨j, hj, rfl, rfl, h⟩
  refine ifd (fun hlt => ?_) fun hge => ?_
  rotate_left
  · have : j = l.length := by omega
    subst this
    rw [List.take_length] at h
    exact hk O oc w' h
  obtain ⟨x, hx⟩ := ex_get (L := l) (j := j) (by omega)
  refine h.ix (z := 8) hr.more hx fun a ha => ?_
  subst ha
  refine h.rdEG hr.more hx ⟨_, _, _, _, _, _, _, _, _, rfl, ?_⟩
  refine rOne_ok h x fun w' h => ⟨_, _, _, _, _, _, _, _, _, rfl, ?_⟩
  refine h.app1 huC tiC (ch x) .head (ch_flat1 x) (by omega) fun O' oc' w' h => ?_
  refine leti (y := ((j + 1 : Nat) : Int)) (wrap_i64 (by omega) (by omega)) ⟨m - 1, by omega, j + 1, by omega, rfl, rfl, ?_⟩
  rw [take_snoc' hx, List.flatMap_append, List.flatMap_cons, List.flatMap_nil, List.append_nil]
  exact h
theorem rSame_ok (h : St c w L) {A B : Option Addr} {k d : Nat} (ha : RdIn L A (l.flatMap ch)) (hb : RdIn L B (l.flatMap ch)) (hl : l.length ≤ 1000) {Q : Value → World → Prop} (hk : ∀ w', St c w' L → Q (.bool true) w') :
    CALL PG 78 [.slice A l.length k, .slice B l.length d] w Q := by
  refine call78 ?_
  unfold N78
  refine iff_ (by simp) ⟨fun m i w' => ∃ j : Nat, j + m = l.length ∧ i = (j : Int) ∧ St c w' L, ⟨l.length, 0, by omega, rfl, h⟩, ?_⟩
  rintro m _ w' ⟨j, hj, rfl, h⟩
  refine ifd (fun hlt => ?_) fun hge => hk w' h
  obtain ⟨x, hx⟩ := ex_get (L := l) (j := j) (by omega)
  have h := h.drew
  refine h.ix (z := 8) ha hx fun a e1 => ?_
  subst e1
  refine h.rdEG ha hx ⟨_, _, _, _, _, _, _, _, _, rfl, ?_⟩
  refine h.ix (z := 8) hb hx fun b e2 => ?_
  subst e2
  refine h.rdEG hb hx ⟨_, _, _, _, _, _, _, _, _, rfl, ?_⟩
  refine neqSame (xs := ch x) (iff_ rfl ?_)
  exact leti (y := ((j + 1 : Nat) : Int)) (wrap_i64 (by omega) (by omega)) ⟨m - 1, by omega, j + 1, by omega, rfl, h⟩
/-- The number behind a piece, the document's. -/
def rto (x : Ch) : Int := if 0 < x.len then (if x.fin then IntKind.u64.wrap (IntKind.u64.wrap (x.frm + IntKind.u64.wrap x.len) + 1) else IntKind.u64.wrap (x.frm + IntKind.u64.wrap x.len)) else (if x.fin then IntKind.u64.wrap (x.frm + 1) else x.frm)
theorem rto_eq {x : Ch} (h0 : 0 ≤ x.frm) (h1 : x.frm < 18446744073709551616) : rto x = toN x := by
  unfold rto toN
  have e0 : IntKind.u64.wrap 0 = 0 := rfl
  by_cases h : 0 < x.len
  · rw [if_pos h, show maxN x.len 0 = x.len by unfold maxN; rw [if_neg (by omega)]]
  · rw [if_neg h, show maxN x.len 0 = 0 by unfold maxN; split <;> omega, e0, show IntKind.u64.wrap (x.frm + 0) = x.frm by rw [u64w (by omega) (by omega)]; omega]
theorem rTo_ok (h : St c w L) (x : Ch) {Q : Value → World → Prop} (hk : ∀ w', St c w' L → Q (.int .u64 (rto x)) w') : CALL PG 84 [chv x] w Q := by
  refine call84 ?_
  unfold N84
  refine h.box fun p1 w' h => ?_
  repeat' (first
    | ((with_reducible show NILC (some _) _); refine nilc ?_)
    | ((with_reducible show RDI _ (loadVar _ (Addr.add (Addr.add ⟨_, 0, none⟩ _) _)) _ _ _); refine h.rdI2 _ _ ?_)
    | ((with_reducible show RDB _ (loadVar _ (Addr.add (Addr.add ⟨_, 0, none⟩ _) _)) _ _); refine h.rdB2 _ _ ?_)
    | ((with_reducible show RDP _ (loadVar _ (Addr.add (Addr.add ⟨_, 0, none⟩ _) _)) _ _); refine h.rdP2 _ _ ?_)
    | ((with_reducible show RDL _ (loadVar _ (Addr.add (Addr.add ⟨_, 0, none⟩ _) _)) _ _); refine h.rdL2 _ _ ?_)
    | ((with_reducible show RDI _ (loadVar _ (Addr.add _ _)) _ _ _); refine h.rdI _ ?_)
    | ((with_reducible show RDB _ (loadVar _ (Addr.add _ _)) _ _); refine h.rdB _ ?_)
    | ((with_reducible show RDP _ (loadVar _ (Addr.add _ _)) _ _); refine h.rdP _ ?_)
    | ((with_reducible show RDL _ (loadVar _ (Addr.add _ _)) _ _); refine h.rdL _ ?_)
    | ((with_reducible show RDT _ (loadVar _ (Addr.add _ _)) _ _); refine h.rdT _ ?_)
    | ((with_reducible show RUNU _ (storeVar _ (Addr.add _ _) _) _ _); refine h.st _ fun w' h => ?_)
    | ((with_reducible show RDI _ (loadVar _ ⟨_, _, _⟩) _ _ _); refine h.rdvI ?_)
    | ((with_reducible show RDB _ (loadVar _ ⟨_, _, _⟩) _ _); refine h.rdvB ?_)
    | ((with_reducible show RDP _ (loadVar _ ⟨_, _, _⟩) _ _); refine h.rdvP ?_)
    | ((with_reducible show RDL _ (loadVar _ ⟨_, _, _⟩) _ _); refine h.rdvL ?_)
    | ((with_reducible show RDT _ (loadVar _ ⟨_, _, _⟩) _ _); refine h.rdvT ?_)
    | ((with_reducible show RD _ (loadVar _ ⟨_, _, _⟩) _ _); refine h.rdG ?_; first | refine ⟨_, rfl, ?_⟩ | refine ⟨_, _, rfl, ?_⟩ | refine ⟨_, _, _, rfl, ?_⟩ | refine ⟨_, _, _, _, rfl, ?_⟩ | refine ⟨_, _, _, _, _, rfl, ?_⟩ | refine ⟨_, _, _, _, _, _, rfl, ?_⟩ | refine ⟨_, _, _, _, _, _, _, rfl, ?_⟩ | refine ⟨_, _, _, _, _, _, _, _, rfl, ?_⟩ | refine ⟨_, _, _, _, _, _, _, _, _, rfl, ?_⟩)
    | ((with_reducible show RUNU _ (storeVar _ ⟨_, _, _⟩ (.agg _)) _ _); refine h.stG fun w' h => ?_)
    | ((with_reducible show RUNU _ (storeVar _ ⟨_, _, _⟩ _) _ _); refine h.stV fun w' h => ?_))
  refine leti rfl ?_
  repeat' (first
    | ((with_reducible show NILC (some _) _); refine nilc ?_)
    | ((with_reducible show RDI _ (loadVar _ (Addr.add (Addr.add ⟨_, 0, none⟩ _) _)) _ _ _); refine h.rdI2 _ _ ?_)
    | ((with_reducible show RDB _ (loadVar _ (Addr.add (Addr.add ⟨_, 0, none⟩ _) _)) _ _); refine h.rdB2 _ _ ?_)
    | ((with_reducible show RDP _ (loadVar _ (Addr.add (Addr.add ⟨_, 0, none⟩ _) _)) _ _); refine h.rdP2 _ _ ?_)
    | ((with_reducible show RDL _ (loadVar _ (Addr.add (Addr.add ⟨_, 0, none⟩ _) _)) _ _); refine h.rdL2 _ _ ?_)
    | ((with_reducible show RDI _ (loadVar _ (Addr.add _ _)) _ _ _); refine h.rdI _ ?_)
    | ((with_reducible show RDB _ (loadVar _ (Addr.add _ _)) _ _); refine h.rdB _ ?_)
    | ((with_reducible show RDP _ (loadVar _ (Addr.add _ _)) _ _); refine h.rdP _ ?_)
    | ((with_reducible show RDL _ (loadVar _ (Addr.add _ _)) _ _); refine h.rdL _ ?_)
    | ((with_reducible show RDT _ (loadVar _ (Addr.add _ _)) _ _); refine h.rdT _ ?_)
    | ((with_reducible show RUNU _ (storeVar _ (Addr.add _ _) _) _ _); refine h.st _ fun w' h => ?_)
    | ((with_reducible show RDI _ (loadVar _ ⟨_, _, _⟩) _ _ _); refine h.rdvI ?_)
    | ((with_reducible show RDB _ (loadVar _ ⟨_, _, _⟩) _ _); refine h.rdvB ?_)
    | ((with_reducible show RDP _ (loadVar _ ⟨_, _, _⟩) _ _); refine h.rdvP ?_)
    | ((with_reducible show RDL _ (loadVar _ ⟨_, _, _⟩) _ _); refine h.rdvL ?_)
    | ((with_reducible show RDT _ (loadVar _ ⟨_, _, _⟩) _ _); refine h.rdvT ?_)
    | ((with_reducible show RD _ (loadVar _ ⟨_, _, _⟩) _ _); refine h.rdG ?_; first | refine ⟨_, rfl, ?_⟩ | refine ⟨_, _, rfl, ?_⟩ | refine ⟨_, _, _, rfl, ?_⟩ | refine ⟨_, _, _, _, rfl, ?_⟩ | refine ⟨_, _, _, _, _, rfl, ?_⟩ | refine ⟨_, _, _, _, _, _, rfl, ?_⟩ | refine ⟨_, _, _, _, _, _, _, rfl, ?_⟩ | refine ⟨_, _, _, _, _, _, _, _, rfl, ?_⟩ | refine ⟨_, _, _, _, _, _, _, _, _, rfl, ?_⟩)
    | ((with_reducible show RUNU _ (storeVar _ ⟨_, _, _⟩ (.agg _)) _ _); refine h.stG fun w' h => ?_)
    | ((with_reducible show RUNU _ (storeVar _ ⟨_, _, _⟩ _) _ _); refine h.stV fun w' h => ?_))
  have fin := hk w' h.drop
  unfold rto at fin
  refine ifd (fun h1 => ?_) fun h1 => ?_
  · rw [if_pos (by omega)] at fin
    repeat' (first
      | ((with_reducible show NILC (some _) _); refine nilc ?_)
      | ((with_reducible show RDI _ (loadVar _ (Addr.add (Addr.add ⟨_, 0, none⟩ _) _)) _ _ _); refine h.rdI2 _ _ ?_)
      | ((with_reducible show RDB _ (loadVar _ (Addr.add (Addr.add ⟨_, 0, none⟩ _) _)) _ _); refine h.rdB2 _ _ ?_)
      | ((with_reducible show RDP _ (loadVar _ (Addr.add (Addr.add ⟨_, 0, none⟩ _) _)) _ _); refine h.rdP2 _ _ ?_)
      | ((with_reducible show RDL _ (loadVar _ (Addr.add (Addr.add ⟨_, 0, none⟩ _) _)) _ _); refine h.rdL2 _ _ ?_)
      | ((with_reducible show RDI _ (loadVar _ (Addr.add _ _)) _ _ _); refine h.rdI _ ?_)
      | ((with_reducible show RDB _ (loadVar _ (Addr.add _ _)) _ _); refine h.rdB _ ?_)
      | ((with_reducible show RDP _ (loadVar _ (Addr.add _ _)) _ _); refine h.rdP _ ?_)
      | ((with_reducible show RDL _ (loadVar _ (Addr.add _ _)) _ _); refine h.rdL _ ?_)
      | ((with_reducible show RDT _ (loadVar _ (Addr.add _ _)) _ _); refine h.rdT _ ?_)
      | ((with_reducible show RUNU _ (storeVar _ (Addr.add _ _) _) _ _); refine h.st _ fun w' h => ?_)
      | ((with_reducible show RDI _ (loadVar _ ⟨_, _, _⟩) _ _ _); refine h.rdvI ?_)
      | ((with_reducible show RDB _ (loadVar _ ⟨_, _, _⟩) _ _); refine h.rdvB ?_)
      | ((with_reducible show RDP _ (loadVar _ ⟨_, _, _⟩) _ _); refine h.rdvP ?_)
      | ((with_reducible show RDL _ (loadVar _ ⟨_, _, _⟩) _ _); refine h.rdvL ?_)
      | ((with_reducible show RDT _ (loadVar _ ⟨_, _, _⟩) _ _); refine h.rdvT ?_)
      | ((with_reducible show RD _ (loadVar _ ⟨_, _, _⟩) _ _); refine h.rdG ?_; first | refine ⟨_, rfl, ?_⟩ | refine ⟨_, _, rfl, ?_⟩ | refine ⟨_, _, _, rfl, ?_⟩ | refine ⟨_, _, _, _, rfl, ?_⟩ | refine ⟨_, _, _, _, _, rfl, ?_⟩ | refine ⟨_, _, _, _, _, _, rfl, ?_⟩ | refine ⟨_, _, _, _, _, _, _, rfl, ?_⟩ | refine ⟨_, _, _, _, _, _, _, _, rfl, ?_⟩ | refine ⟨_, _, _, _, _, _, _, _, _, rfl, ?_⟩)
      | ((with_reducible show RUNU _ (storeVar _ ⟨_, _, _⟩ (.agg _)) _ _); refine h.stG fun w' h => ?_)
      | ((with_reducible show RUNU _ (storeVar _ ⟨_, _, _⟩ _) _ _); refine h.stV fun w' h => ?_))
    refine leti rfl ?_
    repeat' (first
      | ((with_reducible show NILC (some _) _); refine nilc ?_)
      | ((with_reducible show RDI _ (loadVar _ (Addr.add (Addr.add ⟨_, 0, none⟩ _) _)) _ _ _); refine h.rdI2 _ _ ?_)
      | ((with_reducible show RDB _ (loadVar _ (Addr.add (Addr.add ⟨_, 0, none⟩ _) _)) _ _); refine h.rdB2 _ _ ?_)
      | ((with_reducible show RDP _ (loadVar _ (Addr.add (Addr.add ⟨_, 0, none⟩ _) _)) _ _); refine h.rdP2 _ _ ?_)
      | ((with_reducible show RDL _ (loadVar _ (Addr.add (Addr.add ⟨_, 0, none⟩ _) _)) _ _); refine h.rdL2 _ _ ?_)
      | ((with_reducible show RDI _ (loadVar _ (Addr.add _ _)) _ _ _); refine h.rdI _ ?_)
      | ((with_reducible show RDB _ (loadVar _ (Addr.add _ _)) _ _); refine h.rdB _ ?_)
      | ((with_reducible show RDP _ (loadVar _ (Addr.add _ _)) _ _); refine h.rdP _ ?_)
      | ((with_reducible show RDL _ (loadVar _ (Addr.add _ _)) _ _); refine h.rdL _ ?_)
      | ((with_reducible show RDT _ (loadVar _ (Addr.add _ _)) _ _); refine h.rdT _ ?_)
      | ((with_reducible show RUNU _ (storeVar _ (Addr.add _ _) _) _ _); refine h.st _ fun w' h => ?_)
      | ((with_reducible show RDI _ (loadVar _ ⟨_, _, _⟩) _ _ _); refine h.rdvI ?_)
      | ((with_reducible show RDB _ (loadVar _ ⟨_, _, _⟩) _ _); refine h.rdvB ?_)
      | ((with_reducible show RDP _ (loadVar _ ⟨_, _, _⟩) _ _); refine h.rdvP ?_)
      | ((with_reducible show RDL _ (loadVar _ ⟨_, _, _⟩) _ _); refine h.rdvL ?_)
      | ((with_reducible show RDT _ (loadVar _ ⟨_, _, _⟩) _ _); refine h.rdvT ?_)
      | ((with_reducible show RD _ (loadVar _ ⟨_, _, _⟩) _ _); refine h.rdG ?_; first | refine ⟨_, rfl, ?_⟩ | refine ⟨_, _, rfl, ?_⟩ | refine ⟨_, _, _, rfl, ?_⟩ | refine ⟨_, _, _, _, rfl, ?_⟩ | refine ⟨_, _, _, _, _, rfl, ?_⟩ | refine ⟨_, _, _, _, _, _, rfl, ?_⟩ | refine ⟨_, _, _, _, _, _, _, rfl, ?_⟩ | refine ⟨_, _, _, _, _, _, _, _, rfl, ?_⟩ | refine ⟨_, _, _, _, _, _, _, _, _, rfl, ?_⟩)
      | ((with_reducible show RUNU _ (storeVar _ ⟨_, _, _⟩ (.agg _)) _ _); refine h.stG fun w' h => ?_)
      | ((with_reducible show RUNU _ (storeVar _ ⟨_, _, _⟩ _) _ _); refine h.stV fun w' h => ?_))
    refine ifb (fun h2 => leti rfl (leti rfl ?_)) fun h2 => leti rfl ?_
    · rwa [if_pos h2] at fin
    · rwa [if_neg (by simp [h2])] at fin
  · rw [if_neg (by omega)] at fin
    repeat' (first
      | ((with_reducible show NILC (some _) _); refine nilc ?_)
      | ((with_reducible show RDI _ (loadVar _ (Addr.add (Addr.add ⟨_, 0, none⟩ _) _)) _ _ _); refine h.rdI2 _ _ ?_)
      | ((with_reducible show RDB _ (loadVar _ (Addr.add (Addr.add ⟨_, 0, none⟩ _) _)) _ _); refine h.rdB2 _ _ ?_)
      | ((with_reducible show RDP _ (loadVar _ (Addr.add (Addr.add ⟨_, 0, none⟩ _) _)) _ _); refine h.rdP2 _ _ ?_)
      | ((with_reducible show RDL _ (loadVar _ (Addr.add (Addr.add ⟨_, 0, none⟩ _) _)) _ _); refine h.rdL2 _ _ ?_)
      | ((with_reducible show RDI _ (loadVar _ (Addr.add _ _)) _ _ _); refine h.rdI _ ?_)
      | ((with_reducible show RDB _ (loadVar _ (Addr.add _ _)) _ _); refine h.rdB _ ?_)
      | ((with_reducible show RDP _ (loadVar _ (Addr.add _ _)) _ _); refine h.rdP _ ?_)
      | ((with_reducible show RDL _ (loadVar _ (Addr.add _ _)) _ _); refine h.rdL _ ?_)
      | ((with_reducible show RDT _ (loadVar _ (Addr.add _ _)) _ _); refine h.rdT _ ?_)
      | ((with_reducible show RUNU _ (storeVar _ (Addr.add _ _) _) _ _); refine h.st _ fun w' h => ?_)
      | ((with_reducible show RDI _ (loadVar _ ⟨_, _, _⟩) _ _ _); refine h.rdvI ?_)
      | ((with_reducible show RDB _ (loadVar _ ⟨_, _, _⟩) _ _); refine h.rdvB ?_)
      | ((with_reducible show RDP _ (loadVar _ ⟨_, _, _⟩) _ _); refine h.rdvP ?_)
      | ((with_reducible show RDL _ (loadVar _ ⟨_, _, _⟩) _ _); refine h.rdvL ?_)
      | ((with_reducible show RDT _ (loadVar _ ⟨_, _, _⟩) _ _); refine h.rdvT ?_)
      | ((with_reducible show RD _ (loadVar _ ⟨_, _, _⟩) _ _); refine h.rdG ?_; first | refine ⟨_, rfl, ?_⟩ | refine ⟨_, _, rfl, ?_⟩ | refine ⟨_, _, _, rfl, ?_⟩ | refine ⟨_, _, _, _, rfl, ?_⟩ | refine ⟨_, _, _, _, _, rfl, ?_⟩ | refine ⟨_, _, _, _, _, _, rfl, ?_⟩ | refine ⟨_, _, _, _, _, _, _, rfl, ?_⟩ | refine ⟨_, _, _, _, _, _, _, _, rfl, ?_⟩ | refine ⟨_, _, _, _, _, _, _, _, _, rfl, ?_⟩)
      | ((with_reducible show RUNU _ (storeVar _ ⟨_, _, _⟩ (.agg _)) _ _); refine h.stG fun w' h => ?_)
      | ((with_reducible show RUNU _ (storeVar _ ⟨_, _, _⟩ _) _ _); refine h.stV fun w' h => ?_))
    refine ifb (fun h2 => leti rfl (leti rfl ?_)) fun h2 => leti rfl ?_
    · rwa [if_pos h2] at fin
    · rwa [if_neg (by simp [h2])] at fin
end
end Go.Br
