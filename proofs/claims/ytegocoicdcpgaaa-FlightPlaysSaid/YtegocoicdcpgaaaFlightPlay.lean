/- The pieces under way, held; the list's other functions. -/
import Derived.Test.YtegocoicdcpgaaaNFlightPlay
import Derived.Test.YtegocoicdcpgaaaFlightLaw
import Derived.Test.YtegocoicdcpgaaaBrSep
set_option linter.unusedVariables false
namespace Go.Br
open Go
attribute [local irreducible] Addr.add

/-- A list of pieces. -/
@[irreducible] def flA (p : Nat) (mo : Int) (L : List Ch) : SA := ex fun (s : Option Addr × Nat) => sep (blk p 143 [.int .i64 mo, .slice s.1 L.length s.2]) (sep (own 46 9 s.1 L.length s.2 (L.flatMap ch)) (pr (1 ≤ mo ∧ mo ≤ 64 ∧ (L.length : Int) ≤ mo)))
section
variable {c : Ctx} {w : World} {L R : List SA} {p : Nat} {mo : Int} {l : List Ch}
theorem flOut (h : St c w L) (hp : Pick (flA p mo l) L R) : ∃ A k, St c w (blk p 143 [.int .i64 mo, .slice A l.length k] :: own 46 9 A l.length k (l.flatMap ch) :: R) ∧ 1 ≤ mo ∧ mo ≤ 64 ∧ (l.length : Int) ≤ mo := by
  have h := h.pick hp
  unfold flA at h
  obtain ⟨s, h⟩ := h.ex
  have h := h.split
  have h := h.swap.split
  have hc := h.pr (.tail .head)
  exact ⟨s.1, s.2, h.swap.drop.swap, hc⟩
theorem flIn {A : Option Addr} {k : Nat} (h : St c w (blk p 143 [.int .i64 mo, .slice A l.length k] :: own 46 9 A l.length k (l.flatMap ch) :: R)) (hc : 1 ≤ mo ∧ mo ≤ 64 ∧ (l.length : Int) ≤ mo) : St c w (flA p mo l :: R) := by
  have h1 := (h.addPr hc)
  have h2 : St c w (own 46 9 A l.length k (l.flatMap ch) :: pr (1 ≤ mo ∧ mo ≤ 64 ∧ (l.length : Int) ≤ mo) :: blk p 143 [.int .i64 mo, .slice A l.length k] :: R) := h1.to
  have h3 := h2.join.swap.join
  unfold flA
  exact h3.exi (A, k)
theorem flA_mk {A : Option Addr} {k : Nat} (h : FL w p A k l mo) : (flA p mo l).p (p :: fpA A) [] w := by
  unfold flA
  rw [ex_p]
  refine ⟨(A, k), ?_⟩
  rw [sep_p]
  refine ⟨[p], [], fpA A, [], rfl, rfl, blk_p.2 ⟨rfl, rfl, h.hp⟩, sep_p.2 ⟨fpA A, [], [], [], by simp, rfl, own_p.2 ⟨rfl, rfl, h.ho⟩, pr_p.2 ⟨rfl, rfl, h.m1, h.m2, h.hl⟩, by simp, by simp⟩, by simpa using h.ne, by simp⟩
theorem flA_out {F G : List Nat} (h : (flA p mo l).p F G w) : ∃ A k, FL w p A k l mo ∧ F = p :: fpA A ∧ G = [] := by
  unfold flA at h
  rw [ex_p] at h
  obtain ⟨⟨A, k⟩, h⟩ := h
  rw [sep_p] at h
  obtain ⟨F1, G1, F2, G2, rfl, rfl, h1, h2, h3, h4⟩ := h
  rw [sep_p] at h2
  obtain ⟨F3, G3, F4, G4, rfl, rfl, h5, h6, h7, h8⟩ := h2
  rw [blk_p] at h1
  rw [own_p] at h5
  rw [pr_p] at h6
  obtain ⟨rfl, rfl, h1⟩ := h1
  obtain ⟨rfl, rfl, h5⟩ := h5
  obtain ⟨rfl, rfl, h6⟩ := h6
  exact ⟨A, k, ⟨h1, h5, by simpa using h3, h6.1, h6.2.1, h6.2.2⟩, by simp, rfl⟩
theorem flGet (h : St c w L) (hp : Pick (flA p mo l) L R) : ∃ A k, FL w p A k l mo := by
  obtain ⟨F, G, h⟩ := h.get hp
  obtain ⟨A, k, h, _⟩ := flA_out h
  exact ⟨A, k, h⟩
theorem flSet (h : St c w L) (hp : Pick (flA p mo l) L R) : ∃ A k, FL w p A k l mo ∧ ∀ {w' : World} {A' : Option Addr} {k' : Nat} {l' : List Ch}, Kp (p :: fpA A) w w' → FL w' p A' k' l' mo → (∀ b ∈ fpA A', b ∈ fpA A ∨ w.heap.size ≤ b) → St c w' (flA p mo l' :: R) := by
  obtain ⟨F, G, h1, h2⟩ := (h.pick hp).open
  obtain ⟨A, k, h3, rfl, rfl⟩ := flA_out h1
  refine ⟨A, k, h3, fun {w' A' k' l'} hk h' hb => h2 hk (flA_mk h') (fun i hi => ?_) (by simp)⟩
  simp only [List.mem_cons] at hi ⊢
  rcases hi with rfl | hi
  · exact .inl (.inl rfl)
  · rcases hb i hi with h | h
    · exact .inl (.inr h)
    · exact .inr h

theorem fNew_ok (h : St c w L) {most : Int} {Q : Value → World → Prop} (hk : ∀ p w', St c w' (flA p (moOf most) [] :: L) → Q (.pointer (some ⟨p, 0, none⟩)) w') : CALL PG 30 [.int .i64 most] w Q :=
  new_ok fun w' k s h' => hk _ w' (h.new k (flA_mk h') (by simp [fpA]) (by simp))
theorem fLen_ok (h : St c w L) (hp : Pick (flA p mo l) L R) {Q : Value → World → Prop} (hk : Q (.int .i64 (l.length : Int)) w) : CALL PG 80 [.pointer (some ⟨p, 0, none⟩)] w Q := by
  obtain ⟨A, k, h'⟩ := flGet h hp
  exact len_ok h' hk
theorem fFree_ok (h : St c w L) (hp : Pick (flA p mo l) L R) {Q : Value → World → Prop} (hk : ∀ w', St c w' L → Q (.int .i64 (mo - (l.length : Int))) w') : CALL PG 81 [.pointer (some ⟨p, 0, none⟩)] w Q := by
  obtain ⟨A, k, h'⟩ := flGet h hp
  exact free_ok h' fun w' k => hk w' (h.keep k)
theorem fAdd_ok (h : St c w L) (hp : Pick (flA p mo l) L R) (x : Ch) {Q : Value → World → Prop} (hno : mo ≤ (l.length : Int) → ∀ w', St c w' L → Q (.bool false) w') (hyes : (l.length : Int) < mo → ∀ w', St c w' (flA p mo (l ++ [x]) :: R) → Q (.bool true) w') :
    CALL PG 31 [.pointer (some ⟨p, 0, none⟩), chv x] w Q := by
  obtain ⟨A, k, h', up⟩ := flSet h hp
  refine add_ok h' x (fun hc w' k => hno hc w' (h.keep k)) fun hc A' c' w' k' h2 hA => hyes hc w' (up k' h2 fun b hb => ?_)
  rcases hA with rfl | ⟨a, rfl, ha⟩
  · exact .inl hb
  · simp [fpA] at hb; subst hb; exact .inr ha
theorem fAll_ok (h : St c w L) (hp : Pick (flA p mo l) L R) {Q : Value → World → Prop} (hk : ∀ O oc w', St c w' (own 46 9 O l.length oc (l.flatMap ch) :: L) → Q (.slice O l.length oc) w') : CALL PG 35 [.pointer (some ⟨p, 0, none⟩)] w Q := by
  obtain ⟨A, k, h'⟩ := flGet h hp
  exact all_ok h' fun O oc w' k ho hf => hk O oc w' (h.new k (own_p.2 ⟨rfl, rfl, ho⟩) hf (by simp))
theorem fAgain_ok (h : St c w L) (hp : Pick (flA p mo l) L R) {Q : Value → World → Prop} (hk : ∀ w', St c w' L → Q (.tuple #[chv ((l.find? (·.lost)).getD ch0), .bool (l.find? (·.lost)).isSome]) w') : CALL PG 76 [.pointer (some ⟨p, 0, none⟩)] w Q := by
  obtain ⟨A, k, h'⟩ := flGet h hp
  exact again_ok h' fun w' k => hk w' (h.keep k)
theorem fTo_ok (h : St c w L) (x : Ch) {Q : Value → World → Prop} (hk : ∀ w', St c w' L → Q (.int .u64 (toN x)) w') : CALL PG 34 [chv x] w Q := to_ok x fun w' k => hk w' (h.keep k)
theorem fAcked_ok (h : St c w L) (hp : Pick (flA p mo l) L R) {tov : Int} {Q : Value → World → Prop}
    (hk : ∀ O oc w', St c w' (own 46 9 O (l.filter fun x => decide (toN x ≤ tov)).length oc ((l.filter fun x => decide (toN x ≤ tov)).flatMap ch) :: flA p mo (l.filter fun x => !decide (toN x ≤ tov)) :: R) → Q (.slice O (l.filter fun x => decide (toN x ≤ tov)).length oc) w') :
    CALL PG 33 [.pointer (some ⟨p, 0, none⟩), .int .u64 tov] w Q := by
  obtain ⟨F, G, h1, h2⟩ := (h.pick hp).open
  obtain ⟨A, k, h3, rfl, rfl⟩ := flA_out h1
  refine acked_ok h3 fun O oc A' c' w' k' h' hA ho hO => hk O oc w' ?_
  have h4 := h2 (A' := sep (own 46 9 O (l.filter fun x => decide (toN x ≤ tov)).length oc ((l.filter fun x => decide (toN x ≤ tov)).flatMap ch)) (flA p mo (l.filter fun x => !decide (toN x ≤ tov)))) (F' := fpA O ++ p :: fpA A') (G' := [] ++ []) (k'.mono (by simp))
    (sep_p.2 ⟨fpA O, [], p :: fpA A', [], rfl, rfl, own_p.2 ⟨rfl, rfl, ho⟩, flA_mk h', fun i hi => ⟨fun hc => ?_, by simp⟩, by simp⟩) ?_ (by simp)
  · exact h4.split
  · simp only [List.mem_cons] at hc
    rcases hc with rfl | hc
    · have := (hO _ hi).1; have := h3.lt; omega
    · exact (hO i hi).2 hc
  · intro i hi
    simp only [List.mem_append, List.mem_cons] at hi ⊢
    rcases hi with hi | rfl | hi
    · exact .inr (hO i hi).1
    · exact .inl (.inl rfl)
    · exact .inr (hA i hi)
theorem fTurned (h : St c w L) (hp : Pick (flA p mo l) L R) (t : Ch → Option Ch) {Q : Value → World → Prop} (hk : ∀ O oc w', St c w' (own 46 9 O (l.filterMap t).length oc ((l.filterMap t).flatMap ch) :: flA p mo (mk t l) :: R) → Q (.slice O (l.filterMap t).length oc) w') :
    ∃ A k, FL w p A k l mo ∧ Turned t w p A k l mo Q := by
  obtain ⟨F, G, h1, h2⟩ := (h.pick hp).open
  obtain ⟨A, k, h3, rfl, rfl⟩ := flA_out h1
  refine ⟨A, k, h3, fun O oc w' k' h' ho hO => hk O oc w' ?_⟩
  have h4 := h2 (A' := sep (own 46 9 O (l.filterMap t).length oc ((l.filterMap t).flatMap ch)) (flA p mo (mk t l))) (F' := fpA O ++ p :: fpA A) (G' := [] ++ []) (k'.mono (by simp; exact fun _ h => .inr h))
    (sep_p.2 ⟨fpA O, [], p :: fpA A, [], rfl, rfl, own_p.2 ⟨rfl, rfl, ho⟩, flA_mk h', fun i hi => ⟨fun hc => ?_, by simp⟩, by simp⟩) ?_ (by simp)
  · exact h4.split
  · simp only [List.mem_cons] at hc
    rcases hc with rfl | hc
    · have := hO _ hi; have := h3.lt; omega
    · have := hO i hi; have := h3.ltA i hc; omega
  · intro i hi
    simp only [List.mem_append] at hi ⊢
    rcases hi with hi | hi
    · exact .inr (hO i hi)
    · exact .inl hi
theorem fGone_ok (h : St c w L) (hp : Pick (flA p mo l) L R) {flow : Int} {Q : Value → World → Prop} (hk : ∀ O oc w', St c w' (own 46 9 O (l.filterMap (tGone flow)).length oc ((l.filterMap (tGone flow)).flatMap ch) :: flA p mo (mk (tGone flow) l) :: R) → Q (.slice O (l.filterMap (tGone flow)).length oc) w') :
    CALL PG 32 [.pointer (some ⟨p, 0, none⟩), .int .i64 flow] w Q := by
  obtain ⟨A, k, h1, h2⟩ := fTurned h hp _ hk
  exact gone_ok h1 h2
theorem fLate_ok (h : St c w L) (hp : Pick (flA p mo l) L R) {flow now wait : Int} {Q : Value → World → Prop} (hk : ∀ O oc w', St c w' (own 46 9 O (l.filterMap (tLate flow now wait)).length oc ((l.filterMap (tLate flow now wait)).flatMap ch) :: flA p mo (mk (tLate flow now wait) l) :: R) → Q (.slice O (l.filterMap (tLate flow now wait)).length oc) w') :
    CALL PG 92 [.pointer (some ⟨p, 0, none⟩), .int .i64 flow, .int .i64 now, .int .i64 wait] w Q := by
  obtain ⟨A, k, h1, h2⟩ := fTurned h hp _ hk
  exact late_ok h1 h2

def lessN (a b : Int) : Bool := decide (IntKind.i32.wrap (IntKind.u32.wrap (a - b)) < 0)
theorem less_ok {a b : Int} {Q : Value → World → Prop} (hk : Q (.bool (lessN a b)) w) : CALL PG 124 [.int .u32 a, .int .u32 b] w Q := by
  refine call124 ?_
  unfold N124
  exact letb rfl hk
/-- A piece that word of its path's numbers turns. -/
def tWord (flow ack : Int) (c : Ch) : Option Ch := if c.flow = flow ∧ 1 ≤ c.len ∧ c.came = false ∧ c.lost = false ∧ lessN ack c.endv = false then some { c with came := true } else none
theorem fWord_ok (h : St c w L) (hp : Pick (flA p mo l) L R) {flow ack : Int} {Q : Value → World → Prop} (hk : ∀ O oc w', St c w' (own 46 9 O (l.filterMap (tWord flow ack)).length oc ((l.filterMap (tWord flow ack)).flatMap ch) :: flA p mo (mk (tWord flow ack) l) :: R) → Q (.slice O (l.filterMap (tWord flow ack)).length oc) w') :
    CALL PG 114 [.pointer (some ⟨p, 0, none⟩), .int .i64 flow, .int .u32 ack] w Q := by
  refine call114 ?_
  unfold N114
  obtain ⟨A, k, h, hm1, hm2, hl⟩ := flOut h hp
  repeat' (first
    | ((with_reducible show NILC (some _) _); refine nilc ?_)
    | ((with_reducible show RDI _ (loadVar _ (Addr.add (Addr.add ⟨_, 0, none⟩ _) _)) _ _ _); refine h.rdI2 _ _ ?_)
    | ((with_reducible show RDB _ (loadVar _ (Addr.add (Addr.add ⟨_, 0, none⟩ _) _)) _ _); refine h.rdB2 _ _ ?_)
    | ((with_reducible show RDP _ (loadVar _ (Addr.add (Addr.add ⟨_, 0, none⟩ _) _)) _ _); refine h.rdP2 _ _ ?_)
    | ((with_reducible show RDL _ (loadVar _ (Addr.add (Addr.add ⟨_, 0, none⟩ _) _)) _ _); refine h.rdL2 _ _ ?_)
    | ((with_reducible show RDI _ (loadVar _ (Addr.add _ _)) _ _ _); refine h.rdI _ ?_)
    | ((with_reducible show RDB _ (loadVar _ (Addr.add _ _)) _ _); refine h.rdB _ ?_)
    | ((with_reducible show RDP _ (loadVar _ (Addr.add _ _)) _ _); refine h.rdP _ ?_)
    | ((with_reducible show RDL _ (loadVar _ (Addr.add _ _)) _ _); refine h.rdL _ ?_)
    | ((with_reducible show RDT _ (loadVar _ (Addr.add _ _)) _ _); refine h.rdT _ ?_)
    | ((with_reducible show RUNU _ (storeVar _ (Addr.add _ _) _) _ _); refine h.st _ fun w' h => ?_)
    | ((with_reducible show RDI _ (loadVar _ ⟨_, _, _⟩) _ _ _); refine h.rdvI ?_)
    | ((with_reducible show RDB _ (loadVar _ ⟨_, _, _⟩) _ _); refine h.rdvB ?_)
    | ((with_reducible show RDP _ (loadVar _ ⟨_, _, _⟩) _ _); refine h.rdvP ?_)
    | ((with_reducible show RDL _ (loadVar _ ⟨_, _, _⟩) _ _); refine h.rdvL ?_)
    | ((with_reducible show RDT _ (loadVar _ ⟨_, _, _⟩) _ _); refine h.rdvT ?_)
    | ((with_reducible show RD _ (loadVar _ ⟨_, _, _⟩) _ _); refine h.rdG ?_; first | refine ⟨_, rfl, ?_⟩ | refine ⟨_, _, rfl, ?_⟩ | refine ⟨_, _, _, rfl, ?_⟩ | refine ⟨_, _, _, _, rfl, ?_⟩ | refine ⟨_, _, _, _, _, rfl, ?_⟩ | refine ⟨_, _, _, _, _, _, rfl, ?_⟩ | refine ⟨_, _, _, _, _, _, _, rfl, ?_⟩ | refine ⟨_, _, _, _, _, _, _, _, rfl, ?_⟩ | refine ⟨_, _, _, _, _, _, _, _, _, rfl, ?_⟩)
    | ((with_reducible show RUNU _ (storeVar _ ⟨_, _, _⟩ (.agg _)) _ _); refine h.stG fun w' h => ?_)
    | ((with_reducible show RUNU _ (storeVar _ ⟨_, _, _⟩ _) _ _); refine h.stV fun w' h => ?_))
  refine ⟨fun m O n oc x w' => ∃ j : Nat, j + m = l.length ∧ x = (j : Int) ∧ n = ((l.take j).filterMap (tWord flow ack)).length ∧
    St c w' (blk p 143 [.int .i64 mo, .slice A l.length k] :: own 46 9 A l.length k ((midw (tWord flow ack) l j).flatMap ch) :: own 46 9 O n oc (((l.take j).filterMap (tWord flow ack)).flatMap ch) :: R), ⟨l.length, 0, by omega, rfl, rfl, ?_⟩, ?_⟩
  · have := h.addOwnNil 46 9
    rw [midw_zero]
    exact this.to
  rintro m O n oc _ w' ⟨j, hj, rfl, rfl, h⟩
  refine ifd (fun hlt => leti rfl ?_) fun hge => ?_
  rotate_left
  · rw [midw_all _ _ (by omega), List.take_of_length_le (by omega)] at h
    have h2 : St c w' (blk p 143 [.int .i64 mo, .slice A (mk (tWord flow ack) l).length k] :: own 46 9 A (mk (tWord flow ack) l).length k ((mk (tWord flow ack) l).flatMap ch) :: own 46 9 O (l.filterMap (tWord flow ack)).length oc ((l.filterMap (tWord flow ack)).flatMap ch) :: R) := by
      rw [show (mk (tWord flow ack) l).length = l.length by simp [mk]]; exact h
    have := hk O oc w' (flIn h2 (by simp [mk]; omega)).swap
    rw [List.take_of_length_le (by omega)]
    exact this
  obtain ⟨x, hx⟩ := ex_get (L := l) (j := j) (by omega)
  have next : (IntKind.i64.wrap ((j : Int) + 1)) = ((j + 1 : Nat) : Int) := wrap_i64 (by omega) (by omega)
  have hmx := midw_get (t := tWord flow ack) hx
  repeat' (first
    | ((with_reducible show NILC (some _) _); refine nilc ?_)
    | ((with_reducible show RDI _ (loadVar _ (Addr.add (Addr.add ⟨_, 0, none⟩ _) _)) _ _ _); refine h.rdI2 _ _ ?_)
    | ((with_reducible show RDB _ (loadVar _ (Addr.add (Addr.add ⟨_, 0, none⟩ _) _)) _ _); refine h.rdB2 _ _ ?_)
    | ((with_reducible show RDP _ (loadVar _ (Addr.add (Addr.add ⟨_, 0, none⟩ _) _)) _ _); refine h.rdP2 _ _ ?_)
    | ((with_reducible show RDL _ (loadVar _ (Addr.add (Addr.add ⟨_, 0, none⟩ _) _)) _ _); refine h.rdL2 _ _ ?_)
    | ((with_reducible show RDI _ (loadVar _ (Addr.add _ _)) _ _ _); refine h.rdI _ ?_)
    | ((with_reducible show RDB _ (loadVar _ (Addr.add _ _)) _ _); refine h.rdB _ ?_)
    | ((with_reducible show RDP _ (loadVar _ (Addr.add _ _)) _ _); refine h.rdP _ ?_)
    | ((with_reducible show RDL _ (loadVar _ (Addr.add _ _)) _ _); refine h.rdL _ ?_)
    | ((with_reducible show RDT _ (loadVar _ (Addr.add _ _)) _ _); refine h.rdT _ ?_)
    | ((with_reducible show RUNU _ (storeVar _ (Addr.add _ _) _) _ _); refine h.st _ fun w' h => ?_)
    | ((with_reducible show RDI _ (loadVar _ ⟨_, _, _⟩) _ _ _); refine h.rdvI ?_)
    | ((with_reducible show RDB _ (loadVar _ ⟨_, _, _⟩) _ _); refine h.rdvB ?_)
    | ((with_reducible show RDP _ (loadVar _ ⟨_, _, _⟩) _ _); refine h.rdvP ?_)
    | ((with_reducible show RDL _ (loadVar _ ⟨_, _, _⟩) _ _); refine h.rdvL ?_)
    | ((with_reducible show RDT _ (loadVar _ ⟨_, _, _⟩) _ _); refine h.rdvT ?_)
    | ((with_reducible show RD _ (loadVar _ ⟨_, _, _⟩) _ _); refine h.rdG ?_; first | refine ⟨_, rfl, ?_⟩ | refine ⟨_, _, rfl, ?_⟩ | refine ⟨_, _, _, rfl, ?_⟩ | refine ⟨_, _, _, _, rfl, ?_⟩ | refine ⟨_, _, _, _, _, rfl, ?_⟩ | refine ⟨_, _, _, _, _, _, rfl, ?_⟩ | refine ⟨_, _, _, _, _, _, _, rfl, ?_⟩ | refine ⟨_, _, _, _, _, _, _, _, rfl, ?_⟩ | refine ⟨_, _, _, _, _, _, _, _, _, rfl, ?_⟩)
    | ((with_reducible show RUNU _ (storeVar _ ⟨_, _, _⟩ (.agg _)) _ _); refine h.stG fun w' h => ?_)
    | ((with_reducible show RUNU _ (storeVar _ ⟨_, _, _⟩ _) _ _); refine h.stV fun w' h => ?_))
  refine h.ix (z := 8) (RdIn.own (.tail .head)) hmx fun a ha => ?_
  subst ha
  have skip : ∀ w', tWord flow ack x = none → St c w' (blk p 143 [.int .i64 mo, .slice (some a) l.length k] :: own 46 9 (some a) l.length k ((midw (tWord flow ack) l j).flatMap ch) :: own 46 9 O ((l.take j).filterMap (tWord flow ack)).length oc (((l.take j).filterMap (tWord flow ack)).flatMap ch) :: R) →
      ∃ m2, m2 < m ∧ ∃ j' : Nat, j' + m2 = l.length ∧ IntKind.i64.wrap ((j : Int) + 1) = (j' : Int) ∧ ((l.take j).filterMap (tWord flow ack)).length = ((l.take j').filterMap (tWord flow ack)).length ∧ 
        St c w' (blk p 143 [.int .i64 mo, .slice (some a) l.length k] :: own 46 9 (some a) l.length k ((midw (tWord flow ack) l j').flatMap ch) :: own 46 9 O ((l.take j).filterMap (tWord flow ack)).length oc (((l.take j').filterMap (tWord flow ack)).flatMap ch) :: R) := by
    intro w' ht h
    refine ⟨m - 1, by omega, j + 1, by omega, next, ?_⟩
    rw [fm_snoc_none hx ht, midw_same hx ht]
    exact ⟨rfl, h⟩
  refine h.rdEI 3 (RdIn.own (.tail .head)) hmx ?_
  refine ifn (fun h1 => skip _ (by simp [tWord, h1]) h) fun h1 => ?_
  refine h.rdEI 1 (RdIn.own (.tail .head)) hmx ?_
  refine ifd (fun h2 => skip _ (by unfold tWord; rw [if_neg (by omega)]) h) fun h2 => ?_
  refine h.rdEB 7 (RdIn.own (.tail .head)) hmx ?_
  refine ifb (fun h3 => skip _ (by simp [tWord, h3]) h) fun h3 => ?_
  refine h.rdEB 8 (RdIn.own (.tail .head)) hmx ?_
  refine ifb (fun h4 => skip _ (by simp [tWord, h4]) h) fun h4 => ?_
  refine h.rdEI 4 (RdIn.own (.tail .head)) hmx ?_
  refine less_ok ⟨_, rfl, ifb (fun h5 => skip _ (by simp [tWord, h5]) h) fun h5 => ?_⟩
  have ht : tWord flow ack x = some { x with came := true } := by unfold tWord; rw [if_pos ⟨h1, by omega, h3, h4, h5⟩]
  refine h.stEF (.tail .head) hmx { x with came := true } fun w' h => ?_
  rw [← midw_set hx ht] at h
  have hmx2 : (midw (tWord flow ack) l (j + 1))[j]? = some { x with came := true } := by
    rw [midw_set hx ht, List.getElem?_set_self (by rw [midw_length]; omega)]
  refine h.rdEG (RdIn.own .head) hmx2 ⟨_, _, _, _, _, _, _, _, _, rfl, ?_⟩
  have hln : ((l.take j).filterMap (tWord flow ack)).length ≤ 64 := by
    have := List.length_filterMap_le (tWord flow ack) (l.take j)
    rw [List.length_take] at this; omega
  refine h.app1 huCh tiCh (ch { x with came := true }) (.tail (.tail .head)) (ch_flat1 _) (by omega) fun O' oc' w' h => ?_
  refine ⟨m - 1, by omega, j + 1, by omega, next, ?_⟩
  rw [fm_snoc_some hx ht, List.length_append]
  refine ⟨rfl, ?_⟩
  rw [List.flatMap_append, List.flatMap_cons, List.flatMap_nil, List.append_nil]
  exact h.to
end
end Go.Br
