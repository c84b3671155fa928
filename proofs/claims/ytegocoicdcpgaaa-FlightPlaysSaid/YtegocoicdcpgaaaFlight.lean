/- The pieces under way: what a call of each of the list's functions does. -/
import Derived.Test.YtegocoicdcpgaaaNFlight
import Derived.Test.YtegocoicdcpgaaaBrMore
import Derived.Test.YtegocoicdcpgaaaBrSeat
set_option linter.unusedVariables false
namespace Go.Br
open Go

structure Ch where
  frm : Int
  len : Int
  fin : Bool
  flow : Int
  endv : Int
  sent : Int
  tries : Int
  came : Bool
  lost : Bool
def ch (c : Ch) : List Value := [.int .u64 c.frm, .int .i64 c.len, .bool c.fin, .int .i64 c.flow, .int .u32 c.endv, .int .i64 c.sent, .int .i64 c.tries, .bool c.came, .bool c.lost]
theorem ch_length (c : Ch) : (ch c).length = 9 := rfl
abbrev chv (c : Ch) : Value := .agg #[.int .u64 c.frm, .int .i64 c.len, .bool c.fin, .int .i64 c.flow, .int .u32 c.endv, .int .i64 c.sent, .int .i64 c.tries, .bool c.came, .bool c.lost]
def ch0 : Ch := ⟨0, 0, false, 0, 0, 0, 0, false, false⟩
theorem ch_flat1 (c : Ch) : Flat (ch c) := by intro v hv; simp [ch] at hv; rcases hv with rfl | rfl | rfl | rfl | rfl | rfl | rfl | rfl | rfl <;> rfl
theorem ch_flat (L : List Ch) : Flat (L.flatMap ch) := by
  intro v hv
  simp only [List.mem_flatMap] at hv
  obtain ⟨x, _, hx⟩ := hv
  exact ch_flat1 x v hx
theorem tiCh : TI PG 46 9 64 (chv ch0) := tiOf (by kernel_rfl)
theorem huCh : PG.underlying 47 = some (.slice 46) := by kernel_rfl
theorem litCh (c : Ch) (w : World) : (Instr.buildSlice 47 1 #[(0, chv c)]).run PG w = .ok (.slice (some ⟨w.heap.size, 0, none⟩) 1 1) (w.alloc (.cells (ch c).toArray 46)) := by kernel_rfl
theorem litCh0 (w : World) : (Instr.buildSlice 47 0 #[]).run PG w = .ok (.slice (some ⟨w.heap.size, 0, none⟩) 0 0) (w.alloc (.cells #[] 46)) := by kernel_rfl
theorem ldCh {w : World} {a : Addr} {c : Ch} (h : ∀ j v, (ch c)[j]? = some v → w.cell? (a.add j) = some v) : (loadVar 46 a).run PG w = .ok (chv c) w := ldAt (cs := ch c) (by kernel_rfl) (by kernel_rfl) h
theorem ldChB {w : World} {B T : Nat} {c : Ch} (h : Blk w B T (ch c)) : (loadVar 46 ⟨B, 0, none⟩).run PG w = .ok (chv c) w := ldAll h (by kernel_rfl) (by kernel_rfl)
theorem tmpCh {w : World} (c : Ch) {K : Addr → World → Prop} (hk : ∀ w', Kp [] w w' → w'.heap.size = w.heap.size + 1 → Blk w' w.heap.size 46 (ch c) → K ⟨w.heap.size, 0, none⟩ w') :
    RUN PG (Instr.alloc 46 true (.tuple #[])) w fun v2 w2 => ∃ a, v2 = .pointer (some a) ∧ RUNU PG (storeVar 46 a (chv c)) w2 fun w3 => K a w3 :=
  tmp1 (v := chv c) tiCh rfl rfl (ch_flat1 c) hk
theorem appCh {w : World} {A : Option Addr} {n c : Nat} {L : List Ch} (ho : Own w 46 9 A n c (L.flatMap ch)) (hn : n ≤ 1000000) (x : Ch) {K : Option Addr → Nat → Nat → World → Prop}
    (hk : ∀ A' c' w', Kp (fpA A) w w' → Own w' 46 9 A' (n + 1) c' ((L ++ [x]).flatMap ch) → (A' = A ∨ ∃ a, A' = some a ∧ w.heap.size ≤ a.block) → K A' (n + 1) c' w') :
    RUN PG (Instr.buildSlice 47 1 #[(0, chv x)]) w fun v5 w3 => ∃ (y : Option Addr) (N C : Nat), v5 = .slice y N C ∧ RUN PG (Builtin.append_ #[47, 47] 47 #[.slice A n c, .slice y N C]) w3 fun v6 w4 => ∃ (y : Option Addr) (yN yC : Nat), v6 = .slice y yN yC ∧ K y yN yC w4 :=
  app1 huCh tiCh rfl (by decide) (by decide) ho (litCh x) rfl (ch_flat1 x) (by omega) fun A' c' w' k h hA => hk A' c' w' k (by rw [List.flatMap_append, List.flatMap_cons, List.flatMap_nil, List.append_nil]; exact h) hA

/-- A list of pieces. -/
structure FL (w : World) (p : Nat) (A : Option Addr) (c : Nat) (L : List Ch) (mo : Int) : Prop where
  hp : Blk w p 143 [.int .i64 mo, .slice A L.length c]
  ho : Own w 46 9 A L.length c (L.flatMap ch)
  ne : p ∉ fpA A
  m1 : 1 ≤ mo
  m2 : mo ≤ 64
  hl : (L.length : Int) ≤ mo
theorem FL.kp {S : List Nat} {w w' : World} {p : Nat} {A : Option Addr} {c : Nat} {L : List Ch} {mo : Int} (h : FL w p A c L mo) (k : Kp S w w') (h1 : p ∉ S) (h2 : ∀ b ∈ fpA A, b ∉ S) : FL w' p A c L mo :=
  ⟨h.hp.kp k h1, h.ho.kp k h2, h.ne, h.m1, h.m2, h.hl⟩
theorem FL.keep {w w' : World} {p : Nat} {A : Option Addr} {c : Nat} {L : List Ch} {mo : Int} (h : FL w p A c L mo) (k : Kp [] w w') : FL w' p A c L mo := h.kp k (by simp) (by simp)
theorem FL.lt {w : World} {p : Nat} {A : Option Addr} {c : Nat} {L : List Ch} {mo : Int} (h : FL w p A c L mo) : p < w.heap.size := h.hp.lt
theorem FL.ltA {w : World} {p : Nat} {A : Option Addr} {c : Nat} {L : List Ch} {mo : Int} (h : FL w p A c L mo) : ∀ b ∈ fpA A, b < w.heap.size := h.ho.lt

def moOf (most : Int) : Int := minN (maxN most 1) 64
theorem moOf_ok (most : Int) : 1 ≤ moOf most ∧ moOf most ≤ 64 := by
  have h : 1 ≤ maxN most 1 := by unfold maxN; split <;> omega
  unfold moOf minN; split <;> omega
theorem new_ok {w : World} {most : Int} {Q : Value → World → Prop} (hk : ∀ w', Kp [] w w' → w'.heap.size = w.heap.size + 1 → FL w' w.heap.size none 0 [] (moOf most) → Q (.pointer (some ⟨w.heap.size, 0, none⟩)) w') : CALL PG 30 [.int .i64 most] w Q := by
  refine call30 ?_
  unfold N30
  have e : (Instr.build 143 #[(0, .int .i64 (minN (maxN most 1) 64))]).run PG w = .ok (.agg #[.int .i64 (minN (maxN most 1) 64), .slice none 0 0]) w := by kernel_rfl
  refine RD.of e ⟨_, _, _, _, rfl, box1 fun w' k s hb => ⟨_, rfl, hk w' k s ⟨hb, Own.nil _ _ _, by simp [fpA], (moOf_ok most).1, (moOf_ok most).2, by have := (moOf_ok most).1; simp; omega⟩⟩⟩
theorem len_ok {w : World} {p : Nat} {A : Option Addr} {c : Nat} {L : List Ch} {mo : Int} (h : FL w p A c L mo) {Q : Value → World → Prop} (hk : Q (.int .i64 (L.length : Int)) w) : CALL PG 80 [.pointer (some ⟨p, 0, none⟩)] w Q := by
  refine call80 ?_
  unfold N80
  exact RD.of (ld 1 h.hp rfl (by kernel_rfl)) ⟨_, _, _, rfl, leti rfl hk⟩
theorem free_ok {w : World} {p : Nat} {A : Option Addr} {c : Nat} {L : List Ch} {mo : Int} (h : FL w p A c L mo) {Q : Value → World → Prop} (hk : ∀ w', Kp [] w w' → Q (.int .i64 (mo - (L.length : Int))) w') : CALL PG 81 [.pointer (some ⟨p, 0, none⟩)] w Q := by
  refine call81 ?_
  unfold N81
  have := h.m2; have := h.hl; have := h.m1
  exact RD.of (ld 0 h.hp.drew rfl (by kernel_rfl)) ⟨_, rfl, RD.of (ld 1 h.hp.drew rfl (by kernel_rfl)) ⟨_, _, _, rfl, leti (wrap_i64 (by omega) (by omega)) (hk _ (Kp.drew w))⟩⟩

theorem add_ok {w : World} {p : Nat} {A : Option Addr} {c : Nat} {L : List Ch} {mo : Int} (h : FL w p A c L mo) (x : Ch) {Q : Value → World → Prop}
    (hno : mo ≤ (L.length : Int) → ∀ w', Kp [] w w' → Q (.bool false) w')
    (hyes : (L.length : Int) < mo → ∀ A' c' w', Kp (p :: fpA A) w w' → FL w' p A' c' (L ++ [x]) mo → (A' = A ∨ ∃ a, A' = some a ∧ w.heap.size ≤ a.block) → Q (.bool true) w') :
    CALL PG 31 [.pointer (some ⟨p, 0, none⟩), chv x] w Q := by
  refine call31 ?_
  unfold N31
  refine box1 fun w1 k1 s1 hb => ⟨_, rfl, ?_⟩
  have hd := (h.keep k1).keep (Kp.drew w1)
  refine RD.of (ld 1 hd.hp rfl (by kernel_rfl)) ⟨_, _, _, rfl, RD.of (ld 0 hd.hp rfl (by kernel_rfl)) ⟨_, rfl, ?_⟩⟩
  refine ifd (fun hge => hno hge _ (k1.then (Kp.drew w1))) fun hlt => ?_
  have hdd := hd.keep (Kp.drew w1.drew)
  have hm2 := h.m2
  refine ⟨fun w' => Kp (fpA A) w1.drew.drew w', (Kp.refl _).mono (by simp), ⟨_, fun w' k => ld 1 (hdd.hp.kp k h.ne) rfl (by kernel_rfl), _, _, _, rfl, ?_⟩⟩
  have hbn : w.heap.size ∉ fpA A := fun hc => Nat.lt_irrefl _ (h.ltA _ hc)
  refine ⟨_, fun w' k => ldChB (hb.drew.drew.kp k hbn), _, _, _, _, _, _, _, _, _, rfl, ?_⟩
  refine RUN.of (litCh x _) ⟨_, _, _, rfl, fun w' => Kp (fpA A) w1.drew.drew w', fun _ h => h, (alloc_kp _ _).mono (by simp), ?_⟩
  have ka := alloc_kp w1.drew.drew (.cells (ch x).toArray 46)
  have hrow : Row (w1.drew.drew.alloc (.cells (ch x).toArray 46)) (some ⟨w1.drew.drew.heap.size, 0, none⟩) (ch x) := by
    have := (Blk.new w1.drew.drew (ch x).toArray 46).row 0 9
    exact this
  refine append1 huCh tiCh rfl (by decide) (by decide) (hdd.ho.kp ka (by simp)) (m := 1) hrow rfl (ch_flat1 x) (by omega) fun A' c' w3 k3 ho3 hA3 => ⟨_, _, _, rfl, ?_⟩
  have K3 : Kp (fpA A) w1.drew.drew w3 := ka.trans k3 (by simp) (fun _ h _ => h)
  have hp3 := hdd.hp.kp K3 h.ne
  have sa := ka.size
  have sd : w1.drew.drew.heap.size = w.heap.size + 1 := s1
  have hA : A' = A ∨ ∃ a, A' = some a ∧ w.heap.size ≤ a.block := by
    rcases hA3 with h | ⟨a, h1, h2⟩
    · exact .inl h
    · exact .inr ⟨a, h1, by omega⟩
  refine st 1 hp3 (by kernel_rfl) rfl (by simp) fun w4 k4 s4 h4 => ?_
  have hne : p ∉ fpA A' := by
    intro hc
    exact apart_of (S := [p]) (by intro b hb hc; simp at hc; subst hc; exact h.ne hb) hA (by simp; exact h.lt) p hc (by simp)
  refine hyes (by omega) A' c' w4 (((k1.then (Kp.drew _)).then (Kp.drew _)).trans (K3.trans (R := p :: fpA A) k4 (fun i hi => List.mem_cons_of_mem _ hi) (fun i hi _ => by simp at hi; subst hi; simp)) (by simp) (fun i hi _ => hi)) ⟨?_, ?_, hne, h.m1, h.m2, ?_⟩ hA
  · rw [List.length_append]; exact h4
  · have := ho3.kp k4 (by intro b hb hc; simp at hc; subst hc; exact hne hb)
    rw [List.length_append, List.flatMap_append, List.flatMap_cons, List.flatMap_nil, List.append_nil]
    exact this
  · rw [List.length_append]; simp; omega

/-- The number behind a piece. -/
def toN (x : Ch) : Int := if x.fin then IntKind.u64.wrap (IntKind.u64.wrap (x.frm + IntKind.u64.wrap (maxN x.len 0)) + 1) else IntKind.u64.wrap (x.frm + IntKind.u64.wrap (maxN x.len 0))
theorem to_ok {w : World} (x : Ch) {Q : Value → World → Prop} (hk : ∀ w', Kp [] w w' → Q (.int .u64 (toN x)) w') : CALL PG 34 [chv x] w Q := by
  refine call34 ?_
  unfold N34
  refine box1 fun w1 k1 s1 hb => ⟨_, rfl, ?_⟩
  refine RD.of (ld 0 hb rfl (by kernel_rfl)) ⟨_, rfl, RD.of (ld 1 hb rfl (by kernel_rfl)) ⟨_, rfl, leti rfl ?_⟩⟩
  refine RD.of (ld 2 hb rfl (by kernel_rfl)) ⟨_, rfl, ?_⟩
  have := hk w1 k1
  unfold toN at this
  cases hf : x.fin with
  | true => rw [hf] at this; exact ift rfl (leti rfl (leti rfl this))
  | false => rw [hf] at this; exact iff_ rfl (leti rfl this)

/-- Pieces that something becomes of: what all are, and which. -/
def mk (t : Ch → Option Ch) (L : List Ch) : List Ch := L.map fun c => (t c).getD c
theorem get_set {α : Type} {L : List α} {j : Nat} {x y : α} (h : L[j]? = some x) : L.take (j + 1) = L.take j ++ [x] ∧ L.drop j = x :: L.drop (j + 1) := by
  refine ⟨by rw [List.take_add_one, h]; rfl, ?_⟩
  have hj := (List.getElem?_eq_some_iff.1 h)
  obtain ⟨h1, h2⟩ := hj
  rw [← h2]; exact List.drop_eq_getElem_cons h1
/-- A list of which a part has been gone through. -/
def midw (t : Ch → Option Ch) (L : List Ch) (j : Nat) : List Ch := mk t (L.take j) ++ L.drop j
theorem midw_length (t : Ch → Option Ch) (L : List Ch) (j : Nat) : (midw t L j).length = L.length := by simp [midw, mk]; omega
theorem midw_zero (t : Ch → Option Ch) (L : List Ch) : midw t L 0 = L := by simp [midw, mk]
theorem midw_all (t : Ch → Option Ch) (L : List Ch) {j : Nat} (h : L.length ≤ j) : midw t L j = mk t L := by simp [midw, List.take_of_length_le h, List.drop_eq_nil_of_le h]
theorem midw_get {t : Ch → Option Ch} {L : List Ch} {j : Nat} {x : Ch} (h : L[j]? = some x) : (midw t L j)[j]? = some x := by
  have hj : j < L.length := (List.getElem?_eq_some_iff.1 h).1
  unfold midw
  rw [List.getElem?_append_right (by simp [mk]; omega), (get_set (y := x) h).2]
  have : j - (mk t (L.take j)).length = 0 := by simp [mk]; omega
  rw [this]; rfl
theorem midw_same {t : Ch → Option Ch} {L : List Ch} {j : Nat} {x : Ch} (h : L[j]? = some x) (ht : t x = none) : midw t L (j + 1) = midw t L j := by
  unfold midw
  rw [(get_set (y := x) h).1, (get_set (y := x) h).2]
  simp [mk, ht]
theorem midw_set {t : Ch → Option Ch} {L : List Ch} {j : Nat} {x y : Ch} (h : L[j]? = some x) (ht : t x = some y) : midw t L (j + 1) = (midw t L j).set j y := by
  have hj : j < L.length := (List.getElem?_eq_some_iff.1 h).1
  unfold midw
  rw [List.set_append_right _ _ (by simp [mk]; omega)]
  have : j - (mk t (L.take j)).length = 0 := by simp [mk]; omega
  rw [this, (get_set (y := x) h).1, (get_set (y := x) h).2]
  simp [mk, ht]
theorem fm_snoc_none {t : Ch → Option Ch} {L : List Ch} {j : Nat} {x : Ch} (h : L[j]? = some x) (ht : t x = none) : (L.take (j + 1)).filterMap t = (L.take j).filterMap t := by
  rw [(get_set (y := x) h).1, List.filterMap_append]; simp [ht]
theorem fm_snoc_some {t : Ch → Option Ch} {L : List Ch} {j : Nat} {x y : Ch} (h : L[j]? = some x) (ht : t x = some y) : (L.take (j + 1)).filterMap t = (L.take j).filterMap t ++ [y] := by
  rw [(get_set (y := x) h).1, List.filterMap_append]; simp [ht]

/-- What holds while a list is gone through, some pieces are turned and gathered. -/
structure Walk (w w1 : World) (t : Ch → Option Ch) (p : Nat) (A : Option Addr) (c : Nat) (L : List Ch) (mo : Int) (j : Nat) (O : Option Addr) (n oc : Nat) : Prop where
  k : Kp (fpA A) w w1
  fl : FL w1 p A c (midw t L j) mo
  ow : Own w1 46 9 O n oc (((L.take j).filterMap t).flatMap ch)
  hn : n = ((L.take j).filterMap t).length
  fr : ∀ b ∈ fpA O, w.heap.size ≤ b
  lt : ∀ b ∈ fpA A, b < w.heap.size
  ltp : p < w.heap.size
theorem Walk.start {w : World} (t : Ch → Option Ch) {p : Nat} {A : Option Addr} {c : Nat} {L : List Ch} {mo : Int} (h : FL w p A c L mo) : Walk w w t p A c L mo 0 none 0 0 :=
  ⟨(Kp.refl w).mono (by simp), by rw [midw_zero]; exact h, by simpa using Own.nil w 46 9, by simp, by simp [fpA], h.ltA, h.lt⟩
theorem Walk.skip {w w1 : World} {t : Ch → Option Ch} {p : Nat} {A : Option Addr} {c : Nat} {L : List Ch} {mo : Int} {j : Nat} {O : Option Addr} {n oc : Nat} (h : Walk w w1 t p A c L mo j O n oc) {x : Ch} (hx : L[j]? = some x) (ht : t x = none) :
    Walk w w1 t p A c L mo (j + 1) O n oc :=
  ⟨h.k, by rw [midw_same hx ht]; exact h.fl, by rw [fm_snoc_none hx ht]; exact h.ow, by rw [fm_snoc_none hx ht]; exact h.hn, h.fr, h.lt, h.ltp⟩
theorem Walk.keep {w w1 w2 : World} {t : Ch → Option Ch} {p : Nat} {A : Option Addr} {c : Nat} {L : List Ch} {mo : Int} {j : Nat} {O : Option Addr} {n oc : Nat} (h : Walk w w1 t p A c L mo j O n oc) (k : Kp [] w1 w2) : Walk w w2 t p A c L mo j O n oc :=
  ⟨h.k.then (k.mono (by simp)), h.fl.keep k, h.ow.kp k (by simp), h.hn, h.fr, h.lt, h.ltp⟩
theorem Walk.hit {w w1 : World} {t : Ch → Option Ch} {p : Nat} {A : Option Addr} {c : Nat} {L : List Ch} {mo : Int} {j : Nat} {O : Option Addr} {n oc : Nat} (h : Walk w w1 t p A c L mo j O n oc) {x y : Ch} (hx : L[j]? = some x) (ht : t x = some y) {f : Nat} (hf : f < 9) {v : Value}
    (hy : ch y = (ch x).set f v) {tt : TypeId} (h1 : sizeAt PG tt = some 1) (hv : v.oneCell' = true) {a : Addr} (ha : A = some a) {K : Option Addr → Nat → Nat → World → Prop} (hk : ∀ O' n' oc' w', Walk w w' t p A c L mo (j + 1) O' n' oc' → K O' n' oc' w') :
    RUNU PG (storeVar tt (Addr.add (Addr.add a (Int.toNat (j : Int) * 9)) f) v) w1 fun w2 => RD PG (loadVar 46 (Addr.add a (Int.toNat (j : Int) * 9))) w2 fun v4 =>
      ∃ a0 : Int, ∃ a1 : Int, ∃ a2 : Bool, ∃ a3 : Int, ∃ a4 : Int, ∃ a5 : Int, ∃ a6 : Int, ∃ a7 : Bool, ∃ a8 : Bool, v4 = .agg #[.int .u64 a0, .int .i64 a1, .bool a2, .int .i64 a3, .int .u32 a4, .int .i64 a5, .int .i64 a6, .bool a7, .bool a8] ∧
      (RUN PG (Instr.buildSlice 47 1 #[(0, .agg #[.int .u64 a0, .int .i64 a1, .bool a2, .int .i64 a3, .int .u32 a4, .int .i64 a5, .int .i64 a6, .bool a7, .bool a8])]) w2 fun v5 w3 => ∃ (y : Option Addr) (N C : Nat), v5 = .slice y N C ∧
        RUN PG (Builtin.append_ #[47, 47] 47 #[.slice O n oc, .slice y N C]) w3 fun v6 w4 => ∃ (y : Option Addr) (yN yC : Nat), v6 = .slice y yN yC ∧ K y yN yC w4) := by
  subst ha
  have hm := midw_get (t := t) hx
  have hab : a.block < w.heap.size := h.lt _ (by simp [fpA])
  have hj : j < (midw t L j).length := (List.getElem?_eq_some_iff.1 hm).1
  refine st_own ch_length h.fl.ho hm hf hy h1 hv fun w2 k2 s2 ho2 => ?_
  have hy2 : ((midw t L j).set j y)[j]? = some y := List.getElem?_set_self hj
  obtain ⟨a', ea, hc⟩ := row_get ch_length (by decide) ho2.row hy2
  injection ea with ea
  subst ea
  refine RD.of (ldCh hc) ⟨_, _, _, _, _, _, _, _, _, rfl, ?_⟩
  have how := h.ow.kp k2 (by intro b hb hc; simp at hc; have := h.fr b hb; omega)
  have hnl : n ≤ 64 := by
    rw [h.hn]
    have h1 := List.length_filterMap_le t (L.take j)
    have h2 := h.fl.hl
    rw [midw_length] at h2
    have h3 := h.fl.m2
    simp at h1; omega
  refine appCh how (by omega) y fun O' oc' w4 k4 ho4 hO => hk O' (n + 1) oc' w4 ⟨?_, ?_, ?_, ?_, ?_, h.lt, h.ltp⟩
  · exact (h.k.then k2).trans k4 (fun _ h => h) fun i hi hlt => absurd (h.fr i hi) (by omega)
  · have e := midw_set hx ht
    have el : (midw t L (j + 1)).length = (midw t L j).length := by rw [midw_length, midw_length]
    have f2 : FL w2 p (some a) c (midw t L (j + 1)) mo := ⟨by rw [el]; exact h.fl.hp.kp k2 (by have := h.fl.ne; simpa [fpA] using this), by rw [el, e]; exact ho2, h.fl.ne, h.fl.m1, h.fl.m2, by rw [el]; exact h.fl.hl⟩
    exact f2.kp k4 (fun hc => absurd (h.fr _ hc) (by have := h.ltp; omega)) fun b hb hc => absurd (h.fr _ hc) (by have := h.lt _ hb; omega)
  · rw [fm_snoc_some hx ht]; exact ho4
  · rw [fm_snoc_some hx ht, List.length_append, ← h.hn]; rfl
  · exact fresh_of h.fr hO (by rw [s2]; exact h.k.size)
theorem Walk.at {w w1 : World} {t : Ch → Option Ch} {p : Nat} {A : Option Addr} {c : Nat} {L : List Ch} {mo : Int} {j : Nat} {O : Option Addr} {n oc : Nat} (h : Walk w w1 t p A c L mo j O n oc) {x : Ch} (hx : L[j]? = some x) :
    ∃ a, A = some a ∧ ∀ f v, (ch x)[f]? = some v → ∀ {tt : TypeId}, ldT PG tt = true → (loadVar tt (Addr.add (Addr.add a (Int.toNat (j : Int) * 9)) f)).run PG w1 = .ok v w1 := by
  obtain ⟨a, ea, hc⟩ := row_get ch_length (by decide) h.fl.ho.row (midw_get (t := t) hx)
  exact ⟨a, ea, fun f v hf tt ht => ldc (hc f v hf) ht⟩

def tGone (flow : Int) (c : Ch) : Option Ch := if c.flow = flow ∧ c.lost = false then some { c with lost := true } else none
def tLate (flow now wait : Int) (c : Ch) : Option Ch := if c.flow = flow ∧ c.came = false ∧ c.lost = false ∧ wait ≤ IntKind.i64.wrap (now - c.sent) then some { c with lost := true } else none

/-- What a call says that turns some pieces. -/
def Turned (t : Ch → Option Ch) (w : World) (p : Nat) (A : Option Addr) (c : Nat) (L : List Ch) (mo : Int) (Q : Value → World → Prop) : Prop :=
  ∀ O oc w', Kp (fpA A) w w' → FL w' p A c (mk t L) mo → Own w' 46 9 O (L.filterMap t).length oc ((L.filterMap t).flatMap ch) → (∀ b ∈ fpA O, w.heap.size ≤ b) → Q (.slice O (L.filterMap t).length oc) w'
theorem Walk.done {w w1 : World} {t : Ch → Option Ch} {p : Nat} {A : Option Addr} {c : Nat} {L : List Ch} {mo : Int} {j : Nat} {O : Option Addr} {n oc : Nat} (h : Walk w w1 t p A c L mo j O n oc) (hj : L.length ≤ j) {Q : Value → World → Prop} (hk : Turned t w p A c L mo Q) : Q (.slice O n oc) w1 := by
  have h1 := h.fl; have h2 := h.ow; have h3 := h.hn
  rw [midw_all _ _ hj] at h1
  rw [List.take_of_length_le hj] at h2 h3
  subst h3
  exact hk O oc w1 h.k h1 h2 h.fr

theorem gone_ok {w : World} {p : Nat} {A : Option Addr} {c : Nat} {L : List Ch} {mo : Int} (h : FL w p A c L mo) {flow : Int} {Q : Value → World → Prop} (hk : Turned (tGone flow) w p A c L mo Q) : CALL PG 32 [.pointer (some ⟨p, 0, none⟩), .int .i64 flow] w Q := by
  refine call32 ?_
  unfold N32
  have hml := h.hl; have hmo := h.m2
  refine RD.of (ld 1 h.hp rfl (by kernel_rfl)) ⟨_, _, _, rfl, ?_⟩
  refine ⟨fun m O n oc x w1 => ∃ j : Nat, j + m = L.length ∧ x = (j : Int) ∧ Walk w w1 (tGone flow) p A c L mo j O n oc, ⟨L.length, 0, by omega, rfl, Walk.start _ h⟩, ?_⟩
  rintro m O n oc _ w1 ⟨j, hj, rfl, W⟩
  refine ifd (fun hlt => leti rfl ?_) fun hge => W.done (by omega) hk
  obtain ⟨x, hx⟩ := ex_get (L := L) (j := j) (by omega)
  obtain ⟨a, ea, hc⟩ := W.at hx
  have next : (IntKind.i64.wrap ((j : Int) + 1)) = ((j + 1 : Nat) : Int) := wrap_i64 (by omega) (by omega)
  refine RD.of (ld 1 W.fl.hp rfl (by kernel_rfl)) ⟨_, _, _, rfl, ⟨by omega, by rw [midw_length]; omega⟩, a, ea, ?_⟩
  refine RD.of (hc 3 _ rfl (by kernel_rfl)) ⟨_, rfl, ?_⟩
  by_cases h1 : x.flow = flow
  · refine ift (by simp [h1]) (RD.of (hc 8 _ rfl (by kernel_rfl)) ⟨_, rfl, ?_⟩)
    by_cases h2 : x.lost = false
    · refine ift (by simp [h2]) (W.hit (y := { x with lost := true }) hx (by simp [tGone, h1, h2]) (by decide) rfl (by kernel_rfl) rfl ea fun O' n' oc' w' W' => ⟨m - 1, by omega, j + 1, by omega, next, W'⟩)
    · exact iff_ (by simp [h2]) ⟨m - 1, by omega, j + 1, by omega, next, W.skip hx (by simp [tGone, h2])⟩
  · exact iff_ (by simp [h1]) ⟨m - 1, by omega, j + 1, by omega, next, W.skip hx (by simp [tGone, h1])⟩
theorem late_ok {w : World} {p : Nat} {A : Option Addr} {c : Nat} {L : List Ch} {mo : Int} (h : FL w p A c L mo) {flow now wait : Int} {Q : Value → World → Prop} (hk : Turned (tLate flow now wait) w p A c L mo Q) : CALL PG 92 [.pointer (some ⟨p, 0, none⟩), .int .i64 flow, .int .i64 now, .int .i64 wait] w Q := by
  refine call92 ?_
  unfold N92
  have hml := h.hl; have hmo := h.m2
  refine RD.of (ld 1 h.hp rfl (by kernel_rfl)) ⟨_, _, _, rfl, ?_⟩
  refine ⟨fun m O n oc x w1 => ∃ j : Nat, j + m = L.length ∧ x = (j : Int) ∧ Walk w w1 (tLate flow now wait) p A c L mo j O n oc, ⟨L.length, 0, by omega, rfl, Walk.start _ h⟩, ?_⟩
  rintro m O n oc _ w1 ⟨j, hj, rfl, W⟩
  refine ifd (fun hlt => leti rfl ?_) fun hge => W.done (by omega) hk
  obtain ⟨x, hx⟩ := ex_get (L := L) (j := j) (by omega)
  obtain ⟨a, ea, hc⟩ := W.at hx
  have next : (IntKind.i64.wrap ((j : Int) + 1)) = ((j + 1 : Nat) : Int) := wrap_i64 (by omega) (by omega)
  refine RD.of (ld 1 W.fl.hp rfl (by kernel_rfl)) ⟨_, _, _, rfl, ⟨by omega, by rw [midw_length]; omega⟩, a, ea, ?_⟩
  refine RD.of (hc 3 _ rfl (by kernel_rfl)) ⟨_, rfl, ?_⟩
  have skip : tLate flow now wait x = none → ∃ m2, m2 < m ∧ ∃ j' : Nat, j' + m2 = L.length ∧ IntKind.i64.wrap ((j : Int) + 1) = (j' : Int) ∧ Walk w w1 (tLate flow now wait) p A c L mo j' O n oc := fun hn => ⟨m - 1, by omega, j + 1, by omega, next, W.skip hx hn⟩
  by_cases h1 : x.flow = flow
  · refine ift (by simp [h1]) (RD.of (hc 7 _ rfl (by kernel_rfl)) ⟨_, rfl, ?_⟩)
    by_cases h2 : x.came = false
    · refine ift (by simp [h2]) (RD.of (hc 8 _ rfl (by kernel_rfl)) ⟨_, rfl, ?_⟩)
      by_cases h3 : x.lost = false
      · refine ift (by simp [h3]) (RD.of (hc 5 _ rfl (by kernel_rfl)) ⟨_, rfl, ?_⟩)
        by_cases h4 : wait ≤ IntKind.i64.wrap (now - x.sent)
        · refine ift (by simpa using h4) (W.hit (y := { x with lost := true }) hx (by simp [tLate, h1, h2, h3, h4]) (by decide) rfl (by kernel_rfl) rfl ea fun O' n' oc' w' W' => ⟨m - 1, by omega, j + 1, by omega, next, W'⟩)
        · exact iff_ (by simpa using h4) (skip (by simp [tLate, h4]))
      · exact iff_ (by simp [h3]) (skip (by simp [tLate, h3]))
    · exact iff_ (by simp [h2]) (skip (by simp [tLate, h2]))
  · exact iff_ (by simp [h1]) (skip (by simp [tLate, h1]))

/-- All pieces, copied. -/
theorem clone_ok {w : World} {A : Option Addr} {c : Nat} {L : List Ch} (h : Own w 46 9 A L.length c (L.flatMap ch)) (hL : L.length ≤ 1000) {Q : Value → World → Prop}
    (hk : ∀ O oc w', Kp [] w w' → Own w' 46 9 O L.length oc (L.flatMap ch) → (∀ b ∈ fpA O, w.heap.size ≤ b) → Q (.slice O L.length oc) w') : CALL PG 91 [.slice A L.length c] w Q := by
  refine call91 ?_
  unfold N91
  cases A with
  | none =>
    have h0 : L.flatMap ch = [] := h.row.none
    have hl := flat_length ch_length L
    rw [h0] at hl
    have hl : L.length = 0 := by simp at hl; omega
    refine ift rfl ?_
    have := hk none 0 w (Kp.refl w) (by rw [hl, h0]; exact Own.nil _ _ _) (by simp [fpA])
    rwa [hl] at this
  | some a =>
    refine iff_ rfl (RUN.of (litCh0 w) ⟨_, _, _, rfl, ?_⟩)
    have ka := alloc_kp w (.cells #[] 46)
    have ho : Own (w.alloc (.cells #[] 46)) 46 9 (some ⟨w.heap.size, 0, none⟩) 0 0 [] := Own.made (c := 0) (Blk.new w #[] 46) rfl
    refine append1 huCh tiCh rfl (by decide) (by decide) ho (m := L.length) (h.row.keep ka) (flat_length ch_length L) (ch_flat L) (by omega) fun A' c' w' k ho' hA => ⟨_, _, _, rfl, ?_⟩
    rw [Nat.zero_add] at ho' ⊢
    have fr : ∀ b ∈ fpA A', w.heap.size ≤ b := fresh_of (by simp [fpA]) hA ka.size
    exact hk A' c' w' (ka.new k (by simp [fpA])) ho' fr
theorem all_ok {w : World} {p : Nat} {A : Option Addr} {c : Nat} {L : List Ch} {mo : Int} (h : FL w p A c L mo) {Q : Value → World → Prop}
    (hk : ∀ O oc w', Kp [] w w' → Own w' 46 9 O L.length oc (L.flatMap ch) → (∀ b ∈ fpA O, w.heap.size ≤ b) → Q (.slice O L.length oc) w') : CALL PG 35 [.pointer (some ⟨p, 0, none⟩)] w Q := by
  refine call35 ?_
  unfold N35
  have := h.hl; have := h.m2
  exact RD.of (ld 1 h.hp rfl (by kernel_rfl)) ⟨_, _, _, rfl, clone_ok h.ho (by omega) fun O oc w' k ho fr => ⟨_, _, _, rfl, hk O oc w' k ho fr⟩⟩

/-- The first piece that is lost, or none. -/
theorem again_ok {w : World} {p : Nat} {A : Option Addr} {c : Nat} {L : List Ch} {mo : Int} (h : FL w p A c L mo) {Q : Value → World → Prop}
    (hk : ∀ w', Kp [] w w' → Q (.tuple #[chv ((L.find? (·.lost)).getD ch0), .bool (L.find? (·.lost)).isSome]) w') : CALL PG 76 [.pointer (some ⟨p, 0, none⟩)] w Q := by
  refine call76 ?_
  unfold N76
  have hml := h.hl; have hmo := h.m2
  refine alloc1 tiCh fun w1 k1 s1 hb => ⟨_, rfl, ?_⟩
  have h1 := h.keep k1
  refine RD.of (ld 1 h1.hp rfl (by kernel_rfl)) ⟨_, _, _, rfl, ?_⟩
  refine ⟨fun m x w2 => ∃ j : Nat, j + m = L.length ∧ x = (j : Int) ∧ Kp [] w1 w2 ∧ ∀ y ∈ L.take j, y.lost = false, ⟨L.length, 0, by omega, rfl, Kp.refl _, by simp⟩, ?_⟩
  rintro m _ w2 ⟨j, hj, rfl, k2, hno⟩
  have hb2 := hb.kp k2 (by simp)
  refine ifd (fun hlt => ?_) fun hge => ?_
  · obtain ⟨x, hx⟩ := ex_get (L := L) (j := j) (by omega)
    obtain ⟨a, ea, hc⟩ := row_get ch_length (by decide) (h1.keep k2).ho.row hx
    refine ⟨⟨by omega, by omega⟩, a, ea, RD.of (ldCh hc) ⟨_, _, _, _, _, _, _, _, _, rfl, ?_⟩⟩
    refine tmpCh x fun w3 k3 s3 hb3 => ?_
    refine RD.of (ld 8 hb3 rfl (by kernel_rfl)) ⟨_, rfl, ?_⟩
    by_cases hl : x.lost = false
    · refine iff_ hl ⟨m - 1, by omega, j + 1, by omega, wrap_i64 (by omega) (by omega), k2.then k3, fun y hy => ?_⟩
      rw [(get_set (y := x) hx).1] at hy
      simp only [List.mem_append, List.mem_singleton] at hy
      rcases hy with hy | rfl
      · exact hno y hy
      · exact hl
    · have hl : x.lost = true := by simpa using hl
      refine ift hl (RD.of (ldChB hb3) ⟨_, _, _, _, _, _, _, _, _, rfl, ?_⟩)
      refine stAll (v := chv x) (hb2.kp k3 (by simp)) rfl tiCh.size rfl (ch_flat1 x) fun w4 k4 s4 hb4 => ?_
      refine RD.of (ldChB (c := x) hb4) ⟨_, _, _, _, _, _, _, _, _, rfl, ?_⟩
      have e : L.find? (·.lost) = some x := by
        rw [← List.take_append_drop j L, List.find?_append, List.find?_eq_none.2 (fun y hy => by simp [hno y hy]), (get_set (y := x) hx).2, List.find?_cons_of_pos hl]; rfl
      have := hk w4 (((k1.then k2).then k3).new k4 (by simp))
      rw [e] at this
      exact this
  · have e : L.find? (·.lost) = none := by
      rw [List.take_of_length_le (by omega)] at hno
      exact List.find?_eq_none.2 fun y hy => by simp [hno y hy]
    have e0 : (Instr.build 46 #[]).run PG w2 = .ok (chv ch0) w2 := by kernel_rfl
    refine RD.of e0 ⟨_, _, _, _, _, _, _, _, _, rfl, ?_⟩
    refine stAll (v := chv ch0) hb2 rfl tiCh.size rfl (ch_flat1 ch0) fun w4 k4 s4 hb4 => ?_
    refine RD.of (ldChB (c := ch0) hb4) ⟨_, _, _, _, _, _, _, _, _, rfl, ?_⟩
    have := hk w4 ((k1.then k2).new k4 (by simp))
    rw [e] at this
    exact this

/-- The pieces that an acknowledgement ends, and those that it leaves. -/
theorem acked_ok {w : World} {p : Nat} {A : Option Addr} {c : Nat} {L : List Ch} {mo : Int} (h : FL w p A c L mo) {tov : Int} {Q : Value → World → Prop}
    (hk : ∀ O oc A' c' w', Kp [p] w w' → FL w' p A' c' (L.filter fun x => !decide (toN x ≤ tov)) mo → (∀ b ∈ fpA A', w.heap.size ≤ b) → Own w' 46 9 O (L.filter fun x => decide (toN x ≤ tov)).length oc ((L.filter fun x => decide (toN x ≤ tov)).flatMap ch) →
      (∀ b ∈ fpA O, w.heap.size ≤ b ∧ b ∉ fpA A') → Q (.slice O (L.filter fun x => decide (toN x ≤ tov)).length oc) w') : CALL PG 33 [.pointer (some ⟨p, 0, none⟩), .int .u64 tov] w Q := by
  refine call33 ?_
  unfold N33
  have hml := h.hl; have hmo := h.m2
  refine RD.of (ld 1 h.hp rfl (by kernel_rfl)) ⟨_, _, _, rfl, ?_⟩
  generalize hg : (fun x => decide (toN x ≤ tov)) = g at hk
  have hgx : ∀ x, g x = decide (toN x ≤ tov) := fun x => by rw [← hg]
  have hk : ∀ O oc A' c' w', Kp [p] w w' → FL w' p A' c' (L.filter fun x => !g x) mo → (∀ b ∈ fpA A', w.heap.size ≤ b) → Own w' 46 9 O (L.filter g).length oc ((L.filter g).flatMap ch) →
      (∀ b ∈ fpA O, w.heap.size ≤ b ∧ b ∉ fpA A') → Q (.slice O (L.filter g).length oc) w' := by
    intro O oc A' c' w' a1 a2
    refine hk O oc A' c' w' a1 ?_
    have e : (fun x => !decide (toN x ≤ tov)) = fun x => !g x := by funext x; rw [hgx]
    rw [e]; exact a2
  refine ⟨fun m G gn gc Lf ln lc x w1 => ∃ j : Nat, j + m = L.length ∧ x = (j : Int) ∧ Kp [] w w1 ∧ Own w1 46 9 G gn gc (((L.take j).filter g).flatMap ch) ∧ gn = ((L.take j).filter g).length ∧ Own w1 46 9 Lf ln lc (((L.take j).filter fun x => !g x).flatMap ch) ∧ ln = ((L.take j).filter fun x => !g x).length ∧
    (∀ b ∈ fpA G, w.heap.size ≤ b ∧ b ∉ fpA Lf) ∧ (∀ b ∈ fpA Lf, w.heap.size ≤ b), ⟨L.length, 0, by omega, rfl, Kp.refl w, by simpa using Own.nil w 46 9, by simp, by simpa using Own.nil w 46 9, by simp, by simp [fpA], by simp [fpA]⟩, ?_⟩
  rintro m G gn gc Lf ln lc _ w1 ⟨j, hj, rfl, k1, hG, hgn, hLf, hln, fG, fL⟩
  refine ifd (fun hlt => ?_) fun hge => ?_
  · obtain ⟨x, hx⟩ := ex_get (L := L) (j := j) (by omega)
    obtain ⟨a, ea, hc⟩ := row_get ch_length (by decide) (h.ho.kp k1 (by simp)).row hx
    have next : (IntKind.i64.wrap ((j : Int) + 1)) = ((j + 1 : Nat) : Int) := wrap_i64 (by omega) (by omega)
    have l1 := List.length_filter_le g (L.take j)
    have l2 := List.length_filter_le (fun x => !g x) (L.take j)
    have l3 : (L.take j).length ≤ 64 := by rw [List.length_take]; omega
    refine ⟨⟨by omega, by omega⟩, a, ea, RD.of (ldCh hc) ⟨_, _, _, _, _, _, _, _, _, rfl, ?_⟩⟩
    refine tmpCh x fun w3 k3 s3 hb3 => ?_
    refine RD.of (ldChB hb3) ⟨_, _, _, _, _, _, _, _, _, rfl, to_ok x fun w4 k4 => ⟨_, rfl, ?_⟩⟩
    have hb4 := hb3.kp k4 (by simp)
    have k34 := k3.then k4
    have hG4 := hG.kp k34 (by simp)
    have hL4 := hLf.kp k34 (by simp)
    have K4 := k1.then k34
    have sz := K4.size
    cases hgv : g x with
    | true =>
      have hg1 := hgv
      rw [hgx] at hg1
      refine ift hg1 (RD.of (ldChB hb4) ⟨_, _, _, _, _, _, _, _, _, rfl, ?_⟩)
      refine appCh hG4 (by omega) x fun G' gc' w5 k5 hG5 hA5 => ⟨m - 1, by omega, j + 1, by omega, next, K4.new k5 fun b hb => (fG b hb).1, ?_, ?_, ?_, ?_, ?_, fL⟩
      · rw [(get_set (y := x) hx).1, List.filter_append, List.filter_cons_of_pos hgv]; exact hG5
      · rw [(get_set (y := x) hx).1, List.filter_append, List.filter_cons_of_pos hgv]; simp [hgn]
      · rw [(get_set (y := x) hx).1, List.filter_append, List.filter_cons_of_neg (by simp [hgv])]
        simp only [List.filter_nil, List.append_nil]
        exact hL4.kp k5 fun b hb hc => (fG b hc).2 hb
      · rw [(get_set (y := x) hx).1, List.filter_append, List.filter_cons_of_neg (by simp [hgv])]; simp [hln]
      · exact fun b hb => ⟨fresh_of (fun b hb => (fG b hb).1) hA5 sz b hb, apart_of (S := fpA Lf) (fun b hb => (fG b hb).2) hA5 (fun b hb => hL4.lt b hb) b hb⟩
    | false =>
      have hg1 := hgv
      rw [hgx] at hg1
      refine iff_ hg1 (RD.of (ldChB hb4) ⟨_, _, _, _, _, _, _, _, _, rfl, ?_⟩)
      refine appCh hL4 (by omega) x fun L' lc' w5 k5 hL5 hA5 => ⟨m - 1, by omega, j + 1, by omega, next, K4.new k5 fL, ?_, ?_, ?_, ?_, ?_, fresh_of fL hA5 sz⟩
      · rw [(get_set (y := x) hx).1, List.filter_append, List.filter_cons_of_neg (by simp [hgv])]
        simp only [List.filter_nil, List.append_nil]
        exact hG4.kp k5 fun b hb hc => (fG b hb).2 hc
      · rw [(get_set (y := x) hx).1, List.filter_append, List.filter_cons_of_neg (by simp [hgv])]; simp [hgn]
      · rw [(get_set (y := x) hx).1, List.filter_append, List.filter_cons_of_pos (by simp [hgv])]; exact hL5
      · rw [(get_set (y := x) hx).1, List.filter_append, List.filter_cons_of_pos (by simp [hgv])]; simp [hln]
      · exact fun b hb => ⟨(fG b hb).1, fun hc => apart_of (S := fpA G) (fun b hb hc => (fG b hc).2 hb) hA5 (fun b hb => hG4.lt b hb) b hc hb⟩
  · rw [List.take_of_length_le (by omega)] at hG hgn hLf hln
    have hp1 := h.hp.kp k1 (by simp)
    refine st 1 hp1 (by kernel_rfl) rfl (by simp) fun w2 k2 s2 h2 => ?_
    subst hgn; subst hln
    have pG : p ∉ fpA G := fun hc => absurd (fG p hc).1 (by have := h.lt; omega)
    have pL : p ∉ fpA Lf := fun hc => absurd (fL p hc) (by have := h.lt; omega)
    have lf := List.length_filter_le (fun x => !g x) L
    refine hk G gc Lf lc w2 ((k1.mono (by simp)).then k2) ⟨h2, hLf.kp k2 (by intro b hb hc; simp at hc; subst hc; exact pL hb), pL, h.m1, h.m2, by omega⟩ fL (hG.kp k2 (by intro b hb hc; simp at hc; subst hc; exact pG hb)) fG
end Go.Br
