/- The example, and the law of ends, walked. -/
import Derived.Test.YtegocoicdcpgaaaNFlightLaw
import Derived.Test.YtegocoicdcpgaaaFlight
set_option linter.unusedVariables false
namespace Go.Br
open Go

theorem alive_ok {w : World} {Q : Value → World → Prop} (hk : ∀ w', Kp [] w w' → Q (.bool true) w') : CALL PG 36 [] w Q := by
  refine call36 ?_
  unfold N36
  refine new_ok fun w1 k1 s1 h1 => ⟨_, rfl, iff_ rfl ?_⟩
  have e : (Instr.build 46 #[(1, .int .i64 5), (3, .int .i64 1), (4, .int .u32 10), (5, .int .i64 3)]).run PG w1 = .ok (chv { ch0 with len := 5, flow := 1, endv := 10, sent := 3 }) w1 := by kernel_rfl
  refine RD.of e ⟨_, _, _, _, _, _, _, _, _, rfl, ?_⟩
  have em : moOf 4 = 4 := by decide
  rw [em] at h1
  refine add_ok h1 { ch0 with len := 5, flow := 1, endv := 10, sent := 3 } (fun h => absurd h (by decide)) fun _ A' c' w2 k2 h2 hA2 => ⟨_, rfl, letb rfl ?_⟩
  rw [List.nil_append] at h2
  have sz1 := k1.size
  have K2 : Kp [] w w2 := k1.new k2 (by simp [fpA])
  have fA : ∀ b ∈ fpA A', w.heap.size ≤ b := fresh_of (by simp [fpA]) hA2 sz1
  refine late_ok h2 fun O oc w3 k3 h3 ho3 fr3 => ⟨_, _, _, rfl, ?_⟩
  have et : tLate 1 7 4 { ch0 with len := 5, flow := 1, endv := 10, sent := 3 } = some { ch0 with len := 5, flow := 1, endv := 10, sent := 3, lost := true } := by
    unfold tLate; rw [if_pos ⟨rfl, rfl, rfl, by decide⟩]
  have em : mk (tLate 1 7 4) [{ ch0 with len := 5, flow := 1, endv := 10, sent := 3 }] = [{ ch0 with len := 5, flow := 1, endv := 10, sent := 3, lost := true }] := by simp [mk, et]
  have ef : [{ ch0 with len := 5, flow := 1, endv := 10, sent := 3 }].filterMap (tLate 1 7 4) = [{ ch0 with len := 5, flow := 1, endv := 10, sent := 3, lost := true }] := by simp [et]
  rw [em] at h3
  rw [ef] at ho3 ⊢
  generalize hx : ({ ch0 with len := 5, flow := 1, endv := 10, sent := 3, lost := true } : Ch) = x at h3 ho3 ⊢
  have xl : x.lost = true := by rw [← hx]
  have xt : toN x = 5 := by rw [← hx]; decide
  refine again_ok h3 fun w4 k4 => ?_
  have efd : [x].find? (·.lost) = some x := List.find?_cons_of_pos xl
  rw [efd]
  refine ⟨_, _, _, _, _, _, _, _, _, _, rfl, ?_⟩
  refine tmpCh x fun w5 k5 s5 hb5 => letb rfl (ift rfl (ift rfl ?_))
  have k45 := k4.then k5
  have hx0 : [x][0]? = some x := rfl
  obtain ⟨a, ea, hc⟩ := row_get ch_length (by decide) (ho3.kp k45 (by simp)).row hx0
  refine ⟨⟨by decide, by simp⟩, a, ea, RD.of (ldc (hc 8 _ rfl) (by kernel_rfl)) ⟨_, rfl, ift xl (ift rfl ?_)⟩⟩
  refine RD.of (ldChB hb5) ⟨_, _, _, _, _, _, _, _, _, rfl, to_ok x fun w6 k6 => ⟨_, rfl, ift (by rw [xt]; rfl) ?_⟩⟩
  have h6 := h3.keep (k45.then k6)
  refine len_ok h6 ⟨_, rfl, ift rfl (free_ok h6 fun w7 k7 => ⟨_, rfl, letb rfl (hk w7 ?_)⟩)⟩
  exact (K2.new k3 fA).then ((k45.then k6).then k7)

/-- Pieces one behind the other. -/
def Chain : Int → List Ch → Int → Prop
  | a, [], b => a = b
  | a, c :: l, b => c.frm = a ∧ 1 ≤ c.len ∧ c.len ≤ 1000 ∧ c.fin = false ∧ Chain (a + c.len) l b
theorem Chain.le : ∀ {L : List Ch} {a b : Int}, Chain a L b → a ≤ b
  | [], a, b, h => by unfold Chain at h; omega
  | c :: l, a, b, h => by unfold Chain at h; have := Chain.le h.2.2.2.2; omega
theorem Chain.uniq : ∀ {L : List Ch} {a b b' : Int}, Chain a L b → Chain a L b' → b = b'
  | [], a, b, b', h, k => by unfold Chain at h k; omega
  | c :: l, a, b, b', h, k => by unfold Chain at h k; exact Chain.uniq h.2.2.2.2 k.2.2.2.2
theorem Chain.snoc : ∀ {L : List Ch} {a b : Int} {c : Ch}, Chain a L b → c.frm = b → 1 ≤ c.len → c.len ≤ 1000 → c.fin = false → Chain a (L ++ [c]) (b + c.len)
  | [], a, b, c, h, h1, h2, h3, h4 => by unfold Chain at h; subst h; exact ⟨h1, h2, h3, h4, rfl⟩
  | d :: l, a, b, c, h, h1, h2, h3, h4 => by unfold Chain at h; exact ⟨h.1, h.2.1, h.2.2.1, h.2.2.2.1, Chain.snoc h.2.2.2.2 h1 h2 h3 h4⟩
theorem Chain.mk' {t : Ch → Option Ch} (ht : ∀ x y, t x = some y → y.frm = x.frm ∧ y.len = x.len ∧ y.fin = x.fin) : ∀ {L : List Ch} {a b : Int}, Chain a L b → Chain a (mk t L) b
  | [], a, b, h => h
  | c :: l, a, b, h => by
    unfold Chain at h
    have e : ((t c).getD c).frm = c.frm ∧ ((t c).getD c).len = c.len ∧ ((t c).getD c).fin = c.fin := by
      cases hc : t c with
      | none => exact ⟨rfl, rfl, rfl⟩
      | some y => exact ht c y hc
    show Chain a ((t c).getD c :: mk t l) b
    unfold Chain
    rw [e.1, e.2.1, e.2.2]
    exact ⟨h.1, h.2.1, h.2.2.1, h.2.2.2.1, Chain.mk' ht h.2.2.2.2⟩
theorem toN_in {x : Ch} (h0 : 0 ≤ x.frm) (h1 : x.frm ≤ 1000000) (h2 : 1 ≤ x.len) (h3 : x.len ≤ 1000) (hf : x.fin = false) : toN x = x.frm + x.len := by
  have hw : ∀ y : Int, 0 ≤ y → y ≤ 10000000 → IntKind.u64.wrap y = y := by
    intro y h h'; unfold IntKind.wrap; simp [IntKind.bits, IntKind.signed]; omega
  unfold toN maxN
  rw [hf, if_neg Bool.false_ne_true, if_neg (show ¬ (0 : Int) > x.len by omega), hw x.len (by omega) (by omega), hw _ (by omega) (by omega)]
theorem Chain.all {tov : Int} : ∀ {L : List Ch} {a b : Int}, 0 ≤ a → b ≤ 1000000 → tov < a → Chain a L b → (L.filter fun x => decide (toN x ≤ tov)) = [] ∧ (L.filter fun x => !decide (toN x ≤ tov)) = L
  | [], a, b, _, _, _, _ => ⟨rfl, rfl⟩
  | c :: l, a, b, h0, hb, ht, h => by
    have hle := h.le
    unfold Chain at h
    obtain ⟨h1, h2, h3, h4, h5⟩ := h
    have e := toN_in (x := c) (by omega) (by omega) h2 h3 h4
    obtain ⟨i1, i2⟩ := Chain.all (tov := tov) (a := a + c.len) (by omega) hb (by omega) h5
    have hc : ¬ toN c ≤ tov := by omega
    exact ⟨by rw [List.filter_cons_of_neg (by simpa using hc), i1], by rw [List.filter_cons_of_pos (by simpa using hc), i2]⟩
theorem Chain.split {tov : Int} : ∀ {L : List Ch} {a b : Int}, 0 ≤ a → b ≤ 1000000 → Chain a L b → ∃ s, Chain a (L.filter fun x => decide (toN x ≤ tov)) s ∧ Chain s (L.filter fun x => !decide (toN x ≤ tov)) b
  | [], a, b, _, _, h => ⟨a, rfl, h⟩
  | c :: l, a, b, h0, hb, h => by
    have h' := h
    have hle := h.le
    unfold Chain at h
    obtain ⟨h1, h2, h3, h4, h5⟩ := h
    have e := toN_in (x := c) (by omega) (by omega) h2 h3 h4
    by_cases hc : toN c ≤ tov
    · obtain ⟨s, i1, i2⟩ := Chain.split (tov := tov) (a := a + c.len) (by omega) hb h5
      refine ⟨s, ?_, ?_⟩
      · rw [List.filter_cons_of_pos (by simpa using hc)]; exact ⟨h1, h2, h3, h4, i1⟩
      · rw [List.filter_cons_of_neg (by simpa using hc)]; exact i2
    · obtain ⟨i1, i2⟩ := Chain.all (tov := tov) (a := a + c.len) (by omega) hb (by omega) h5
      refine ⟨a, ?_, ?_⟩
      · rw [List.filter_cons_of_neg (by simpa using hc), i1]; rfl
      · rw [List.filter_cons_of_pos (by simpa using hc), i2]; exact h'
theorem Chain.next : ∀ {L : List Ch} {a b s : Int} {i : Nat} {x : Ch}, Chain a L b → L[i]? = some x → Chain a (L.take i) s → x.frm = s ∧ 1 ≤ x.len ∧ x.len ≤ 1000 ∧ x.fin = false ∧ Chain a (L.take (i + 1)) (s + x.len) ∧ s + x.len ≤ b ∧ a ≤ s
  | [], a, b, s, i, x, h, hx, k => by simp at hx
  | c :: l, a, b, s, 0, x, h, hx, k => by
    simp at hx; subst hx
    have hle := h.le
    unfold Chain at h
    rw [List.take_zero] at k
    unfold Chain at k
    subst k
    obtain ⟨h1, h2, h3, h4, h5⟩ := h
    have := h5.le
    refine ⟨h1, h2, h3, h4, ?_, by omega, by omega⟩
    rw [List.take_succ_cons, List.take_zero]
    exact ⟨h1, h2, h3, h4, rfl⟩
  | c :: l, a, b, s, i + 1, x, h, hx, k => by
    simp at hx
    unfold Chain at h
    rw [List.take_succ_cons] at k
    unfold Chain at k
    obtain ⟨h1, h2, h3, h4, h5⟩ := h
    obtain ⟨j1, j2, j3, j4, j5, j6, j7⟩ := Chain.next h5 hx k.2.2.2.2
    refine ⟨j1, j2, j3, j4, ?_, j6, by omega⟩
    rw [List.take_succ_cons]
    exact ⟨h1, h2, h3, h4, j5⟩

theorem ends_ok {w : World} {A : Option Addr} {xs : List Int} {xc : Nat} {tov gone : Int} (hs : Ints w A xs) {Q : Value → World → Prop} (hk : ∀ w', Kp [] w w' → Q (.bool true) w') :
    CALL PG 6 [.slice A xs.length xc, .int .u64 tov, .int .i64 gone] w Q := by
  refine call6 ?_
  unfold N6
  refine ifd (fun _ => hk w (Kp.refl w)) fun h60 => ?_
  refine new_ok fun w1 k1 s1 h1 => ⟨_, rfl, iff_ rfl ?_⟩
  have em : moOf 64 = 64 := by decide
  rw [em] at h1
  have sz1 := k1.size
  generalize hp : w.heap.size = p at *
  refine ⟨fun m at_ i w2 => ∃ (j : Nat) (B : Option Addr) (c : Nat) (L : List Ch), j + m = xs.length ∧ i = (j : Int) ∧ Kp [] w w2 ∧ FL w2 p B c L 64 ∧ (∀ b ∈ fpA B, p ≤ b) ∧ L.length = j ∧ Chain 0 L at_ ∧ at_ ≤ 1000 * j ∧ ∀ x ∈ L, x.lost = false,
    ⟨xs.length, 0, none, 0, [], by omega, rfl, k1, h1, by simp [fpA], rfl, rfl, by omega, by simp⟩, ?_⟩
  rintro m at_ _ w2 ⟨j, B, c, L, hj, rfl, k2, h2, fB, hL, hch, hat, hlost⟩
  have at0 := hch.le
  refine ifd (fun hlt => ?_) fun hge => ?_
  · obtain ⟨x, hx⟩ := ex_get (L := xs) (j := j) (by omega)
    obtain ⟨a, ea, hr⟩ := hs.get (P := PG) hx
    have bd : (0 : Int) ≤ (j : Int) ∧ (j : Int) < (xs.length : Int) := by omega
    refine ⟨bd, a, ea, RD.of (hr w2 k2 (by kernel_rfl)) ⟨_, rfl, ifd (fun _ => hk w2 k2) fun hx1 => ?_⟩⟩
    refine ⟨bd, a, ea, RD.of (hr w2 k2 (by kernel_rfl)) ⟨_, rfl, ifd (fun _ => hk w2 k2) fun hx2 => ?_⟩⟩
    refine ⟨bd, a, ea, RD.of (hr w2 k2 (by kernel_rfl)) ⟨_, rfl, ⟨by decide, ?_⟩⟩⟩
    have e : (Instr.build 46 #[(0, .int .u64 at_), (1, .int .i64 x), (3, .int .i64 (Int.tmod (j : Int) 3))]).run PG w2 = .ok (chv { ch0 with frm := at_, len := x, flow := Int.tmod (j : Int) 3 }) w2 := by kernel_rfl
    refine RD.of e ⟨_, _, _, _, _, _, _, _, _, rfl, ?_⟩
    refine add_ok h2 { ch0 with frm := at_, len := x, flow := Int.tmod (j : Int) 3 } (fun h => absurd h (by omega)) fun _ B' c' w3 k3 h3 hB3 => ⟨_, rfl, iff_ rfl ?_⟩
    have K3 : Kp [] w w3 := k2.new k3 (by intro i hi; simp at hi; rcases hi with rfl | hi; · omega
                                          · have := fB i hi; omega)
    refine ⟨bd, a, ea, RD.of (hr w3 K3 (by kernel_rfl)) ⟨_, rfl, ?_⟩⟩
    have hw : ∀ y : Int, 0 ≤ y → y ≤ 10000000 → IntKind.u64.wrap y = y := by
      intro y h h'; unfold IntKind.wrap; simp [IntKind.bits, IntKind.signed]; omega
    refine leti (y := at_ + x) (by rw [hw x (by omega) (by omega), hw _ (by omega) (by omega)]) (leti (y := ((j + 1 : Nat) : Int)) (wrap_i64 (by omega) (by omega)) ?_)
    refine ⟨m - 1, by omega, j + 1, B', c', _, by omega, rfl, K3, h3, fresh_of fB hB3 (by have := k2.size; omega), by simp [hL], hch.snoc (c := { ch0 with frm := at_, len := x, flow := Int.tmod (j : Int) 3 }) rfl (by show 1 ≤ x; omega) (by show x ≤ 1000; omega) rfl, by push_cast; omega, ?_⟩
    intro y hy
    simp only [List.mem_append, List.mem_singleton] at hy
    rcases hy with hy | rfl
    · exact hlost y hy
    · rfl
  have hjl : j = xs.length := by omega
  have hatb : at_ ≤ 1000000 := by omega
  refine gone_ok h2 fun O oc w3 k3 h3 ho3 fr3 => ⟨_, _, _, rfl, ?_⟩
  have K3 : Kp [] w w3 := k2.new k3 fun b hb => by have := fB b hb; omega
  have ch3 : Chain 0 (mk (tGone gone) L) at_ := Chain.mk' (fun x y h => by
    unfold tGone at h; split at h
    · injection h with h; subst h; exact ⟨rfl, rfl, rfl⟩
    · cases h) hch
  have ls3 : ∀ x ∈ mk (tGone gone) L, x.lost = (x.flow == gone) := by
    intro x hx
    simp only [mk, List.mem_map] at hx
    obtain ⟨y, hy, rfl⟩ := hx
    have hyl := hlost y hy
    unfold tGone
    by_cases c : y.flow = gone
    · rw [if_pos ⟨c, hyl⟩]; simp [c]
    · rw [if_neg (fun h => c h.1)]; simp [c, hyl]
  have ln3 : (mk (tGone gone) L).length = xs.length := by simp [mk]; omega
  generalize mk (tGone gone) L = M at h3 ch3 ls3 ln3
  refine acked_ok h3 fun G gc B' c' w4 k4 h4 fB4 hG4 fG4 => ⟨_, _, _, rfl, ?_⟩
  have K4 : Kp [] w w4 := K3.new k4 (by intro b hb; simp at hb; subst hb; omega)
  have gin : ∀ x ∈ M.filter (fun x => decide (toN x ≤ tov)), toN x ≤ tov := fun x hx => by simpa using (List.mem_filter.1 hx).2
  have lin : ∀ x ∈ M.filter (fun x => !decide (toN x ≤ tov)), ¬ toN x ≤ tov ∧ x.lost = (x.flow == gone) := fun x hx => ⟨by simpa using (List.mem_filter.1 hx).2, ls3 x (List.mem_filter.1 hx).1⟩
  have lsum := filter_both (fun x => decide (toN x ≤ tov)) M
  have hm2 := h3.m2
  have hml := h3.hl
  obtain ⟨s, cg, cl⟩ := ch3.split (tov := tov) (by omega) hatb
  generalize M.filter (fun x => decide (toN x ≤ tov)) = GL at *
  generalize M.filter (fun x => !decide (toN x ≤ tov)) = LL at *
  have s0 := cg.le
  have s1' := cl.le
  refine ⟨fun m sum i w6 => ∃ j : Nat, j + m = GL.length ∧ i = (j : Int) ∧ Chain 0 (GL.take j) sum ∧ Kp [] w4 w6, ⟨GL.length, 0, by omega, rfl, by rw [List.take_zero]; rfl, Kp.refl _⟩, ?_⟩
  rintro m2 sum _ w6 ⟨i, hi, rfl, ci, k6⟩
  refine ifd (fun hlt => ?_) fun hge2 => ?_
  · obtain ⟨x, hx⟩ := ex_get (L := GL) (j := i) (by omega)
    obtain ⟨n1, n2, n3, n4, n5, n6, n7⟩ := cg.next hx ci
    have bd : (0 : Int) ≤ (i : Int) ∧ (i : Int) < (GL.length : Int) := by omega
    obtain ⟨a, ea, hc⟩ := row_get ch_length (by decide) hG4.row hx
    have et := toN_in (x := x) (by omega) (by omega) n2 n3 n4
    refine ⟨bd, a, ea, RD.of (ldc (cell_old k6 (hc 0 _ rfl)) (by kernel_rfl)) ⟨_, rfl, iff_ (by simp [n1]) ?_⟩⟩
    refine ⟨bd, a, ea, RD.of (ldCh fun j v hj => cell_old k6 (hc j v hj)) ⟨_, _, _, _, _, _, _, _, _, rfl, to_ok x fun w7 k7 => ⟨_, rfl, ifdf (by have := gin x (List.mem_of_getElem? hx); omega) ?_⟩⟩⟩
    refine ⟨bd, a, ea, RD.of (ldCh fun j v hj => cell_old (k6.then k7) (hc j v hj)) ⟨_, _, _, _, _, _, _, _, _, rfl, to_ok x fun w8 k8 => ⟨_, rfl, ?_⟩⟩⟩
    refine leti (y := sum + x.len) (by rw [et]; omega) (leti (y := ((i + 1 : Nat) : Int)) (wrap_i64 (by omega) (by omega)) ⟨m2 - 1, by omega, i + 1, by omega, rfl, n5, (k6.then k7).then k8⟩)
  rw [List.take_of_length_le (by omega)] at ci
  have e := ci.uniq cg
  subst e
  have h6 := h4.keep k6
  refine all_ok h6 fun V vc w9 k9 ho9 fr9 => ⟨_, _, _, rfl, ?_⟩
  refine ⟨fun m sum2 i w10 => ∃ j : Nat, j + m = LL.length ∧ i = (j : Int) ∧ Chain sum (LL.take j) sum2 ∧ Kp [] w9 w10, ⟨LL.length, 0, by omega, rfl, by rw [List.take_zero]; rfl, Kp.refl _⟩, ?_⟩
  rintro m3 sum2 _ w10 ⟨i3, hi3, rfl, ci3, k10⟩
  refine ifd (fun hlt => ?_) fun hge3 => ?_
  · obtain ⟨x, hx⟩ := ex_get (L := LL) (j := i3) (by omega)
    obtain ⟨n1, n2, n3, n4, n5, n6, n7⟩ := cl.next hx ci3
    have bd : (0 : Int) ≤ (i3 : Int) ∧ (i3 : Int) < (LL.length : Int) := by omega
    obtain ⟨a, ea, hc⟩ := row_get ch_length (by decide) ho9.row hx
    have et := toN_in (x := x) (by omega) (by omega) n2 n3 n4
    have kd := k10.then (Kp.drew w10)
    obtain ⟨lx1, lx2⟩ := lin x (List.mem_of_getElem? hx)
    refine ⟨bd, a, ea, RD.of (ldc (cell_old kd (hc 0 _ rfl)) (by kernel_rfl)) ⟨_, rfl, iff_ (by simp [n1]) ?_⟩⟩
    refine ⟨bd, a, ea, RD.of (ldCh fun j v hj => cell_old kd (hc j v hj)) ⟨_, _, _, _, _, _, _, _, _, rfl, to_ok x fun w11 k11 => ⟨_, rfl, ifdf (by omega) ?_⟩⟩⟩
    have k911 := kd.then k11
    refine ⟨bd, a, ea, RD.of (ldc (cell_old k911 (hc 8 _ rfl)) (by kernel_rfl)) ⟨_, rfl, ?_⟩⟩
    refine ⟨bd, a, ea, RD.of (ldc (cell_old k911 (hc 3 _ rfl)) (by kernel_rfl)) ⟨_, rfl, iff_ (by rw [lx2]; simp) ?_⟩⟩
    refine ⟨bd, a, ea, RD.of (ldCh fun j v hj => cell_old (kd.then k11) (hc j v hj)) ⟨_, _, _, _, _, _, _, _, _, rfl, to_ok x fun w12 k12 => ⟨_, rfl, ?_⟩⟩⟩
    refine leti (y := sum2 + x.len) (by rw [et]; omega) (leti (y := ((i3 + 1 : Nat) : Int)) (wrap_i64 (by omega) (by omega)) ⟨m3 - 1, by omega, i3 + 1, by omega, rfl, n5, (kd.then k11).then k12⟩)
  rw [List.take_of_length_le (by omega)] at ci3
  have e := ci3.uniq cl
  subst e
  refine ift (by simp) (ift ?_ (alive_ok fun w13 k13 => ⟨_, rfl, letb rfl (hk w13 ?_)⟩))
  · rw [wrap_i64 (by omega) (by omega)]; simp; omega
  · exact K4.then (((k6.then k9).then k10).then k13)
end Go.Br
