/- The law of gaps that are filled. -/
import Derived.Test.YtggajodoaooafaaNSpansFillLaw
import Derived.Test.YtggajodoaooafaaSpans3
set_option linter.unusedVariables false
set_option linter.unusedSimpArgs false
set_option linter.unnecessarySimpa false
namespace Go.Br
open Go
attribute [local irreducible] Addr.add RD RDS RUN RUNU NILC LETB CALL CALLX CALLV

structure Op6 where
  kind : Int
  f : Int
  t : Int
def op6 (x : Op6) : List Value := [.int .i64 x.kind, .int .u64 x.f, .int .u64 x.t]
abbrev op6v (x : Op6) : Value := .agg #[.int .i64 x.kind, .int .u64 x.f, .int .u64 x.t]
theorem op6_length (x : Op6) : (op6 x).length = 3 := rfl
theorem op6_flat1 (x : Op6) : Flat (op6 x) := by intro v hv; simp [op6] at hv; rcases hv with rfl | rfl | rfl <;> rfl
theorem op6_flat (L : List Op6) : Flat (L.flatMap op6) := by
  intro v hv
  simp only [List.mem_flatMap] at hv
  obtain ⟨x, _, hx⟩ := hv
  exact op6_flat1 x v hx
def Op6Ok (x : Op6) : Prop := 0 ≤ x.f ∧ x.f < 18446744073709551616 ∧ 0 ≤ x.t ∧ x.t < 18446744073709551616
theorem addR_room {S : List Sp} {f t most : Int} (hl : (S.length : Int) < most) : addR S f t most = (if t ≤ f then S else addS S f t, true) := by
  unfold addR
  split
  · rfl
  · rw [if_neg (by omega)]
section
variable {c : Ctx} {w : World} {L R : List SA}
theorem fill_ok (h : St c w L) {A : Option Addr} {k : Nat} {X : List Op6} {f t : Int} (hr : RdIn L A (X.flatMap op6)) (hX : ∀ x ∈ X, Op6Ok x) (h0 : 0 ≤ f) (h1 : t < 18446744073709551616) {Q : Value → World → Prop} (hk : ∀ w', St c w' L → Q (.bool true) w') :
    CALL PG 13 [.slice A X.length k, .int .u64 f, .int .u64 t] w Q := by
  refine call13 ?_
  unfold N13
  refine ifd (fun _ => hk _ h) fun hn => ?_
  refine snew_ok h fun p w' h => ?_
  (repeat (first | apply Exists.intro (α := Int) | apply Exists.intro (α := Bool) | apply Exists.intro (α := ByteArray) | (apply Exists.intro (α := Option Addr); apply Exists.intro (α := Nat); apply Exists.intro (α := Nat)) | apply Exists.intro (α := Option Addr) | apply Exists.intro (α := Value)))
  refine ⟨rfl, ?_⟩
  refine iff_ rfl ?_
  have em : minN (maxN 64 1) 64 = (64 : Int) := by decide
  rw [em] at h
  refine ⟨fun m i w' => ∃ (j : Nat) (S : List Sp), j + m = X.length ∧ i = (j : Int) ∧ Sep S ∧ S.length ≤ j ∧ St c w' (sset p 64 S :: L), ⟨X.length, 0, [], by omega, rfl, Sep.nil, by simp, h⟩, ?_⟩
  clear h
  rintro m _ w' ⟨j, S, hj, rfl, hS, hSl, h⟩
  refine ifd (fun hlt => ?_) fun hge => ?_
  · obtain ⟨x, hx⟩ := ex_get (L := X) (j := j) (by omega)
    have hok := hX x (List.mem_of_getElem? hx)
    have h := h.drew
    refine h.ix (z := 2) hr.more hx fun a ha => ?_
    have hr1 := hr
    rw [ha] at hr1
    refine h.rdEI 1 hr1.more hx ?_
    refine h.ix (z := 2) hr.more hx fun b hb => ?_
    rw [ha] at hb
    injection hb with hb
    subst hb
    refine h.rdEI 2 hr1.more hx ?_
    refine sadd_ok h .head hS (by omega) hok.1 hok.2.2.2 fun w' h => ?_
    (repeat (first | apply Exists.intro (α := Int) | apply Exists.intro (α := Bool) | apply Exists.intro (α := ByteArray) | (apply Exists.intro (α := Option Addr); apply Exists.intro (α := Nat); apply Exists.intro (α := Nat)) | apply Exists.intro (α := Option Addr) | apply Exists.intro (α := Value)))
    refine ⟨rfl, ?_⟩
    rw [addR_room (by omega)] at h ⊢
    refine iff_ rfl (leti (wrap_i64 (n := (j : Int) + 1) (by omega) (by omega)) ⟨m - 1, by omega, j + 1, _, by omega, by omega, ?_, ?_, h⟩)
    · simp only
      split
      · exact hS
      · exact addS_sep hS hok.1 (by omega) hok.2.2.2
    · simp only
      split
      · omega
      · have := addS_len S x.f x.t; omega
  refine smany_ok h .head (by omega) fun w' h => ?_
  (repeat (first | apply Exists.intro (α := Int) | apply Exists.intro (α := Bool) | apply Exists.intro (α := ByteArray) | (apply Exists.intro (α := Option Addr); apply Exists.intro (α := Nat); apply Exists.intro (α := Nat)) | apply Exists.intro (α := Option Addr) | apply Exists.intro (α := Value)))
  refine ⟨rfl, ?_⟩
  refine leti rfl ?_
  refine sgaps_ok h .head (by omega) fun O d w' h => ?_
  (repeat (first | apply Exists.intro (α := Int) | apply Exists.intro (α := Bool) | apply Exists.intro (α := ByteArray) | (apply Exists.intro (α := Option Addr); apply Exists.intro (α := Nat); apply Exists.intro (α := Nat)) | apply Exists.intro (α := Option Addr) | apply Exists.intro (α := Value)))
  refine ⟨rfl, ?_⟩
  have gm := gaps_mem (f := f) (t := t) hS
  have gs := gaps_sep (f := f) (t := t) hS
  have gc := gaps_cov (f := f) (t := t) hS
  have gl := gaps_len S f t
  generalize gapsS S f t = G at *
  refine ⟨fun m n i w' => ∃ j : Nat, j + m = G.length ∧ i = (j : Int) ∧ n = msr (G.take j) % 18446744073709551616 ∧ St c w' (own 122 2 O G.length d (G.flatMap spn) :: sset p 64 S :: L), ⟨G.length, 0, by omega, rfl, rfl, h⟩, ?_⟩
  clear h
  rintro m n _ w' ⟨q, hq, rfl, hnq, h⟩
  refine ifd (fun hlt => ?_) fun hge2 => ?_
  · obtain ⟨g, hg⟩ := ex_get (L := G) (j := q) (by omega)
    obtain ⟨g1, g2, g3, g4⟩ := gm g (List.mem_of_getElem? hg)
    have h := h.drew
    refine h.ix (z := 1) (RdIn.own .head) hg fun a ha => ?_
    subst ha
    refine h.rdEI 0 (RdIn.own .head) hg ?_
    refine h.ix (z := 1) (RdIn.own .head) hg fun b hb => ?_
    injection hb with hb
    subst hb
    refine h.rdEI 1 (RdIn.own .head) hg ?_
    refine ifdf (by omega) ?_
    refine h.ix (z := 1) (RdIn.own .head) hg fun b hb => ?_
    injection hb with hb
    subst hb
    refine h.rdEI 0 (RdIn.own .head) hg ?_
    refine shas_ok h (.tail .head) (by omega) fun w' h => ?_
    (repeat (first | apply Exists.intro (α := Int) | apply Exists.intro (α := Bool) | apply Exists.intro (α := ByteArray) | (apply Exists.intro (α := Option Addr); apply Exists.intro (α := Nat); apply Exists.intro (α := Nat)) | apply Exists.intro (α := Option Addr) | apply Exists.intro (α := Value)))
    refine ⟨rfl, ?_⟩
    refine iff_ (by rw [runS_out (g4 g.f (Int.le_refl _) g2)]; simp) ?_
    refine h.ix (z := 1) (RdIn.own .head) hg fun b hb => ?_
    injection hb with hb
    subst hb
    refine h.rdEI 1 (RdIn.own .head) hg ?_
    rw [show IntKind.u64.wrap (g.t - 1) = g.t - 1 by rw [wrapU64]; omega]
    refine shas_ok h (.tail .head) (by omega) fun w' h => ?_
    (repeat (first | apply Exists.intro (α := Int) | apply Exists.intro (α := Bool) | apply Exists.intro (α := ByteArray) | (apply Exists.intro (α := Option Addr); apply Exists.intro (α := Nat); apply Exists.intro (α := Nat)) | apply Exists.intro (α := Option Addr) | apply Exists.intro (α := Value)))
    refine ⟨rfl, ?_⟩
    refine iff_ (by rw [runS_out (g4 (g.t - 1) (by omega) (by omega))]; simp) ?_
    refine h.ix (z := 1) (RdIn.own .head) hg fun b hb => ?_
    injection hb with hb
    subst hb
    refine h.rdEI 0 (RdIn.own .head) hg ?_
    refine ifdf (by omega) ?_
    refine h.ix (z := 1) (RdIn.own .head) hg fun b hb => ?_
    injection hb with hb
    subst hb
    refine h.rdEI 1 (RdIn.own .head) hg ?_
    refine ifdf (by omega) ?_
    have h := h.drew
    refine h.ix (z := 1) (RdIn.own .head) hg fun b hb => ?_
    injection hb with hb
    subst hb
    refine h.rdEI 1 (RdIn.own .head) hg ?_
    refine h.ix (z := 1) (RdIn.own .head) hg fun b hb => ?_
    injection hb with hb
    subst hb
    refine h.rdEI 0 (RdIn.own .head) hg ?_
    refine leti (sum_step hnq) (letw ⟨m - 1, by omega, q + 1, by omega, by omega, ?_, h⟩)
    rw [take_snoc' hg, msr_snoc]
  have hqG : q = G.length := by omega
  subst hqG
  rw [List.take_length] at hnq
  refine ⟨fun m i w' => ∃ (j : Nat) (T : List Sp), j + m = G.length ∧ i = (j : Int) ∧ Sep T ∧ T.length ≤ S.length + j ∧ msr T = msr S + msr (G.take j) ∧ (∀ n, inP T n ↔ inP S n ∨ inP (G.take j) n) ∧ St c w' (own 122 2 O G.length d (G.flatMap spn) :: sset p 64 T :: L),
    ⟨G.length, 0, S, by omega, rfl, hS, by omega, by simp [msr], fun n => by simp [inP], h⟩, ?_⟩
  clear h
  rintro m _ w' ⟨q, T, hq, rfl, hT, hTl, hTm, hTi, h⟩
  refine ifd (fun hlt => ?_) fun hge2 => ?_
  · obtain ⟨g, hg⟩ := ex_get (L := G) (j := q) (by omega)
    obtain ⟨g1, g2, g3, g4⟩ := gm g (List.mem_of_getElem? hg)
    have hdis : ∀ n, g.f ≤ n → n < g.t → ¬ inP T n := fun n n1 n2 hi => by
      rcases (hTi n).1 hi with hi | ⟨b, hb, b1, b2⟩
      · exact g4 n n1 n2 hi
      · obtain ⟨i, hi⟩ := List.mem_iff_getElem?.1 hb
        have hiq : i < q := by
          have := (List.getElem?_eq_some_iff.1 hi).1
          rw [List.length_take] at this; omega
        rw [List.getElem?_take, if_pos hiq] at hi
        obtain ⟨hi1, hi2⟩ := List.getElem?_eq_some_iff.1 hi
        obtain ⟨hg1, hg2⟩ := List.getElem?_eq_some_iff.1 hg
        have := List.pairwise_iff_getElem.1 gs i q hi1 hg1 hiq
        rw [hi2, hg2] at this
        omega
    have h := h.drew
    refine h.ix (z := 1) (RdIn.own .head) hg fun a ha => ?_
    subst ha
    refine h.rdEI 0 (RdIn.own .head) hg ?_
    refine h.ix (z := 1) (RdIn.own .head) hg fun b hb => ?_
    injection hb with hb
    subst hb
    refine h.rdEI 1 (RdIn.own .head) hg ?_
    refine sadd_ok h (.tail .head) hT (by omega) (by omega) (by omega) fun w' h => ?_
    (repeat (first | apply Exists.intro (α := Int) | apply Exists.intro (α := Bool) | apply Exists.intro (α := ByteArray) | (apply Exists.intro (α := Option Addr); apply Exists.intro (α := Nat); apply Exists.intro (α := Nat)) | apply Exists.intro (α := Option Addr) | apply Exists.intro (α := Value)))
    refine ⟨rfl, ?_⟩
    rw [addR_room (by omega), if_neg (by omega)] at h
    rw [addR_room (by omega)]
    refine iff_ rfl (leti (wrap_i64 (n := (q : Int) + 1) (by omega) (by omega)) ⟨m - 1, by omega, q + 1, _, by omega, by omega, addS_sep hT (by omega) g2 (by omega), ?_, ?_, ?_, h.swap⟩)
    · have := addS_len T g.f g.t; omega
    · rw [addS_msr hT g2 hdis, hTm, take_snoc' hg, msr_snoc]; omega
    · intro n
      rw [addS_in hT g2, hTi, take_snoc' hg, inP_append, inP_cons]
      have := inP_nil n
      constructor
      · rintro ((h | h) | h)
        · exact .inl h
        · exact .inr (.inl h)
        · exact .inr (.inr (.inl h))
      · rintro (h | h | h | h)
        · exact .inl (.inl h)
        · exact .inl (.inr h)
        · exact .inr h
        · exact absurd h this
  have hqG : q = G.length := by omega
  subst hqG
  rw [List.take_length] at hTm hTi
  have hall : ∀ n, f ≤ n → n < t → inP T n := fun n n1 n2 => (hTi n).2 (gc n n1 n2)
  refine scovers_ok h (.tail .head) (by omega) fun w' h => ?_
  (repeat (first | apply Exists.intro (α := Int) | apply Exists.intro (α := Bool) | apply Exists.intro (α := ByteArray) | (apply Exists.intro (α := Option Addr); apply Exists.intro (α := Nat); apply Exists.intro (α := Nat)) | apply Exists.intro (α := Option Addr) | apply Exists.intro (α := Value)))
  refine ⟨rfl, ?_⟩
  refine ift (decide_eq_true ?_) ?_
  · rcases Int.lt_or_le f t with hft | hft
    · exact .inr (run_all hT hft hall)
    · exact .inl hft
  refine smany_ok h (.tail .head) (by omega) fun w' h => ?_
  (repeat (first | apply Exists.intro (α := Int) | apply Exists.intro (α := Bool) | apply Exists.intro (α := ByteArray) | (apply Exists.intro (α := Option Addr); apply Exists.intro (α := Nat); apply Exists.intro (α := Nat)) | apply Exists.intro (α := Option Addr) | apply Exists.intro (α := Value)))
  refine ⟨rfl, ?_⟩
  refine ift (by rw [hTm, hnq, wrapU64]; simp) ?_
  refine sgaps_ok h (.tail .head) (by omega) fun O2 d2 w' h => ?_
  (repeat (first | apply Exists.intro (α := Int) | apply Exists.intro (α := Bool) | apply Exists.intro (α := ByteArray) | (apply Exists.intro (α := Option Addr); apply Exists.intro (α := Nat); apply Exists.intro (α := Nat)) | apply Exists.intro (α := Option Addr) | apply Exists.intro (α := Value)))
  refine ⟨rfl, ?_⟩
  have he : gapsS T f t = [] := by
    cases hG : gapsS T f t with
    | nil => rfl
    | cons g r =>
      obtain ⟨g1, g2, g3, g4⟩ := gaps_mem hT g (by rw [hG]; simp)
      exact absurd (hall g.f g1 (by omega)) (g4 g.f (Int.le_refl _) g2)
  rw [he]
  refine ift (by rfl) ?_
  refine alive6_ok h fun w' h => ?_
  (repeat (first | apply Exists.intro (α := Int) | apply Exists.intro (α := Bool) | apply Exists.intro (α := ByteArray) | (apply Exists.intro (α := Option Addr); apply Exists.intro (α := Nat); apply Exists.intro (α := Nat)) | apply Exists.intro (α := Option Addr) | apply Exists.intro (α := Value)))
  refine ⟨rfl, ?_⟩
  exact letb rfl (hk _ h.to)
end
end Go.Br
