/- The law of turns, walked. -/
import Derived.Test.YtggajodoaooafaaNSchedLaw2
import Derived.Test.YtggajodoaooafaaSchedLaw
set_option linter.unusedVariables false
set_option linter.unusedSimpArgs false
set_option linter.unnecessarySimpa false
namespace Go.Br
open Go
attribute [local irreducible] Addr.add

def Calm (p : Pth) : Prop := p.up = true ∧ p.backup = false ∧ p.bad = false ∧ p.under = 0
theorem calm_all {n : Int} {l : List Pth} (h : ∀ p ∈ l, Calm p) : l.filter (pfits n) = l := List.filter_eq_self.2 fun p hp => by
  obtain ⟨h1, _, _, h4⟩ := h p hp
  simp [pfits, h1, h4]
theorem calm_rank {p : Pth} (h : Calm p) : prk p = 0 := by simp [prk, h.2.1, h.2.2.1]
/-- Of calm paths the next one round is chosen. -/
theorem calm_first {last : Int} {l C : List Pth} {x : Pth} {r : List Pth} (h : ∀ p ∈ l, Calm p) (hC : Srt (scmp 2 last) C) (pC : C.Perm l) (e : C = x :: r) : x.id ∈ l.map (·.id) ∧ ∀ y ∈ l.map (·.id), ¬ (pturn y last < pturn x.id last ∨ (pturn y last = pturn x.id last ∧ y < x.id)) := by
  have hx : x ∈ l := pC.mem_iff.1 (by rw [e]; simp)
  refine ⟨List.mem_map_of_mem hx, fun y hy => ?_⟩
  obtain ⟨p, hp, rfl⟩ := List.mem_map.1 hy
  have := srt_head hC (x := x) (by rw [e]; rfl) p (pC.mem_iff.2 hp)
  simp [lt3, pkey, psec, calm_rank (h p hp), calm_rank (h x hx)] at this
  omega
section
variable {c : Ctx} {w : World} {L R : List SA}
theorem turns_ok (h : St c w L) {A : Option Addr} {k : Nat} {ids : List Int} {last : Int} (hr : RdIn L A (ids.flatMap iv)) {Q : Value → World → Prop} (hk : ∀ w', St c w' L → Q (.bool true) w') :
    CALL PG 11 [.slice A ids.length k, .int .i64 last] w Q := by
  refine call11 ?_
  unfold N11
  refine ifd (fun _ => hk _ h) fun hn => ?_
  have next : ∀ {j : Nat}, j < ids.length → IntKind.i64.wrap ((j : Int) + 1) = ((j + 1 : Nat) : Int) := fun hj => wrap_i64 (by omega) (by omega)
  refine ⟨fun m O on oc i w' => ∃ (j : Nat) (l : List Pth), j + m = ids.length ∧ i = (j : Int) ∧ l.length = on ∧ l.map (·.id) = ids.take j ∧ (∀ p ∈ l, Calm p) ∧ (ids.take j).Nodup ∧ St c w' (own 103 7 O on oc (l.flatMap pth) :: L),
    ⟨ids.length, 0, [], by omega, rfl, rfl, rfl, by simp, by simp, h.addOwnNil _ _⟩, ?_⟩
  rintro m O on oc _ w' ⟨j, l, hj, rfl, rfl, hli, hcalm, hnd, h⟩
  have hll : l.length = (ids.take j).length := by rw [← hli, List.length_map]
  rw [List.length_take] at hll
  refine ifd (fun hlt => ?_) fun hge => ?_
  · obtain ⟨x, hx⟩ := ex_get (L := ids) (j := j) (by omega)
    refine ⟨fun m k w' => ∃ q : Nat, q + m = j ∧ k = (q : Int) ∧ x ∉ ids.take q ∧ St c w' (own 103 7 O l.length oc (l.flatMap pth) :: L), ⟨j, 0, by omega, rfl, by simp, h⟩, ?_⟩
    rintro m2 _ w' ⟨q, hq, rfl, hxq, h⟩
    refine ifd (fun hlt2 => ?_) fun hge2 => ?_
    · obtain ⟨y, hy⟩ := ex_get (L := ids) (j := q) (by omega)
      have h := h.drew
      refine h.ix (z := 0) hr.more hy fun a e1 => ?_
      subst e1
      refine h.rdWI hr.more hy ?_
      refine h.ix (z := 0) hr.more hx fun b e2 => ?_
      injection e2 with e2
      subst e2
      refine h.rdWI hr.more hx ?_
      refine ifq (fun _ => hk _ h.drop) fun hne => leti (next (by omega)) ⟨m2 - 1, by omega, q + 1, by omega, rfl, ?_, h⟩
      rw [take_snoc' hy]
      simp only [List.mem_append, List.mem_singleton, not_or]
      exact ⟨hxq, fun e => hne e.symm⟩
    · have hqj : q = j := by omega
      subst hqj
      refine h.ix (z := 0) hr.more hx fun a e1 => ?_
      subst e1
      refine h.rdWI hr.more hx ?_
      have eb : ∀ w, (Instr.build 103 #[(0, .int .i64 x), (1, .bool true), (6, .int .i64 (q : Int))]).run PG w = .ok (pthv ⟨x, true, false, false, 0, 0, (q : Int)⟩) w := by intro w; kernel_rfl
      refine RD.of (eb _) ⟨_, _, _, _, _, _, _, rfl, ?_⟩
      refine h.app1 huPth tiPth (pth ⟨x, true, false, false, 0, 0, (q : Int)⟩) .head (pth_flat1 _) (by omega) fun O' oc' w' h => ?_
      refine leti (next (by omega)) ⟨m - 1, by omega, q + 1, l ++ [⟨x, true, false, false, 0, 0, (q : Int)⟩], by omega, rfl, by simp, ?_, ?_, ?_, ?_⟩
      · rw [List.map_append, hli, take_snoc' hx]; rfl
      · intro p hp
        simp only [List.mem_append, List.mem_singleton] at hp
        rcases hp with hp | rfl
        · exact hcalm p hp
        · exact ⟨rfl, rfl, rfl, rfl⟩
      · rw [take_snoc' hx, List.nodup_append]
        refine ⟨hnd, by simp, fun a ha b hb => ?_⟩
        simp only [List.mem_singleton] at hb
        subst hb
        rintro rfl
        exact hxq ha
      · rw [List.flatMap_append, List.flatMap_cons, List.flatMap_nil, List.append_nil]
        exact h
  rw [List.take_of_length_le (by omega)] at hli hnd
  have hll : l.length = ids.length := by rw [← hli, List.length_map]
  have hap : Apart l := by unfold Apart; rw [hli]; exact hnd
  obtain ⟨l0, hl0⟩ : ∃ l0, l0 = last := ⟨_, rfl⟩
  refine ⟨fun m lst K kn kc i w' => ∃ (j : Nat) (ch : List Int), j + m = l.length ∧ i = (j : Int) ∧ ch.length = kn ∧ ch.length = j ∧ Arc ids l0 lst ch ∧ St c w' (own 3 1 K kn kc (ch.flatMap iv) :: own 103 7 O l.length oc (l.flatMap pth) :: L),
    ⟨l.length, 0, [], by omega, rfl, rfl, rfl, .inl ⟨by omega, fun y hy => by simp; omega⟩, h.addOwnNil _ _⟩, ?_⟩
  rintro m2 lst K kn kc _ w' ⟨j, ch, hj2, rfl, rfl, hch, harc, h⟩
  refine ifd (fun hlt => ?_) fun hge => ?_
  rotate_left
  · refine choose_ok (l := []) h RdIn.nil (by decide) (by unfold Apart; simp) fun O2 oc2 w' C hC pC h => ⟨_, _, _, rfl, ?_⟩
    have : C = [] := List.eq_nil_of_length_eq_zero (by have := pC.length_eq; simpa using this)
    subst this
    exact ift rfl (salive_ok h fun w' h => ⟨_, rfl, letb rfl (hk _ h.to)⟩)
  refine choose_ok h (RdIn.own (.tail .head)) (by omega) hap fun O2 oc2 w' C hC pC h => ⟨_, _, _, rfl, ?_⟩
  rw [calm_all hcalm] at pC
  cases C with
  | nil => have := pC.length_eq; simp at this; omega
  | cons x r =>
    obtain ⟨f1, f2⟩ := calm_first hcalm hC pC rfl
    rw [hli] at f1 f2
    have ech : chosen 2 (x :: r) = [x.id] := rfl
    rw [ech] at h ⊢
    obtain ⟨s1, s2⟩ := harc.step hnd (by omega) f1 f2
    refine iff_ rfl ?_
    have hO2 : RdIn (rows O2 ([x.id].flatMap iv) :: own 3 1 K ch.length kc (ch.flatMap iv) :: own 103 7 O l.length oc (l.flatMap pth) :: L) O2 ([x.id].flatMap iv) := RdIn.rows .head
    have hK : RdIn (rows O2 ([x.id].flatMap iv) :: own 3 1 K ch.length kc (ch.flatMap iv) :: own 103 7 O l.length oc (l.flatMap pth) :: L) K (ch.flatMap iv) := RdIn.own (.tail .head)
    refine ⟨fun m k w' => ∃ q : Nat, q + m = ch.length ∧ k = (q : Int) ∧ St c w' (rows O2 ([x.id].flatMap iv) :: own 3 1 K ch.length kc (ch.flatMap iv) :: own 103 7 O l.length oc (l.flatMap pth) :: L), ⟨ch.length, 0, by omega, rfl, h⟩, ?_⟩
    rintro m3 _ w' ⟨q, hq, rfl, h⟩
    refine ifd (fun hlt2 => ?_) fun hge2 => ?_
    · obtain ⟨y, hy⟩ := ex_get (L := ch) (j := q) (by omega)
      have h := h.drew
      refine h.ix (z := 0) hK hy fun a ha => ?_
      refine h.rdWI (a := a) (by rw [← ha]; exact hK) hy ?_
      refine h.ix (z := 0) (i := 0) (y := x.id) hO2 rfl (fun b hb => ?_) (by simp)
      refine h.rdWI (i := 0) (y := x.id) (a := b) (by rw [← hb]; exact hO2) rfl ?_
      refine ifq (fun e => absurd (List.mem_of_getElem? hy) (by rw [e]; exact s1)) fun _ => leti (y := ((q + 1 : Nat) : Int)) (wrap_i64 (by omega) (by omega)) ⟨m3 - 1, by omega, q + 1, by omega, rfl, h⟩
    · refine h.ix (z := 0) (i := 0) (y := x.id) hO2 rfl (fun b hb => ?_) (by simp)
      subst hb
      refine h.rdWI (i := 0) (y := x.id) hO2 rfl ?_
      refine h.app1 huInts tiInt (iv x.id) (.tail .head) (flat_all rfl) (by omega) fun K' kc' w' h => ?_
      have hO3 : RdIn (own 3 1 K' (ch.length + 1) kc' (ch.flatMap iv ++ iv x.id) :: rows (some b) ([x.id].flatMap iv) :: own 103 7 O l.length oc (l.flatMap pth) :: L) (some b) ([x.id].flatMap iv) := RdIn.rows (.tail .head)
      refine h.ix (z := 0) (i := 0) (y := x.id) hO3 rfl (fun b' hb => ?_) (by simp)
      injection hb with hb
      subst hb
      refine h.rdWI (i := 0) (y := x.id) hO3 rfl (leti rfl ?_)
      refine leti (y := ((j + 1 : Nat) : Int)) (wrap_i64 (by omega) (by omega)) ⟨m2 - 1, by omega, j + 1, ch ++ [x.id], by omega, rfl, by simp, by simp; omega, s2, ?_⟩
      rw [List.flatMap_append, List.flatMap_cons, List.flatMap_nil, List.append_nil]
      exact h.to
end
end Go.Br
