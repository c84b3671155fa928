/- A wheel of timers: a tick, and what is to be done. -/
import Derived.Test.YtccmlfekmmeloaaNWheel3
import Derived.Test.YtccmlfekmmeloaaWheel2
set_option linter.unusedVariables false
set_option linter.unusedSimpArgs false
set_option linter.unnecessarySimpa false
namespace Go.Br
open Go
instance biWheel3a : Zro PG 167 2 16 (.agg #[.int .i64 0, .int .i64 0]) := ⟨tiOf (by kernel_rfl)⟩
attribute [local irreducible] Addr.add RD RDS RUN RUNU NILC LETB CALL CALLX CALLV

section
variable {c : Ctx} {w : World} {L R : List SA} {p r1 r2 : Nat} {now : Nat} {most many : Int} {Z : List Sl} {E1 E2 : List (Int × Value)} {T : List Tm}
theorem tick_ok (h : St c w (wl p r1 r2 now most T.length Z E1 E2 L)) (hI : WI now T (Z.map Sl.l) E1 E2) (hZ : Z.length = 64) {n : Nat} (hnn : n = now + 1) (hn : now ≤ 100000000000) (hT : T.length ≤ 5000) {Q : Value → World → Prop}
    (hk : ∀ w' O d C Z' E1' E2', Srt fI C → C.Perm ((T.filter fun t => t.at' == n).map Tm.id) → WI n (T.filter fun t => !(t.at' == n)) (Z'.map Sl.l) E1' E2' → Z'.length = 64 →
      St c w' (own 3 1 O C.length d (C.flatMap iv) :: wl p r1 r2 n most (T.filter fun t => !(t.at' == n)).length Z' E1' E2' L) → Q (.slice O C.length d) w') : CALL PG 40 [.pointer (some ⟨p, 0, none⟩)] w Q := by
  have hrg := hI.rng
  refine call40 ?_
  unfold N40
  refine nilc (h.rdI 0 (nilc ?_))
  refine h.st 0 fun w' h => ?_
  rw [show IntKind.i64.wrap ((now : Int) + 1) = (n : Int) by rw [wrap_i64 (by omega) (by omega)]; omega] at h
  have h : St c w' (wl p r1 r2 n most T.length Z E1 E2 L) := h
  have hpl : ∀ {D S E}, WT now n D T S E → S.flatten.length ≤ 50000 := fun h => by rw [h.perm.length_eq]; omega
  refine ⟨fun w' => ∃ D Z' E2', WT now n D T (Z'.map Sl.l) E2' ∧ (n % 16 = 0 → 16 + n / 16 % 16 ∈ D) ∧ (n % 256 = 0 → 32 + n / 256 % 16 ∈ D) ∧ (n % 4096 = 0 → 48 + n / 4096 % 16 ∈ D) ∧ Z'.length = 64 ∧ St c w' (wl p r1 r2 n most T.length Z' E1 E2' L), ?_, ?_⟩
  · refine ⟨fun m unit r w' => ∃ D Z' E2', ((r = 1 ∧ unit = 1 ∧ m = 3) ∨ (r = 2 ∧ unit = 16 ∧ m = 2 ∧ n % 16 = 0 ∧ 16 + n / 16 % 16 ∈ D) ∨ (r = 3 ∧ unit = 256 ∧ m = 1 ∧ n % 256 = 0 ∧ 16 + n / 16 % 16 ∈ D ∧ 32 + n / 256 % 16 ∈ D) ∨ (r = 4 ∧ unit = 4096 ∧ m = 0 ∧ n % 4096 = 0 ∧ 16 + n / 16 % 16 ∈ D ∧ 32 + n / 256 % 16 ∈ D ∧ 48 + n / 4096 % 16 ∈ D)) ∧ WT now n D T (Z'.map Sl.l) E2' ∧ Z'.length = 64 ∧ St c w' (wl p r1 r2 n most T.length Z' E1 E2' L),
      ⟨3, [], Z, E2, .inl ⟨rfl, rfl, rfl⟩, hI.wt, hZ, h⟩, ?_⟩
    clear h
    rintro m unit r w' ⟨D, Z', E2', hc, hW, hZ', h⟩
    have hb := hpl hW
    rcases hc with ⟨rfl, rfl, rfl⟩ | ⟨rfl, rfl, rfl, e0, m1⟩ | ⟨rfl, rfl, rfl, e0, m1, m2⟩ | ⟨rfl, rfl, rfl, e0, m1, m2, m3⟩
    · refine ifdt (by decide) (leti (y := 16) (by decide) ?_)
      refine nilc (h.rdI 0 ⟨by decide, ?_⟩)
      have em : Int.tmod (n : Int) 16 = ((n % 16 : Nat) : Int) := by rw [Int.tmod_eq_emod_of_nonneg (Int.natCast_nonneg _)]; omega
      rw [em]
      refine ifn (fun e => ⟨D, Z', E2', hW, fun d => by omega, fun d => by omega, fun d => by omega, hZ', h⟩) fun e => ?_
      refine nilc (h.rdI 0 ⟨by decide, by decide, ?_⟩)
      have ei : Int.tmod (IntKind.i64.wrap (Int.tdiv (n : Int) 16)) 16 = ((n / 16 % 16 : Nat) : Int) := by
        rw [Int.tdiv_eq_ediv_of_nonneg (Int.natCast_nonneg _), wrap_i64 (by omega) (by omega), Int.tmod_eq_emod_of_nonneg (by omega)]
        omega
      rw [ei]
      refine turn_ok (r := 1) (s := n / 16 % 16) h hZ' (by decide) (by omega) (by omega) (by omega) (fun t ht => by have := hrg t (hW.perm.mem_iff.1 ht); omega) fun w' Z2 hZ2 eZ2 h => ⟨rfl, leti rfl ⟨2, by decide, (1 * 16 + n / 16 % 16) :: D, Z2, _, .inr (.inl ⟨rfl, rfl, rfl, by omega, by simp⟩), ?_, hZ2, h⟩⟩
      rw [eZ2]
      exact hW.turn (by omega) hI.ids
    · refine ifdt (by decide) (leti (y := 256) (by decide) ?_)
      refine nilc (h.rdI 0 ⟨by decide, ?_⟩)
      have em : Int.tmod (n : Int) 256 = ((n % 256 : Nat) : Int) := by rw [Int.tmod_eq_emod_of_nonneg (Int.natCast_nonneg _)]; omega
      rw [em]
      refine ifn (fun e => ⟨D, Z', E2', hW, fun _ => m1, fun d => by omega, fun d => by omega, hZ', h⟩) fun e => ?_
      refine nilc (h.rdI 0 ⟨by decide, by decide, ?_⟩)
      have ei : Int.tmod (IntKind.i64.wrap (Int.tdiv (n : Int) 256)) 16 = ((n / 256 % 16 : Nat) : Int) := by
        rw [Int.tdiv_eq_ediv_of_nonneg (Int.natCast_nonneg _), wrap_i64 (by omega) (by omega), Int.tmod_eq_emod_of_nonneg (by omega)]
        omega
      rw [ei]
      refine turn_ok (r := 2) (s := n / 256 % 16) h hZ' (by decide) (by omega) (by omega) (by omega) (fun t ht => by have := hrg t (hW.perm.mem_iff.1 ht); omega) fun w' Z2 hZ2 eZ2 h => ⟨rfl, leti rfl ⟨1, by decide, (2 * 16 + n / 256 % 16) :: D, Z2, _, .inr (.inr (.inl ⟨rfl, rfl, rfl, by omega, by simp [m1], by simp⟩)), ?_, hZ2, h⟩⟩
      rw [eZ2]
      exact hW.turn (by omega) hI.ids
    · refine ifdt (by decide) (leti (y := 4096) (by decide) ?_)
      refine nilc (h.rdI 0 ⟨by decide, ?_⟩)
      have em : Int.tmod (n : Int) 4096 = ((n % 4096 : Nat) : Int) := by rw [Int.tmod_eq_emod_of_nonneg (Int.natCast_nonneg _)]; omega
      rw [em]
      refine ifn (fun e => ⟨D, Z', E2', hW, fun _ => m1, fun _ => m2, fun d => by omega, hZ', h⟩) fun e => ?_
      refine nilc (h.rdI 0 ⟨by decide, by decide, ?_⟩)
      have ei : Int.tmod (IntKind.i64.wrap (Int.tdiv (n : Int) 4096)) 16 = ((n / 4096 % 16 : Nat) : Int) := by
        rw [Int.tdiv_eq_ediv_of_nonneg (Int.natCast_nonneg _), wrap_i64 (by omega) (by omega), Int.tmod_eq_emod_of_nonneg (by omega)]
        omega
      rw [ei]
      refine turn_ok (r := 3) (s := n / 4096 % 16) h hZ' (by decide) (by omega) (by omega) (by omega) (fun t ht => by have := hrg t (hW.perm.mem_iff.1 ht); omega) fun w' Z2 hZ2 eZ2 h => ⟨rfl, leti rfl ⟨0, by decide, (3 * 16 + n / 4096 % 16) :: D, Z2, _, .inr (.inr (.inr ⟨rfl, rfl, rfl, by omega, by simp [m1], by simp [m2], by simp⟩)), ?_, hZ2, h⟩⟩
      rw [eZ2]
      exact hW.turn (by omega) hI.ids
    · exact ifdf (by decide) ⟨D, Z', E2', hW, fun _ => m1, fun _ => m2, fun _ => m3, hZ', h⟩
  clear h
  rintro w' ⟨D, Z', E2', hW, d1, d2, d3, hZ', h⟩
  obtain ⟨f1, f2⟩ := hI.tick hnn hW d1 d2 d3
  have em : Int.tmod (n : Int) 16 = ((n % 16 : Nat) : Int) := by rw [Int.tmod_eq_emod_of_nonneg (Int.natCast_nonneg _)]; omega
  obtain ⟨z, hz⟩ := ex_get (L := Z') (j := n % 16) (by omega)
  have ez := sl_get hz
  rw [ez] at f1 f2
  have hsp := (set_perm (S := Z'.map Sl.l) (i := n % 16) (by rw [List.length_map]; omega)).trans hW.perm
  rw [ez] at hsp
  have hzl : z.l.length ≤ 5000 := by have := hsp.length_eq; rw [List.length_append] at this; omega
  have h := h.drew
  refine nilc (h.rdI 0 ⟨by decide, ?_⟩)
  rw [em]
  refine nilc ⟨by decide, by omega, ?_⟩
  rw [slot_adr0]
  refine h.rdL (3 + n % 16) ?_ (hp := .head) (hv := wc_get hz)
  have h := h.drew
  refine nilc (h.rdI 0 ⟨by decide, ?_⟩)
  rw [em]
  refine nilc ⟨by decide, by omega, ?_⟩
  rw [slot_adr0]
  refine h.st (3 + n % 16) (fun w' h => ?_) (hp := .head) (ho := by rw [wc_length]; omega)
  rw [show (Value.slice none 0 0) = .slice Sl.nil.A Sl.nil.l.length Sl.nil.k from rfl, wc_set (by omega)] at h
  have h := (h.detach hz).addOwnNil 3 1
  have hZ2 : (Z'.set (n % 16) Sl.nil).length = 64 := by rw [List.length_set]; exact hZ'
  have eZ2 : (Z'.set (n % 16) Sl.nil).map Sl.l = (Z'.map Sl.l).set (n % 16) [] := by rw [List.map_set]
  rw [← eZ2] at f2 hsp
  generalize Z'.set (n % 16) Sl.nil = Z2 at *
  have hlen := hsp.length_eq
  rw [List.length_append, f2.perm.length_eq] at hlen
  refine ⟨fun m O oN d x w' => ∃ j : Nat, x = j ∧ m = z.l.length - j ∧ j ≤ z.l.length ∧ j = oN ∧ St c w' (own 3 1 O j d (((z.l.take j).map Tm.id).flatMap iv) :: wl p r1 r2 n most ((T.length : Int) - j) Z2 (mdels (z.l.take j) E1) (mdels (z.l.take j) E2') (slo z :: L)),
    ⟨_, 0, rfl, rfl, by omega, rfl, by simpa [mdels] using h⟩, ?_⟩
  clear h
  rintro m O _ d _ w' ⟨j, rfl, rfl, hj, rfl, h⟩
  refine ifd (fun hlt => ?_) fun hge => ?_
  rotate_left
  · have ej : j = z.l.length := by omega
    rw [ej, List.take_length] at h
    have hC2 : (T.length : Int) - (z.l.length : Int) = ((T.filter fun t => !(t.at' == n)).length : Int) := by omega
    rw [hC2] at h
    rw [ej]
    refine sortN_ok (by rw [List.length_map]) (by omega) h fun w' C hC hp h => ⟨rfl, ?_⟩
    have hCl : C.length = z.l.length := by rw [hp.length_eq, List.length_map]
    have h := (h.pick (.tail (.tail (.tail (.tail pick_app))))).drop
    rw [← hCl] at h ⊢
    exact hk w' _ _ C Z2 _ _ hC (hp.trans (f1.map Tm.id)) f2 hZ2 h
  obtain ⟨t, ht⟩ := ex_get (L := z.l) (j := j) (by omega)
  have hr : RdIn (own 3 1 O j d (((z.l.take j).map Tm.id).flatMap iv) :: wl p r1 r2 n most ((T.length : Int) - j) Z2 (mdels (z.l.take j) E1) (mdels (z.l.take j) E2') (slo z :: L)) z.A (z.l.flatMap tm) := RdIn.own (.tail (.tail (.tail (.tail pick_app))))
  refine h.ix (z := 1) hr ht fun b hb => ?_
  have hr1 := hr
  rw [hb] at hr1
  refine h.rdEG hr1 ht ?_
  (repeat (first | apply Exists.intro (α := Int) | apply Exists.intro (α := Bool) | apply Exists.intro (α := ByteArray) | (apply Exists.intro (α := Option Addr); apply Exists.intro (α := Nat); apply Exists.intro (α := Nat)) | apply Exists.intro (α := Option Addr) | apply Exists.intro (α := Value)))
  refine ⟨rfl, ?_⟩
  refine h.allocZ fun q w' h => ?_
  refine h.stG fun w' h => ?_
  refine h.rdI 0 ?_
  refine h.app1 huInts tiInt [.int .i64 t.id] (.tail .head) (iv_flat1 _) (by omega) fun O2 d2 w' h => ?_
  have h := h.drew
  refine nilc (h.rdM 68 (.tail (.tail .head)) (wc_m2 hZ2) ⟨_, rfl, ?_⟩)
  refine h.rdI 0 ?_
  refine h.mdel (.tail (.tail (.tail (.tail .head)))) (fun w' h => ?_) huIP hu64
  have h := h.drew
  refine nilc (h.rdM 67 (.tail (.tail (.tail .head))) (wc_m1 hZ2) ⟨_, rfl, ?_⟩)
  refine h.rdI 0 ?_
  refine h.mdel (.tail (.tail (.tail (.tail .head)))) (fun w' h => ?_) huII hu64
  refine nilc (h.rdI 2 (nilc ?_))
  refine h.st 2 fun w' h => ?_
  have h := h.sub (.cons (.tail (.tail (.tail .head))) (.cons .head (.cons .head (.cons .head (Sub.same _).more))))
  refine ⟨_, by omega, j + 1, by rw [wrap_i64 (by omega) (by omega)]; omega, rfl, by omega, rfl, ?_⟩
  rw [show IntKind.i64.wrap ((T.length : Int) - (j : Int) - 1) = (T.length : Int) - ((j + 1 : Nat) : Int) by rw [wrap_i64 (by omega) (by omega)]; omega] at h
  rw [take_snoc' ht, mdels_snoc, mdels_snoc, List.map_append, List.flatMap_append]
  exact h
theorem len_okW (h : St c w (wl p r1 r2 now most many Z E1 E2 L)) {Q : Value → World → Prop} (hk : St c w (wl p r1 r2 now most many Z E1 E2 L) → Q (.int .i64 many) w) : CALL PG 41 [.pointer (some ⟨p, 0, none⟩)] w Q := by
  refine call41 ?_
  unfold N41
  exact nilc (h.rdI 2 (leti rfl (hk h)))
theorem now_okW (h : St c w (wl p r1 r2 now most many Z E1 E2 L)) {Q : Value → World → Prop} (hk : St c w (wl p r1 r2 now most many Z E1 E2 L) → Q (.int .i64 now) w) : CALL PG 54 [.pointer (some ⟨p, 0, none⟩)] w Q := by
  refine call54 ?_
  unfold N54
  exact nilc (h.rdI 0 (leti rfl (hk h)))
theorem nils_add : ∀ (n : Nat) {w : World} {L : List SA}, St c w L → St c w ((List.replicate n Sl.nil).map slo ++ L)
  | 0, w, L, h => h
  | n + 1, w, L, h => (nils_add n h).addOwnNil 167 2
instance biWh (m : Int) (a b : Nat) : Bld PG (Instr.build 164 #[(1, .int .i64 m), (4, .map (some a)), (5, .map (some b))]) (.agg (wc 0 m 0 (List.replicate 64 Sl.nil) a b).toArray) := ⟨fun w => by kernel_rfl⟩
theorem WI.new : WI 0 [] ((List.replicate 64 Sl.nil).map Sl.l) [] [] := by
  refine ⟨by simp, by simp, fun i l hl t ht => ?_, by simp, fun t ht => by simp at ht, by simp [KN], by simp [KN], fun t ht => by simp at ht, fun k _ => rfl, fun i l hl t ht => ?_, fun k _ => rfl⟩
  all_goals
    have := List.mem_of_getElem? hl
    simp at this
    subst this
    simp at ht
theorem new_okW (h : St c w L) {m : Int} {Q : Value → World → Prop}
    (hk : ∀ w' p r1 r2 Z, Z.length = 64 → WI 0 [] (Z.map Sl.l) [] [] → St c w' (wl p r1 r2 (0 : Nat) (minN (maxN m 0) 4096) (0 : Nat) Z [] [] L) → Q (.pointer (some ⟨p, 0, none⟩)) w') : CALL PG 38 [.int .i64 m] w Q := by
  refine call38 ?_
  unfold N38
  have h := nils_add 64 h
  refine h.mkmap fun r2 w' h => ⟨_, rfl, ?_⟩
  refine h.mkmap fun r1 w' h => ⟨_, rfl, ?_⟩
  refine RD.bld ⟨_, rfl, ?_⟩
  refine h.box fun p w' h => ?_
  exact hk _ p r2 r1 (List.replicate 64 Sl.nil) (by simp) WI.new (h.sub (.cons .head (.cons (.tail .head) (.cons .head (Sub.same _)))))
end
end Go.Br
