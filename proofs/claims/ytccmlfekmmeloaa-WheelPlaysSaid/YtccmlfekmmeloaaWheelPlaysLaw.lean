/- The law of a wheel against the document's clock. -/
import Derived.Test.YtccmlfekmmeloaaNWheelPlaysLaw
import Derived.Test.YtccmlfekmmeloaaRepPure
import Derived.Test.YtccmlfekmmeloaaWheelRef2
set_option linter.unusedVariables false
set_option linter.unusedSimpArgs false
set_option linter.unnecessarySimpa false
namespace Go.Br
open Go
instance biWheelPlaysLawa : Zro PG 87 3 24 (.agg #[.int .i64 0, .int .i64 0, .int .i64 0]) := ⟨tiOf (by kernel_rfl)⟩
instance biWheelPlaysLawb : Zro PG 97 3 40 (.agg #[.int .i64 0, .int .i64 0, .slice none 0 0]) := ⟨tiOf (by kernel_rfl)⟩
attribute [local irreducible] Addr.add RD RDS RUN RUNU NILC LETB CALL CALLX CALLV

theorem ent_swap : ∀ (A : List SA) {B C : List SA}, Ent (all (A ++ (B ++ C))) (all (B ++ (A ++ C)))
  | [], B, C => Ent.refl _
  | X :: A, B, C => ((Ent.refl X).sep (ent_swap A)).trans (Pick.back pick_app)
/-- What is said of a number. -/
def DueIs (T : List Tm) (now : Nat) (id x : Int) (b : Bool) : Prop := (b = false ∧ x = 0 ∧ ∀ t ∈ T, t.id ≠ id) ∨ (b = true ∧ ∃ t ∈ T, t.id = id ∧ x = (t.at' : Int) - (now : Int))
def NextIs (T : List Tm) (now : Nat) (x : Int) (b : Bool) : Prop := (b = false ∧ x = 0 ∧ T = []) ∨ (b = true ∧ (∃ t ∈ T, x = (t.at' : Int) - (now : Int)) ∧ ∀ t ∈ T, x ≤ (t.at' : Int) - (now : Int))
theorem NextIs.uniq {T : List Tm} {now : Nat} {x y : Int} {b d : Bool} (h : NextIs T now x b) (h' : NextIs T now y d) : x = y ∧ b = d := by
  rcases h with ⟨rfl, rfl, e⟩ | ⟨rfl, ⟨t, ht, e⟩, hl⟩ <;> rcases h' with ⟨rfl, rfl, e'⟩ | ⟨rfl, ⟨u, hu, e'⟩, hl'⟩
  · exact ⟨rfl, rfl⟩
  · subst e; cases hu
  · subst e'; cases ht
  · have := hl u hu
    have := hl' t ht
    exact ⟨by omega, rfl⟩
section
variable {c : Ctx} {w : World} {L R : List SA} {p r1 r2 : Nat} {now : Nat} {most : Int} {Z : List Sl} {E1 E2 : List (Int × Value)} {T : List Tm} {A : Option Addr} {k : Nat}
theorem DueIs.uniq {S : List (List Tm)} (hI : WI now T S E1 E2) {id x y : Int} {b d : Bool} (h : DueIs T now id x b) (h' : DueIs T now id y d) : x = y ∧ b = d := by
  rcases h with ⟨rfl, rfl, e⟩ | ⟨rfl, t, ht, e, rfl⟩ <;> rcases h' with ⟨rfl, rfl, e'⟩ | ⟨rfl, u, hu, e', rfl⟩
  · exact ⟨rfl, rfl⟩
  · exact absurd e' (e u hu)
  · exact absurd e (e' t ht)
  · have := hI.uniq ht hu (e.trans e'.symm)
    subst this
    exact ⟨rfl, rfl⟩
theorem St.inW {X Y V : SA} {Ms : List SA} (h : St c w (Ms ++ (X :: Y :: V :: (Z.map slo ++ L)))) : St c w (X :: Y :: V :: (Z.map slo ++ (Ms ++ L))) := h.ent (ent_swap Ms (B := X :: Y :: V :: Z.map slo) (C := L))
theorem St.outW {X Y V : SA} (Ms : List SA) (h : St c w (X :: Y :: V :: (Z.map slo ++ (Ms ++ L)))) : St c w (Ms ++ (X :: Y :: V :: (Z.map slo ++ L))) := h.ent (ent_swap (X :: Y :: V :: Z.map slo) (B := Ms) (C := L))
theorem St.outW1 {X0 X Y V : SA} (Ms : List SA) (h : St c w (X0 :: X :: Y :: V :: (Z.map slo ++ (Ms ++ L)))) : St c w (X0 :: (Ms ++ (X :: Y :: V :: (Z.map slo ++ L)))) := h.ent ((Ent.refl X0).sep (ent_swap (X :: Y :: V :: Z.map slo) (B := Ms) (C := L)))
theorem St.outW3 {X Y V M1 M2 M3 : SA} (h : St c w (X :: Y :: V :: (Z.map slo ++ ([M1, M2, M3] ++ L)))) : St c w (M1 :: M2 :: M3 :: X :: Y :: V :: (Z.map slo ++ L)) := h.outW [M1, M2, M3]
theorem St.outW4 {X Y V M1 M2 M3 M4 : SA} (h : St c w (X :: Y :: V :: (Z.map slo ++ ([M1, M2, M3, M4] ++ L)))) : St c w (M1 :: M2 :: M3 :: M4 :: X :: Y :: V :: (Z.map slo ++ L)) := h.outW [M1, M2, M3, M4]
theorem St.outX5 {X0 X Y V M1 M2 M3 M4 M5 : SA} (h : St c w (X0 :: X :: Y :: V :: (Z.map slo ++ ([M1, M2, M3, M4, M5] ++ L)))) : St c w (X0 :: M1 :: M2 :: M3 :: M4 :: M5 :: X :: Y :: V :: (Z.map slo ++ L)) := h.outW1 [M1, M2, M3, M4, M5]
theorem addB_ok (h : St c w (wl p r1 r2 now most T.length Z E1 E2 L)) {id x : Int} (hx : x < 1 ∨ 65535 < x) {Q : Value → World → Prop} (hk : St c w (wl p r1 r2 now most T.length Z E1 E2 L) → Q (.bool false) w) : CALL PG 39 [.pointer (some ⟨p, 0, none⟩), .int .i64 id, .int .i64 x] w Q := by
  refine call39 ?_
  unfold N39
  exact ifd (fun _ => hk h) fun h1 => ifd (fun _ => hk h) fun h2 => by omega
theorem dueX (h : St c w (wl p r1 r2 now most T.length Z E1 E2 L)) (hI : WI now T (Z.map Sl.l) E1 E2) (hZ : Z.length = 64) (hn : now ≤ 100000000000) {id : Int} {Q : Value → World → Prop}
    (hk : ∀ x b, DueIs T now id x b → St c w (wl p r1 r2 now most T.length Z E1 E2 L) → Q (.tuple #[.int .i64 x, .bool b]) w) : CALL PG 51 [.pointer (some ⟨p, 0, none⟩), .int .i64 id] w Q :=
  due_ok h hI hZ hn (fun e h => hk 0 false (.inl ⟨rfl, rfl, e⟩) h) fun t ht e h => hk _ true (.inr ⟨rfl, t, ht, e, rfl⟩) h
theorem rdueX (h : St c w L) (hr : RdIn L A (T.flatMap tm)) (hT : T.length ≤ 5000) (hn : now ≤ 100000000000) (ha : ∀ t ∈ T, t.at' ≤ 100000000000) {id : Int} {Q : Value → World → Prop}
    (hk : ∀ x b w', DueIs T now id x b → St c w' L → Q (.tuple #[.int .i64 x, .bool b]) w') : CALL PG 52 [r29v now most A T.length k, .int .i64 id] w Q :=
  rdue_ok h hr hT hn ha (fun e w' h => hk 0 false w' (.inl ⟨rfl, rfl, e⟩) h) fun t ht e w' h => hk _ true w' (.inr ⟨rfl, t, ht, e, rfl⟩) h
theorem nextX (h : St c w (wl p r1 r2 now most T.length Z E1 E2 L)) (hI : WI now T (Z.map Sl.l) E1 E2) (hZ : Z.length = 64) (hn : now ≤ 100000000000) {Q : Value → World → Prop}
    (hk : ∀ x b w', NextIs T now x b → St c w' (wl p r1 r2 now most T.length Z E1 E2 L) → Q (.tuple #[.int .i64 x, .bool b]) w') : CALL PG 44 [.pointer (some ⟨p, 0, none⟩)] w Q :=
  next_ok h hI hZ hn (fun e w' h => hk 0 false w' (.inl ⟨rfl, rfl, e⟩) h) fun n w' hex hall h => hk _ true w' (.inr ⟨rfl, by obtain ⟨t, ht, e⟩ := hex; exact ⟨t, ht, by omega⟩, fun t ht => by have := hall t ht; omega⟩) h
theorem rnextX (h : St c w L) (hr : RdIn L A (T.flatMap tm)) (hT : T.length ≤ 5000) (hn : now ≤ 100000000000) (ha : ∀ t ∈ T, t.at' ≤ 100000000000) {Q : Value → World → Prop}
    (hk : ∀ x b w', NextIs T now x b → St c w' L → Q (.tuple #[.int .i64 x, .bool b]) w') : CALL PG 53 [r29v now most A T.length k] w Q :=
  rnext_ok h hr hT hn ha (fun e w' h => hk 0 false w' (.inl ⟨rfl, rfl, e⟩) h) fun b w' hex hall h => hk _ true w' (.inr ⟨rfl, hex, hall⟩) h
theorem plays29_ok (h : St c w L) {m0 : Int} {l : List Op29} (hr : RdIn L A (l.flatMap op29)) {Q : Value → World → Prop} (hk : ∀ w', St c w' L → Q (.bool true) w') : CALL PG 10 [.int .i64 m0, .slice A l.length k] w Q := by
  refine call10 ?_
  unfold N10
  refine ifd (fun _ => hk _ h) fun hl => ?_
  have hl : l.length ≤ 60 := by omega
  refine new_okW h fun w' p r1 r2 Z hZ hI h => ?_
  (repeat (first | apply Exists.intro (α := Int) | apply Exists.intro (α := Bool) | apply Exists.intro (α := ByteArray) | (apply Exists.intro (α := Option Addr); apply Exists.intro (α := Nat); apply Exists.intro (α := Nat)) | apply Exists.intro (α := Option Addr) | apply Exists.intro (α := Value)))
  refine ⟨rfl, ?_⟩
  refine iff_ rfl ?_
  refine rnew_ok h fun w' h => ?_
  (repeat (first | apply Exists.intro (α := Int) | apply Exists.intro (α := Bool) | apply Exists.intro (α := ByteArray) | (apply Exists.intro (α := Option Addr); apply Exists.intro (α := Nat); apply Exists.intro (α := Nat)) | apply Exists.intro (α := Option Addr) | apply Exists.intro (α := Value)))
  refine ⟨rfl, ?_⟩
  generalize minN (maxN m0 0) 4096 = most at *
  refine h.allocZ fun q w' h => ?_
  refine h.stG fun w' h => ?_
  have h := h.addOwnNil 172 2
  have hrw : ∀ {M : List SA} {now most many Z E1 E2}, RdIn (M ++ wl p r1 r2 now most many Z E1 E2 L) A (l.flatMap op29) := fun {M now most many Z E1 E2} c w h => hr c w (St.dropL h).noWheel
  refine ⟨fun m x w' => ∃ (i now : Nat) (T : List Tm) (B : Option Addr) (kb : Nat) (Z : List Sl) (E1 E2 : List (Int × Value)), x = i ∧ m = l.length - i ∧ i ≤ l.length ∧ now ≤ 300 * i ∧ T.length ≤ i ∧ WI now T (Z.map Sl.l) E1 E2 ∧ Z.length = 64 ∧
    St c w' (own 172 2 B T.length kb (T.flatMap tm) :: blk q 97 (r29 now most B T.length kb) :: wl p r1 r2 now most T.length Z E1 E2 L), ⟨_, 0, 0, [], none, 0, Z, [], [], rfl, rfl, by omega, by omega, by simp, hI, hZ, h⟩, ?_⟩
  clear h hI hZ
  rintro m _ w' ⟨i, now, T, B, kb, Z, E1, E2, rfl, rfl, hi, hnow, hTl, hI, hZ, h⟩
  refine ifd (fun hlt => ?_) fun hge => ?_
  rotate_left
  · refine alive29_ok h.drop.drop.noWheel fun w' h => ?_
    (repeat (first | apply Exists.intro (α := Int) | apply Exists.intro (α := Bool) | apply Exists.intro (α := ByteArray) | (apply Exists.intro (α := Option Addr); apply Exists.intro (α := Nat); apply Exists.intro (α := Nat)) | apply Exists.intro (α := Option Addr) | apply Exists.intro (α := Value)))
    refine ⟨rfl, ?_⟩
    exact letb rfl (hk _ h)
  obtain ⟨o, ho⟩ := ex_get (L := l) (j := i) (by omega)
  refine h.ix (z := 2) (hrw (M := [_, _])) ho fun b hb => ?_
  have hr1 := hr
  rw [hb] at hr1
  have hrw1 : ∀ {M : List SA} {now most many Z E1 E2}, RdIn (M ++ wl p r1 r2 now most many Z E1 E2 L) (some b) (l.flatMap op29) := fun {M now most many Z E1 E2} c w h => hr1 c w (St.dropL h).noWheel
  refine h.rdEG (hrw1 (M := [_, _])) ho ?_
  (repeat (first | apply Exists.intro (α := Int) | apply Exists.intro (α := Bool) | apply Exists.intro (α := ByteArray) | (apply Exists.intro (α := Option Addr); apply Exists.intro (α := Nat); apply Exists.intro (α := Nat)) | apply Exists.intro (α := Option Addr) | apply Exists.intro (α := Value)))
  refine ⟨rfl, ?_⟩
  refine h.allocZ fun a w' h => ?_
  refine h.stG fun w' h => ?_
  refine ⟨fun w' => ∃ (now : Nat) (T : List Tm) (B : Option Addr) (kb : Nat) (Z : List Sl) (E1 E2 : List (Int × Value)), now ≤ 300 * (i + 1) ∧ T.length ≤ i + 1 ∧ WI now T (Z.map Sl.l) E1 E2 ∧ Z.length = 64 ∧
    St c w' (blk a 87 (op29 o) :: own 172 2 B T.length kb (T.flatMap tm) :: blk q 97 (r29 now most B T.length kb) :: wl p r1 r2 now most T.length Z E1 E2 L), ?_, ?_⟩
  rotate_left
  · clear h hI hZ hnow hTl hb hr1 hrw1
    rintro w' ⟨now, T, B, kb, Z, E1, E2, hnow, hTl, hI, hZ, h⟩
    have hat : ∀ t ∈ T, t.at' ≤ 100000000000 := fun t ht => by have := hI.rng t ht; omega
    refine h.rdI 1 ?_
    refine dueX (h.inW (Ms := [_, _, _])) hI hZ (by omega) fun x1 b1 hd1 h => ?_
    have h := h.outW3
    (repeat (first | apply Exists.intro (α := Int) | apply Exists.intro (α := Bool) | apply Exists.intro (α := ByteArray) | (apply Exists.intro (α := Option Addr); apply Exists.intro (α := Nat); apply Exists.intro (α := Nat)) | apply Exists.intro (α := Option Addr) | apply Exists.intro (α := Value)))
    refine ⟨rfl, ?_⟩
    refine leti rfl (letb rfl ?_)
    refine h.rdG ?_
    (repeat (first | apply Exists.intro (α := Int) | apply Exists.intro (α := Bool) | apply Exists.intro (α := ByteArray) | (apply Exists.intro (α := Option Addr); apply Exists.intro (α := Nat); apply Exists.intro (α := Nat)) | apply Exists.intro (α := Option Addr) | apply Exists.intro (α := Value)))
    refine ⟨rfl, ?_⟩
    refine h.rdI 1 ?_
    refine rdueX h (RdIn.own (.tail .head)) (by omega) (by omega) hat fun x2 b2 w' hd2 h => ?_
    obtain ⟨rfl, rfl⟩ := hd1.uniq hI hd2
    (repeat (first | apply Exists.intro (α := Int) | apply Exists.intro (α := Bool) | apply Exists.intro (α := ByteArray) | (apply Exists.intro (α := Option Addr); apply Exists.intro (α := Nat); apply Exists.intro (α := Nat)) | apply Exists.intro (α := Option Addr) | apply Exists.intro (α := Value)))
    refine ⟨rfl, ?_⟩
    refine leti rfl (letb rfl ?_)
    refine nextX (h.inW (Ms := [_, _, _])) hI hZ (by omega) fun y1 d1 w' hn1 h => ?_
    have h := h.outW3
    (repeat (first | apply Exists.intro (α := Int) | apply Exists.intro (α := Bool) | apply Exists.intro (α := ByteArray) | (apply Exists.intro (α := Option Addr); apply Exists.intro (α := Nat); apply Exists.intro (α := Nat)) | apply Exists.intro (α := Option Addr) | apply Exists.intro (α := Value)))
    refine ⟨rfl, ?_⟩
    refine leti rfl (letb rfl ?_)
    refine h.rdG ?_
    (repeat (first | apply Exists.intro (α := Int) | apply Exists.intro (α := Bool) | apply Exists.intro (α := ByteArray) | (apply Exists.intro (α := Option Addr); apply Exists.intro (α := Nat); apply Exists.intro (α := Nat)) | apply Exists.intro (α := Option Addr) | apply Exists.intro (α := Value)))
    refine ⟨rfl, ?_⟩
    refine rnextX h (RdIn.own (.tail .head)) (by omega) (by omega) hat fun y2 d2 w' hn2 h => ?_
    obtain ⟨rfl, rfl⟩ := hn1.uniq hn2
    (repeat (first | apply Exists.intro (α := Int) | apply Exists.intro (α := Bool) | apply Exists.intro (α := ByteArray) | (apply Exists.intro (α := Option Addr); apply Exists.intro (α := Nat); apply Exists.intro (α := Nat)) | apply Exists.intro (α := Option Addr) | apply Exists.intro (α := Value)))
    refine ⟨rfl, ?_⟩
    refine leti rfl (letb rfl ?_)
    have h := h.drew
    refine ⟨fun w => St c w [blk q 97 (r29 now most B T.length kb)], h.sub (.cons (.tail (.tail .head)) .nil), ?_⟩
    refine ifn (fun e => absurd rfl e) fun _ => iff_ (by cases b1 <;> rfl) (ifn (fun e => absurd rfl e) fun _ => iff_ (by cases d1 <;> rfl) ?_)
    refine St.rdsI 0 ?_
    refine now_okW (h.inW (Ms := [_, _, _])) fun h => ?_
    have h := h.outW3
    (repeat (first | apply Exists.intro (α := Int) | apply Exists.intro (α := Bool) | apply Exists.intro (α := ByteArray) | (apply Exists.intro (α := Option Addr); apply Exists.intro (α := Nat); apply Exists.intro (α := Nat)) | apply Exists.intro (α := Option Addr) | apply Exists.intro (α := Value)))
    refine ⟨rfl, ?_⟩
    refine ⟨_, fun _ h => h, h.sub (.cons (.tail (.tail .head)) .nil), ?_⟩
    refine ifn (fun e => absurd rfl e) fun _ => ?_
    refine St.rdsL 2 ?_
    refine len_okW (h.inW (Ms := [_, _, _])) fun h => ?_
    have h := h.outW3
    (repeat (first | apply Exists.intro (α := Int) | apply Exists.intro (α := Bool) | apply Exists.intro (α := ByteArray) | (apply Exists.intro (α := Option Addr); apply Exists.intro (α := Nat); apply Exists.intro (α := Nat)) | apply Exists.intro (α := Option Addr) | apply Exists.intro (α := Value)))
    refine ⟨rfl, ?_⟩
    refine ⟨_, fun _ h => h, h.sub (.cons (.tail (.tail .head)) .nil), ?_⟩
    refine ifn (fun e => absurd rfl e) fun _ => ?_
    exact leti (y := ((i + 1 : Nat) : Int)) (by rw [wrap_i64 (by omega) (by omega)]; omega) ⟨_, by omega, i + 1, now, T, B, kb, Z, E1, E2, rfl, rfl, by omega, hnow, hTl, hI, hZ, h.drop⟩
  have hFl : ∀ id, (T.filter (notI id)).length ≤ T.length := fun id => List.length_filter_le _ _
  refine h.rdI 0 ?_
  refine ⟨by decide, by decide, ?_⟩
  refine letb rfl (ifb (fun _ => ?_) fun _ => ?_)
  · refine h.rdG ?_
    (repeat (first | apply Exists.intro (α := Int) | apply Exists.intro (α := Bool) | apply Exists.intro (α := ByteArray) | (apply Exists.intro (α := Option Addr); apply Exists.intro (α := Nat); apply Exists.intro (α := Nat)) | apply Exists.intro (α := Option Addr) | apply Exists.intro (α := Value)))
    refine ⟨rfl, ?_⟩
    refine h.rdI 1 ?_
    refine rcancel_ok h (RdIn.own (.tail .head)) (by omega) fun w' O d h => ?_
    (repeat (first | apply Exists.intro (α := Int) | apply Exists.intro (α := Bool) | apply Exists.intro (α := ByteArray) | (apply Exists.intro (α := Option Addr); apply Exists.intro (α := Nat); apply Exists.intro (α := Nat)) | apply Exists.intro (α := Option Addr) | apply Exists.intro (α := Value)))
    refine ⟨rfl, ?_⟩
    refine h.stG fun w' h => ?_
    refine letb rfl ?_
    refine h.rdI 1 ?_
    have hfl := hFl o.id
    refine cancel_ok (h.inW (Ms := [_, _, _, _])) hI hZ (by omega) (fun hno w' h => ?_) fun hex w' Z' E1' E2' hI' hZ' h => ?_
    · have h := h.outW4
      have e : T.filter (notI o.id) = T := List.filter_eq_self.2 fun t ht => by unfold notI; simp [hno t ht]
      rw [e] at h ⊢
      (repeat (first | apply Exists.intro (α := Int) | apply Exists.intro (α := Bool) | apply Exists.intro (α := ByteArray) | (apply Exists.intro (α := Option Addr); apply Exists.intro (α := Nat); apply Exists.intro (α := Nat)) | apply Exists.intro (α := Option Addr) | apply Exists.intro (α := Value)))
      refine ⟨rfl, ?_⟩
      refine iff_ (by simp) ?_
      exact ⟨now, T, O, d, Z, E1, E2, by omega, by omega, hI, hZ, h.sub (.cons (.tail (.tail .head)) (.cons (.tail .head) (.cons .head (Sub.same _).more)))⟩
    · have h := h.outW4
      obtain ⟨t, ht, e⟩ := hex
      have h1 := filt_one hI.ids ht
      rw [e] at h1
      (repeat (first | apply Exists.intro (α := Int) | apply Exists.intro (α := Bool) | apply Exists.intro (α := ByteArray) | (apply Exists.intro (α := Option Addr); apply Exists.intro (α := Nat); apply Exists.intro (α := Nat)) | apply Exists.intro (α := Option Addr) | apply Exists.intro (α := Value)))
      refine ⟨rfl, ?_⟩
      refine iff_ (by rw [show decide (((T.filter (notI o.id)).length : Int) < (T.length : Int)) = true from decide_eq_true (by omega)]; rfl) ?_
      exact ⟨now, _, O, d, Z', E1', E2', by omega, by omega, hI', hZ', h.sub (.cons (.tail (.tail .head)) (.cons (.tail .head) (.cons .head (Sub.same _).more)))⟩
  refine ⟨fun _ w' => St c w' (blk a 87 (op29 o) :: own 172 2 B T.length kb (T.flatMap tm) :: blk q 97 (r29 now most B T.length kb) :: wl p r1 r2 now most T.length Z E1 E2 L), letb rfl (ifb (fun _ => h) fun _ => letb rfl h), ?_⟩
  clear h
  intro b0 w' h
  refine ifb (fun _ => ?_) fun _ => ?_
  · refine ⟨fun m x w' => ∃ (j now : Nat) (T : List Tm) (B : Option Addr) (kb : Nat) (Z : List Sl) (E1 E2 : List (Int × Value)), x = j ∧ m = 300 - j ∧ j ≤ 300 ∧ now ≤ 300 * i + j ∧ T.length ≤ i ∧ WI now T (Z.map Sl.l) E1 E2 ∧ Z.length = 64 ∧
      St c w' (blk a 87 (op29 o) :: own 172 2 B T.length kb (T.flatMap tm) :: blk q 97 (r29 now most B T.length kb) :: wl p r1 r2 now most T.length Z E1 E2 L), ⟨_, 0, now, T, B, kb, Z, E1, E2, rfl, rfl, by omega, by omega, hTl, hI, hZ, h⟩, ?_⟩
    clear h hI hZ hnow hTl hFl
    rintro m _ w' ⟨j, now, T, B, kb, Z, E1, E2, rfl, rfl, hj, hnow, hTl, hI, hZ, h⟩
    refine ifd (fun hlt => ?_) fun _ => ⟨now, T, B, kb, Z, E1, E2, by omega, by omega, hI, hZ, h⟩
    refine h.rdI 2 ?_
    refine ifd (fun _ => ?_) fun _ => ⟨now, T, B, kb, Z, E1, E2, by omega, by omega, hI, hZ, h⟩
    refine h.rdG ?_
    (repeat (first | apply Exists.intro (α := Int) | apply Exists.intro (α := Bool) | apply Exists.intro (α := ByteArray) | (apply Exists.intro (α := Option Addr); apply Exists.intro (α := Nat); apply Exists.intro (α := Nat)) | apply Exists.intro (α := Option Addr) | apply Exists.intro (α := Value)))
    refine ⟨rfl, ?_⟩
    refine rtick_ok h (RdIn.own (.tail .head)) (by omega) (n := now + 1) rfl (by omega) fun w' O d O2 d2 C hC hp h => ?_
    (repeat (first | apply Exists.intro (α := Int) | apply Exists.intro (α := Bool) | apply Exists.intro (α := ByteArray) | (apply Exists.intro (α := Option Addr); apply Exists.intro (α := Nat); apply Exists.intro (α := Nat)) | apply Exists.intro (α := Option Addr) | apply Exists.intro (α := Value)))
    refine ⟨rfl, ?_⟩
    refine h.stG fun w' h => ?_
    refine tick_ok (h.inW (Ms := [_, _, _, _, _])) hI hZ (n := now + 1) rfl (by omega) (by omega) fun w' O3 d3 C2 Z' E1' E2' hC2 hp2 hI' hZ' h => ?_
    have eC := srt_uniq hC2 hC (hp2.trans hp.symm)
    subst eC
    (repeat (first | apply Exists.intro (α := Int) | apply Exists.intro (α := Bool) | apply Exists.intro (α := ByteArray) | (apply Exists.intro (α := Option Addr); apply Exists.intro (α := Nat); apply Exists.intro (α := Nat)) | apply Exists.intro (α := Option Addr) | apply Exists.intro (α := Value)))
    refine ⟨rfl, ?_⟩
    have h := h.outX5
    have hle := List.length_filter_le (fun t : Tm => !(t.at' == now + 1)) T
    have hCl : C2.length ≤ T.length := by
      rw [hp2.length_eq, List.length_map]
      exact List.length_filter_le _ _
    refine row29_ok h (RdIn.own .head) (RdIn.own (.tail (.tail (.tail .head)))) (by omega) fun w' h => ?_
    (repeat (first | apply Exists.intro (α := Int) | apply Exists.intro (α := Bool) | apply Exists.intro (α := ByteArray) | (apply Exists.intro (α := Option Addr); apply Exists.intro (α := Nat); apply Exists.intro (α := Nat)) | apply Exists.intro (α := Option Addr) | apply Exists.intro (α := Value)))
    refine ⟨rfl, ?_⟩
    refine iff_ rfl ?_
    exact leti (y := ((j + 1 : Nat) : Int)) (by rw [wrap_i64 (by omega) (by omega)]; omega) ⟨_, by omega, j + 1, now + 1, _, O, d, Z', E1', E2', rfl, rfl, by omega, by omega, by omega, hI', hZ', h.sub (.cons (.tail (.tail (.tail (.tail .head)))) (.cons (.tail (.tail .head)) (.cons (.tail .head) (Sub.same _).more.more.more)))⟩
  · refine h.rdG ?_
    (repeat (first | apply Exists.intro (α := Int) | apply Exists.intro (α := Bool) | apply Exists.intro (α := ByteArray) | (apply Exists.intro (α := Option Addr); apply Exists.intro (α := Nat); apply Exists.intro (α := Nat)) | apply Exists.intro (α := Option Addr) | apply Exists.intro (α := Value)))
    refine ⟨rfl, ?_⟩
    refine h.rdI 1 ?_
    refine h.rdI 2 ?_
    have hfl := hFl o.id
    refine radd_ok h (RdIn.own (.tail .head)) (by omega) (by omega) (fun hx w' h => ?_) (fun g1 g2 hm w' O d h => ?_) fun g1 g2 hm w' O d h => ?_
    · (repeat (first | apply Exists.intro (α := Int) | apply Exists.intro (α := Bool) | apply Exists.intro (α := ByteArray) | (apply Exists.intro (α := Option Addr); apply Exists.intro (α := Nat); apply Exists.intro (α := Nat)) | apply Exists.intro (α := Option Addr) | apply Exists.intro (α := Value)))
      refine ⟨rfl, ?_⟩
      refine h.stG fun w' h => ?_
      refine letb rfl ?_
      refine h.rdI 1 ?_
      refine h.rdI 2 ?_
      refine addB_ok (h.inW (Ms := [_, _, _])) hx fun h => ?_
      have h := h.outW3
      (repeat (first | apply Exists.intro (α := Int) | apply Exists.intro (α := Bool) | apply Exists.intro (α := ByteArray) | (apply Exists.intro (α := Option Addr); apply Exists.intro (α := Nat); apply Exists.intro (α := Nat)) | apply Exists.intro (α := Option Addr) | apply Exists.intro (α := Value)))
      refine ⟨rfl, ?_⟩
      refine iff_ rfl ?_
      exact ⟨now, T, B, kb, Z, E1, E2, by omega, by omega, hI, hZ, h.sub (.cons (.tail .head) (.cons (.tail .head) (.cons .head (Sub.same _))))⟩
    · (repeat (first | apply Exists.intro (α := Int) | apply Exists.intro (α := Bool) | apply Exists.intro (α := ByteArray) | (apply Exists.intro (α := Option Addr); apply Exists.intro (α := Nat); apply Exists.intro (α := Nat)) | apply Exists.intro (α := Option Addr) | apply Exists.intro (α := Value)))
      refine ⟨rfl, ?_⟩
      refine h.stG fun w' h => ?_
      refine letb rfl ?_
      refine h.rdI 1 ?_
      refine h.rdI 2 ?_
      obtain ⟨e, he⟩ : ∃ e : Nat, o.n = (e : Int) := ⟨o.n.toNat, by omega⟩
      rw [he]
      refine add_ok (h.inW (Ms := [_, _, _, _])) hI hZ (k := e) (by omega) (by omega) (by omega) (by omega) (fun _ w' Z' E1' E2' hI' hZ' h => ?_) fun hm2 => by omega
      have h := h.outW4
      (repeat (first | apply Exists.intro (α := Int) | apply Exists.intro (α := Bool) | apply Exists.intro (α := ByteArray) | (apply Exists.intro (α := Option Addr); apply Exists.intro (α := Nat); apply Exists.intro (α := Nat)) | apply Exists.intro (α := Option Addr) | apply Exists.intro (α := Value)))
      refine ⟨rfl, ?_⟩
      refine iff_ rfl ?_
      exact ⟨now, _, O, d, Z', E1', E2', by omega, by omega, hI', hZ', h.sub (.cons (.tail (.tail .head)) (.cons (.tail .head) (.cons .head (Sub.same _).more)))⟩
    · (repeat (first | apply Exists.intro (α := Int) | apply Exists.intro (α := Bool) | apply Exists.intro (α := ByteArray) | (apply Exists.intro (α := Option Addr); apply Exists.intro (α := Nat); apply Exists.intro (α := Nat)) | apply Exists.intro (α := Option Addr) | apply Exists.intro (α := Value)))
      refine ⟨rfl, ?_⟩
      refine h.stG fun w' h => ?_
      refine letb rfl ?_
      refine h.rdI 1 ?_
      refine h.rdI 2 ?_
      obtain ⟨e, he⟩ : ∃ e : Nat, o.n = (e : Int) := ⟨o.n.toNat, by omega⟩
      rw [he, Int.toNat_natCast] at h
      rw [he]
      refine add_ok (h.inW (Ms := [_, _, _, _])) hI hZ (k := e) (by omega) (by omega) (by omega) (by omega) (fun hm2 => by omega) fun hm2 w' Z' E1' E2' hI' hZ' h => ?_
      have h := h.outW4
      (repeat (first | apply Exists.intro (α := Int) | apply Exists.intro (α := Bool) | apply Exists.intro (α := ByteArray) | (apply Exists.intro (α := Option Addr); apply Exists.intro (α := Nat); apply Exists.intro (α := Nat)) | apply Exists.intro (α := Option Addr) | apply Exists.intro (α := Value)))
      refine ⟨rfl, ?_⟩
      refine iff_ rfl ?_
      exact ⟨now, _, O, d, Z', E1', E2', by omega, by rw [List.length_append, List.length_singleton]; omega, hI', hZ', h.sub (.cons (.tail (.tail .head)) (.cons (.tail .head) (.cons .head (Sub.same _).more)))⟩
end
end Go.Br
