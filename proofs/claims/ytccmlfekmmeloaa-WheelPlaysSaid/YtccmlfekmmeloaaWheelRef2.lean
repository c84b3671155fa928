/- The document's clock: a number is laid, a tick goes by. -/
import Derived.Test.YtccmlfekmmeloaaNWheelRef2
import Derived.Test.YtccmlfekmmeloaaWheelRef
set_option linter.unusedVariables false
set_option linter.unusedSimpArgs false
set_option linter.unnecessarySimpa false
namespace Go.Br
open Go
instance biWheelRef2a : Zro PG 97 3 40 (.agg #[.int .i64 0, .int .i64 0, .slice none 0 0]) := ⟨tiOf (by kernel_rfl)⟩
instance biWheelRef2b (x0 : Int) (x1 : Int) : Bld PG (Instr.build 172 #[(0, .int .i64 x0), (1, .int .i64 x1)]) (.agg #[.int .i64 x0, .int .i64 x1]) := ⟨fun w => by kernel_rfl⟩
attribute [local irreducible] Addr.add RD RDS RUN RUNU NILC LETB CALL CALLX CALLV

theorem Sub.moreL {L L' : List SA} (h : Sub L L') : ∀ M : List SA, Sub (M ++ L) L'
  | [] => h
  | _ :: M => (Sub.moreL h M).more
section
variable {c : Ctx} {w : World} {L R : List SA} {A : Option Addr} {k : Nat} {T : List Tm} {now : Nat} {most : Int}
theorem radd_ok (h : St c w L) (hr : RdIn L A (T.flatMap tm)) (hT : T.length ≤ 5000) (hn : now ≤ 100000000000) {id x : Int} {Q : Value → World → Prop}
    (hbad : (x < 1 ∨ 65535 < x) → ∀ w', St c w' L → Q (.tuple #[r29v now most A T.length k, .bool false]) w')
    (hfull : 1 ≤ x → x ≤ 65535 → most ≤ ((T.filter (notI id)).length : Int) → ∀ w' O d, St c w' (own 172 2 O (T.filter (notI id)).length d ((T.filter (notI id)).flatMap tm) :: L) → Q (.tuple #[r29v now most O (T.filter (notI id)).length d, .bool false]) w')
    (hok : 1 ≤ x → x ≤ 65535 → ((T.filter (notI id)).length : Int) < most → ∀ w' O d, St c w' (own 172 2 O (T.filter (notI id) ++ [(⟨id, now + x.toNat⟩ : Tm)]).length d ((T.filter (notI id) ++ [(⟨id, now + x.toNat⟩ : Tm)]).flatMap tm) :: L) → Q (.tuple #[r29v now most O (T.filter (notI id) ++ [(⟨id, now + x.toNat⟩ : Tm)]).length d, .bool true]) w') :
    CALL PG 50 [r29v now most A T.length k, .int .i64 id, .int .i64 x] w Q := by
  refine call50 ?_
  unfold N50
  refine h.box fun p w' h => ?_
  refine h.allocZ fun q w' h => ?_
  have bad : (x < 1 ∨ 65535 < x) → ∀ {w'}, St c w' (blk q 97 (r29 0 0 none 0 0) :: blk p 97 (r29 now most A T.length k) :: L) → RD PG (loadVar 97 ⟨p, 0, none⟩) w' fun v => ∃ (a b : Int) (s : Option Addr) (n d : Nat), v = .agg #[.int .i64 a, .int .i64 b, .slice s n d] ∧
      RUNU PG (storeVar 97 ⟨q, 0, none⟩ (.agg #[.int .i64 a, .int .i64 b, .slice s n d])) w' fun w'' => RD PG (loadVar 97 ⟨q, 0, none⟩) w'' fun v => ∃ (a b : Int) (s : Option Addr) (n d : Nat), v = .agg #[.int .i64 a, .int .i64 b, .slice s n d] ∧ Q (.tuple #[.agg #[.int .i64 a, .int .i64 b, .slice s n d], .bool false]) w'' := fun hx w' h => by
    refine h.rdG ⟨_, _, _, _, _, rfl, ?_⟩
    refine h.stG fun w' h => ?_
    refine h.rdG ⟨_, _, _, _, _, rfl, ?_⟩
    exact hbad hx _ h.drop.drop
  refine ifd (fun h1 => bad (.inl h1) h) fun h1 => ?_
  refine ifd (fun h2 => bad (.inr h2) h) fun h2 => ?_
  clear bad
  have h1 : 1 ≤ x := by omega
  have h2 : x ≤ 65535 := by omega
  obtain ⟨e, rfl⟩ : ∃ e : Nat, x = (e : Int) := ⟨x.toNat, by omega⟩
  rw [Int.toNat_natCast] at hok
  refine h.rdG ?_
  (repeat (first | apply Exists.intro (α := Int) | apply Exists.intro (α := Bool) | apply Exists.intro (α := ByteArray) | (apply Exists.intro (α := Option Addr); apply Exists.intro (α := Nat); apply Exists.intro (α := Nat)) | apply Exists.intro (α := Option Addr) | apply Exists.intro (α := Value)))
  refine ⟨rfl, ?_⟩
  refine rcancel_ok h hr.more.more hT fun w' O d h => ?_
  (repeat (first | apply Exists.intro (α := Int) | apply Exists.intro (α := Bool) | apply Exists.intro (α := ByteArray) | (apply Exists.intro (α := Option Addr); apply Exists.intro (α := Nat); apply Exists.intro (α := Nat)) | apply Exists.intro (α := Option Addr) | apply Exists.intro (α := Value)))
  refine ⟨rfl, ?_⟩
  have hFl : (T.filter (notI id)).length ≤ 5000 := Nat.le_trans (List.length_filter_le _ _) hT
  generalize T.filter (notI id) = F at *
  refine h.stG fun w' h => ?_
  refine h.rdL 2 ?_
  refine h.rdI 1 ?_
  refine ifd (fun hge => ?_) fun hlt => ?_
  · refine h.rdG ?_
    (repeat (first | apply Exists.intro (α := Int) | apply Exists.intro (α := Bool) | apply Exists.intro (α := ByteArray) | (apply Exists.intro (α := Option Addr); apply Exists.intro (α := Nat); apply Exists.intro (α := Nat)) | apply Exists.intro (α := Option Addr) | apply Exists.intro (α := Value)))
    refine ⟨rfl, ?_⟩
    refine h.stG fun w' h => ?_
    refine h.rdG ?_
    (repeat (first | apply Exists.intro (α := Int) | apply Exists.intro (α := Bool) | apply Exists.intro (α := ByteArray) | (apply Exists.intro (α := Option Addr); apply Exists.intro (α := Nat); apply Exists.intro (α := Nat)) | apply Exists.intro (α := Option Addr) | apply Exists.intro (α := Value)))
    refine ⟨rfl, ?_⟩
    exact hfull h1 h2 hge _ _ _ (h.sub (.cons (.tail (.tail .head)) (Sub.same _).more.more))
  have hlt : (F.length : Int) < most := by omega
  have h := h.drew
  refine ⟨fun w => St c w [blk p 97 (r29 now most O F.length d)], h.sub (.cons .head .nil), ?_⟩
  refine St.rdsL 2 ?_
  refine St.rdsI 0 ?_
  refine RDS.bld ?_
  (repeat (first | apply Exists.intro (α := Int) | apply Exists.intro (α := Bool) | apply Exists.intro (α := ByteArray) | (apply Exists.intro (α := Option Addr); apply Exists.intro (α := Nat); apply Exists.intro (α := Nat)) | apply Exists.intro (α := Option Addr) | apply Exists.intro (α := Value)))
  refine ⟨rfl, ?_⟩
  have ea : IntKind.i64.wrap ((now : Int) + (e : Int)) = ((now + e : Nat) : Int) := by rw [wrap_i64 (by omega) (by omega)]; omega
  rw [ea]
  have eapp : F.flatMap tm ++ tm ⟨id, now + e⟩ = (F ++ [(⟨id, now + e⟩ : Tm)]).flatMap tm := by rw [List.flatMap_append]; simp
  have elen : F.length + 1 = (F ++ [(⟨id, now + e⟩ : Tm)]).length := by simp
  -- what stands behind the three orders
  have fin : ∀ {w' : World} {O2 : Option Addr} {d2 q2 : Nat} {M : List SA}, St c w' (own 172 2 O2 F.length d2 (F.flatMap tm) :: own 172 2 (some ⟨q2, 0, none⟩) 1 1 (tm ⟨id, now + e⟩) :: blk p 97 (r29 now most O F.length d) :: blk q 97 (r29 0 0 none 0 0) :: (M ++ L)) →
      RUNL PG (Builtin.append_ #[95, 95] 95 #[.slice O2 F.length d2, .slice (some ⟨q2, 0, none⟩) 1 1]) w' fun x xN xC w1 => RUNU PG (storeVar 95 (Addr.add ⟨p, 0, none⟩ 2) (.slice x xN xC)) w1 fun w1 =>
        RD PG (loadVar 97 ⟨p, 0, none⟩) w1 fun v => ∃ (a b : Int) (s : Option Addr) (n d : Nat), v = .agg #[.int .i64 a, .int .i64 b, .slice s n d] ∧
        RUNU PG (storeVar 97 ⟨q, 0, none⟩ (.agg #[.int .i64 a, .int .i64 b, .slice s n d])) w1 fun w1 => RD PG (loadVar 97 ⟨q, 0, none⟩) w1 fun v => ∃ (a b : Int) (s : Option Addr) (n d : Nat), v = .agg #[.int .i64 a, .int .i64 b, .slice s n d] ∧ Q (.tuple #[.agg #[.int .i64 a, .int .i64 b, .slice s n d], .bool true]) w1 := fun {w' O2 d2 q2 M} h => by
    refine h.append huT29 tiT29 .head (.own (.tail .head)) (m := 1) rfl (tm_flat1 _) (by omega) fun O3 d3 w' h => ?_
    rw [eapp, elen] at h
    rw [elen]
    refine h.st 2 fun w' h => ?_
    refine h.rdG ⟨_, _, _, _, _, rfl, ?_⟩
    refine h.stG fun w' h => ?_
    refine h.rdG ⟨_, _, _, _, _, rfl, ?_⟩
    have h := h.pick (.tail (.tail .head))
    exact hok h1 h2 hlt _ _ _ (h.sub (.cons .head ((((Sub.same _).moreL M).more).more.more)))
  refine ⟨?_, ?_⟩
  · refine h.lit (n := 0) 172 2 [] fun q0 w' h => ⟨_, fun _ h => h, h.sub (.cons (.tail .head) .nil), ?_, ?_⟩
    · refine h.append huT29 tiT29 .head (.own (.tail (.tail .head))) (m := F.length) (flat_length tm_length F) (tm_flat F) (by omega) fun O2 d2 w' h => ?_
      simp only [Nat.zero_add, List.nil_append] at h ⊢
      refine ⟨_, fun _ h => h, h.sub (.cons (.tail .head) .nil), ?_⟩
      refine h.lit (n := 1) 172 2 (tm ⟨id, now + e⟩) fun q2 w' h => ⟨_, fun _ h => h, h.sub (.cons (.tail (.tail .head)) .nil), ?_⟩
      exact fin (M := [_]) (h.sub (.cons (.tail .head) (.cons .head (.cons .head (.cons (.tail .head) (Sub.same _))))))
    · refine h.lit (n := 1) 172 2 (tm ⟨id, now + e⟩) fun q2 w' h => ⟨_, fun _ h => h, h.sub (.cons (.tail (.tail .head)) .nil), ?_⟩
      refine h.append huT29 tiT29 (.tail .head) (.own (.tail (.tail (.tail .head)))) (m := F.length) (flat_length tm_length F) (tm_flat F) (by omega) fun O2 d2 w' h => ?_
      simp only [Nat.zero_add, List.nil_append] at h ⊢
      refine ⟨_, fun _ h => h, h.sub (.cons (.tail (.tail .head)) .nil), ?_⟩
      exact fin (M := [_]) (h.sub (.cons .head (.cons .head (.cons .head (.cons (.tail .head) (Sub.same _))))))
  · refine h.lit (n := 1) 172 2 (tm ⟨id, now + e⟩) fun q2 w' h => ⟨_, fun _ h => h, h.sub (.cons (.tail .head) .nil), ?_⟩
    refine h.lit (n := 0) 172 2 [] fun q0 w' h => ⟨_, fun _ h => h, h.sub (.cons (.tail (.tail .head)) .nil), ?_⟩
    refine h.append huT29 tiT29 .head (.own (.tail (.tail (.tail .head)))) (m := F.length) (flat_length tm_length F) (tm_flat F) (by omega) fun O2 d2 w' h => ?_
    simp only [Nat.zero_add, List.nil_append] at h ⊢
    refine ⟨_, fun _ h => h, h.sub (.cons (.tail (.tail .head)) .nil), ?_⟩
    exact fin (M := [_]) (h.sub (.cons .head (.cons .head (.cons .head (.cons (.tail .head) (Sub.same _))))))
theorem rtick_ok (h : St c w L) (hr : RdIn L A (T.flatMap tm)) (hT : T.length ≤ 5000) {n : Nat} (hnn : n = now + 1) (hn : now ≤ 100000000000) {Q : Value → World → Prop}
    (hk : ∀ w' O d O2 d2 C, Srt fI C → C.Perm ((T.filter fun t => t.at' == n).map Tm.id) →
      St c w' (own 172 2 O (T.filter fun t => !(t.at' == n)).length d ((T.filter fun t => !(t.at' == n)).flatMap tm) :: own 3 1 O2 C.length d2 (C.flatMap iv) :: L) →
      Q (.tuple #[r29v n most O (T.filter fun t => !(t.at' == n)).length d, .slice O2 C.length d2]) w') :
    CALL PG 48 [r29v now most A T.length k] w Q := by
  refine call48 ?_
  unfold N48
  refine h.box fun p w' h => ?_
  refine h.allocZ fun q w' h => ?_
  refine h.rdI 0 ?_
  refine h.st 0 fun w' h => ?_
  rw [show IntKind.i64.wrap ((now : Int) + 1) = (n : Int) by rw [wrap_i64 (by omega) (by omega)]; omega] at h
  have h : St c w' (blk p 97 (r29 n most A T.length k) :: blk q 97 (r29 0 0 none 0 0) :: L) := h
  have h := (h.addOwnNil 3 1).addOwnNil 172 2
  refine ⟨fun m O oN d O2 oN2 d2 x w' => ∃ (j : Nat) (D : List Int), x = j ∧ m = T.length - j ∧ j ≤ T.length ∧ ((T.take j).filter fun t => !(t.at' == n)).length = oN ∧ D.length = oN2 ∧ SrtR 0 D.length D ∧ D.Perm (((T.take j).filter fun t => t.at' == n).map Tm.id) ∧
    St c w' (own 172 2 O oN d (((T.take j).filter fun t => !(t.at' == n)).flatMap tm) :: own 3 1 O2 oN2 d2 (D.flatMap iv) :: blk p 97 (r29 n most A T.length k) :: blk q 97 (r29 0 0 none 0 0) :: L),
    ⟨_, 0, [], rfl, rfl, by omega, rfl, rfl, fun s t h1 h2 h3 => by simp at h3, by simp, h⟩, ?_⟩
  clear h
  rintro m O _ d O2 _ d2 _ w' ⟨j, D, rfl, rfl, hj, rfl, rfl, hS, hp, h⟩
  refine h.rdL 2 ?_
  refine ifd (fun hlt => ?_) fun hge => ?_
  rotate_left
  · have ej : j = T.length := by omega
    rw [ej, List.take_length] at h hp ⊢
    refine h.st 2 fun w' h => ?_
    refine h.rdG ?_
    (repeat (first | apply Exists.intro (α := Int) | apply Exists.intro (α := Bool) | apply Exists.intro (α := ByteArray) | (apply Exists.intro (α := Option Addr); apply Exists.intro (α := Nat); apply Exists.intro (α := Nat)) | apply Exists.intro (α := Option Addr) | apply Exists.intro (α := Value)))
    refine ⟨rfl, ?_⟩
    refine h.stG fun w' h => ?_
    refine h.rdG ?_
    (repeat (first | apply Exists.intro (α := Int) | apply Exists.intro (α := Bool) | apply Exists.intro (α := ByteArray) | (apply Exists.intro (α := Option Addr); apply Exists.intro (α := Nat); apply Exists.intro (α := Nat)) | apply Exists.intro (α := Option Addr) | apply Exists.intro (α := Value)))
    refine ⟨rfl, ?_⟩
    exact hk _ _ _ _ _ D (SrtR.srt hS) hp (h.sub (.cons (.tail (.tail .head)) (.cons (.tail (.tail .head)) (Sub.same _).more.more)))
  obtain ⟨t, ht⟩ := ex_get (L := T) (j := j) (by omega)
  have nx : IntKind.i64.wrap ((j : Int) + 1) = ((j + 1 : Nat) : Int) := by rw [wrap_i64 (by omega) (by omega)]; omega
  have hfl := List.length_filter_le (fun t : Tm => !(t.at' == n)) (T.take j)
  rw [List.length_take] at hfl
  have hDl : D.length ≤ T.length := by
    rw [hp.length_eq, List.length_map]
    refine Nat.le_trans (List.length_filter_le _ _) ?_
    rw [List.length_take]
    omega
  have h := h.drew
  refine h.rdL 2 ?_
  refine h.ix (z := 1) hr.more.more.more.more ht fun b hb => ?_
  have hr1 := hr
  rw [hb] at hr1
  refine h.rdEI 1 hr1.more.more.more.more ht ?_
  refine h.rdI 0 ?_
  refine ifn (fun hne => ?_) fun heq => ?_
  · have hne : (t.at' == n) = false := by simp; omega
    refine h.rdL 2 ?_
    refine h.ix (z := 1) hr.more.more.more.more ht fun b2 hb2 => ?_
    rw [hb] at hb2
    injection hb2 with hb2
    subst hb2
    refine h.rdEG hr1.more.more.more.more ht ?_
    (repeat (first | apply Exists.intro (α := Int) | apply Exists.intro (α := Bool) | apply Exists.intro (α := ByteArray) | (apply Exists.intro (α := Option Addr); apply Exists.intro (α := Nat); apply Exists.intro (α := Nat)) | apply Exists.intro (α := Option Addr) | apply Exists.intro (α := Value)))
    refine ⟨rfl, ?_⟩
    refine h.app1 huT29 tiT29 (tm t) .head (tm_flat1 t) (by omega) fun O3 d3 w' h => ?_
    have es : (T.take (j + 1)).filter (fun t => !(t.at' == n)) = (T.take j).filter (fun t => !(t.at' == n)) ++ [t] := by
      rw [take_snoc' ht, List.filter_append]
      simp [hne]
    have es2 : (T.take (j + 1)).filter (fun t => t.at' == n) = (T.take j).filter (fun t => t.at' == n) := by
      rw [take_snoc' ht, List.filter_append]
      simp [hne]
    refine leti nx ⟨_, by omega, j + 1, D, rfl, rfl, by omega, by rw [es, List.length_append]; rfl, rfl, hS, by rw [es2]; exact hp, ?_⟩
    rw [es, List.flatMap_append]
    simpa using h
  · have heq : (t.at' == n) = true := by simp; omega
    refine h.rdL 2 ?_
    refine h.ix (z := 1) hr.more.more.more.more ht fun b2 hb2 => ?_
    rw [hb] at hb2
    injection hb2 with hb2
    subst hb2
    refine h.rdEI 0 hr1.more.more.more.more ht ?_
    refine h.app1 huInts tiInt [.int .i64 t.id] (.tail .head) (iv_flat1 _) (by omega) fun O3 d3 w' h => ?_
    have es : (T.take (j + 1)).filter (fun t => !(t.at' == n)) = (T.take j).filter (fun t => !(t.at' == n)) := by
      rw [take_snoc' ht, List.filter_append]
      simp [heq]
    have es2 : (T.take (j + 1)).filter (fun t => t.at' == n) = (T.take j).filter (fun t => t.at' == n) ++ [t] := by
      rw [take_snoc' ht, List.filter_append]
      simp [heq]
    have ew : D.flatMap iv ++ [.int .i64 t.id] = (D ++ [t.id]).flatMap iv := by rw [List.flatMap_append]; rfl
    have el : D.length + 1 = (D ++ [t.id]).length := by simp
    rw [ew, el] at h
    rw [el]
    have hp1 : (D ++ [t.id]).Perm (((T.take (j + 1)).filter fun t => t.at' == n).map Tm.id) := by
      rw [es2, List.map_append]
      exact hp.append_right _
    have hI0 : InsP 0 D.length D.length (D ++ [t.id]) := ⟨fun s u g1 g2 g3 g4 g5 => by
      have e : ∀ v, v < D.length → at0 (D ++ [t.id]) v = at0 D v := fun v hv => by
        unfold at0
        rw [List.getD_eq_getElem?_getD, List.getD_eq_getElem?_getD, List.getElem?_append_left hv]
      rw [e s (by omega), e u (by omega)]
      exact hS s u g1 g2 (by omega), fun u g1 g2 => by omega⟩
    refine leti (y := ((D.length : Nat) : Int)) (by rw [wrap_i64 (by omega) (by omega)]; omega) ?_
    have hD1l : (D ++ [t.id]).length = D.length + 1 := by simp
    generalize D ++ [t.id] = D1 at *
    refine ⟨fun m2 x w' => ∃ (q' : Nat) (D' : List Int), x = q' ∧ m2 = q' ∧ q' ≤ D.length ∧ Mix 0 D1.length D1 D' ∧ InsP 0 D.length q' D' ∧ St c w' (own 3 1 O3 D1.length d3 (D'.flatMap iv) :: own 172 2 O ((T.take j).filter fun t => !(t.at' == n)).length d (((T.take j).filter fun t => !(t.at' == n)).flatMap tm) :: blk p 97 (r29 n most A T.length k) :: blk q 97 (r29 0 0 none 0 0) :: L), ⟨_, D.length, D1, rfl, rfl, Nat.le_refl _, .refl _ _ _, hI0, h⟩, ?_⟩
    clear h
    rintro m2 _ w' ⟨q', D', rfl, rfl, hq, hM, hI, h⟩
    have ln : D'.length = D1.length := hM.len
    have done : ∀ {w' : World}, (0 < m2 → at0 D' (m2 - 1) ≤ at0 D' m2) → St c w' (own 3 1 O3 D1.length d3 (D'.flatMap iv) :: own 172 2 O ((T.take j).filter fun t => !(t.at' == n)).length d (((T.take j).filter fun t => !(t.at' == n)).flatMap tm) :: blk p 97 (r29 n most A T.length k) :: blk q 97 (r29 0 0 none 0 0) :: L) →
        ∃ m', m' < T.length - j ∧ ∃ (j' : Nat) (D : List Int), ((j + 1 : Nat) : Int) = j' ∧ m' = T.length - j' ∧ j' ≤ T.length ∧ ((T.take j').filter fun t => !(t.at' == n)).length = ((T.take j).filter fun t => !(t.at' == n)).length ∧ D.length = D1.length ∧ SrtR 0 D.length D ∧ D.Perm (((T.take j').filter fun t => t.at' == n).map Tm.id) ∧
        St c w' (own 172 2 O ((T.take j).filter fun t => !(t.at' == n)).length d (((T.take j').filter fun t => !(t.at' == n)).flatMap tm) :: own 3 1 O3 D1.length d3 (D.flatMap iv) :: blk p 97 (r29 n most A T.length k) :: blk q 97 (r29 0 0 none 0 0) :: L) := fun {w'} hx h => by
      have hs := hI.done ⟨by omega, hq⟩ hx
      refine ⟨_, by omega, j + 1, D', rfl, rfl, by omega, by rw [es], ln, by rw [ln, hD1l]; exact hs, hM.perm.trans hp1, ?_⟩
      rw [es]
      exact h.swap
    refine ifd (fun hgt => ?_) fun hle => leti nx (done (fun e => by omega) h.drew)
    have e1 : IntKind.i64.wrap ((m2 : Int) - 1) = ((m2 - 1 : Nat) : Int) := by rw [wrap_i64 (by omega) (by omega)]; omega
    rw [e1]
    have h := h.drew
    refine h.arrR .head ln (by omega) ?_
    refine h.arrR .head ln (by omega) ?_
    refine ifd (fun hx => ?_) fun hx => leti nx (done (fun e => by omega) h)
    have h := h.drew
    refine h.arrR .head ln (by omega) ?_
    refine h.arrR .head ln (by omega) ?_
    refine h.arrW .head ln (by omega) fun w' h => ?_
    refine h.arrW .head (by rw [List.length_set]; exact ln) (by omega) fun w' h => ?_
    exact leti rfl ⟨m2 - 1, by omega, m2 - 1, swp D' m2 (m2 - 1), rfl, rfl, by omega, hM.trans (Mix.swp ⟨by omega, by omega⟩ ⟨by omega, by omega⟩ (by omega)), hI.step ⟨by omega, hq⟩ hx (by omega), h⟩
end
end Go.Br
