/- A wheel of timers: what a call of each function does. -/
import Derived.Test.YtccmlfekmmeloaaNWheel
import Derived.Test.YtccmlfekmmeloaaBrMap
import Derived.Test.YtccmlfekmmeloaaBrSeat
import Derived.Test.YtccmlfekmmeloaaWheelPure
set_option linter.unusedVariables false
set_option linter.unusedSimpArgs false
set_option linter.unnecessarySimpa false
namespace Go.Br
open Go
instance biWheela : Zro PG 174 2 16 (.agg #[.int .i64 0, .int .i64 0]) := ⟨tiOf (by kernel_rfl)⟩
instance biWheelb (x0 : Int) (x1 : Int) : Bld PG (Instr.build 174 #[(0, .int .i64 x0), (1, .int .i64 x1)]) (.agg #[.int .i64 x0, .int .i64 x1]) := ⟨fun w => by kernel_rfl⟩
attribute [local irreducible] Addr.add RD RDS RUN RUNU NILC LETB CALL CALLX CALLV

theorem tiTm : TI PG 167 2 16 (.agg #[.int .i64 0, .int .i64 0]) := tiOf (by kernel_rfl)
theorem huTms : PG.underlying 160 = some (.slice 167) := by kernel_rfl
theorem huII : PG.underlying 158 = some (.map 3 3) := by kernel_rfl
theorem huIP : PG.underlying 159 = some (.map 3 174) := by kernel_rfl
theorem hu64 : PG.underlying 3 = some (.int .i64) := by kernel_rfl
def tm (t : Tm) : List Value := [.int .i64 t.id, .int .i64 (t.at' : Int)]
theorem tm_length (t : Tm) : (tm t).length = 2 := rfl
theorem tm_flat1 (t : Tm) : Flat (tm t) := by intro v hv; simp [tm] at hv; rcases hv with rfl | rfl <;> rfl
/-- A place, and the timers in it. -/
structure Sl where
  A : Option Addr
  k : Nat
  l : List Tm
abbrev Sl.nil : Sl := ⟨none, 0, []⟩
def hd (s : Sl) : Value := .slice s.A s.l.length s.k
abbrev slo (s : Sl) : SA := own 167 2 s.A s.l.length s.k (s.l.flatMap tm)
def wc (now most many : Int) (Z : List Sl) (r1 r2 : Nat) : List Value := .int .i64 now :: .int .i64 most :: .int .i64 many :: (Z.map hd ++ [.map (some r1), .map (some r2)])
abbrev wl (p r1 r2 : Nat) (now most many : Int) (Z : List Sl) (E1 E2 : List (Int × Value)) (L : List SA) : List SA :=
  blk p 164 (wc now most many Z r1 r2) :: mp r1 E1 :: mp r2 E2 :: (Z.map slo ++ L)
theorem wc_get {now most many : Int} {Z : List Sl} {r1 r2 i : Nat} {s : Sl} (h : Z[i]? = some s) : (wc now most many Z r1 r2)[3 + i]? = some (.slice s.A s.l.length s.k) := by
  unfold wc
  rw [show 3 + i = i + 1 + 1 + 1 by omega, List.getElem?_cons_succ, List.getElem?_cons_succ, List.getElem?_cons_succ, List.getElem?_append_left (by rw [List.length_map]; exact (List.getElem?_eq_some_iff.1 h).1), List.getElem?_map, h]
  rfl
theorem wc_set {now most many : Int} {Z : List Sl} {r1 r2 i : Nat} {s : Sl} (hi : i < Z.length) : (wc now most many Z r1 r2).set (3 + i) (.slice s.A s.l.length s.k) = wc now most many (Z.set i s) r1 r2 := by
  unfold wc
  rw [show 3 + i = i + 1 + 1 + 1 by omega, List.set_cons_succ, List.set_cons_succ, List.set_cons_succ, List.set_append_left _ _ (by rw [List.length_map]; exact hi), List.map_set]
  rfl
theorem wc_length {now most many : Int} {Z : List Sl} {r1 r2 : Nat} : (wc now most many Z r1 r2).length = Z.length + 5 := by unfold wc; simp
theorem wc_m1 {now most many : Int} {Z : List Sl} {r1 r2 : Nat} (h : Z.length = 64) : (wc now most many Z r1 r2)[67]? = some (.map (some r1)) := by
  unfold wc
  rw [show 67 = 64 + 1 + 1 + 1 by omega, List.getElem?_cons_succ, List.getElem?_cons_succ, List.getElem?_cons_succ, List.getElem?_append_right (by rw [List.length_map]; omega), List.length_map, h]
  rfl
theorem wc_m2 {now most many : Int} {Z : List Sl} {r1 r2 : Nat} (h : Z.length = 64) : (wc now most many Z r1 r2)[68]? = some (.map (some r2)) := by
  unfold wc
  rw [show 68 = 65 + 1 + 1 + 1 by omega, List.getElem?_cons_succ, List.getElem?_cons_succ, List.getElem?_cons_succ, List.getElem?_append_right (by rw [List.length_map]; omega), List.length_map, h]
  rfl
theorem pick_sl {L : List SA} : ∀ {Z : List Sl} {i : Nat} {s : Sl}, Z[i]? = some s → Pick (slo s) (Z.map slo ++ L) ((Z.eraseIdx i).map slo ++ L)
  | [], i, s, h => by simp at h
  | a :: Z, 0, s, h => by simp at h; subst h; exact .head
  | a :: Z, i + 1, s, h => by simp at h; exact .tail (pick_sl h)
theorem set_erase {Z : List Sl} {i : Nat} {s : Sl} : (Z.set i s).eraseIdx i = Z.eraseIdx i := by
  induction Z generalizing i with
  | nil => rfl
  | cons a Z ih => cases i with
    | zero => rfl
    | succ i => simp [ih]
theorem set_get {Z : List Sl} {i : Nat} {s : Sl} (h : i < Z.length) : (Z.set i s)[i]? = some s := by simp [h]
theorem slot_adr (p x y : Nat) : Addr.add (Addr.add (Addr.add ⟨p, 0, none⟩ 3) (Int.toNat (x : Int) * 16)) (Int.toNat (y : Int) * 1) = Addr.add ⟨p, 0, none⟩ (3 + (x * 16 + y)) := by
  rw [add_add, add_add, Int.toNat_natCast, Int.toNat_natCast]
  congr 1
  omega
instance biPlc (x0 x1 : Int) : Bld PG (Instr.build 174 #[(0, .int .i64 x0), (1, .int .i64 x1)]) (.agg #[.int .i64 x0, .int .i64 x1]) := ⟨fun w => by kernel_rfl⟩
section
variable {c : Ctx} {w : World} {L R : List SA} {p r1 r2 : Nat} {now : Nat} {most many : Int} {Z : List Sl} {E1 E2 : List (Int × Value)}
/-- A map that stands in a block is read. -/
theorem St.rdM {B : Nat} {T t : TypeId} {cs : List Value} {r : Nat} {K : Value → Prop} (h : St c w L) (o : Nat) (hp : Pick (Br.blk B T cs) L R) (hv : cs[o]? = some (.map (some r))) (hk : K (.map (some r))) (ht : ldT PG t = true := by kernel_rfl) : RD PG (loadVar t (Addr.add ⟨B, 0, none⟩ o)) w K :=
  RD.of (ld o (h.blk hp) hv ht) hk
theorem St.three {X Y V : SA} (h : St c w (X :: Y :: V :: L)) : St c w [X, Y, V] := h.sub (.cons .head (.cons .head (.cons .head .nil)))
theorem where_ok (h : St c w (blk p 164 (wc now most many Z r1 r2) :: L)) {a : Nat} (hn : now ≤ 1000000000000) (ha : a ≤ 1000000000000) {Q : Value → World → Prop}
    (hk : ∀ w', St c w' (blk p 164 (wc now most many Z r1 r2) :: L) → Q (.agg #[.int .i64 ((plc now a / 16 : Nat) : Int), .int .i64 ((plc now a % 16 : Nat) : Int)]) w') : CALL PG 129 [.pointer (some ⟨p, 0, none⟩), .int .i64 (a : Int)] w Q := by
  refine call129 ?_
  unfold N129
  refine h.allocZ fun q w' h => ?_
  have dv : ∀ (x u : Nat), x ≤ 1000000000000 → 0 < u → IntKind.i64.wrap (Int.tdiv (x : Int) (u : Int)) = ((x / u : Nat) : Int) := fun x u hx hu => by
    rw [Int.tdiv_eq_ediv_of_nonneg (by omega)]
    have : x / u ≤ x := Nat.div_le_self _ _
    rw [show (x : Int) / (u : Int) = ((x / u : Nat) : Int) by simp]
    generalize x / u = z at *
    exact wrap_i64 (by omega) (by omega)
  have fin : ∀ (r u : Nat) (w' : World), 0 < u → plc now a / 16 = r → plc now a % 16 = a / u % 16 → St c w' (blk q 174 [.int .i64 0, .int .i64 0] :: blk p 164 (wc now most many Z r1 r2) :: L) →
      (u : Int) ≠ 0 ∧ (16 : Int) ≠ 0 ∧ RD PG (Instr.build 174 #[(0, .int .i64 (r : Int)), (1, .int .i64 (Int.tmod (IntKind.i64.wrap (Int.tdiv (a : Int) (u : Int))) 16))]) w' fun v => ∃ x0 x1 : Int, v = .agg #[.int .i64 x0, .int .i64 x1] ∧
        RUNU PG (storeVar 174 ⟨q, 0, none⟩ (.agg #[.int .i64 x0, .int .i64 x1])) w' fun w'' => RD PG (loadVar 174 ⟨q, 0, none⟩) w'' fun v2 => ∃ x0 x1 : Int, v2 = .agg #[.int .i64 x0, .int .i64 x1] ∧ Q (.agg #[.int .i64 x0, .int .i64 x1]) w'' := by
    intro r u w' hu e1 e2 h
    refine ⟨by omega, by decide, ?_⟩
    rw [dv a u ha hu, Int.tmod_eq_emod_of_nonneg (Int.natCast_nonneg _)]
    refine RD.bld ⟨_, _, rfl, ?_⟩
    refine h.stG fun w' h => ?_
    refine h.rdG ⟨_, _, rfl, ?_⟩
    have := hk _ h.drop
    rw [e1, e2] at this
    have e3 : ((a / u : Nat) : Int) % 16 = ((a / u % 16 : Nat) : Int) := by generalize a / u = z; omega
    rw [e3]
    exact this
  refine ⟨fun m r u w' => ((r = 0 ∧ u = 1 ∧ m = 3) ∨ (r = 1 ∧ u = 16 ∧ m = 2 ∧ a / 16 ≠ now / 16) ∨ (r = 2 ∧ u = 256 ∧ m = 1 ∧ a / 16 ≠ now / 16 ∧ a / 256 ≠ now / 256) ∨ (r = 3 ∧ u = 4096 ∧ m = 0 ∧ a / 16 ≠ now / 16 ∧ a / 256 ≠ now / 256 ∧ a / 4096 ≠ now / 4096)) ∧ St c w' (blk q 174 [.int .i64 0, .int .i64 0] :: blk p 164 (wc now most many Z r1 r2) :: L), ⟨3, .inl ⟨rfl, rfl, rfl⟩, h⟩, ?_⟩
  clear h
  rintro m r u w' ⟨hc, h⟩
  rcases hc with ⟨rfl, rfl, rfl⟩ | ⟨rfl, rfl, rfl, n1⟩ | ⟨rfl, rfl, rfl, n1, n2⟩ | ⟨rfl, rfl, rfl, n1, n2, n3⟩
  · refine ifdt (by decide) ⟨by decide, ?_⟩
    have h := h.drew
    refine nilc (h.rdI 0 ⟨by decide, ?_⟩)
    have d1 := dv a 16 ha (by decide)
    have d2 := dv now 16 hn (by decide)
    rw [show IntKind.i64.wrap ((1 : Int) * 16) = ((16 : Nat) : Int) by decide, d1, d2]
    refine ifn (fun e => leti rfl (leti rfl ⟨2, by decide, .inr (.inl ⟨rfl, rfl, rfl, by omega⟩), h⟩)) fun e => ?_
    have e : a / 16 = now / 16 := by omega
    exact fin 0 1 _ (by decide) (by unfold plc; rw [if_pos e]; omega) (by unfold plc; rw [if_pos e]; omega) h
  · refine ifdt (by decide) ⟨by decide, ?_⟩
    have h := h.drew
    refine nilc (h.rdI 0 ⟨by decide, ?_⟩)
    have d1 := dv a 256 ha (by decide)
    have d2 := dv now 256 hn (by decide)
    rw [show IntKind.i64.wrap ((16 : Int) * 16) = ((256 : Nat) : Int) by decide, d1, d2]
    refine ifn (fun e => leti rfl (leti rfl ⟨1, by decide, .inr (.inr (.inl ⟨rfl, rfl, rfl, n1, by omega⟩)), h⟩)) fun e => ?_
    have e : a / 256 = now / 256 := by omega
    exact fin 1 16 _ (by decide) (by unfold plc; rw [if_neg n1, if_pos e]; omega) (by unfold plc; rw [if_neg n1, if_pos e]; omega) h
  · refine ifdt (by decide) ⟨by decide, ?_⟩
    have h := h.drew
    refine nilc (h.rdI 0 ⟨by decide, ?_⟩)
    have d1 := dv a 4096 ha (by decide)
    have d2 := dv now 4096 hn (by decide)
    rw [show IntKind.i64.wrap ((256 : Int) * 16) = ((4096 : Nat) : Int) by decide, d1, d2]
    refine ifn (fun e => leti rfl (leti rfl ⟨0, by decide, .inr (.inr (.inr ⟨rfl, rfl, rfl, n1, n2, by omega⟩)), h⟩)) fun e => ?_
    have e : a / 4096 = now / 4096 := by omega
    exact fin 2 256 _ (by decide) (by unfold plc; rw [if_neg n1, if_neg n2, if_pos e]; omega) (by unfold plc; rw [if_neg n1, if_neg n2, if_pos e]; omega) h
  · refine ifdf (by decide) ?_
    exact fin 3 4096 _ (by decide) (by unfold plc; rw [if_neg n1, if_neg n2, if_neg n3]; omega) (by unfold plc; rw [if_neg n1, if_neg n2, if_neg n3]; omega) h.drew
theorem put_ok (h : St c w (wl p r1 r2 now most many Z E1 E2 L)) (hZ : Z.length = 64) {t : Tm} (hn : now ≤ 1000000000000) (ha : t.at' ≤ 1000000000000) (hb : ∀ s ∈ Z, s.l.length ≤ 100000) {Q : Value → World → Prop}
    (hk : ∀ w' Z', Z'.length = 64 → Z'.map Sl.l = putS now (Z.map Sl.l) t → St c w' (wl p r1 r2 now most many Z' E1 (mput E2 t.id (.agg #[.int .i64 ((plc now t.at' / 16 : Nat) : Int), .int .i64 ((plc now t.at' % 16 : Nat) : Int)])) L) → Q (.tuple #[]) w') :
    CALL PG 96 [.pointer (some ⟨p, 0, none⟩), .agg #[.int .i64 t.id, .int .i64 (t.at' : Int)]] w Q := by
  have hlt := plc_lt now t.at'
  refine call96 ?_
  unfold N96
  refine h.box fun q w' h => ?_
  refine h.rdI 1 ?_
  refine where_ok h.swap hn ha fun w' h => ?_
  have h := h.swap
  (repeat (first | apply Exists.intro (α := Int) | apply Exists.intro (α := Bool) | apply Exists.intro (α := ByteArray) | (apply Exists.intro (α := Option Addr); apply Exists.intro (α := Nat); apply Exists.intro (α := Nat)) | apply Exists.intro (α := Option Addr) | apply Exists.intro (α := Value)))
  refine ⟨rfl, ?_⟩
  refine h.allocZ fun q2 w' h => ?_
  refine h.stG fun w' h => ?_
  have h := h.drew
  refine ⟨fun w => St c w [blk q2 174 _, blk q 167 _, blk p 164 (wc now most many Z r1 r2)], h.three, ?_⟩
  obtain ⟨s, hs⟩ := ex_get (L := Z) (j := plc now t.at') (by omega)
  have hsm := hb s (List.mem_of_getElem? hs)
  refine St.rdsI 0 ?_
  refine St.rdsI 1 ?_
  refine St.rdsI 0 ?_
  refine St.rdsI 1 ?_
  refine nilc ⟨by omega, by omega, ?_⟩
  have ea : plc now t.at' / 16 * 16 + plc now t.at' % 16 = plc now t.at' := by omega
  rw [slot_adr, ea]
  refine St.rdsL (3 + plc now t.at') ?_ (hp := .tail (.tail .head)) (hv := wc_get hs)
  refine St.rdsG ?_
  (repeat (first | apply Exists.intro (α := Int) | apply Exists.intro (α := Bool) | apply Exists.intro (α := ByteArray) | (apply Exists.intro (α := Option Addr); apply Exists.intro (α := Nat); apply Exists.intro (α := Nat)) | apply Exists.intro (α := Option Addr) | apply Exists.intro (α := Value)))
  refine ⟨rfl, ?_⟩
  refine nilc ⟨by omega, ?_⟩
  refine h.lit (n := 1) 167 2 (tm t) fun q3 w' h => ?_
  refine ⟨_, fun _ h => h, h.drop.three, ?_⟩
  refine h.append huTms tiTm (.tail (.tail (.tail (.tail (.tail (.tail (pick_sl hs))))))) (.own .head) (m := 1) rfl (tm_flat1 t) (by omega) fun A' k' w' h => ?_
  refine ⟨_, fun _ h => h, h.drop.drop.three, ?_⟩
  refine ⟨by omega, ?_⟩
  rw [slot_adr, ea]
  have h : St c w' (slo ⟨A', k', s.l ++ [t]⟩ :: own 167 2 (some ⟨q3, 0, none⟩) 1 1 (tm t) :: blk q2 174 [.int .i64 ((plc now t.at' / 16 : Nat) : Int), .int .i64 ((plc now t.at' % 16 : Nat) : Int)] :: blk q 167 [.int .i64 t.id, .int .i64 (t.at' : Int)] :: blk p 164 (wc now most many Z r1 r2) :: mp r1 E1 :: mp r2 E2 :: ((Z.eraseIdx (plc now t.at')).map slo ++ L)) := by
    have e : s.l.flatMap tm ++ tm t = (s.l ++ [t]).flatMap tm := by rw [List.flatMap_append]; simp
    rw [e] at h
    have e2 : s.l.length + 1 = (s.l ++ [t]).length := by simp
    rw [e2] at h
    exact h
  refine h.st (3 + plc now t.at') (fun w' h => ?_) (hp := .tail (.tail (.tail (.tail .head)))) (ho := by rw [wc_length]; omega)
  rw [show (Value.slice A' (s.l.length + 1) k') = .slice (⟨A', k', s.l ++ [t]⟩ : Sl).A (⟨A', k', s.l ++ [t]⟩ : Sl).l.length (⟨A', k', s.l ++ [t]⟩ : Sl).k by simp, wc_set (by omega)] at h
  have h := h.drew
  have hZ' : (Z.set (plc now t.at') ⟨A', k', s.l ++ [t]⟩).length = 64 := by rw [List.length_set]; exact hZ
  refine nilc (h.rdM 68 .head (wc_m2 hZ') ⟨_, rfl, ?_⟩)
  refine h.rdI 0 ?_
  refine h.rdG ?_
  (repeat (first | apply Exists.intro (α := Int) | apply Exists.intro (α := Bool) | apply Exists.intro (α := ByteArray) | (apply Exists.intro (α := Option Addr); apply Exists.intro (α := Nat); apply Exists.intro (α := Nat)) | apply Exists.intro (α := Option Addr) | apply Exists.intro (α := Value)))
  refine ⟨rfl, ?_⟩
  refine h.mput (.tail (.tail (.tail (.tail (.tail (.tail .head)))))) (fun w' h => ?_) huIP hu64
  have h := h.sub (.cons (.tail (.tail .head)) (.cons (.tail .head) (.cons (.tail (.tail (.tail (.tail .head)))) (.cons .head (Sub.same _).more.more.more))))
  have hp := pick_sl (L := L) (set_get (Z := Z) (i := plc now t.at') (s := ⟨A', k', s.l ++ [t]⟩) (by omega))
  rw [set_erase] at hp
  refine hk w' _ hZ' ?_ (h.back (.tail (.tail (.tail hp))))
  unfold putS
  refine List.ext_getElem? fun j => ?_
  rw [List.map_set, List.getElem?_set, List.getElem?_modify, List.length_map, List.getElem?_map]
  by_cases e : plc now t.at' = j
  · subst e
    rw [if_pos rfl, if_pos (by omega), hs]
    simp
  · rw [if_neg e]
    cases Z[j]? <;> simp [e]
end
end Go.Br
