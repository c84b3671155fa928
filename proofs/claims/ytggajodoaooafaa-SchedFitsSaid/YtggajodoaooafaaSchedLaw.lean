/- The laws of the choice of paths, walked. -/
import Derived.Test.YtggajodoaooafaaNSchedLaw
import Derived.Test.YtggajodoaooafaaSched3
set_option linter.unusedVariables false
set_option linter.unusedSimpArgs false
set_option linter.unnecessarySimpa false
namespace Go.Br
open Go
attribute [local irreducible] Addr.add

theorem srt_head {pol last : Int} {C : List Pth} {x : Pth} (h : Srt (scmp pol last) C) (hx : C.head? = some x) : ∀ p ∈ C, ¬ lt3 (pkey pol last p) (pkey pol last x) := by
  cases C with
  | nil => simp at hx
  | cons y r =>
    simp at hx; subst hx
    intro p hp
    exact scmp_le.1 (Srt.first (scmp_ord pol last) h hp)
theorem chosen_mem {pol : Int} {C : List Pth} {i : Int} (h : i ∈ chosen pol C) : ∃ p ∈ C, p.id = i ∧ ∃ x, C.head? = some x ∧ prk p = prk x := by
  cases C with
  | nil => simp [chosen] at h
  | cons x r =>
    unfold chosen at h
    simp only at h
    split at h
    · simp only [List.mem_map, List.mem_filter, beq_iff_eq] at h
      obtain ⟨p, ⟨h1, h2⟩, h3⟩ := h
      exact ⟨p, h1, h3, x, rfl, h2⟩
    · simp only [List.mem_singleton] at h
      exact ⟨x, by simp, h.symm, x, rfl, rfl⟩
theorem nodup_le {α : Type} [DecidableEq α] : ∀ {l K : List α}, l.Nodup → (∀ x ∈ l, x ∈ K) → l.length ≤ K.length
  | [], K, _, _ => Nat.zero_le _
  | x :: l, K, h, hs => by
    have h2 := List.nodup_cons.1 h
    have hx := hs x (by simp)
    have := nodup_le (K := K.erase x) h2.2 fun y hy => (List.mem_erase_of_ne (by rintro rfl; exact h2.1 hy)).2 (hs y (by simp [hy]))
    rw [List.length_erase_of_mem hx] at this
    have := List.length_pos_of_mem hx
    simp only [List.length_cons]; omega
/-- Which numbers were chosen, round. -/
def Arc (ids : List Int) (l0 last : Int) (K : List Int) : Prop :=
  (l0 ≤ last ∧ ∀ y ∈ ids, y ∈ K ↔ l0 < y ∧ y ≤ last) ∨ (last ≤ l0 ∧ ∀ y ∈ ids, y ∈ K ↔ l0 < y ∨ y ≤ last)
theorem Arc.step {ids K : List Int} {l0 last c0 : Int} (h : Arc ids l0 last K) (hids : ids.Nodup) (hlt : K.length < ids.length) (hc : c0 ∈ ids) (hmin : ∀ y ∈ ids, ¬ (pturn y last < pturn c0 last ∨ (pturn y last = pturn c0 last ∧ y < c0))) :
    c0 ∉ K ∧ Arc ids l0 c0 (K ++ [c0]) := by
  have full : ¬ ∀ y ∈ ids, y ∈ K := fun hf => by have := nodup_le hids hf; omega
  have up : ∀ y ∈ ids, last < y → last < c0 ∧ c0 ≤ y := by
    intro y hy hl
    have := hmin y hy
    unfold pturn at this
    rw [if_pos (by omega)] at this
    split at this <;> omega
  have dn : ∀ y ∈ ids, c0 ≤ last → y ≤ last ∧ c0 ≤ y := by
    intro y hy hl
    have := hmin y hy
    unfold pturn at this
    rw [if_neg (show ¬ c0 > last by omega)] at this
    split at this <;> omega
  have mem : ∀ y, y ∈ K ++ [c0] ↔ y ∈ K ∨ y = c0 := fun y => by simp
  rcases h with ⟨h1, h2⟩ | ⟨h1, h2⟩
  · by_cases hcl : last < c0
    · refine ⟨fun hk => by have := (h2 c0 hc).1 hk; omega, .inl ⟨by omega, fun y hy => ?_⟩⟩
      rw [mem, h2 y hy]
      constructor
      · rintro (h | rfl) <;> omega
      · intro h
        by_cases hy2 : y ≤ last
        · exact .inl ⟨h.1, hy2⟩
        · have := up y hy (by omega); exact .inr (by omega)
    · have hd := fun y hy => dn y hy (by omega)
      have hc0 : c0 ≤ l0 := by
        refine Int.not_lt.1 fun hgt => full fun y hy => (h2 y hy).2 ?_
        have := hd y hy; omega
      refine ⟨fun hk => by have := (h2 c0 hc).1 hk; omega, .inr ⟨hc0, fun y hy => ?_⟩⟩
      rw [mem, h2 y hy]
      have := hd y hy
      constructor
      · rintro (h | rfl) <;> omega
      · rintro (h | h)
        · exact .inl ⟨h, this.1⟩
        · exact .inr (by omega)
  · by_cases hcl : last < c0
    · have hc0 : c0 ≤ l0 := by
        refine Int.not_lt.1 fun hgt => full fun y hy => (h2 y hy).2 ?_
        by_cases hy2 : last < y
        · have := up y hy hy2; exact .inl (by omega)
        · exact .inr (by omega)
      refine ⟨fun hk => by have := (h2 c0 hc).1 hk; omega, .inr ⟨hc0, fun y hy => ?_⟩⟩
      rw [mem, h2 y hy]
      constructor
      · rintro ((h | h) | rfl) <;> omega
      · rintro (h | h)
        · exact .inl (.inl h)
        · by_cases hy2 : last < y
          · have := up y hy hy2; exact .inr (by omega)
          · exact .inl (.inr (by omega))
    · exact absurd (fun y hy => (h2 y hy).2 (.inr (dn y hy (by omega)).1)) full

section
variable {c : Ctx} {w : World} {L R : List SA}
theorem salive_ok (h : St c w L) {Q : Value → World → Prop} (hk : ∀ w', St c w' L → Q (.bool true) w') : CALL PG 46 [] w Q := by
  refine call46 ?_
  unfold N46
  have e1 : (Instr.build 103 #[(0, .int .i64 1), (1, .bool true), (4, .int .i64 5), (6, .int .i64 9)]).run PG w = .ok (pthv ⟨1, true, false, false, 5, 0, 9⟩) w := by kernel_rfl
  have e2 : (Instr.build 103 #[(0, .int .i64 2), (1, .bool true), (2, .bool true), (4, .int .i64 5), (6, .int .i64 4)]).run PG w = .ok (pthv ⟨2, true, true, false, 5, 0, 4⟩) w := by kernel_rfl
  refine RD.of e1 ⟨_, _, _, _, _, _, _, rfl, RD.of e2 ⟨_, _, _, _, _, _, _, rfl, ?_⟩⟩
  refine h.lit 103 7 (([⟨1, true, false, false, 5, 0, 9⟩, ⟨2, true, true, false, 5, 0, 4⟩] : List Pth).flatMap pth) fun p w' h => ?_
  refine choose_ok (l := [⟨1, true, false, false, 5, 0, 9⟩, ⟨2, true, true, false, 5, 0, 4⟩]) h (RdIn.own .head) (by decide) (by unfold Apart; decide) fun O oc w' C hC pC h => ⟨_, _, _, rfl, ?_⟩
  have pC : C.Perm [⟨1, true, false, false, 5, 0, 9⟩, ⟨2, true, true, false, 5, 0, 4⟩] := pC
  cases C with
  | nil => have := pC.length_eq; simp at this
  | cons x r =>
    have hx := pC.mem_iff.1 (List.mem_cons_self (a := x) (l := r))
    have hm := srt_head hC rfl _ (pC.mem_iff.2 (List.mem_cons_self (a := (⟨1, true, false, false, 5, 0, 9⟩ : Pth)) (l := [⟨2, true, true, false, 5, 0, 4⟩])))
    simp only [List.mem_cons, List.not_mem_nil, or_false] at hx
    rcases hx with rfl | rfl
    · have hr : RdIn (rows O ((chosen 1 (⟨1, true, false, false, 5, 0, 9⟩ :: r)).flatMap iv) :: own 103 7 (some ⟨p, 0, none⟩) 2 2 (([⟨1, true, false, false, 5, 0, 9⟩, ⟨2, true, true, false, 5, 0, 4⟩] : List Pth).flatMap pth) :: L) O (([1] : List Int).flatMap iv) := RdIn.rows .head
      refine ift rfl ?_
      refine h.ix (z := 0) (i := 0) (y := 1) hr rfl (fun a ha => ?_) (Nat.zero_lt_one)
      subst ha
      exact h.rdWI (x := 1) (i := 0) (y := 1) hr rfl (letb (y := true) rfl (hk _ h.to))
    · exact absurd (by decide) hm
theorem orders_ok {x x1 x2 : Int} (h : St c w L) {A : Option Addr} {k : Nat} {l : List Pth} (hr : RdIn L A (l.flatMap pth)) {Q : Value → World → Prop} (hk : ∀ w', St c w' L → Q (.bool true) w') :
    CALL PG 8 [.agg #[.int .i64 x, .int .i64 x1, .int .i64 x2], .slice A l.length k] w Q := by
  refine call8 ?_
  unfold N8
  refine h.box fun p2 w' h => ?_
  refine ifd (fun _ => hk _ h.drop) fun hn => ?_
  have hd := h.drew
  refine ⟨fun w => St c w _, hd, ?_⟩
  refine St.rdsI _ ?_
  refine St.rdsI _ ?_
  refine St.rdsI _ ?_
  refine St.rdsI _ ?_
  refine St.rdsI _ ?_
  refine St.rdsI _ ?_
  refine order_ok hd hr.more (by omega) fun O oc w' C hC pC h => ⟨_, _, _, rfl, _, fun _ h => h, h.drop, ?_⟩
  refine plain_ok h hr.more.more (by omega) fun O2 oc2 w' h => ⟨_, _, _, rfl, _, fun _ h => h, h.drop.drop, ?_⟩
  refine rOrder_ok h (RdIn.own .head) (by omega) fun O3 oc3 w' D hD pD h => ⟨_, _, _, rfl, ?_⟩
  have e := ids_same (keys_same hC hD (pC.trans pD.symm))
  have lC := pC.length_eq
  have lD := pD.length_eq
  have lf := List.length_filter_le (pfits x2) l
  have h2 := row19_ok h (k := oc) (d := oc3) e (RdIn.own (.tail (.tail .head))) (RdIn.own .head) (by rw [List.length_map]; omega)
    (Q := fun v w => ∃ x25 : Bool, v = .bool x25 ∧ IFB x25 (CALL PG 46 [] w fun v4 w6 => ∃ x27 : Bool, v4 = .bool x27 ∧ LETB x27 fun x4 => Q (.bool x4) w6) (LETB false fun x4 => Q (.bool x4) w)) fun w' h => ⟨_, rfl, ift rfl (salive_ok h fun w' h => ⟨_, rfl, letb rfl (hk _ h.to)⟩)⟩
  rw [List.length_map, List.length_map] at h2
  exact h2
theorem chooses_ok {x x1 x2 : Int} (h : St c w L) {A : Option Addr} {k : Nat} {l : List Pth} (hr : RdIn L A (l.flatMap pth)) {Q : Value → World → Prop} (hk : ∀ w', St c w' L → Q (.bool true) w') :
    CALL PG 9 [.agg #[.int .i64 x, .int .i64 x1, .int .i64 x2], .slice A l.length k] w Q := by
  refine call9 ?_
  unfold N9
  refine h.box fun p2 w' h => ?_
  refine ifd (fun _ => hk _ h.drop) fun hn => ?_
  refine apart_ok h hr.more (by omega) (fun w' h => ⟨_, rfl, ift rfl (hk _ h.drop)⟩) fun w' hap h => ⟨_, rfl, iff_ rfl ?_⟩
  have hd := h.drew
  refine ⟨fun w => St c w _, hd, ?_⟩
  refine St.rdsI _ ?_
  refine St.rdsI _ ?_
  refine St.rdsI _ ?_
  refine St.rdsI _ ?_
  refine St.rdsI _ ?_
  refine St.rdsI _ ?_
  refine choose_ok hd hr.more (by omega) hap fun O oc w' C hC pC h => ⟨_, _, _, rfl, _, fun _ h => h, h.drop, ?_⟩
  refine plain_ok h hr.more.more (by omega) fun O2 oc2 w' h => ⟨_, _, _, rfl, _, fun _ h => h, h.drop.drop, ?_⟩
  refine rChoose_ok h (RdIn.own .head) (by omega) fun O3 oc3 w' D hD pD h => ⟨_, _, _, rfl, ?_⟩
  have e := chosen_same (pol := x) (keys_same hC hD (pC.trans pD.symm))
  have lC := pC.length_eq
  have lf := List.length_filter_le (pfits x2) l
  have lch : (chosen x C).length ≤ 1000 := by
    cases C with
    | nil => simp [chosen]
    | cons y r =>
      unfold chosen
      simp only
      split
      · rw [List.length_map]
        have := List.length_filter_le (fun z => prk z == prk y) (y :: r)
        omega
      · simp
  exact row19_ok h e (RdIn.rows (.tail (.tail .head))) (RdIn.own .head) lch fun w' h => ⟨_, rfl, ift rfl (salive_ok h fun w' h => ⟨_, rfl, letb rfl (hk _ h.to)⟩)⟩
theorem sfits_ok {x x1 x2 : Int} (h : St c w L) {A : Option Addr} {k : Nat} {l : List Pth} (hr : RdIn L A (l.flatMap pth)) {Q : Value → World → Prop} (hk : ∀ w', St c w' L → Q (.bool true) w') :
    CALL PG 10 [.agg #[.int .i64 x, .int .i64 x1, .int .i64 x2], .slice A l.length k] w Q := by
  refine call10 ?_
  unfold N10
  refine h.box fun p2 w' h => ?_
  refine ifd (fun _ => hk _ h.drop) fun hn => ?_
  refine apart_ok h hr.more (by omega) (fun w' h => ⟨_, rfl, ift rfl (hk _ h.drop)⟩) fun w' hap h => ⟨_, rfl, iff_ rfl ?_⟩
  repeat' (first
    | ((with_reducible show NILC (some _) _); refine nilc ?_)
    | ((with_reducible show RDI _ (loadVar _ (Addr.add (Addr.add ⟨_, 0, none⟩ _) _)) _ _ _); refine h.rdI2 _ _ ?_)
    | ((with_reducible show RDB _ (loadVar _ (Addr.add (Addr.add ⟨_, 0, none⟩ _) _)) _ _); refine h.rdB2 _ _ ?_)
    | ((with_reducible show RDP _ (loadVar _ (Addr.add (Addr.add ⟨_, 0, none⟩ _) _)) _ _); refine h.rdP2 _ _ ?_)
    | ((with_reducible show RDL _ (loadVar _ (Addr.add (Addr.add ⟨_, 0, none⟩ _) _)) _ _); refine h.rdL2 _ _ ?_)
    | ((with_reducible show RDI _ (loadVar _ (Addr.add _ _)) _ _ _); refine h.rdI _ ?_)
    | ((with_reducible show RDB _ (loadVar _ (Addr.add _ _)) _ _); refine h.rdB _ ?_)
    | ((with_reducible show RDP _ (loadVar _ (Addr.add _ _)) _ _); refine h.rdP _ ?_)
    | ((with_reducible show RDL _ (loadVar _ (Addr.add _ _)) _ _); refine h.rdL _ ?_)
    | ((with_reducible show RDT _ (loadVar _ (Addr.add _ _)) _ _); refine h.rdT _ ?_)
    | ((with_reducible show RUNU _ (storeVar _ (Addr.add _ _) _) _ _); refine h.st _ fun w' h => ?_)
    | ((with_reducible show RDI _ (loadVar _ ⟨_, _, _⟩) _ _ _); refine h.rdvI ?_)
    | ((with_reducible show RDB _ (loadVar _ ⟨_, _, _⟩) _ _); refine h.rdvB ?_)
    | ((with_reducible show RDP _ (loadVar _ ⟨_, _, _⟩) _ _); refine h.rdvP ?_)
    | ((with_reducible show RDL _ (loadVar _ ⟨_, _, _⟩) _ _); refine h.rdvL ?_)
    | ((with_reducible show RDT _ (loadVar _ ⟨_, _, _⟩) _ _); refine h.rdvT ?_)
    | ((with_reducible show RD _ (loadVar _ ⟨_, _, _⟩) _ _); refine h.rdG ?_; first | refine ⟨_, rfl, ?_⟩ | refine ⟨_, _, rfl, ?_⟩ | refine ⟨_, _, _, rfl, ?_⟩ | refine ⟨_, _, _, _, rfl, ?_⟩ | refine ⟨_, _, _, _, _, rfl, ?_⟩ | refine ⟨_, _, _, _, _, _, rfl, ?_⟩ | refine ⟨_, _, _, _, _, _, _, rfl, ?_⟩ | refine ⟨_, _, _, _, _, _, _, _, rfl, ?_⟩ | refine ⟨_, _, _, _, _, _, _, _, _, rfl, ?_⟩)
    | ((with_reducible show RUNU _ (storeVar _ ⟨_, _, _⟩ (.agg _)) _ _); refine h.stG fun w' h => ?_)
    | ((with_reducible show RUNU _ (storeVar _ ⟨_, _, _⟩ _) _ _); refine h.stV fun w' h => ?_))
  refine choose_ok h hr.more (by omega) hap fun O oc w' C hC pC h => ⟨_, _, _, rfl, ?_⟩
  have hr2 : RdIn (rows O ((chosen x C).flatMap iv) :: blk p2 92 [.int .i64 x, .int .i64 x1, .int .i64 x2] :: L) A (l.flatMap pth) := hr.more.more
  have hO : RdIn (rows O ((chosen x C).flatMap iv) :: blk p2 92 [.int .i64 x, .int .i64 x1, .int .i64 x2] :: L) O ((chosen x C).flatMap iv) := RdIn.rows .head
  have next : ∀ {j : Nat}, j < l.length → IntKind.i64.wrap ((j : Int) + 1) = ((j + 1 : Nat) : Int) := fun hj => wrap_i64 (by omega) (by omega)
  have lC := pC.length_eq
  have lch : (chosen x C).length ≤ l.length := by
    have := List.length_filter_le (pfits x2) l
    cases C with
    | nil => simp [chosen]
    | cons y r =>
      unfold chosen
      simp only
      split
      · rw [List.length_map]
        have := List.length_filter_le (fun z => prk z == prk y) (y :: r)
        omega
      · simp only [List.length_cons] at lC; simp; omega
  obtain ⟨fit, hfit⟩ : ∃ fit : Pth → Bool, fit = pfits x2 := ⟨_, rfl⟩
  obtain ⟨gd, hgd⟩ : ∃ gd : Pth → Bool, gd = fun p => pfits x2 p && !p.backup && !p.bad := ⟨_, rfl⟩
  refine ⟨fun m f g i w' => ∃ j : Nat, j + m = l.length ∧ i = (j : Int) ∧ f = (((l.take j).filter fit).length : Int) ∧ g = (((l.take j).filter gd).length : Int) ∧ St c w' (rows O ((chosen x C).flatMap iv) :: blk p2 92 [.int .i64 x, .int .i64 x1, .int .i64 x2] :: L),
    ⟨l.length, 0, by omega, rfl, rfl, rfl, h⟩, ?_⟩
  rintro m _ _ _ w' ⟨j, hj, rfl, rfl, rfl, h⟩
  refine ifd (fun hlt => ?_) fun hge => ?_
  · obtain ⟨y, hy⟩ := ex_get (L := l) (j := j) (by omega)
    have lf1 := List.length_filter_le fit (l.take j)
    have lf2 := List.length_filter_le gd (l.take j)
    have lt : (l.take j).length ≤ 1000 := by rw [List.length_take]; omega
    have inc : ∀ {n : Nat}, n ≤ 1000 → IntKind.i64.wrap ((n : Int) + 1) = ((n + 1 : Nat) : Int) := fun hn => wrap_i64 (by omega) (by omega)
    have cnt : ∀ (g : Pth → Bool), ((l.take (j + 1)).filter g).length = ((l.take j).filter g).length + if g y then 1 else 0 := by
      intro g
      rw [take_snoc' hy, List.filter_append, List.length_append]
      cases hgy : g y <;> simp [hgy]
    refine ⟨fun b w' => fit y = b ∧ St c w' (rows O ((chosen x C).flatMap iv) :: blk p2 92 [.int .i64 x, .int .i64 x1, .int .i64 x2] :: L), ?_, ?_⟩
    · have h := h.drew
      refine h.ix (z := 6) hr2 hy fun a ha => ?_
      subst ha
      refine h.rdEB 1 hr2 hy ?_
      refine ifb (fun h1 => ?_) fun h1 => ⟨by rw [hfit]; simp [pfits, h1], h⟩
      refine h.ix (z := 6) hr2 hy fun a ha => ?_
      injection ha with ha
      subst ha
      refine h.rdEI 4 hr2 hy ?_
      repeat' (first
        | ((with_reducible show NILC (some _) _); refine nilc ?_)
        | ((with_reducible show RDI _ (loadVar _ (Addr.add (Addr.add ⟨_, 0, none⟩ _) _)) _ _ _); refine h.rdI2 _ _ ?_)
        | ((with_reducible show RDB _ (loadVar _ (Addr.add (Addr.add ⟨_, 0, none⟩ _) _)) _ _); refine h.rdB2 _ _ ?_)
        | ((with_reducible show RDP _ (loadVar _ (Addr.add (Addr.add ⟨_, 0, none⟩ _) _)) _ _); refine h.rdP2 _ _ ?_)
        | ((with_reducible show RDL _ (loadVar _ (Addr.add (Addr.add ⟨_, 0, none⟩ _) _)) _ _); refine h.rdL2 _ _ ?_)
        | ((with_reducible show RDI _ (loadVar _ (Addr.add _ _)) _ _ _); refine h.rdI _ ?_)
        | ((with_reducible show RDB _ (loadVar _ (Addr.add _ _)) _ _); refine h.rdB _ ?_)
        | ((with_reducible show RDP _ (loadVar _ (Addr.add _ _)) _ _); refine h.rdP _ ?_)
        | ((with_reducible show RDL _ (loadVar _ (Addr.add _ _)) _ _); refine h.rdL _ ?_)
        | ((with_reducible show RDT _ (loadVar _ (Addr.add _ _)) _ _); refine h.rdT _ ?_)
        | ((with_reducible show RUNU _ (storeVar _ (Addr.add _ _) _) _ _); refine h.st _ fun w' h => ?_)
        | ((with_reducible show RDI _ (loadVar _ ⟨_, _, _⟩) _ _ _); refine h.rdvI ?_)
        | ((with_reducible show RDB _ (loadVar _ ⟨_, _, _⟩) _ _); refine h.rdvB ?_)
        | ((with_reducible show RDP _ (loadVar _ ⟨_, _, _⟩) _ _); refine h.rdvP ?_)
        | ((with_reducible show RDL _ (loadVar _ ⟨_, _, _⟩) _ _); refine h.rdvL ?_)
        | ((with_reducible show RDT _ (loadVar _ ⟨_, _, _⟩) _ _); refine h.rdvT ?_)
        | ((with_reducible show RD _ (loadVar _ ⟨_, _, _⟩) _ _); refine h.rdG ?_; first | refine ⟨_, rfl, ?_⟩ | refine ⟨_, _, rfl, ?_⟩ | refine ⟨_, _, _, rfl, ?_⟩ | refine ⟨_, _, _, _, rfl, ?_⟩ | refine ⟨_, _, _, _, _, rfl, ?_⟩ | refine ⟨_, _, _, _, _, _, rfl, ?_⟩ | refine ⟨_, _, _, _, _, _, _, rfl, ?_⟩ | refine ⟨_, _, _, _, _, _, _, _, rfl, ?_⟩ | refine ⟨_, _, _, _, _, _, _, _, _, rfl, ?_⟩)
        | ((with_reducible show RUNU _ (storeVar _ ⟨_, _, _⟩ (.agg _)) _ _); refine h.stG fun w' h => ?_)
        | ((with_reducible show RUNU _ (storeVar _ ⟨_, _, _⟩ _) _ _); refine h.stV fun w' h => ?_))
      refine ifd (fun h2 => ⟨by rw [hfit]; have : x2 ≤ y.room := by omega
                                simp [pfits, h1, this], h⟩) fun h2 => ?_
      refine h.ix (z := 6) hr2 hy fun a ha => ?_
      injection ha with ha
      subst ha
      refine h.rdEI 5 hr2 hy ?_
      refine ⟨?_, h⟩
      have : ¬ x2 ≤ y.room := by omega
      rw [hfit]; simp [pfits, h1, this]
    rintro _ w' ⟨rfl, h⟩
    have fin : ∀ (f' g' : Int), f' = (((l.take (j + 1)).filter fit).length : Int) → g' = (((l.take (j + 1)).filter gd).length : Int) → ∃ m2, m2 < m ∧ ∃ j' : Nat, j' + m2 = l.length ∧ ((j + 1 : Nat) : Int) = (j' : Int) ∧ f' = (((l.take j').filter fit).length : Int) ∧ g' = (((l.take j').filter gd).length : Int) ∧ St c w' (rows O ((chosen x C).flatMap iv) :: blk p2 92 [.int .i64 x, .int .i64 x1, .int .i64 x2] :: L) :=
      fun f' g' h1 h2 => ⟨m - 1, by omega, j + 1, by omega, rfl, h1, h2, h⟩
    rw [cnt, cnt] at fin
    refine ifb (fun h1 => ?_) fun h1 => leti (next (by omega)) (fin _ _ (by simp [h1]) ?_)
    · have h1' : pfits x2 y = true := by rw [← hfit]; exact h1
      refine leti (inc (by omega)) ?_
      refine h.ix (z := 6) hr2 hy fun a ha => ?_
      subst ha
      refine h.rdEB 2 hr2 hy ?_
      refine ifnot (fun h2 => ?_) fun h2 => leti (next (by omega)) (fin _ _ (by simp [h1]) (by simp [hgd, h2]))
      refine h.ix (z := 6) hr2 hy fun a ha => ?_
      injection ha with ha
      subst ha
      refine h.rdEB 3 hr2 hy ?_
      exact ifnot (fun h3 => leti (inc (by omega)) (leti (next (by omega)) (fin _ _ (by simp [h1]) (by simp [hgd, h1', h2, h3])))) fun h3 => leti (next (by omega)) (fin _ _ (by simp [h1]) (by simp [hgd, h3]))
    · have h1' : pfits x2 y = false := by rw [← hfit]; exact h1
      simp [hgd, h1']
  rw [List.take_of_length_le (by omega)]
  have hgood : ∀ p ∈ C, ∀ z, C.head? = some z → prk p = prk z → (l.filter gd).length ≠ 0 → p.backup = false ∧ p.bad = false := by
    intro p hp z hz hpz hg
    obtain ⟨g, hg⟩ : ∃ g, g ∈ l.filter gd := by
      cases hf : l.filter gd with
      | nil => rw [hf] at hg; simp at hg
      | cons g r => exact ⟨g, by simp⟩
    rw [List.mem_filter, hgd] at hg
    simp only [Bool.and_eq_true, Bool.not_eq_true'] at hg
    obtain ⟨g1, ⟨g2, g3⟩, g4⟩ := hg
    have gC : g ∈ C := pC.mem_iff.2 (List.mem_filter.2 ⟨g1, g2⟩)
    have := srt_head hC hz g gC
    unfold lt3 pkey at this
    simp only at this
    have r0 : prk g = 0 := by simp [prk, g3, g4]
    have rp : prk p ≤ 0 := by omega
    unfold prk at rp
    cases hb : p.backup <;> cases hd : p.bad <;> simp [hb, hd] at rp ⊢
  refine ⟨fun m i w' => ∃ j : Nat, j + m = (chosen x C).length ∧ i = (j : Int) ∧ St c w' (rows O ((chosen x C).flatMap iv) :: blk p2 92 [.int .i64 x, .int .i64 x1, .int .i64 x2] :: L), ⟨(chosen x C).length, 0, by omega, rfl, h⟩, ?_⟩
  rintro m2 _ w' ⟨j2, hj2, rfl, h⟩
  refine ifd (fun hlt2 => ?_) fun hge2 => ?_
  rotate_left
  · refine ift ?_ (salive_ok h fun w' h => ⟨_, rfl, letb rfl (hk _ h.to)⟩)
    have e1 : (0 < (chosen x C).length) ↔ 0 < C.length := by
      cases C with
      | nil => simp [chosen]
      | cons y r =>
        unfold chosen
        simp only
        split <;> simp [List.filter_cons]
    rw [lC, ← hfit] at e1
    by_cases h0 : 0 < (l.filter fit).length
    · have := e1.2 h0
      rw [decide_eq_true (by omega), decide_eq_true (by omega)]; rfl
    · have := fun hh => h0 (e1.1 hh)
      rw [decide_eq_false (by omega), decide_eq_false (by omega)]; rfl
  obtain ⟨i, hi⟩ := ex_get (L := chosen x C) (j := j2) (by omega)
  obtain ⟨p, hpC, hpi, z, hz, hpz⟩ := chosen_mem (List.mem_of_getElem? hi)
  have hpf := List.mem_filter.1 (pC.mem_iff.1 hpC)
  obtain ⟨kp, hkp⟩ := List.mem_iff_getElem?.1 hpf.1
  have hkpl := (List.getElem?_eq_some_iff.1 hkp).1
  refine ⟨fun m b k w' => ∃ q : Nat, q + m = l.length ∧ k = (q : Int) ∧ decide (kp < q) = b ∧ St c w' (rows O ((chosen x C).flatMap iv) :: blk p2 92 [.int .i64 x, .int .i64 x1, .int .i64 x2] :: L), ⟨l.length, 0, by omega, rfl, by simp, h⟩, ?_⟩
  rintro m3 _ _ w' ⟨q, hq, rfl, rfl, h⟩
  refine ifd (fun hlt3 => ?_) fun hge3 => iff_ (by simp; omega) (leti (y := ((j2 + 1 : Nat) : Int)) (wrap_i64 (by omega) (by omega)) ⟨m2 - 1, by omega, j2 + 1, by omega, rfl, h⟩)
  obtain ⟨y, hy⟩ := ex_get (L := l) (j := q) (by omega)
  have h := h.drew
  refine h.ix (z := 6) hr2 hy fun a ha => ?_
  subst ha
  refine h.rdEI 0 hr2 hy ?_
  refine h.ix (z := 0) hO hi fun a ha => ?_
  refine h.rdWI (a := a) (by rw [← ha]; exact hO) hi ?_
  refine ifq (fun h1 => ?_) fun h1 => ?_
  rotate_left
  · refine leti (next (by omega)) ⟨m3 - 1, by omega, q + 1, by omega, rfl, ?_, h⟩
    have : kp ≠ q := by
      rintro rfl
      rw [hkp] at hy; injection hy with hy
      subst hy; exact h1 hpi
    congr 1
    exact propext ⟨fun _ => by omega, fun _ => by omega⟩
  have hyp : y = p := apart_inj hap (List.mem_of_getElem? hy) hpf.1 (by rw [h1, hpi])
  subst hyp
  have hkq : kp = q := by
    have hnd := hap
    unfold Apart List.Nodup at hnd
    rw [List.pairwise_iff_getElem] at hnd
    have e1 : l[kp]? = l[q]? := by rw [hkp, hy]
    rcases Nat.lt_trichotomy kp q with hlt | heq | hgt
    · exfalso
      have := hnd kp q (by simpa using hkpl) (by simp; omega) hlt
      simp only [List.getElem_map] at this
      rw [List.getElem?_eq_getElem hkpl, List.getElem?_eq_getElem (by omega)] at e1
      injection e1 with e1
      exact this (by rw [e1])
    · exact heq
    · exfalso
      have := hnd q kp (by simp; omega) (by simpa using hkpl) hgt
      simp only [List.getElem_map] at this
      rw [List.getElem?_eq_getElem hkpl, List.getElem?_eq_getElem (by omega)] at e1
      injection e1 with e1
      exact this (by rw [e1])
  subst hkq
  have fin : ∀ w', St c w' (rows O ((chosen x C).flatMap iv) :: blk p2 92 [.int .i64 x, .int .i64 x1, .int .i64 x2] :: L) → ∃ m10, m10 < m3 ∧ ∃ q' : Nat, q' + m10 = l.length ∧ ((kp + 1 : Nat) : Int) = (q' : Int) ∧ decide (kp < q') = true ∧ St c w' (rows O ((chosen x C).flatMap iv) :: blk p2 92 [.int .i64 x, .int .i64 x1, .int .i64 x2] :: L) :=
    fun w' h => ⟨m3 - 1, by omega, kp + 1, by omega, rfl, by simp, h⟩
  have hfy := hpf.2
  unfold pfits at hfy
  simp only [Bool.and_eq_true, Bool.or_eq_true, decide_eq_true_eq, beq_iff_eq] at hfy
  have h := h.drew
  refine h.ix (z := 6) hr2 hy fun a ha => ?_
  injection ha with ha
  subst ha
  refine h.rdEB 1 hr2 hy ?_
  refine ifb (fun _ => ?_) fun hc => absurd hfy.1 (by simp [hc])
  refine h.ix (z := 6) hr2 hy fun a ha => ?_
  injection ha with ha
  subst ha
  refine h.rdEI 4 hr2 hy ?_
  repeat' (first
    | ((with_reducible show NILC (some _) _); refine nilc ?_)
    | ((with_reducible show RDI _ (loadVar _ (Addr.add (Addr.add ⟨_, 0, none⟩ _) _)) _ _ _); refine h.rdI2 _ _ ?_)
    | ((with_reducible show RDB _ (loadVar _ (Addr.add (Addr.add ⟨_, 0, none⟩ _) _)) _ _); refine h.rdB2 _ _ ?_)
    | ((with_reducible show RDP _ (loadVar _ (Addr.add (Addr.add ⟨_, 0, none⟩ _) _)) _ _); refine h.rdP2 _ _ ?_)
    | ((with_reducible show RDL _ (loadVar _ (Addr.add (Addr.add ⟨_, 0, none⟩ _) _)) _ _); refine h.rdL2 _ _ ?_)
    | ((with_reducible show RDI _ (loadVar _ (Addr.add _ _)) _ _ _); refine h.rdI _ ?_)
    | ((with_reducible show RDB _ (loadVar _ (Addr.add _ _)) _ _); refine h.rdB _ ?_)
    | ((with_reducible show RDP _ (loadVar _ (Addr.add _ _)) _ _); refine h.rdP _ ?_)
    | ((with_reducible show RDL _ (loadVar _ (Addr.add _ _)) _ _); refine h.rdL _ ?_)
    | ((with_reducible show RDT _ (loadVar _ (Addr.add _ _)) _ _); refine h.rdT _ ?_)
    | ((with_reducible show RUNU _ (storeVar _ (Addr.add _ _) _) _ _); refine h.st _ fun w' h => ?_)
    | ((with_reducible show RDI _ (loadVar _ ⟨_, _, _⟩) _ _ _); refine h.rdvI ?_)
    | ((with_reducible show RDB _ (loadVar _ ⟨_, _, _⟩) _ _); refine h.rdvB ?_)
    | ((with_reducible show RDP _ (loadVar _ ⟨_, _, _⟩) _ _); refine h.rdvP ?_)
    | ((with_reducible show RDL _ (loadVar _ ⟨_, _, _⟩) _ _); refine h.rdvL ?_)
    | ((with_reducible show RDT _ (loadVar _ ⟨_, _, _⟩) _ _); refine h.rdvT ?_)
    | ((with_reducible show RD _ (loadVar _ ⟨_, _, _⟩) _ _); refine h.rdG ?_; first | refine ⟨_, rfl, ?_⟩ | refine ⟨_, _, rfl, ?_⟩ | refine ⟨_, _, _, rfl, ?_⟩ | refine ⟨_, _, _, _, rfl, ?_⟩ | refine ⟨_, _, _, _, _, rfl, ?_⟩ | refine ⟨_, _, _, _, _, _, rfl, ?_⟩ | refine ⟨_, _, _, _, _, _, _, rfl, ?_⟩ | refine ⟨_, _, _, _, _, _, _, _, rfl, ?_⟩ | refine ⟨_, _, _, _, _, _, _, _, _, rfl, ?_⟩)
    | ((with_reducible show RUNU _ (storeVar _ ⟨_, _, _⟩ (.agg _)) _ _); refine h.stG fun w' h => ?_)
    | ((with_reducible show RUNU _ (storeVar _ ⟨_, _, _⟩ _) _ _); refine h.stV fun w' h => ?_))
  refine ifd (fun _ => ?_) fun hroom => ?_
  · refine ifq (fun _ => letb rfl (leti (next (by omega)) (fin _ h))) fun hg => ?_
    obtain ⟨hb1, hb2⟩ := hgood y hpC z hz hpz (by omega)
    refine h.ix (z := 6) hr2 hy fun a ha => ?_
    injection ha with ha
    subst ha
    refine h.rdEB 2 hr2 hy ?_
    refine ift (by simp [hb1]) ?_
    refine h.ix (z := 6) hr2 hy fun a ha => ?_
    injection ha with ha
    subst ha
    refine h.rdEB 3 hr2 hy ?_
    exact letb (y := true) (by simp [hb2]) (leti (next (by omega)) (fin _ h))
  · refine h.ix (z := 6) hr2 hy fun a ha => ?_
    injection ha with ha
    subst ha
    refine h.rdEI 5 hr2 hy ?_
    refine ifq (fun _ => ?_) fun hc => absurd hfy.2 (by omega)
    refine ifq (fun _ => letb rfl (leti (next (by omega)) (fin _ h))) fun hg => ?_
    obtain ⟨hb1, hb2⟩ := hgood y hpC z hz hpz (by omega)
    refine h.ix (z := 6) hr2 hy fun a ha => ?_
    injection ha with ha
    subst ha
    refine h.rdEB 2 hr2 hy ?_
    refine ift (by simp [hb1]) ?_
    refine h.ix (z := 6) hr2 hy fun a ha => ?_
    injection ha with ha
    subst ha
    refine h.rdEB 3 hr2 hy ?_
    exact letb (y := true) (by simp [hb2]) (leti (next (by omega)) (fin _ h))
end
end Go.Br
