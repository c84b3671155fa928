/- The choice of paths: the document's rows; what is compared. -/
import Derived.Test.YtggajodoaooafaaNSched3
import Derived.Test.YtggajodoaooafaaSched2
set_option linter.unusedVariables false
set_option linter.unusedSimpArgs false
set_option linter.unnecessarySimpa false
namespace Go.Br
open Go
attribute [local irreducible] Addr.add

section
variable {c : Ctx} {w : World} {L R : List SA}
theorem plain_ok (h : St c w L) {A : Option Addr} {k : Nat} {l : List Pth} (hr : RdIn L A (l.flatMap pth)) (hl : l.length ≤ 1000) {Q : Value → World → Prop} (hk : ∀ O oc w', St c w' (own 184 7 O l.length oc (l.flatMap pth) :: L) → Q (.slice O l.length oc) w') :
    CALL PG 45 [.slice A l.length k] w Q := by
  refine call45 ?_
  unfold N45
  refine ⟨fun m O n oc i w' => ∃ j : Nat, j + m = l.length ∧ i = (j : Int) ∧ j = n ∧ St c w' (own 184 7 O n oc ((l.take j).flatMap pth) :: L), ⟨l.length, 0, by omega, rfl, rfl, h.addOwnNil _ _⟩, ?_⟩
  rintro m O n oc _ w' ⟨j, hj, rfl, rfl, h⟩
  refine ifd (fun hlt => ?_) fun hge => ?_
  rotate_left
  · have : j = l.length := by omega
    subst this
    rw [List.take_length] at h
    exact hk O oc w' h
  obtain ⟨x, hx⟩ := ex_get (L := l) (j := j) (by omega)
  refine h.ix (z := 6) hr.more hx fun a ha => ?_
  subst ha
  refine h.rdEG hr.more hx ⟨_, _, _, _, _, _, _, rfl, ?_⟩
  refine h.allocG tiPth fun q w' h => ?_
  repeat' (first
    | ((with_reducible show NILC (some _) _); refine nilc ?_)
    | ((with_reducible show RDI _ (loadVar _ (Addr.add (Addr.add ⟨_, 0, none⟩ _) _)) _ _ _); refine h.rdI2 _ _ ?_)
    | ((with_reducible show RDB _ (loadVar _ (Addr.add (Addr.add ⟨_, 0, none⟩ _) _)) _ _); refine h.rdB2 _ _ ?_)
    | ((with_reducible show RDP _ (loadVar _ (Addr.add (Addr.add ⟨_, 0, none⟩ _) _)) _ _); refine h.rdP2 _ _ ?_)
    | ((with_reducible show RDL _ (loadVar _ (Addr.add (Addr.add ⟨_, 0, none⟩ _) _)) _ _); refine h.rdL2 _ _ ?_)
    | ((with_reducible show RDI _ (loadVar _ (Addr.add _ _)) _ _ _); refine h.rdI _ ?_)
    | ((with_reducible show RDB _ (loadVar _ (Addr.add _ _)) _ _); refine h.rdB _ ?_)
    | ((with_reducible show RDP _ (loadVar _ (Addr.add _ _)) _ _); refine h.rdP _ ?_)
    | ((with_reducible show RDL _ (loadVar _ (Addr.add _ _)) _ _); refine h.rdL _ ?_)
    | ((with_reducible show RDT _ (loadVar _ (Addr.add _ _)) _ _); refine h.rdT _ ?_)
    | ((with_reducible show RUNU _ (storeVar _ (Addr.add _ _) _) _ _); refine h.st _ fun w' h => ?_)
    | ((with_reducible show RDI _ (loadVar _ ⟨_, _, _⟩) _ _ _); refine h.rdvI ?_)
    | ((with_reducible show RDB _ (loadVar _ ⟨_, _, _⟩) _ _); refine h.rdvB ?_)
    | ((with_reducible show RDP _ (loadVar _ ⟨_, _, _⟩) _ _); refine h.rdvP ?_)
    | ((with_reducible show RDL _ (loadVar _ ⟨_, _, _⟩) _ _); refine h.rdvL ?_)
    | ((with_reducible show RDT _ (loadVar _ ⟨_, _, _⟩) _ _); refine h.rdvT ?_)
    | ((with_reducible show RD _ (loadVar _ ⟨_, _, _⟩) _ _); refine h.rdG ?_; first | refine ⟨_, rfl, ?_⟩ | refine ⟨_, _, rfl, ?_⟩ | refine ⟨_, _, _, rfl, ?_⟩ | refine ⟨_, _, _, _, rfl, ?_⟩ | refine ⟨_, _, _, _, _, rfl, ?_⟩ | refine ⟨_, _, _, _, _, _, rfl, ?_⟩ | refine ⟨_, _, _, _, _, _, _, rfl, ?_⟩ | refine ⟨_, _, _, _, _, _, _, _, rfl, ?_⟩ | refine ⟨_, _, _, _, _, _, _, _, _, rfl, ?_⟩)
    | ((with_reducible show RUNU _ (storeVar _ ⟨_, _, _⟩ (.agg _)) _ _); refine h.stG fun w' h => ?_)
    | ((with_reducible show RUNU _ (storeVar _ ⟨_, _, _⟩ _) _ _); refine h.stV fun w' h => ?_))
  have e : ∀ w, (Instr.build 184 #[(0, .int .i64 x.id), (1, .bool x.up), (2, .bool x.backup), (3, .bool x.bad), (4, .int .i64 x.room), (5, .int .i64 x.under), (6, .int .i64 x.mean)]).run PG w = .ok (pthv x) w := by intro w; kernel_rfl
  refine RD.of (e _) ⟨_, _, _, _, _, _, _, rfl, ?_⟩
  refine h.app1 huPP tiPP (pth x) (.tail .head) (pth_flat1 x) (by omega) fun O' oc' w' h => ?_
  refine leti (y := ((j + 1 : Nat) : Int)) (wrap_i64 (by omega) (by omega)) ⟨m - 1, by omega, j + 1, by omega, rfl, rfl, ?_⟩
  rw [take_snoc' hx, List.flatMap_append, List.flatMap_cons, List.flatMap_nil, List.append_nil]
  exact h.to
/-- The paths that fit, put into their order one by one. -/
theorem rorder_ok (h : St c w L) {A : Option Addr} {k : Nat} {l : List Pth} {pol last n : Int} (hr : RdIn L A (l.flatMap pth)) (hl : l.length ≤ 1000) {Q : Value → World → Prop}
    (hk : ∀ O oc w' C, Srt (scmp pol last) C → C.Perm (l.filter (pfits n)) → St c w' (own 184 7 O C.length oc (C.flatMap pth) :: L) → Q (.slice O C.length oc) w') :
    CALL PG 94 [.int .i64 pol, .int .i64 last, .int .i64 n, .slice A l.length k] w Q := by
  refine call94 ?_
  unfold N94
  refine ⟨fun m O on oc i w' => ∃ (j : Nat) (C : List Pth), j + m = l.length ∧ i = (j : Int) ∧ C.length = on ∧ Srt (scmp pol last) C ∧ C.Perm ((l.take j).filter (pfits n)) ∧ St c w' (own 184 7 O on oc (C.flatMap pth) :: L),
    ⟨l.length, 0, [], by omega, rfl, rfl, List.Pairwise.nil, .refl _, h.addOwnNil _ _⟩, ?_⟩
  rintro m O on oc _ w' ⟨j, C, hj, rfl, rfl, hC, pC, h⟩
  refine ifd (fun hlt => ?_) fun hge => ?_
  rotate_left
  · rw [List.take_of_length_le (by omega)] at pC
    exact hk O oc w' C hC pC h
  have lC := pC.length_eq
  have lf := List.length_filter_le (pfits n) (l.take j)
  have lt : (l.take j).length ≤ 1000 := by rw [List.length_take]; omega
  obtain ⟨x, hx⟩ := ex_get (L := l) (j := j) (by omega)
  have next : (IntKind.i64.wrap ((j : Int) + 1)) = ((j + 1 : Nat) : Int) := wrap_i64 (by omega) (by omega)
  have skip : pfits n x = false → ∃ m2, m2 < m ∧ ∃ (j' : Nat) (C' : List Pth), j' + m2 = l.length ∧ ((j + 1 : Nat) : Int) = (j' : Int) ∧ C'.length = C.length ∧ Srt (scmp pol last) C' ∧ C'.Perm ((l.take j').filter (pfits n)) ∧ St c w' (own 184 7 O C.length oc (C'.flatMap pth) :: L) := by
    intro hf
    refine ⟨m - 1, by omega, j + 1, C, by omega, rfl, rfl, hC, ?_, h⟩
    rw [take_snoc' hx, List.filter_append, List.filter_cons_of_neg (by simp [hf]), List.filter_nil, List.append_nil]
    exact pC
  refine ⟨fun w2 => w2 = w' ∧ pfits n x = true, ?_, ?_⟩
  · refine h.ix (z := 6) hr.more hx fun a ha => ?_
    subst ha
    refine h.rdEB 1 hr.more hx ?_
    refine ifnot (fun h1 => leti next (skip (by simp [pfits, h1]))) fun h1 => ?_
    refine h.ix (z := 6) hr.more hx fun a ha => ?_
    injection ha with ha
    subst ha
    refine h.rdEI 4 hr.more hx ?_
    refine ifd (fun h2 => ?_) fun h2 => ⟨rfl, by have : n ≤ x.room := by omega
                                                 simp [pfits, h1, this]⟩
    refine h.ix (z := 6) hr.more hx fun a ha => ?_
    injection ha with ha
    subst ha
    refine h.rdEI 5 hr.more hx ?_
    have h2' : ¬ n ≤ x.room := by omega
    exact ifn (fun h3 => leti next (skip (by simp [pfits, h1, h2', h3]))) fun h3 => ⟨rfl, by simp [pfits, h1, h3]⟩
  rintro w2 ⟨rfl, hf⟩
  refine h.ix (z := 6) hr.more hx fun a ha => ?_
  subst ha
  refine h.rdEG hr.more hx ⟨_, _, _, _, _, _, _, rfl, ?_⟩
  refine h.app1 huPP tiPP (pth x) .head (pth_flat1 x) (by omega) fun O' oc' w' h => ?_
  refine leti (y := (C.length : Int)) (by rw [wrap_i64 (by omega) (by omega)]; omega) ?_
  have done : ∀ w' (C1 C2 : List Pth), C = C1 ++ C2 → (∀ y, C1.getLast? = some y → Le (scmp pol last) y x) → (∀ y, C2.head? = some y → Le (scmp pol last) x y) → St c w' (own 184 7 O' (C.length + 1) oc' ((C1 ++ x :: C2).flatMap pth) :: L) →
      ∃ m2, m2 < m ∧ ∃ (j' : Nat) (C' : List Pth), j' + m2 = l.length ∧ ((j + 1 : Nat) : Int) = (j' : Int) ∧ C'.length = C.length + 1 ∧ Srt (scmp pol last) C' ∧ C'.Perm ((l.take j').filter (pfits n)) ∧ St c w' (own 184 7 O' (C.length + 1) oc' (C'.flatMap pth) :: L) := by
    intro w' C1 C2 e h1 h2 h
    refine ⟨m - 1, by omega, j + 1, C1 ++ x :: C2, by omega, rfl, by rw [e]; simp; omega, Srt.ins (scmp_ord pol last) (by rw [← e]; exact hC) h1 h2, ?_, h⟩
    rw [take_snoc' hx, List.filter_append, List.filter_cons_of_pos hf, List.filter_nil]
    refine List.Perm.trans ?_ (List.Perm.append_right [x] pC)
    rw [e]
    have : (C1 ++ x :: C2).Perm (x :: (C1 ++ C2)) := List.perm_middle
    exact this.trans (List.perm_append_singleton x (C1 ++ C2)).symm
  refine ⟨fun m2 i w' => ∃ C1 C2 : List Pth, m2 = C1.length ∧ i = (C1.length : Int) ∧ C = C1 ++ C2 ∧ (∀ y, C2.head? = some y → Le (scmp pol last) x y) ∧ St c w' (own 184 7 O' (C.length + 1) oc' ((C1 ++ x :: C2).flatMap pth) :: L),
    ⟨_, C, [], rfl, rfl, by simp, by simp, by simpa using h⟩, ?_⟩
  rintro m2 _ w' ⟨C1, C2, rfl, rfl, hCC, h2, h⟩
  have lCC : C.length = C1.length + C2.length := by rw [hCC, List.length_append]
  refine ifd (fun hpos => ?_) fun hz => ?_
  rotate_left
  · have : C1 = [] := List.eq_nil_of_length_eq_zero (by omega)
    subst this
    exact leti next (done _ [] C2 hCC (by simp) h2 h.drew)
  rcases List.eq_nil_or_concat C1 with rfl | ⟨q, u, rfl⟩
  · simp at hpos
  rw [List.concat_eq_append] at *
  have h := h.drew
  have lq : (q ++ [u]).length = q.length + 1 := by simp
  rw [lq] at lCC hpos ⊢
  have e0 : q ++ [u] ++ x :: C2 = q ++ u :: x :: C2 := by simp
  rw [e0] at h
  obtain ⟨gu, gx, gl, _, gs⟩ := adj (P := q) (S := C2) (u := u) (v := x) rfl
  have en : IntKind.i64.wrap (((q.length + 1 : Nat) : Int) - 1) = (q.length : Int) := by rw [wrap_i64 (by omega) (by omega)]; omega
  rw [en]
  refine h.ix (z := 6) (RdIn.own .head) gx (fun a ha => ?_) (by omega)
  subst ha
  refine h.rdEG (RdIn.own .head) gx ⟨_, _, _, _, _, _, _, rfl, ?_⟩
  refine h.ix (z := 6) (RdIn.own .head) gu (fun a ha => ?_) (by omega)
  injection ha with ha
  subst ha
  refine h.rdEG (RdIn.own .head) gu ⟨_, _, _, _, _, _, _, rfl, ?_⟩
  refine ahead_ok h x u fun w' h => ⟨_, rfl, ?_⟩
  refine ifd (fun hc => ?_) fun hc => ?_
  rotate_left
  · rw [← e0] at h
    exact leti next (done _ (q ++ [u]) C2 hCC (fun y hy => by simp at hy; subst hy; exact scmp_le.2 hc) h2 h)
  have h := h.drew
  refine h.ix (z := 6) (RdIn.own .head) gu (fun a ha => ?_) (by omega)
  injection ha with ha
  subst ha
  refine h.rdEG (RdIn.own .head) gu ⟨_, _, _, _, _, _, _, rfl, ?_⟩
  refine h.ix (z := 6) (RdIn.own .head) gx (fun a ha => ?_) (by omega)
  injection ha with ha
  subst ha
  refine h.rdEG (RdIn.own .head) gx ⟨_, _, _, _, _, _, _, rfl, ?_⟩
  refine h.ix (z := 6) (RdIn.own .head) gx (fun a ha => ?_) (by omega)
  injection ha with ha
  subst ha
  refine h.stE .head (by omega) u (pth_flat1 u) fun w' h => ?_
  have gu' : ((q ++ u :: x :: C2).set (q.length + 1) u)[q.length]? = some u := by rw [List.getElem?_set_ne (by omega)]; exact gu
  refine h.ix (z := 6) (RdIn.own .head) gu' (fun a ha => ?_) (by omega)
  injection ha with ha
  subst ha
  refine h.stE .head (by rw [List.length_set]; omega) x (pth_flat1 x) fun w' h => ?_
  rw [gs] at h
  refine leti rfl ⟨_, ?_, q, u :: C2, rfl, rfl, by rw [hCC]; simp, ?_, h⟩
  · omega
  · intro y hy
    simp at hy; subst hy
    exact (scmp_ord pol last).total _ _ (scmp_neg.2 hc)
theorem rOrder_ok (h : St c w L) {A : Option Addr} {k : Nat} {l : List Pth} {pol last n : Int} (hr : RdIn L A (l.flatMap pth)) (hl : l.length ≤ 1000) {Q : Value → World → Prop}
    (hk : ∀ O oc w' C, Srt (scmp pol last) C → C.Perm (l.filter (pfits n)) → St c w' (own 3 1 O C.length oc ((C.map (·.id)).flatMap iv) :: L) → Q (.slice O C.length oc) w') :
    CALL PG 44 [.int .i64 pol, .int .i64 last, .int .i64 n, .slice A l.length k] w Q := by
  refine call44 ?_
  unfold N44
  refine rorder_ok h hr hl fun O oc w' C hC pC h => ⟨_, _, _, rfl, ?_⟩
  have lC := pC.length_eq
  have lf := List.length_filter_le (pfits n) l
  refine ⟨fun m O2 on2 oc2 i w' => ∃ j : Nat, j + m = C.length ∧ i = (j : Int) ∧ j = on2 ∧ St c w' (own 3 1 O2 on2 oc2 (((C.take j).map (·.id)).flatMap iv) :: own 184 7 O C.length oc (C.flatMap pth) :: L),
    ⟨C.length, 0, by omega, rfl, rfl, h.addOwnNil _ _⟩, ?_⟩
  rintro m O2 on2 oc2 _ w' ⟨j, hj, rfl, rfl, h⟩
  refine ifd (fun hlt => ?_) fun hge => ?_
  · obtain ⟨x, hx⟩ := ex_get (L := C) (j := j) (by omega)
    refine h.ix (z := 6) (RdIn.own (.tail .head)) hx (fun a ha => ?_) (by omega)
    subst ha
    refine h.rdEI 0 (RdIn.own (.tail .head)) hx ?_
    refine h.app1 huInts tiInt (iv x.id) .head (flat_all rfl) (by omega) fun O' oc' w' h => ?_
    refine leti (y := ((j + 1 : Nat) : Int)) (wrap_i64 (by omega) (by omega)) ⟨m - 1, by omega, j + 1, by omega, rfl, rfl, ?_⟩
    rw [take_snoc' hx, List.map_append, List.flatMap_append]
    simp only [List.map_cons, List.map_nil, List.flatMap_cons, List.flatMap_nil, List.append_nil]
    exact h
  · have hjl : j = C.length := by omega
    subst hjl
    rw [List.take_length] at h
    exact hk O2 oc2 w' C hC pC h.to
theorem rChoose_ok (h : St c w L) {A : Option Addr} {k : Nat} {l : List Pth} {pol last n : Int} (hr : RdIn L A (l.flatMap pth)) (hl : l.length ≤ 1000) {Q : Value → World → Prop}
    (hk : ∀ O oc w' C, Srt (scmp pol last) C → C.Perm (l.filter (pfits n)) → St c w' (own 3 1 O (chosen pol C).length oc ((chosen pol C).flatMap iv) :: L) → Q (.slice O (chosen pol C).length oc) w') :
    CALL PG 49 [.int .i64 pol, .int .i64 last, .int .i64 n, .slice A l.length k] w Q := by
  refine call49 ?_
  unfold N49
  refine rorder_ok h hr hl fun O oc w' C hC pC h => ⟨_, _, _, rfl, ?_⟩
  have lC := pC.length_eq
  have lf := List.length_filter_le (pfits n) l
  refine ⟨fun m O2 on2 oc2 i w' => ∃ j : Nat, j + m = C.length ∧ i = (j : Int) ∧ (chosen pol (C.take j)).length = on2 ∧ St c w' (own 3 1 O2 on2 oc2 ((chosen pol (C.take j)).flatMap iv) :: own 184 7 O C.length oc (C.flatMap pth) :: L),
    ⟨C.length, 0, by omega, rfl, rfl, h.addOwnNil _ _⟩, ?_⟩
  rintro m O2 on2 oc2 _ w' ⟨j, hj, rfl, rfl, h⟩
  refine ifd (fun hlt => ?_) fun hge => ?_
  rotate_left
  · have hjl : j = C.length := by omega
    subst hjl
    rw [List.take_length] at h ⊢
    exact hk O2 oc2 w' C hC pC h.to
  obtain ⟨x, hx⟩ := ex_get (L := C) (j := j) (by omega)
  have lch : (chosen pol (C.take j)).length ≤ 1000 := by
    unfold chosen
    split
    · simp
    · rename_i y r e
      split
      · rw [List.length_map]
        have := List.length_filter_le (fun z => prk z == prk y) (y :: r)
        rw [← e, List.length_take] at this
        rw [← e]; omega
      · simp
  have next : (IntKind.i64.wrap ((j : Int) + 1)) = ((j + 1 : Nat) : Int) := wrap_i64 (by omega) (by omega)
  have hRC : RdIn (own 3 1 O2 (chosen pol (C.take j)).length oc2 ((chosen pol (C.take j)).flatMap iv) :: own 184 7 O C.length oc (C.flatMap pth) :: L) O (C.flatMap pth) := RdIn.own (.tail .head)
  have add : ∀ w' O' oc', St c w' (own 3 1 O' ((chosen pol (C.take j)).length + 1) oc' ((chosen pol (C.take j)).flatMap iv ++ iv x.id) :: own 184 7 O C.length oc (C.flatMap pth) :: L) → chosen pol (C.take (j + 1)) = chosen pol (C.take j) ++ [x.id] →
      ∃ m2, m2 < m ∧ ∃ j' : Nat, j' + m2 = C.length ∧ ((j + 1 : Nat) : Int) = (j' : Int) ∧ (chosen pol (C.take j')).length = (chosen pol (C.take j)).length + 1 ∧ St c w' (own 3 1 O' ((chosen pol (C.take j)).length + 1) oc' ((chosen pol (C.take j')).flatMap iv) :: own 184 7 O C.length oc (C.flatMap pth) :: L) := by
    intro w' O' oc' h e
    refine ⟨m - 1, by omega, j + 1, by omega, rfl, ?_⟩
    rw [e]
    refine ⟨by simp, ?_⟩
    simp only [List.flatMap_append, List.flatMap_cons, List.flatMap_nil, List.append_nil]
    exact h
  have keep : ∀ w', St c w' (own 3 1 O2 (chosen pol (C.take j)).length oc2 ((chosen pol (C.take j)).flatMap iv) :: own 184 7 O C.length oc (C.flatMap pth) :: L) → chosen pol (C.take (j + 1)) = chosen pol (C.take j) →
      ∃ m2, m2 < m ∧ ∃ j' : Nat, j' + m2 = C.length ∧ ((j + 1 : Nat) : Int) = (j' : Int) ∧ (chosen pol (C.take j')).length = (chosen pol (C.take j)).length ∧ St c w' (own 3 1 O2 (chosen pol (C.take j)).length oc2 ((chosen pol (C.take j')).flatMap iv) :: own 184 7 O C.length oc (C.flatMap pth) :: L) := by
    intro w' h e
    refine ⟨m - 1, by omega, j + 1, by omega, rfl, ?_⟩
    rw [e]
    exact ⟨rfl, h⟩
  have hd := h.drew
  refine ⟨fun w => St c w _, hd, ?_⟩
  refine ifq (fun h0 => ?_) fun h0 => ifq (fun h3 => ?_) fun h3 => ?_
  · have j0 : j = 0 := by omega
    refine hd.ix (z := 6) hRC hx (fun a ha => ?_) (by omega)
    subst ha
    refine hd.rdEI 0 hRC hx ?_
    refine hd.app1 huInts tiInt (iv x.id) .head (flat_all rfl) (by omega) fun O' oc' w' h => leti next (add w' O' oc' h ?_)
    rw [take_snoc' hx, j0]
    simp [chosen]
  · have j0 : 0 < j := by omega
    obtain ⟨y, r, hyr⟩ : ∃ y r, C.take j = y :: r := by
      cases hC0 : C.take j with
      | nil => rw [List.take_eq_nil_iff] at hC0; rcases hC0 with h | h
               · omega
               · subst h; simp at hx
      | cons y r => exact ⟨y, r, rfl⟩
    have hy0 : C[0]? = some y := by
      have : (C.take j)[0]? = some y := by rw [hyr]; rfl
      rwa [List.getElem?_take_of_lt j0] at this
    refine hd.ix (z := 6) hRC hx (fun a ha => ?_) (by omega)
    subst ha
    refine St.rdsEG hRC hx ⟨_, _, _, _, _, _, _, rfl, ?_⟩
    refine hd.ix (z := 6) (i := 0) hRC hy0 (fun a ha => ?_) (by omega)
    injection ha with ha
    subst ha
    refine St.rdsEG (i := 0) hRC hy0 ⟨_, _, _, _, _, _, _, rfl, ?_⟩
    refine rrank_ok hd x fun w' h => ⟨_, rfl, _, fun _ h => h, h, ?_⟩
    refine rrank_ok h y fun w' h => ⟨_, rfl, ?_⟩
    refine ifq (fun h4 => ?_) fun h4 => ?_
    · refine h.ix (z := 6) hRC hx (fun a ha => ?_) (by omega)
      injection ha with ha
      subst ha
      refine h.rdEI 0 hRC hx ?_
      refine h.app1 huInts tiInt (iv x.id) .head (flat_all rfl) (by omega) fun O' oc' w' h => leti next (add w' O' oc' h ?_)
      rw [take_snoc' hx, hyr]
      simp only [chosen, List.cons_append, h3, if_true, List.filter_cons, List.filter_append, List.map_append]
      simp [h4]
    · refine leti next (keep w' h ?_)
      rw [take_snoc' hx, hyr]
      simp only [chosen, List.cons_append, h3, if_true, List.filter_cons, List.filter_append, List.map_append]
      simp [h4]
  · have j0 : 0 < j := by omega
    refine leti next (keep _ hd ?_)
    rw [take_snoc' hx]
    cases hC0 : C.take j with
    | nil => rw [List.take_eq_nil_iff] at hC0; rcases hC0 with h | h
             · omega
             · subst h; simp at hx
    | cons y r => simp [chosen, h3]
theorem row19_ok (h : St c w L) {A B : Option Addr} {k d : Nat} {X Y : List Int} (e : X = Y) (ha : RdIn L A (X.flatMap iv)) (hb : RdIn L B (Y.flatMap iv)) (hl : X.length ≤ 1000) {Q : Value → World → Prop} (hk : ∀ w', St c w' L → Q (.bool true) w') :
    CALL PG 42 [.slice A X.length k, .slice B Y.length d] w Q := by
  subst e
  refine call42 ?_
  unfold N42
  refine iff_ (by simp) ⟨fun m i w' => ∃ j : Nat, j + m = X.length ∧ i = (j : Int) ∧ St c w' L, ⟨X.length, 0, by omega, rfl, h⟩, ?_⟩
  rintro m _ w' ⟨j, hj, rfl, h⟩
  refine ifd (fun hlt => ?_) fun hge => hk w' h
  obtain ⟨x, hx⟩ := ex_get (L := X) (j := j) (by omega)
  have h := h.drew
  refine h.ix (z := 0) ha hx fun a e1 => ?_
  subst e1
  refine h.rdWI ha hx ?_
  refine h.ix (z := 0) hb hx fun b e2 => ?_
  subst e2
  refine h.rdWI hb hx ?_
  refine iff_ (by simp) (leti (y := ((j + 1 : Nat) : Int)) (wrap_i64 (by omega) (by omega)) ⟨m - 1, by omega, j + 1, by omega, rfl, h⟩)
theorem apart_ok (h : St c w L) {A : Option Addr} {k : Nat} {l : List Pth} (hr : RdIn L A (l.flatMap pth)) (hl : l.length ≤ 1000) {Q : Value → World → Prop} (hno : ∀ w', St c w' L → Q (.bool false) w') (hk : ∀ w', Apart l → St c w' L → Q (.bool true) w') :
    CALL PG 47 [.slice A l.length k] w Q := by
  refine call47 ?_
  unfold N47
  refine ⟨fun m i w' => ∃ j : Nat, j + m = l.length ∧ i = (j : Int) ∧ (∀ i k x y, i < j → i < k → l[i]? = some x → l[k]? = some y → x.id ≠ y.id) ∧ St c w' L, ⟨l.length, 0, by omega, rfl, fun i k x y h => absurd h (by omega), h⟩, ?_⟩
  rintro m _ w' ⟨j, hj, rfl, hd, h⟩
  refine ifd (fun hlt => ?_) fun hge => ?_
  rotate_left
  · refine hk w' ?_ h
    unfold Apart List.Nodup
    rw [List.pairwise_iff_getElem]
    intro i k hi hk' hik
    simp only [List.length_map] at hi hk'
    simp only [List.getElem_map]
    exact hd i k _ _ (by omega) hik (List.getElem?_eq_getElem hi) (List.getElem?_eq_getElem hk')
  obtain ⟨x, hx⟩ := ex_get (L := l) (j := j) (by omega)
  have next : ∀ {j : Nat}, j < l.length → IntKind.i64.wrap ((j : Int) + 1) = ((j + 1 : Nat) : Int) := fun hj => wrap_i64 (by omega) (by omega)
  refine leti (next (by omega)) ⟨fun m k w' => ∃ q : Nat, q + m = l.length ∧ k = (q : Int) ∧ j < q ∧ (∀ k y, j < k → k < q → l[k]? = some y → x.id ≠ y.id) ∧ St c w' L, ⟨l.length - (j + 1), j + 1, by omega, rfl, by omega, fun k y h1 h2 => absurd h1 (by omega), h⟩, ?_⟩
  rintro m2 _ w' ⟨q, hq, rfl, hjq, hd2, h⟩
  refine ifd (fun hlt2 => ?_) fun hge2 => ?_
  · obtain ⟨y, hy⟩ := ex_get (L := l) (j := q) (by omega)
    have h := h.drew
    refine h.ix (z := 6) hr hx fun a e1 => ?_
    subst e1
    refine h.rdEI 0 hr hx ?_
    refine h.ix (z := 6) hr hy fun b e2 => ?_
    injection e2 with e2
    subst e2
    refine h.rdEI 0 hr hy ?_
    refine ifq (fun _ => hno _ h) fun hne => leti (next (by omega)) ⟨m2 - 1, by omega, q + 1, by omega, rfl, by omega, fun k z h1 h2 hz => ?_, h⟩
    by_cases e : k = q
    · subst e
      rw [hy] at hz
      injection hz with hz
      subst hz; exact hne
    · exact hd2 k z h1 (by omega) hz
  · refine leti (next (by omega)) ⟨m - 1, by omega, j + 1, by omega, rfl, fun i k y z h1 h2 hy hz => ?_, h⟩
    by_cases e : i = j
    · subst e
      rw [hx] at hy
      injection hy with hy
      subst hy
      exact hd2 k z h2 (by have := (List.getElem?_eq_some_iff.1 hz).1; omega) hz
    · exact hd i k y z (by omega) h2 hy hz
end
end Go.Br
