/- The law of what a path plays. -/
import Derived.Test.YtggajodoaooafaaNLinkPlay2
import Derived.Test.YtggajodoaooafaaLinkPlay1
set_option linter.unusedVariables false
set_option linter.unusedSimpArgs false
set_option linter.unnecessarySimpa false
namespace Go.Br
open Go
attribute [local irreducible] Addr.add

abbrev dOf (s : Ls) (W : List Pk) : Ds := ⟨s.m, s.x, s.now, s.sent, s.lost, s.full, s.dbl, s.came, W⟩
theorem putS_le {s : Ls} (h : ∀ i ∈ s.l, i.num ≤ s.num) (A : Option Addr) (k : Nat) (bs : List UInt8) : ∀ i ∈ (putS s A k bs).l, i.num ≤ (putS s A k bs).num := by
  unfold putS
  split
  · exact h
  · intro i hi
    simp only [List.mem_append, List.mem_singleton] at hi ⊢
    rcases hi with hi | rfl
    · have := h i hi; omega
    · simp only; omega
theorem putS_nd {s : Ls} (h : ∀ i ∈ s.l, i.num ≤ s.num) (hn : (s.l.map (·.num)).Nodup) (A : Option Addr) (k : Nat) (bs : List UInt8) : ((putS s A k bs).l.map (·.num)).Nodup := by
  unfold putS
  split
  · exact hn
  · simp only [List.map_append, List.map_cons, List.map_nil]
    rw [List.nodup_append]
    refine ⟨hn, by simp, fun a ha b hb => ?_⟩
    simp only [List.mem_singleton] at hb
    subst hb
    obtain ⟨i, hi, rfl⟩ := List.mem_map.1 ha
    have := h i hi
    omega
theorem sim_put {s : Ls} {C : List It} {d' : Ds} {A : Option Addr} {k : Nat} {bs : List UInt8} (hC : Srt lf C) (pC : C.Perm s.l) (hle : ∀ i ∈ s.l, i.num ≤ s.num) (h : RPut (dOf s (C.map pkOf)) (strOf bs) d') :
    ∃ C', d' = dOf (putS s A k bs) (C'.map pkOf) ∧ Srt lf C' ∧ C'.Perm (putS s A k bs).l := by
  have lC := pC.length_eq
  rcases h with ⟨hq, rfl⟩ | ⟨hq, U, V, hp, rfl⟩
  · refine ⟨C, ?_, hC, ?_⟩
    · unfold putS; rw [if_pos (by simp only [List.length_map] at hq; omega)]
    · unfold putS; rw [if_pos (by simp only [List.length_map] at hq; omega)]; exact pC
  · simp only [List.length_map] at hq
    obtain ⟨CA, CB, rfl, rfl, rfl⟩ := List.map_eq_append_iff.1 hp.e
    refine ⟨CA ++ ⟨s.now + s.m.d + late s, s.num + 1, A, k, bs⟩ :: CB, ?_, ?_, ?_⟩
    · unfold putS; rw [if_neg (by omega)]
      simp only [dOf, List.map_append, List.map_cons]
      rfl
    · refine Srt.ins lf_ord hC (fun x hx => ?_) fun y hy => ?_
      · have h1 := hp.a (pkOf x) (by rw [List.getLast?_map, hx]; rfl)
        have h2 := hle x (pC.mem_iff.1 (List.mem_append.2 (.inl (List.mem_of_getLast? hx))))
        have h1 : x.tm ≤ s.now + s.m.d + late s := h1
        unfold Le lf
        split <;> simp only at * <;> omega
      · have h1 : s.now + s.m.d + late s < y.tm := hp.b (pkOf y) (List.mem_map_of_mem (List.mem_of_mem_head? hy))
        unfold Le lf
        split <;> simp only at * <;> omega
    · unfold putS; rw [if_neg (by omega)]
      simp only
      refine List.perm_middle.trans ((pC.cons _).trans ?_)
      exact (List.perm_append_singleton _ _).symm
theorem putS_dbl (s : Ls) (A : Option Addr) (k : Nat) (bs : List UInt8) : putS { s with dbl := s.dbl + 1 } A k bs = { putS s A k bs with dbl := (putS s A k bs).dbl + 1 } := by
  unfold putS
  by_cases h : (s.l.length : Int) ≥ s.m.q
  · rw [if_pos h, if_pos h]
  · rw [if_neg h, if_neg h]; rfl
theorem sim_send {s : Ls} {C : List It} {d' : Ds} {A1 A2 : Option Addr} {k1 k2 : Nat} {bs : List UInt8} (hC : Srt lf C) (pC : C.Perm s.l) (hle : ∀ i ∈ s.l, i.num ≤ s.num) (hn : (s.l.map (·.num)).Nodup) (h : RSend (dOf s (C.map pkOf)) (strOf bs) d') :
    (∃ C', d' = dOf (sendS s A1 A2 k1 k2 bs) (C'.map pkOf) ∧ Srt lf C' ∧ C'.Perm (sendS s A1 A2 k1 k2 bs).l) ∧ ((sendS s A1 A2 k1 k2 bs).l.map (·.num)).Nodup := by
  unfold RSend at h
  unfold sendS
  simp only at h ⊢
  split at h
  · rename_i h1
    rw [if_pos h1]
    exact ⟨⟨C, h, hC, pC⟩, hn⟩
  · rename_i h1
    rw [if_neg h1]
    split at h
    · rename_i h2
      rw [if_pos h2]
      obtain ⟨d3, p1, p2⟩ := h
      obtain ⟨C1, rfl, hC1, pC1⟩ := sim_put (s := { s with sent := s.sent + 1, x := nx (nx s.x), dbl := s.dbl + 1 }) (A := A1) (k := k1) hC pC hle p1
      have hle1 := putS_le (s := { s with sent := s.sent + 1, x := nx (nx s.x), dbl := s.dbl + 1 }) hle A1 k1 bs
      have hn1 := putS_nd (s := { s with sent := s.sent + 1, x := nx (nx s.x), dbl := s.dbl + 1 }) hle hn A1 k1 bs
      rw [show putS { s with sent := s.sent + 1, x := nx (nx s.x), dbl := s.dbl + 1 } A1 k1 bs = { putS { s with sent := s.sent + 1, x := nx (nx s.x) } A1 k1 bs with dbl := (putS { s with sent := s.sent + 1, x := nx (nx s.x) } A1 k1 bs).dbl + 1 } from putS_dbl { s with sent := s.sent + 1, x := nx (nx s.x) } A1 k1 bs] at p2 pC1 hle1 hn1
      exact ⟨sim_put hC1 pC1 hle1 p2, putS_nd hle1 hn1 _ _ _⟩
    · rename_i h2
      rw [if_neg h2]
      refine ⟨sim_put (s := { s with sent := s.sent + 1, x := nx (nx s.x) }) hC pC hle h, putS_nd (s := { s with sent := s.sent + 1, x := nx (nx s.x) }) hle hn _ _ _⟩
theorem okD_of {s : Ls} {N : Int} {C : List It} (h : Ok s N) (hb : Bal s 0) (pC : C.Perm s.l) : OkD (dOf s (C.map pkOf)) N := by
  refine ⟨h.m, h.now, h.sent, h.lost, h.full, h.dbl, h.came, ?_⟩
  have := pC.length_eq
  have := hb.2
  simp only [dOf, List.length_map]
  omega
section
variable {c : Ctx} {w : World} {L R : List SA}
theorem rows_ok {P : List It} {O O2 : Option Addr} {oc oc2 n : Nat} {U : List ByteArray} (h : St c w L) (hr : RdIn L O (P.flatMap bsv)) (hro : ∀ x ∈ P, RdIn L x.A (bvs x.bs)) (hU : RdIn L O2 (U.flatMap stv)) (hP : P.length ≤ 1000) (e : U = P.map fun x => strOf x.bs) (hn : n = P.length) {Q : Value → World → Prop} (hk : ∀ w', St c w' L → Q (.bool true) w') :
    CALL PG 36 [.slice O P.length oc, .slice O2 n oc2] w Q := by
  subst hn
  refine call36 ?_
  unfold N36
  refine ifnsame rfl ?_
  refine ⟨fun m i w' => ∃ j : Nat, j + m = P.length ∧ i = (j : Int) ∧ St c w' L, ⟨P.length, 0, by omega, rfl, h⟩, ?_⟩
  rintro m _ w' ⟨j, hj, rfl, h⟩
  refine ifd (fun hlt => ?_) fun hge => hk _ h
  obtain ⟨x, hx⟩ := ex_get (L := P) (j := j) (by omega)
  have hx2 : U[j]? = some (strOf x.bs) := by rw [e, List.getElem?_map, hx]; rfl
  have h := h.drew
  refine h.ix (z := 0) hr hx fun a ha => ?_
  subst ha
  refine h.rdWL hr hx ?_
  refine h.bytesToString (e := 5) (bs := x.bs) (hro x (List.mem_of_getElem? hx)) rfl ?_
  refine h.ix (z := 0) hU hx2 fun a ha => ?_
  subst ha
  refine h.rdWT hU hx2 ?_
  refine iff_ (by simp) ?_
  exact leti (y := ((j + 1 : Nat) : Int)) (wrap_i64 (by omega) (by omega)) ⟨m - 1, by omega, j + 1, by omega, rfl, h⟩
theorem plays_ok (h : St c w L) {m : Mo} {seed : Int} {A : Option Addr} {k : Nat} {l : List It} (hr : RdIn L A (l.flatMap bsv)) (hro : ∀ x ∈ l, RdIn L x.A (bvs x.bs)) {Q : Value → World → Prop} (hk : ∀ w', St c w' L → Q (.bool true) w') :
    CALL PG 6 [mov m, .int .u64 seed, .slice A l.length k] w Q := by
  refine call6 ?_
  unfold N6
  refine h.box fun a3 w' h => ?_
  refine ifd (fun _ => hk _ h.drop) fun hn => ?_
  repeat' (first
    | ((with_reducible show NILC (some _) _); refine nilc ?_)
    | ((with_reducible show RDI _ (loadVar _ (Addr.add (Addr.add ⟨_, 0, none⟩ _) _)) _ _ _); refine h.rdI2 _ _ ?_)
    | ((with_reducible show RDB _ (loadVar _ (Addr.add (Addr.add ⟨_, 0, none⟩ _) _)) _ _); refine h.rdB2 _ _ ?_)
    | ((with_reducible show RDP _ (loadVar _ (Addr.add (Addr.add ⟨_, 0, none⟩ _) _)) _ _); refine h.rdP2 _ _ ?_)
    | ((with_reducible show RDL _ (loadVar _ (Addr.add (Addr.add ⟨_, 0, none⟩ _) _)) _ _); refine h.rdL2 _ _ ?_)
    | ((with_reducible show RDI _ (loadVar _ (Addr.add _ _)) _ _ _); refine h.rdI _ ?_)
    | ((with_reducible show RDB _ (loadVar _ (Addr.add _ _)) _ _); refine h.rdB _ ?_)
    | ((with_reducible show RDP _ (loadVar _ (Addr.add _ _)) _ _); refine h.rdP _ ?_)
    | ((with_reducible show RDL _ (loadVar _ (Addr.add _ _)) _ _); refine h.rdL _ ?_)
    | ((with_reducible show RDT _ (loadVar _ (Addr.add _ _)) _ _); refine h.rdT _ ?_)
    | ((with_reducible show RUNU _ (storeVar _ (Addr.add (Addr.add ⟨_, 0, none⟩ _) _) _) _ _); refine h.st2 _ _ fun w' h => ?_)
    | ((with_reducible show RUNU _ (storeVar _ (Addr.add _ _) _) _ _); refine h.st _ fun w' h => ?_)
    | ((with_reducible show RDI _ (loadVar _ ⟨_, _, _⟩) _ _ _); refine h.rdvI ?_)
    | ((with_reducible show RDB _ (loadVar _ ⟨_, _, _⟩) _ _); refine h.rdvB ?_)
    | ((with_reducible show RDP _ (loadVar _ ⟨_, _, _⟩) _ _); refine h.rdvP ?_)
    | ((with_reducible show RDL _ (loadVar _ ⟨_, _, _⟩) _ _); refine h.rdvL ?_)
    | ((with_reducible show RDT _ (loadVar _ ⟨_, _, _⟩) _ _); refine h.rdvT ?_)
    | ((with_reducible show RD _ (loadVar _ ⟨_, _, _⟩) _ _); refine h.rdG ?_; first | refine ⟨_, rfl, ?_⟩ | refine ⟨_, _, rfl, ?_⟩ | refine ⟨_, _, _, rfl, ?_⟩ | refine ⟨_, _, _, _, rfl, ?_⟩ | refine ⟨_, _, _, _, _, rfl, ?_⟩ | refine ⟨_, _, _, _, _, _, rfl, ?_⟩ | refine ⟨_, _, _, _, _, _, _, rfl, ?_⟩ | refine ⟨_, _, _, _, _, _, _, _, rfl, ?_⟩ | refine ⟨_, _, _, _, _, _, _, _, _, rfl, ?_⟩)
    | ((with_reducible show RUNU _ (storeVar _ ⟨_, _, _⟩ (.agg _)) _ _); refine h.stG fun w' h => ?_)
    | ((with_reducible show RUNU _ (storeVar _ ⟨_, _, _⟩ _) _ _); refine h.stV fun w' h => ?_))
  by_cases hR : RightM m
  rotate_left
  · refine new_ok h (fun _ w' h => ⟨_, _, rfl, leti rfl ?_⟩) fun h => absurd h hR
    repeat' (first
      | ((with_reducible show NILC (some _) _); refine nilc ?_)
      | ((with_reducible show RDI _ (loadVar _ (Addr.add (Addr.add ⟨_, 0, none⟩ _) _)) _ _ _); refine h.rdI2 _ _ ?_)
      | ((with_reducible show RDB _ (loadVar _ (Addr.add (Addr.add ⟨_, 0, none⟩ _) _)) _ _); refine h.rdB2 _ _ ?_)
      | ((with_reducible show RDP _ (loadVar _ (Addr.add (Addr.add ⟨_, 0, none⟩ _) _)) _ _); refine h.rdP2 _ _ ?_)
      | ((with_reducible show RDL _ (loadVar _ (Addr.add (Addr.add ⟨_, 0, none⟩ _) _)) _ _); refine h.rdL2 _ _ ?_)
      | ((with_reducible show RDI _ (loadVar _ (Addr.add _ _)) _ _ _); refine h.rdI _ ?_)
      | ((with_reducible show RDB _ (loadVar _ (Addr.add _ _)) _ _); refine h.rdB _ ?_)
      | ((with_reducible show RDP _ (loadVar _ (Addr.add _ _)) _ _); refine h.rdP _ ?_)
      | ((with_reducible show RDL _ (loadVar _ (Addr.add _ _)) _ _); refine h.rdL _ ?_)
      | ((with_reducible show RDT _ (loadVar _ (Addr.add _ _)) _ _); refine h.rdT _ ?_)
      | ((with_reducible show RUNU _ (storeVar _ (Addr.add (Addr.add ⟨_, 0, none⟩ _) _) _) _ _); refine h.st2 _ _ fun w' h => ?_)
      | ((with_reducible show RUNU _ (storeVar _ (Addr.add _ _) _) _ _); refine h.st _ fun w' h => ?_)
      | ((with_reducible show RDI _ (loadVar _ ⟨_, _, _⟩) _ _ _); refine h.rdvI ?_)
      | ((with_reducible show RDB _ (loadVar _ ⟨_, _, _⟩) _ _); refine h.rdvB ?_)
      | ((with_reducible show RDP _ (loadVar _ ⟨_, _, _⟩) _ _); refine h.rdvP ?_)
      | ((with_reducible show RDL _ (loadVar _ ⟨_, _, _⟩) _ _); refine h.rdvL ?_)
      | ((with_reducible show RDT _ (loadVar _ ⟨_, _, _⟩) _ _); refine h.rdvT ?_)
      | ((with_reducible show RD _ (loadVar _ ⟨_, _, _⟩) _ _); refine h.rdG ?_; first | refine ⟨_, rfl, ?_⟩ | refine ⟨_, _, rfl, ?_⟩ | refine ⟨_, _, _, rfl, ?_⟩ | refine ⟨_, _, _, _, rfl, ?_⟩ | refine ⟨_, _, _, _, _, rfl, ?_⟩ | refine ⟨_, _, _, _, _, _, rfl, ?_⟩ | refine ⟨_, _, _, _, _, _, _, rfl, ?_⟩ | refine ⟨_, _, _, _, _, _, _, _, rfl, ?_⟩ | refine ⟨_, _, _, _, _, _, _, _, _, rfl, ?_⟩)
      | ((with_reducible show RUNU _ (storeVar _ ⟨_, _, _⟩ (.agg _)) _ _); refine h.stG fun w' h => ?_)
      | ((with_reducible show RUNU _ (storeVar _ ⟨_, _, _⟩ _) _ _); refine h.stV fun w' h => ?_))
    refine plain_ok h fun w' h => ⟨_, _, _, _, _, _, rfl, ?_⟩
    refine rright_ok h fun w' h => ⟨_, rfl, ?_⟩
    refine ift (by simp [hR]) ?_
    repeat' (first
      | ((with_reducible show NILC (some _) _); refine nilc ?_)
      | ((with_reducible show RDI _ (loadVar _ (Addr.add (Addr.add ⟨_, 0, none⟩ _) _)) _ _ _); refine h.rdI2 _ _ ?_)
      | ((with_reducible show RDB _ (loadVar _ (Addr.add (Addr.add ⟨_, 0, none⟩ _) _)) _ _); refine h.rdB2 _ _ ?_)
      | ((with_reducible show RDP _ (loadVar _ (Addr.add (Addr.add ⟨_, 0, none⟩ _) _)) _ _); refine h.rdP2 _ _ ?_)
      | ((with_reducible show RDL _ (loadVar _ (Addr.add (Addr.add ⟨_, 0, none⟩ _) _)) _ _); refine h.rdL2 _ _ ?_)
      | ((with_reducible show RDI _ (loadVar _ (Addr.add _ _)) _ _ _); refine h.rdI _ ?_)
      | ((with_reducible show RDB _ (loadVar _ (Addr.add _ _)) _ _); refine h.rdB _ ?_)
      | ((with_reducible show RDP _ (loadVar _ (Addr.add _ _)) _ _); refine h.rdP _ ?_)
      | ((with_reducible show RDL _ (loadVar _ (Addr.add _ _)) _ _); refine h.rdL _ ?_)
      | ((with_reducible show RDT _ (loadVar _ (Addr.add _ _)) _ _); refine h.rdT _ ?_)
      | ((with_reducible show RUNU _ (storeVar _ (Addr.add (Addr.add ⟨_, 0, none⟩ _) _) _) _ _); refine h.st2 _ _ fun w' h => ?_)
      | ((with_reducible show RUNU _ (storeVar _ (Addr.add _ _) _) _ _); refine h.st _ fun w' h => ?_)
      | ((with_reducible show RDI _ (loadVar _ ⟨_, _, _⟩) _ _ _); refine h.rdvI ?_)
      | ((with_reducible show RDB _ (loadVar _ ⟨_, _, _⟩) _ _); refine h.rdvB ?_)
      | ((with_reducible show RDP _ (loadVar _ ⟨_, _, _⟩) _ _); refine h.rdvP ?_)
      | ((with_reducible show RDL _ (loadVar _ ⟨_, _, _⟩) _ _); refine h.rdvL ?_)
      | ((with_reducible show RDT _ (loadVar _ ⟨_, _, _⟩) _ _); refine h.rdvT ?_)
      | ((with_reducible show RD _ (loadVar _ ⟨_, _, _⟩) _ _); refine h.rdG ?_; first | refine ⟨_, rfl, ?_⟩ | refine ⟨_, _, rfl, ?_⟩ | refine ⟨_, _, _, rfl, ?_⟩ | refine ⟨_, _, _, _, rfl, ?_⟩ | refine ⟨_, _, _, _, _, rfl, ?_⟩ | refine ⟨_, _, _, _, _, _, rfl, ?_⟩ | refine ⟨_, _, _, _, _, _, _, rfl, ?_⟩ | refine ⟨_, _, _, _, _, _, _, _, rfl, ?_⟩ | refine ⟨_, _, _, _, _, _, _, _, _, rfl, ?_⟩)
      | ((with_reducible show RUNU _ (storeVar _ ⟨_, _, _⟩ (.agg _)) _ _); refine h.stG fun w' h => ?_)
      | ((with_reducible show RUNU _ (storeVar _ ⟨_, _, _⟩ _) _ _); refine h.stV fun w' h => ?_))
    refine right_ok h fun w' h => ⟨_, rfl, ?_⟩
    refine ift (by simp [hR]) (ift rfl (ift rfl ?_))
    exact alive_ok h fun w' h => ⟨_, rfl, letb rfl (hk _ h.drop)⟩
  refine new_ok h (fun h => absurd hR h) fun _ p d w' h => ⟨_, _, rfl, leti rfl ?_⟩
  obtain ⟨A1, k1, h⟩ := h
  repeat' (first
    | ((with_reducible show NILC (some _) _); refine nilc ?_)
    | ((with_reducible show RDI _ (loadVar _ (Addr.add (Addr.add ⟨_, 0, none⟩ _) _)) _ _ _); refine h.rdI2 _ _ ?_)
    | ((with_reducible show RDB _ (loadVar _ (Addr.add (Addr.add ⟨_, 0, none⟩ _) _)) _ _); refine h.rdB2 _ _ ?_)
    | ((with_reducible show RDP _ (loadVar _ (Addr.add (Addr.add ⟨_, 0, none⟩ _) _)) _ _); refine h.rdP2 _ _ ?_)
    | ((with_reducible show RDL _ (loadVar _ (Addr.add (Addr.add ⟨_, 0, none⟩ _) _)) _ _); refine h.rdL2 _ _ ?_)
    | ((with_reducible show RDI _ (loadVar _ (Addr.add _ _)) _ _ _); refine h.rdI _ ?_)
    | ((with_reducible show RDB _ (loadVar _ (Addr.add _ _)) _ _); refine h.rdB _ ?_)
    | ((with_reducible show RDP _ (loadVar _ (Addr.add _ _)) _ _); refine h.rdP _ ?_)
    | ((with_reducible show RDL _ (loadVar _ (Addr.add _ _)) _ _); refine h.rdL _ ?_)
    | ((with_reducible show RDT _ (loadVar _ (Addr.add _ _)) _ _); refine h.rdT _ ?_)
    | ((with_reducible show RUNU _ (storeVar _ (Addr.add (Addr.add ⟨_, 0, none⟩ _) _) _) _ _); refine h.st2 _ _ fun w' h => ?_)
    | ((with_reducible show RUNU _ (storeVar _ (Addr.add _ _) _) _ _); refine h.st _ fun w' h => ?_)
    | ((with_reducible show RDI _ (loadVar _ ⟨_, _, _⟩) _ _ _); refine h.rdvI ?_)
    | ((with_reducible show RDB _ (loadVar _ ⟨_, _, _⟩) _ _); refine h.rdvB ?_)
    | ((with_reducible show RDP _ (loadVar _ ⟨_, _, _⟩) _ _); refine h.rdvP ?_)
    | ((with_reducible show RDL _ (loadVar _ ⟨_, _, _⟩) _ _); refine h.rdvL ?_)
    | ((with_reducible show RDT _ (loadVar _ ⟨_, _, _⟩) _ _); refine h.rdvT ?_)
    | ((with_reducible show RD _ (loadVar _ ⟨_, _, _⟩) _ _); refine h.rdG ?_; first | refine ⟨_, rfl, ?_⟩ | refine ⟨_, _, rfl, ?_⟩ | refine ⟨_, _, _, rfl, ?_⟩ | refine ⟨_, _, _, _, rfl, ?_⟩ | refine ⟨_, _, _, _, _, rfl, ?_⟩ | refine ⟨_, _, _, _, _, _, rfl, ?_⟩ | refine ⟨_, _, _, _, _, _, _, rfl, ?_⟩ | refine ⟨_, _, _, _, _, _, _, _, rfl, ?_⟩ | refine ⟨_, _, _, _, _, _, _, _, _, rfl, ?_⟩)
    | ((with_reducible show RUNU _ (storeVar _ ⟨_, _, _⟩ (.agg _)) _ _); refine h.stG fun w' h => ?_)
    | ((with_reducible show RUNU _ (storeVar _ ⟨_, _, _⟩ _) _ _); refine h.stV fun w' h => ?_))
  refine plain_ok h fun w' h => ⟨_, _, _, _, _, _, rfl, ?_⟩
  refine rright_ok h fun w' h => ⟨_, rfl, ?_⟩
  refine iff_ (by simp [hR]) ?_
  repeat' (first
    | ((with_reducible show NILC (some _) _); refine nilc ?_)
    | ((with_reducible show RDI _ (loadVar _ (Addr.add (Addr.add ⟨_, 0, none⟩ _) _)) _ _ _); refine h.rdI2 _ _ ?_)
    | ((with_reducible show RDB _ (loadVar _ (Addr.add (Addr.add ⟨_, 0, none⟩ _) _)) _ _); refine h.rdB2 _ _ ?_)
    | ((with_reducible show RDP _ (loadVar _ (Addr.add (Addr.add ⟨_, 0, none⟩ _) _)) _ _); refine h.rdP2 _ _ ?_)
    | ((with_reducible show RDL _ (loadVar _ (Addr.add (Addr.add ⟨_, 0, none⟩ _) _)) _ _); refine h.rdL2 _ _ ?_)
    | ((with_reducible show RDI _ (loadVar _ (Addr.add _ _)) _ _ _); refine h.rdI _ ?_)
    | ((with_reducible show RDB _ (loadVar _ (Addr.add _ _)) _ _); refine h.rdB _ ?_)
    | ((with_reducible show RDP _ (loadVar _ (Addr.add _ _)) _ _); refine h.rdP _ ?_)
    | ((with_reducible show RDL _ (loadVar _ (Addr.add _ _)) _ _); refine h.rdL _ ?_)
    | ((with_reducible show RDT _ (loadVar _ (Addr.add _ _)) _ _); refine h.rdT _ ?_)
    | ((with_reducible show RUNU _ (storeVar _ (Addr.add (Addr.add ⟨_, 0, none⟩ _) _) _) _ _); refine h.st2 _ _ fun w' h => ?_)
    | ((with_reducible show RUNU _ (storeVar _ (Addr.add _ _) _) _ _); refine h.st _ fun w' h => ?_)
    | ((with_reducible show RDI _ (loadVar _ ⟨_, _, _⟩) _ _ _); refine h.rdvI ?_)
    | ((with_reducible show RDB _ (loadVar _ ⟨_, _, _⟩) _ _); refine h.rdvB ?_)
    | ((with_reducible show RDP _ (loadVar _ ⟨_, _, _⟩) _ _); refine h.rdvP ?_)
    | ((with_reducible show RDL _ (loadVar _ ⟨_, _, _⟩) _ _); refine h.rdvL ?_)
    | ((with_reducible show RDT _ (loadVar _ ⟨_, _, _⟩) _ _); refine h.rdvT ?_)
    | ((with_reducible show RD _ (loadVar _ ⟨_, _, _⟩) _ _); refine h.rdG ?_; first | refine ⟨_, rfl, ?_⟩ | refine ⟨_, _, rfl, ?_⟩ | refine ⟨_, _, _, rfl, ?_⟩ | refine ⟨_, _, _, _, rfl, ?_⟩ | refine ⟨_, _, _, _, _, rfl, ?_⟩ | refine ⟨_, _, _, _, _, _, rfl, ?_⟩ | refine ⟨_, _, _, _, _, _, _, rfl, ?_⟩ | refine ⟨_, _, _, _, _, _, _, _, rfl, ?_⟩ | refine ⟨_, _, _, _, _, _, _, _, _, rfl, ?_⟩)
    | ((with_reducible show RUNU _ (storeVar _ ⟨_, _, _⟩ (.agg _)) _ _); refine h.stG fun w' h => ?_)
    | ((with_reducible show RUNU _ (storeVar _ ⟨_, _, _⟩ _) _ _); refine h.stV fun w' h => ?_))
  refine right_ok h fun w' h => ⟨_, rfl, ?_⟩
  refine iff_ (by simp [hR]) (ifnsame rfl (iff_ rfl ?_))
  repeat' (first
    | ((with_reducible show NILC (some _) _); refine nilc ?_)
    | ((with_reducible show RDI _ (loadVar _ (Addr.add (Addr.add ⟨_, 0, none⟩ _) _)) _ _ _); refine h.rdI2 _ _ ?_)
    | ((with_reducible show RDB _ (loadVar _ (Addr.add (Addr.add ⟨_, 0, none⟩ _) _)) _ _); refine h.rdB2 _ _ ?_)
    | ((with_reducible show RDP _ (loadVar _ (Addr.add (Addr.add ⟨_, 0, none⟩ _) _)) _ _); refine h.rdP2 _ _ ?_)
    | ((with_reducible show RDL _ (loadVar _ (Addr.add (Addr.add ⟨_, 0, none⟩ _) _)) _ _); refine h.rdL2 _ _ ?_)
    | ((with_reducible show RDI _ (loadVar _ (Addr.add _ _)) _ _ _); refine h.rdI _ ?_)
    | ((with_reducible show RDB _ (loadVar _ (Addr.add _ _)) _ _); refine h.rdB _ ?_)
    | ((with_reducible show RDP _ (loadVar _ (Addr.add _ _)) _ _); refine h.rdP _ ?_)
    | ((with_reducible show RDL _ (loadVar _ (Addr.add _ _)) _ _); refine h.rdL _ ?_)
    | ((with_reducible show RDT _ (loadVar _ (Addr.add _ _)) _ _); refine h.rdT _ ?_)
    | ((with_reducible show RUNU _ (storeVar _ (Addr.add (Addr.add ⟨_, 0, none⟩ _) _) _) _ _); refine h.st2 _ _ fun w' h => ?_)
    | ((with_reducible show RUNU _ (storeVar _ (Addr.add _ _) _) _ _); refine h.st _ fun w' h => ?_)
    | ((with_reducible show RDI _ (loadVar _ ⟨_, _, _⟩) _ _ _); refine h.rdvI ?_)
    | ((with_reducible show RDB _ (loadVar _ ⟨_, _, _⟩) _ _); refine h.rdvB ?_)
    | ((with_reducible show RDP _ (loadVar _ ⟨_, _, _⟩) _ _); refine h.rdvP ?_)
    | ((with_reducible show RDL _ (loadVar _ ⟨_, _, _⟩) _ _); refine h.rdvL ?_)
    | ((with_reducible show RDT _ (loadVar _ ⟨_, _, _⟩) _ _); refine h.rdvT ?_)
    | ((with_reducible show RD _ (loadVar _ ⟨_, _, _⟩) _ _); refine h.rdG ?_; first | refine ⟨_, rfl, ?_⟩ | refine ⟨_, _, rfl, ?_⟩ | refine ⟨_, _, _, rfl, ?_⟩ | refine ⟨_, _, _, _, rfl, ?_⟩ | refine ⟨_, _, _, _, _, rfl, ?_⟩ | refine ⟨_, _, _, _, _, _, rfl, ?_⟩ | refine ⟨_, _, _, _, _, _, _, rfl, ?_⟩ | refine ⟨_, _, _, _, _, _, _, _, rfl, ?_⟩ | refine ⟨_, _, _, _, _, _, _, _, _, rfl, ?_⟩)
    | ((with_reducible show RUNU _ (storeVar _ ⟨_, _, _⟩ (.agg _)) _ _); refine h.stG fun w' h => ?_)
    | ((with_reducible show RUNU _ (storeVar _ ⟨_, _, _⟩ _) _ _); refine h.stV fun w' h => ?_))
  refine plain_ok h fun w' h => ⟨_, _, _, _, _, _, rfl, ?_⟩
  refine rnew_ok h fun w' h => ⟨_, _, _, _, _, _, _, _, _, _, _, _, _, _, _, _, rfl, ?_⟩
  refine h.allocG tiL fun a9 w' h => ?_
  refine h.stG fun w' h => ?_
  have hb0 : Bal (ls0 m seed) 0 := ⟨by simp [ls0], by obtain ⟨_, _, _, _, ⟨q1, _⟩, _⟩ := hR; simpa [ls0] using q1⟩
  let INV : Nat → World → Prop := fun j w' => ∃ (s : Ls) (C : List It) (X : SA) (A : Option Addr) (k : Nat), s.m = m ∧ Ok s (300 * (j : Int)) ∧ Bal s 0 ∧ Srt lf C ∧ C.Perm s.l ∧ (s.l.map (·.num)).Nodup ∧ RdIn [X] A ((C.map pkOf).flatMap pkc) ∧ C.length ≤ k ∧ LK c w' p d s (X :: blk a9 76 (dcs (dOf s (C.map pkOf)) A k) :: blk a3 64 (moc m) :: L)
  refine ⟨fun mm i w' => ∃ j : Nat, j + mm = l.length ∧ i = (j : Int) ∧ INV j w', ⟨l.length, 0, by omega, rfl, ls0 m seed, [], pr True, none, 0, rfl, by simpa using ls0_ok hR seed, hb0, List.Pairwise.nil, .refl _, by simp [ls0], RdIn.nil, by simp, A1, k1, (h.addPr trivial).to⟩, ?_⟩
  clear h
  rintro mm _ w' ⟨j, hj, rfl, s, C, X, A2, k2, rfl, ok, bal, hC, pC, hnd, hrX, hk2, A1, k1, h⟩
  refine ifd (fun hlt => ?_) fun hge => ?_
  rotate_left
  · exact alive_ok h fun w' h => ⟨_, rfl, letb rfl (hk _ h.drop.drop.drop.drop.drop.drop.drop)⟩
  obtain ⟨x, hx⟩ := ex_get (L := l) (j := j) (by omega)
  have hxm := List.mem_of_getElem? hx
  refine h.ix (z := 0) hr.more.more.more.more.more.more.more hx fun a ha => ?_
  subst ha
  refine h.rdWL hr.more.more.more.more.more.more.more hx ?_
  refine ifd (fun _ => hk _ h.drop.drop.drop.drop.drop.drop.drop) fun hxl => ?_
  refine ⟨INV (j + 1), ?_, ?_⟩
  · refine h.ix (z := 0) hr.more.more.more.more.more.more.more hx fun a ha => ?_
    injection ha with ha
    subst ha
    refine h.rdWL hr.more.more.more.more.more.more.more hx ?_
    refine ifq (fun h0 => ?_) fun h0 => ?_
    · refine h.rdG ⟨_, _, _, _, _, _, _, _, _, _, _, _, _, _, _, _, rfl, ?_⟩
      have hX : St c w' (X :: LKL p d s A1 k1 (blk a9 76 (dcs (dOf s (C.map pkOf)) A2 k2) :: blk a3 64 (moc s.m) :: L)) := h.to
      refine rtick_ok hX (d := dOf s (C.map pkOf)) hrX (by simpa using hk2) (okD_of ok bal pC) (by omega) fun U V X' A' k' O oc w' eU h hrX' hk' => ⟨_, _, _, _, _, _, _, _, _, _, _, _, _, _, _, _, _, _, _, rfl, ?_⟩
      refine h.stG fun w' h => ?_
      refine tick_ok (R := own 9 1 O U.length oc ((U.map (·.b)).flatMap stv) :: X' :: blk a9 76 (dcs { dOf s (C.map pkOf) with now := s.now + 1, came := s.came + (U.length : Int), W := V } A' k') :: blk a3 64 (moc s.m) :: L) ⟨A1, k1, h.to⟩ ok (by omega) fun C2 P D O2 oc2 w' hC2 pC2 eP h => ⟨_, _, _, rfl, ?_⟩
      have hndC : (C.map (·.num)).Nodup := (pC.map _).nodup_iff.2 hnd
      have eC : C2 = C := srt_uni hC2 hC (pC2.trans pC.symm) hndC
      subst eC
      have eU : dtk (s.now + 1) s.m.r.toNat (C2.map pkOf) = (U, V) := eU
      rw [dtk_tk eP] at eU
      cases eU
      have okT := tick_keep ok pC2 eP
      have balT := tick_bal bal pC2 eP
      have eCPD := (tk_app eP).1
      have hl1 := ok.len
      have hl2 := pC2.length_eq
      rw [eCPD, List.length_append] at hl2
      obtain ⟨A3, k3, h⟩ := h
      refine rows_ok h (P := P) (U := (P.map pkOf).map (·.b)) (RdIn.own (.tail (.tail (.tail (.tail .head))))) (fun x hx => roIts_rd (.tail (.tail (.tail (.tail (.tail .head))))) hx) (RdIn.own (.tail (.tail (.tail (.tail (.tail (.tail .head))))))) (by omega) (by rw [List.map_map]; rfl) (by simp) fun w' h => ⟨_, rfl, iff_ rfl ?_⟩
      have el : (((P.map pkOf).length : Nat) : Int) = (P.length : Int) := by simp
      rw [el] at h
      refine ⟨{ s with now := s.now + 1, came := s.came + (P.length : Int), l := D }, D, X', A', k', rfl, okT.mono (by omega), balT, ?_, .refl _, ?_, hrX', by simpa using hk', A3, k3, h.to⟩
      · rw [eCPD] at hC2; exact (Srt.app.1 hC2).2.1
      · rw [eCPD, List.map_append] at hndC; exact (List.nodup_append.1 hndC).2.1
    · refine h.ix (z := 0) hr.more.more.more.more.more.more.more hx fun a ha => ?_
      injection ha with ha
      subst ha
      refine h.rdWL hr.more.more.more.more.more.more.more hx ?_
      refine send_ok (bs := x.bs) ⟨A1, k1, h⟩ ok (by omega) (hro x hxm).more.more.more (by omega) fun B1 B2 g1 g2 w' h => ⟨rfl, ?_⟩
      obtain ⟨A3, k3, h⟩ := h
      have h := h.drew
      refine h.rdG ⟨_, _, _, _, _, _, _, _, _, _, _, _, _, _, _, _, rfl, ?_⟩
      refine h.ix (z := 0) hr.more.more.more.more.more.more.more hx fun a ha => ?_
      injection ha with ha
      subst ha
      refine h.rdWL hr.more.more.more.more.more.more.more hx ?_
      refine h.bytesToString (e := 5) (bs := x.bs) (hro x hxm).more.more.more.more.more.more.more rfl ?_
      have hX : St c w'.drew (X :: LKL p d (sendS s B1 B2 g1 g2 x.bs) A3 k3 (blk a9 76 (dcs (dOf s (C.map pkOf)) A2 k2) :: blk a3 64 (moc s.m) :: L)) := h.to
      refine rsend_ok hX (d := dOf s (C.map pkOf)) hrX (by simpa using hk2) (okD_of ok bal pC) (by omega) fun d' X' A' k' w' hs _ h hrX' hk' => ⟨_, _, _, _, _, _, _, _, _, _, _, _, _, _, _, _, rfl, ?_⟩
      refine h.stG fun w' h => ?_
      obtain ⟨⟨C', rfl, hC', pC'⟩, hnd'⟩ := sim_send (A1 := B1) (A2 := B2) (k1 := g1) (k2 := g2) hC pC (fun i hi => (ok.it i hi).2.2) hnd hs
      exact ⟨sendS s B1 B2 g1 g2 x.bs, C', X', A', k', (sendS_m s B1 B2 g1 g2 x.bs).1, (sendS_ok ok B1 B2 g1 g2 x.bs).mono (by omega), sendS_bal bal B1 B2 g1 g2 x.bs, hC', pC', hnd', hrX', by simpa using hk', A3, k3, h.to⟩
  · rintro w' ⟨s2, C, X, A, k, hm, ok, bal, hC, pC, hnd, hrX, hk2, A1, k1, h⟩
    have h := h.drew
    refine ⟨fun w => St c w [blk a9 76 (dcs (dOf s2 (C.map pkOf)) A k)], h.to, ?_⟩
    refine St.rdsL 8 ?_
    refine waits_ok ⟨A1, k1, h⟩ ⟨_, rfl, ?_⟩
    refine ⟨fun w => St c w [blk a9 76 (dcs (dOf s2 (C.map pkOf)) A k)], fun _ h => h, h.to, ?_⟩
    refine ifnsame (by simp [pC.length_eq]) ?_
    refine St.rdsI 9 (St.rdsI 10 (St.rdsI 11 (St.rdsI 12 (St.rdsI 13 ?_))))
    have eb : ∀ w, (Instr.build 87 #[(0, .int .i64 s2.sent), (1, .int .i64 s2.lost), (2, .int .i64 s2.full), (3, .int .i64 s2.dbl), (4, .int .i64 s2.came)]).run PG w = .ok (cnv s2) w := by intro w; kernel_rfl
    refine ⟨_, fun w _ => eb w, _, _, _, _, _, rfl, ?_⟩
    refine seen_ok ⟨A1, k1, h⟩ fun w' h => ⟨_, _, _, _, _, rfl, ?_⟩
    obtain ⟨A3, k3, h⟩ := h
    refine ⟨fun w => St c w [blk a9 76 (dcs (dOf s2 (C.map pkOf)) A k)], fun _ h => h, h.to, ?_⟩
    refine neqSameS (xs := [.int .i64 s2.sent, .int .i64 s2.lost, .int .i64 s2.full, .int .i64 s2.dbl, .int .i64 s2.came]) (iff_ rfl ?_)
    exact leti (y := ((j + 1 : Nat) : Int)) (wrap_i64 (by omega) (by omega)) ⟨mm - 1, by omega, j + 1, by omega, rfl, s2, C, X, A, k, hm, ok, bal, hC, pC, hnd, hrX, hk2, A3, k3, h⟩
end
end Go.Br
