/- The paths of a table; the law that offers don't flood. -/
import Derived.Test.YtccmlfekmmeloaaNAddrsFloodLaw
import Derived.Test.YtccmlfekmmeloaaAddrsBackLaw
import Derived.Test.YtccmlfekmmeloaaSortInt
set_option linter.unusedVariables false
set_option linter.unusedSimpArgs false
set_option linter.unnecessarySimpa false
namespace Go.Br
open Go
instance biAddrsFloodLawa : Zro PG 24 2 16 (.agg #[.int .i64 0, .int .i64 0]) := ⟨tiOf (by kernel_rfl)⟩
attribute [local irreducible] Addr.add RD RDS RUN RUNU NILC LETB CALL CALLX CALLV

def AdP (l : List Ad) : Prop := ∀ x ∈ l, 0 ≤ x.path ∧ x.path < 4
/-- The paths, rising, each once. -/
def pth (l : List Ad) : List Int := [0, 1, 2, 3].filter fun p => l.any fun x => x.path == p
theorem pth_of {l : List Ad} {C : List Int} (h : AdP l) (hC : Srt fI C) (pC : C.Perm (l.map Ad.path)) : dd C = pth l := by
  refine strict_ext (dd_strict _ C rfl hC) (List.Pairwise.filter _ (by decide)) fun x => ?_
  rw [dd_mem _ C rfl, pC.mem_iff, List.mem_map, pth, List.mem_filter, List.any_eq_true]
  constructor
  · rintro ⟨a, ha, rfl⟩
    have := h a ha
    refine ⟨?_, a, ha, by simp⟩
    simp only [List.mem_cons]
    omega
  · rintro ⟨_, a, ha, he⟩
    exact ⟨a, ha, by simpa using he⟩
theorem pth_len (l : List Ad) : (pth l).length ≤ 4 := List.length_filter_le _ [0, 1, 2, 3]
theorem addA_adp {most paths tok : Int} {l : List Ad} {a : Ad} (h : AdP l) (hp : paths ≤ 4) : AdP (addA most paths tok l a).2.1 := by
  unfold addA
  split
  · exact h
  · rename_i hn
    have hb : ¬ badA paths a := fun e => hn (.inl e)
    unfold badA at hb
    split
    · split
      · exact h
      · intro x hx
        rcases List.mem_or_eq_of_mem_set hx with hx | rfl
        · exact h x hx
        · omega
    · split
      · exact h
      · intro x hx
        rcases List.mem_append.1 hx with hx | hx
        · exact h x hx
        · rw [List.mem_singleton] at hx; subst hx; omega
theorem addA_cost (most paths tok : Int) (l : List Ad) (a : Ad) : (addA most paths tok l a).1 = tok - (if (addA most paths tok l a).2.2 = true then 16 else 0) := by
  unfold addA
  (repeat' split) <;> simp_all
section
variable {c : Ctx} {w : World} {L R : List SA}
theorem apaths_ok (h : St c w L) {p bk : Nat} {most paths tok : Int} {l : List Ad} (hp : Pick (tbl p bk most paths tok l) L R) (hl : l.length ≤ 8) (hP : AdP l) {Q : Value → World → Prop}
    (hk : ∀ O d w', St c w' (own 3 1 O (pth l).length d ((pth l).flatMap iv) :: L) → Q (.slice O (pth l).length d) w') : CALL PG 43 [.pointer (some ⟨p, 0, none⟩)] w Q := by
  obtain ⟨A, k, h⟩ := (h.pick hp).tblO
  refine call43 ?_
  unfold N43
  repeat' (first
    | refine nilc ?_
    | refine h.rdI _ ?_
    | refine h.rdB _ ?_
    | refine h.rdP _ ?_
    | refine h.rdL _ ?_
    | refine h.rdT _ ?_
    | refine h.rdI2 _ _ ?_
    | refine h.rdB2 _ _ ?_
    | refine h.rdP2 _ _ ?_
    | refine h.rdL2 _ _ ?_
    | refine h.st2 _ _ fun w' h => ?_
    | refine h.st _ fun w' h => ?_
    | refine h.rdvI ?_
    | refine h.rdvB ?_
    | refine h.rdvP ?_
    | refine h.rdvL ?_
    | refine h.rdvT ?_
    | (refine h.rdG ?_; (repeat (first | apply Exists.intro (α := Int) | apply Exists.intro (α := Bool) | apply Exists.intro (α := ByteArray) | (apply Exists.intro (α := Option Addr); apply Exists.intro (α := Nat); apply Exists.intro (α := Nat)) | apply Exists.intro (α := Option Addr) | apply Exists.intro (α := Value))); refine ⟨rfl, ?_⟩)
    | refine h.stG fun w' h => ?_
    | refine h.stV fun w' h => ?_
    | refine h.box fun p w' h => ?_
    | refine h.boxV fun p w' h => ?_
    | refine h.allocZ fun p w' h => ?_
    | refine h.allocZV fun p w' h => ?_
    | (refine RD.bld ?_; (repeat (first | apply Exists.intro (α := Int) | apply Exists.intro (α := Bool) | apply Exists.intro (α := ByteArray) | (apply Exists.intro (α := Option Addr); apply Exists.intro (α := Nat); apply Exists.intro (α := Nat)) | apply Exists.intro (α := Option Addr) | apply Exists.intro (α := Value))); refine ⟨rfl, ?_⟩)
    | (refine RDS.bld ?_; (repeat (first | apply Exists.intro (α := Int) | apply Exists.intro (α := Bool) | apply Exists.intro (α := ByteArray) | (apply Exists.intro (α := Option Addr); apply Exists.intro (α := Nat); apply Exists.intro (α := Nat)) | apply Exists.intro (α := Option Addr) | apply Exists.intro (α := Value))); refine ⟨rfl, ?_⟩)
    | refine St.rdsI _ ?_
    | refine St.rdsB _ ?_
    | refine St.rdsP _ ?_
    | refine St.rdsL _ ?_
    | refine St.rdsT _ ?_
    | refine St.rdsI2 _ _ ?_
    | refine St.rdsB2 _ _ ?_
    | (refine St.rdsG ?_; (repeat (first | apply Exists.intro (α := Int) | apply Exists.intro (α := Bool) | apply Exists.intro (α := ByteArray) | (apply Exists.intro (α := Option Addr); apply Exists.intro (α := Nat); apply Exists.intro (α := Nat)) | apply Exists.intro (α := Option Addr) | apply Exists.intro (α := Value))); refine ⟨rfl, ?_⟩)
    | refine letb rfl ?_
    | refine sat h ?_
    | (have h := h.drew; refine sat h ?_)
    | refine sat1 h (fun _ h => h.to) ?_)
  refine ⟨fun m O on od i w' => ∃ j : Nat, j + m = l.length ∧ i = (j : Int) ∧ j = on ∧ St c w' (own 3 1 O j od (((l.take j).map Ad.path).flatMap iv) :: Br.blk p 30 [.pointer (some ⟨bk, 0, none⟩), .int .i64 most, .int .i64 paths, .slice A l.length k] :: Br.blk bk 127 [.int .i64 64, .int .i64 1, .int .i64 tok] :: Br.own 24 2 A l.length k (l.flatMap ad) :: R), ⟨l.length, 0, by omega, rfl, rfl, (h.addOwnNil 3 1).to⟩, ?_⟩
  clear h
  rintro m O on od _ w' ⟨j, hj, rfl, rfl, h⟩
  refine ifd (fun hlt => ?_) fun hge => ?_
  · obtain ⟨x, hx⟩ := ex_get (L := l) (j := j) (by omega)
    refine h.ix (z := 1) (RdIn.own (.tail (.tail (.tail .head)))) hx (fun b0 hb => ?_)
    subst hb
    refine h.rdEG (RdIn.own (.tail (.tail (.tail .head)))) hx ?_
    (repeat (first | apply Exists.intro (α := Int) | apply Exists.intro (α := Bool) | apply Exists.intro (α := ByteArray) | (apply Exists.intro (α := Option Addr); apply Exists.intro (α := Nat); apply Exists.intro (α := Nat)) | apply Exists.intro (α := Option Addr) | apply Exists.intro (α := Value)))
    refine ⟨rfl, ?_⟩
    repeat' (first
      | refine nilc ?_
      | refine h.rdI _ ?_
      | refine h.rdB _ ?_
      | refine h.rdP _ ?_
      | refine h.rdL _ ?_
      | refine h.rdT _ ?_
      | refine h.rdI2 _ _ ?_
      | refine h.rdB2 _ _ ?_
      | refine h.rdP2 _ _ ?_
      | refine h.rdL2 _ _ ?_
      | refine h.st2 _ _ fun w' h => ?_
      | refine h.st _ fun w' h => ?_
      | refine h.rdvI ?_
      | refine h.rdvB ?_
      | refine h.rdvP ?_
      | refine h.rdvL ?_
      | refine h.rdvT ?_
      | (refine h.rdG ?_; (repeat (first | apply Exists.intro (α := Int) | apply Exists.intro (α := Bool) | apply Exists.intro (α := ByteArray) | (apply Exists.intro (α := Option Addr); apply Exists.intro (α := Nat); apply Exists.intro (α := Nat)) | apply Exists.intro (α := Option Addr) | apply Exists.intro (α := Value))); refine ⟨rfl, ?_⟩)
      | refine h.stG fun w' h => ?_
      | refine h.stV fun w' h => ?_
      | refine h.box fun p w' h => ?_
      | refine h.boxV fun p w' h => ?_
      | refine h.allocZ fun p w' h => ?_
      | refine h.allocZV fun p w' h => ?_
      | (refine RD.bld ?_; (repeat (first | apply Exists.intro (α := Int) | apply Exists.intro (α := Bool) | apply Exists.intro (α := ByteArray) | (apply Exists.intro (α := Option Addr); apply Exists.intro (α := Nat); apply Exists.intro (α := Nat)) | apply Exists.intro (α := Option Addr) | apply Exists.intro (α := Value))); refine ⟨rfl, ?_⟩)
      | (refine RDS.bld ?_; (repeat (first | apply Exists.intro (α := Int) | apply Exists.intro (α := Bool) | apply Exists.intro (α := ByteArray) | (apply Exists.intro (α := Option Addr); apply Exists.intro (α := Nat); apply Exists.intro (α := Nat)) | apply Exists.intro (α := Option Addr) | apply Exists.intro (α := Value))); refine ⟨rfl, ?_⟩)
      | refine St.rdsI _ ?_
      | refine St.rdsB _ ?_
      | refine St.rdsP _ ?_
      | refine St.rdsL _ ?_
      | refine St.rdsT _ ?_
      | refine St.rdsI2 _ _ ?_
      | refine St.rdsB2 _ _ ?_
      | (refine St.rdsG ?_; (repeat (first | apply Exists.intro (α := Int) | apply Exists.intro (α := Bool) | apply Exists.intro (α := ByteArray) | (apply Exists.intro (α := Option Addr); apply Exists.intro (α := Nat); apply Exists.intro (α := Nat)) | apply Exists.intro (α := Option Addr) | apply Exists.intro (α := Value))); refine ⟨rfl, ?_⟩)
      | refine letb rfl ?_
      | refine sat h ?_
      | (have h := h.drew; refine sat h ?_)
      | refine sat1 h (fun _ h => h.to) ?_)
    refine h.lit (n := 1) 3 1 ([x.path].flatMap iv) fun q w' h => ?_
    refine h.append huInts tiInt (.tail (.tail .head)) (RdIn.own .head) (m := 1) rfl (iv_flat _) (by omega) fun O d w' h => ⟨m - 1, by omega, j + 1, by omega, by rw [wrap_i64 (by omega) (by omega)]; omega, rfl, ?_⟩
    rw [take_snoc' hx, List.map_append, List.flatMap_append]
    exact h.to
  · have : j = l.length := by omega
    subst this
    rw [List.take_length] at h
    refine sortI_ok (X := l.map Ad.path) (by simp) (by omega) h fun w' C hC pC h => ?_
    (repeat (first | apply Exists.intro (α := Int) | apply Exists.intro (α := Bool) | apply Exists.intro (α := ByteArray) | (apply Exists.intro (α := Option Addr); apply Exists.intro (α := Nat); apply Exists.intro (α := Nat)) | apply Exists.intro (α := Option Addr) | apply Exists.intro (α := Value)))
    refine ⟨rfl, ?_⟩
    have lC := pC.length_eq
    rw [List.length_map] at lC
    refine compactI_ok lC (by omega) h fun w' O d h => ?_
    rw [pth_of hP hC pC] at h ⊢
    (repeat (first | apply Exists.intro (α := Int) | apply Exists.intro (α := Bool) | apply Exists.intro (α := ByteArray) | (apply Exists.intro (α := Option Addr); apply Exists.intro (α := Nat); apply Exists.intro (α := Nat)) | apply Exists.intro (α := Option Addr) | apply Exists.intro (α := Value)))
    refine ⟨rfl, ?_⟩
    exact hk O d w' ((St.tblC (R := own 3 1 O (pth l).length d ((pth l).flatMap iv) :: R) h.to).back (.tail hp))
theorem flood_ok (h : St c w L) {A : Option Go.Addr} {k : Nat} {X : List Op20} {most : Int} (hr : RdIn L A (X.flatMap op20)) {Q : Value → World → Prop} (hk : ∀ w', St c w' L → Q (.bool true) w') :
    CALL PG 8 [.int .i64 most, .slice A X.length k] w Q := by
  refine call8 ?_
  unfold N8
  refine ifd (fun _ => hk _ h) fun hn => ?_
  refine anew_ok h fun p bk w' h => ?_
  (repeat (first | apply Exists.intro (α := Int) | apply Exists.intro (α := Bool) | apply Exists.intro (α := ByteArray) | (apply Exists.intro (α := Option Addr); apply Exists.intro (α := Nat); apply Exists.intro (α := Nat)) | apply Exists.intro (α := Option Addr) | apply Exists.intro (α := Value)))
  refine ⟨rfl, ?_⟩
  refine iff_ rfl (nilc ?_)
  rw [show minN (maxN 4 1) 4 = (4 : Int) by decide] at h
  have hm : minN (maxN most 0) 8 ≤ 8 := by unfold minN; split <;> omega
  generalize minN (maxN most 0) 8 = most at *
  obtain ⟨A0, k0, h⟩ := h.tblO
  repeat' (first
    | refine nilc ?_
    | refine h.rdI _ ?_
    | refine h.rdB _ ?_
    | refine h.rdP _ ?_
    | refine h.rdL _ ?_
    | refine h.rdT _ ?_
    | refine h.rdI2 _ _ ?_
    | refine h.rdB2 _ _ ?_
    | refine h.rdP2 _ _ ?_
    | refine h.rdL2 _ _ ?_
    | refine h.st2 _ _ fun w' h => ?_
    | refine h.st _ fun w' h => ?_
    | refine h.rdvI ?_
    | refine h.rdvB ?_
    | refine h.rdvP ?_
    | refine h.rdvL ?_
    | refine h.rdvT ?_
    | (refine h.rdG ?_; (repeat (first | apply Exists.intro (α := Int) | apply Exists.intro (α := Bool) | apply Exists.intro (α := ByteArray) | (apply Exists.intro (α := Option Addr); apply Exists.intro (α := Nat); apply Exists.intro (α := Nat)) | apply Exists.intro (α := Option Addr) | apply Exists.intro (α := Value))); refine ⟨rfl, ?_⟩)
    | refine h.stG fun w' h => ?_
    | refine h.stV fun w' h => ?_
    | refine h.box fun p w' h => ?_
    | refine h.boxV fun p w' h => ?_
    | refine h.allocZ fun p w' h => ?_
    | refine h.allocZV fun p w' h => ?_
    | (refine RD.bld ?_; (repeat (first | apply Exists.intro (α := Int) | apply Exists.intro (α := Bool) | apply Exists.intro (α := ByteArray) | (apply Exists.intro (α := Option Addr); apply Exists.intro (α := Nat); apply Exists.intro (α := Nat)) | apply Exists.intro (α := Option Addr) | apply Exists.intro (α := Value))); refine ⟨rfl, ?_⟩)
    | (refine RDS.bld ?_; (repeat (first | apply Exists.intro (α := Int) | apply Exists.intro (α := Bool) | apply Exists.intro (α := ByteArray) | (apply Exists.intro (α := Option Addr); apply Exists.intro (α := Nat); apply Exists.intro (α := Nat)) | apply Exists.intro (α := Option Addr) | apply Exists.intro (α := Value))); refine ⟨rfl, ?_⟩)
    | refine St.rdsI _ ?_
    | refine St.rdsB _ ?_
    | refine St.rdsP _ ?_
    | refine St.rdsL _ ?_
    | refine St.rdsT _ ?_
    | refine St.rdsI2 _ _ ?_
    | refine St.rdsB2 _ _ ?_
    | (refine St.rdsG ?_; (repeat (first | apply Exists.intro (α := Int) | apply Exists.intro (α := Bool) | apply Exists.intro (α := ByteArray) | (apply Exists.intro (α := Option Addr); apply Exists.intro (α := Nat); apply Exists.intro (α := Nat)) | apply Exists.intro (α := Option Addr) | apply Exists.intro (α := Value))); refine ⟨rfl, ?_⟩)
    | refine letb rfl ?_
    | refine sat h ?_
    | (have h := h.drew; refine sat h ?_)
    | refine sat1 h (fun _ h => h.to) ?_)
  refine iff_ rfl ?_
  have h := St.tblC (l := []) h
  refine ⟨fun m H K i w' => ∃ (j : Nat) (tok : Int) (T : List Ad), j + m = X.length ∧ i = (j : Int) ∧ AdL T ∧ AdP T ∧ 0 ≤ tok ∧ tok ≤ 64 ∧ 0 ≤ H ∧ H ≤ j ∧ 0 ≤ K ∧ K ≤ j ∧ tok + 16 * H ≤ 64 + K ∧ St c w' (tbl p bk most 4 tok T :: L), ⟨X.length, 0, 64, [], by omega, rfl, ⟨by simp, by simp⟩, fun x hx => by simp at hx, by decide, by decide, by decide, by decide, by decide, by decide, by decide, h⟩, ?_⟩
  clear h
  rintro m H K _ w' ⟨j, tok, T, hj, rfl, hT, hP, t0, t1, H0, H1, K0, K1, hHK, h⟩
  refine ifd (fun hlt => ?_) fun hge => ?_
  · obtain ⟨x, hx⟩ := ex_get (L := X) (j := j) (by omega)
    refine h.ix (z := 3) hr.more hx fun b hb => ?_
    have hr1 := hr
    rw [hb] at hr1
    refine h.rdEI 0 hr1.more hx ?_
    refine ⟨by decide, ifq (fun he => ?_) fun he => ?_⟩
    · refine nilc ?_
      obtain ⟨A0, k0, h⟩ := h.tblO
      repeat' (first
        | refine nilc ?_
        | refine h.rdI _ ?_
        | refine h.rdB _ ?_
        | refine h.rdP _ ?_
        | refine h.rdL _ ?_
        | refine h.rdT _ ?_
        | refine h.rdI2 _ _ ?_
        | refine h.rdB2 _ _ ?_
        | refine h.rdP2 _ _ ?_
        | refine h.rdL2 _ _ ?_
        | refine h.st2 _ _ fun w' h => ?_
        | refine h.st _ fun w' h => ?_
        | refine h.rdvI ?_
        | refine h.rdvB ?_
        | refine h.rdvP ?_
        | refine h.rdvL ?_
        | refine h.rdvT ?_
        | (refine h.rdG ?_; (repeat (first | apply Exists.intro (α := Int) | apply Exists.intro (α := Bool) | apply Exists.intro (α := ByteArray) | (apply Exists.intro (α := Option Addr); apply Exists.intro (α := Nat); apply Exists.intro (α := Nat)) | apply Exists.intro (α := Option Addr) | apply Exists.intro (α := Value))); refine ⟨rfl, ?_⟩)
        | refine h.stG fun w' h => ?_
        | refine h.stV fun w' h => ?_
        | refine h.box fun p w' h => ?_
        | refine h.boxV fun p w' h => ?_
        | refine h.allocZ fun p w' h => ?_
        | refine h.allocZV fun p w' h => ?_
        | (refine RD.bld ?_; (repeat (first | apply Exists.intro (α := Int) | apply Exists.intro (α := Bool) | apply Exists.intro (α := ByteArray) | (apply Exists.intro (α := Option Addr); apply Exists.intro (α := Nat); apply Exists.intro (α := Nat)) | apply Exists.intro (α := Option Addr) | apply Exists.intro (α := Value))); refine ⟨rfl, ?_⟩)
        | (refine RDS.bld ?_; (repeat (first | apply Exists.intro (α := Int) | apply Exists.intro (α := Bool) | apply Exists.intro (α := ByteArray) | (apply Exists.intro (α := Option Addr); apply Exists.intro (α := Nat); apply Exists.intro (α := Nat)) | apply Exists.intro (α := Option Addr) | apply Exists.intro (α := Value))); refine ⟨rfl, ?_⟩)
        | refine St.rdsI _ ?_
        | refine St.rdsB _ ?_
        | refine St.rdsP _ ?_
        | refine St.rdsL _ ?_
        | refine St.rdsT _ ?_
        | refine St.rdsI2 _ _ ?_
        | refine St.rdsB2 _ _ ?_
        | (refine St.rdsG ?_; (repeat (first | apply Exists.intro (α := Int) | apply Exists.intro (α := Bool) | apply Exists.intro (α := ByteArray) | (apply Exists.intro (α := Option Addr); apply Exists.intro (α := Nat); apply Exists.intro (α := Nat)) | apply Exists.intro (α := Option Addr) | apply Exists.intro (α := Value))); refine ⟨rfl, ?_⟩)
        | refine letb rfl ?_
        | refine sat h ?_
        | (have h := h.drew; refine sat h ?_)
        | refine sat1 h (fun _ h => h.to) ?_)
      refine btick_ok h (.tail .head) t0 t1 fun w' h => ?_
      rw [show minN (maxN 1 0) 4096 = (1 : Int) by decide] at h
      (repeat (first | apply Exists.intro (α := Int) | apply Exists.intro (α := Bool) | apply Exists.intro (α := ByteArray) | (apply Exists.intro (α := Option Addr); apply Exists.intro (α := Nat); apply Exists.intro (α := Nat)) | apply Exists.intro (α := Option Addr) | apply Exists.intro (α := Value)))
      refine ⟨rfl, ?_⟩
      refine leti (wrap_i64 (n := K + 1) (by omega) (by omega)) (leti (wrap_i64 (n := (j : Int) + 1) (by omega) (by omega)) ⟨m - 1, by omega, j + 1, _, T, by omega, by omega, hT, hP, ?_, ?_, H0, by omega, by omega, by omega, ?_, St.tblC h.to⟩)
      all_goals (unfold minN; split <;> omega)
    · refine ⟨fun H' w' => ∃ (tok : Int) (T : List Ad), AdL T ∧ AdP T ∧ 0 ≤ tok ∧ tok ≤ 64 ∧ 0 ≤ H' ∧ H' ≤ j + 1 ∧ tok + 16 * H' ≤ 64 + K ∧ St c w' (tbl p bk most 4 tok T :: L), ?_, ?_⟩
      · refine h.ix (z := 3) hr.more hx fun b2 hb2 => ?_
        rw [hb] at hb2
        injection hb2 with hb2
        subst hb2
        refine h.rdEGo 2 2 hr1.more hx ?_
        (repeat (first | apply Exists.intro (α := Int) | apply Exists.intro (α := Bool) | apply Exists.intro (α := ByteArray) | (apply Exists.intro (α := Option Addr); apply Exists.intro (α := Nat); apply Exists.intro (α := Nat)) | apply Exists.intro (α := Option Addr) | apply Exists.intro (α := Value)))
        refine ⟨rfl, ?_⟩
        refine aadd_ok (a := ⟨x.aID, x.aPath⟩) h .head (by have := hT.2; omega) t0 t1 fun w' h => ?_
        have ht := addA_tok (most := most) (paths := 4) (l := T) (a := ⟨x.aID, x.aPath⟩) t0 t1
        have hc := addA_cost most 4 tok T ⟨x.aID, x.aPath⟩
        have g1 := addA_adl (most := most) (paths := 4) (tok := tok) (a := ⟨x.aID, x.aPath⟩) hT hm
        have g2 := addA_adp (most := most) (paths := 4) (tok := tok) (a := ⟨x.aID, x.aPath⟩) hP (by decide)
        (repeat (first | apply Exists.intro (α := Int) | apply Exists.intro (α := Bool) | apply Exists.intro (α := ByteArray) | (apply Exists.intro (α := Option Addr); apply Exists.intro (α := Nat); apply Exists.intro (α := Nat)) | apply Exists.intro (α := Option Addr) | apply Exists.intro (α := Value)))
        refine ⟨rfl, ?_⟩
        refine ifb (fun e => ?_) fun e => ?_
        · rw [if_pos e] at hc
          exact leti (wrap_i64 (n := H + 1) (by omega) (by omega)) ⟨_, _, g1, g2, ht.1, ht.2, by omega, by omega, by omega, h⟩
        · rw [if_neg (by simp [e])] at hc
          exact ⟨_, _, g1, g2, ht.1, ht.2, by omega, by omega, by omega, h⟩
      clear h
      clear hT hP hHK t0 t1 tok T
      rintro H2 w' ⟨tok, T, hT, hP, t0, t1, h0, h1, hHK, h⟩
      refine ⟨by decide, ?_⟩
      rw [Int.tdiv_eq_ediv_of_nonneg K0, wrap_i64 (n := K / 16) (by omega) (by omega), wrap_i64 (by omega) (by omega)]
      refine ifdf (by omega) ?_
      have hl := hT.2
      refine alist_ok h .head (by omega) fun O d w' h => ?_
      (repeat (first | apply Exists.intro (α := Int) | apply Exists.intro (α := Bool) | apply Exists.intro (α := ByteArray) | (apply Exists.intro (α := Option Addr); apply Exists.intro (α := Nat); apply Exists.intro (α := Nat)) | apply Exists.intro (α := Option Addr) | apply Exists.intro (α := Value)))
      refine ⟨rfl, ?_⟩
      refine ifdf (by omega) ?_
      refine apaths_ok h (.tail .head) hl hP fun O2 d2 w' h => ?_
      (repeat (first | apply Exists.intro (α := Int) | apply Exists.intro (α := Bool) | apply Exists.intro (α := ByteArray) | (apply Exists.intro (α := Option Addr); apply Exists.intro (α := Nat); apply Exists.intro (α := Nat)) | apply Exists.intro (α := Option Addr) | apply Exists.intro (α := Value)))
      refine ⟨rfl, ?_⟩
      refine ifdf (by have := pth_len T; omega) ?_
      exact leti (wrap_i64 (n := (j : Int) + 1) (by omega) (by omega)) ⟨m - 1, by omega, j + 1, tok, T, by omega, by omega, hT, hP, t0, t1, h0, by omega, K0, by omega, hHK, h.to⟩
  refine alive20_ok h fun w' h => ?_
  (repeat (first | apply Exists.intro (α := Int) | apply Exists.intro (α := Bool) | apply Exists.intro (α := ByteArray) | (apply Exists.intro (α := Option Addr); apply Exists.intro (α := Nat); apply Exists.intro (α := Nat)) | apply Exists.intro (α := Option Addr) | apply Exists.intro (α := Value)))
  refine ⟨rfl, ?_⟩
  exact letb rfl (hk _ h.drop)
end
end Go.Br
