/- The law of plays with offers. -/
import Derived.Test.YtccmlfekmmeloaaNAddrsPlayLaw
import Derived.Test.YtccmlfekmmeloaaAddrsRef
set_option linter.unusedVariables false
set_option linter.unusedSimpArgs false
set_option linter.unnecessarySimpa false
namespace Go.Br
open Go
instance biAddrsPlayLawa (x0 : Int) (x1 : Int) : Bld PG (Instr.build 119 #[(0, .int .i64 x0), (1, .int .i64 x1)]) (.agg #[.int .i64 x0, .int .i64 x1]) := ⟨fun w => by kernel_rfl⟩
instance biAddrsPlayLawb : Zro PG 113 6 64 (.agg #[.int .i64 0, .int .i64 0, .slice none 0 0, .int .i64 0, .int .i64 0, .int .i64 0]) := ⟨tiOf (by kernel_rfl)⟩
attribute [local irreducible] Addr.add RD RDS RUN RUNU NILC LETB CALL CALLX CALLV

theorem addA_len {most paths tok : Int} {l : List Ad} {a : Ad} (h : (l.length : Int) ≤ most) : ((addA most paths tok l a).2.1.length : Int) ≤ most := by
  unfold addA
  (repeat' split) <;> simp_all <;> omega
theorem goneA_sub (l : List Ad) (id : Int) : (goneA l id).1.Sublist l := by
  unfold goneA
  split
  · exact List.eraseIdx_sublist _ _
  · exact List.Sublist.refl _
theorem goneA_adl {l : List Ad} {id : Int} (h : AdL l) : AdL (goneA l id).1 := ⟨List.Pairwise.sublist ((goneA_sub l id).map _) h.1, Nat.le_trans (goneA_sub l id).length_le h.2⟩
theorem goneA_adp {l : List Ad} {id : Int} (h : AdP l) : AdP (goneA l id).1 := fun x hx => h x ((goneA_sub l id).subset hx)
theorem goneA_len {l : List Ad} {id : Int} {most : Int} (h : (l.length : Int) ≤ most) : ((goneA l id).1.length : Int) ≤ most := by
  have := (goneA_sub l id).length_le; omega
section
variable {c : Ctx} {w : World} {L R : List SA}
theorem rdsTbl {p bk t : Nat} {most paths tok : Int} {l : List Ad} {K : Option Go.Addr → Prop} (hp : Pick (tbl p bk most paths tok l) L R) (hk : K (some ⟨bk, 0, none⟩)) (ht : ldT PG t = true := by kernel_rfl) : RDSP PG (loadVar t (Addr.add ⟨p, 0, none⟩ 0)) (fun w => St c w L) K :=
  by unfold RDSP RDS; exact ⟨_, fun w h => by obtain ⟨A, k, h⟩ := (h.pick hp).tblO; exact ld 0 (h.blk .head) rfl ht, _, rfl, hk⟩
theorem aplay_ok (h : St c w L) {A : Option Go.Addr} {k : Nat} {X : List Op20} {most paths : Int} (hr : RdIn L A (X.flatMap op20)) {Q : Value → World → Prop} (hk : ∀ w', St c w' L → Q (.bool true) w') :
    CALL PG 11 [.int .i64 most, .int .i64 paths, .slice A X.length k] w Q := by
  refine call11 ?_
  unfold N11
  refine ifd (fun _ => hk _ h) fun hn => ?_
  refine anew_ok h fun p bk w' h => ?_
  (repeat (first | apply Exists.intro (α := Int) | apply Exists.intro (α := Bool) | apply Exists.intro (α := ByteArray) | (apply Exists.intro (α := Option Addr); apply Exists.intro (α := Nat); apply Exists.intro (α := Nat)) | apply Exists.intro (α := Option Addr) | apply Exists.intro (α := Value)))
  refine ⟨rfl, ?_⟩
  refine iff_ rfl (nilc ?_)
  obtain ⟨A0, k0, h⟩ := h.tblO
  repeat' (first
    | refine nilc ?_
    | refine h.rdI _ ?_
    | refine h.rdB _ ?_
    | refine h.rdP _ ?_
    | refine h.rdL _ ?_
    | refine h.rdT _ ?_
    | refine h.rdI2 _ _ ?_
    | refine h.rdB2 _ _ ?_
    | refine h.rdP2 _ _ ?_
    | refine h.rdL2 _ _ ?_
    | refine h.st2 _ _ fun w' h => ?_
    | refine h.st _ fun w' h => ?_
    | refine h.rdvI ?_
    | refine h.rdvB ?_
    | refine h.rdvP ?_
    | refine h.rdvL ?_
    | refine h.rdvT ?_
    | (refine h.rdG ?_; (repeat (first | apply Exists.intro (α := Int) | apply Exists.intro (α := Bool) | apply Exists.intro (α := ByteArray) | (apply Exists.intro (α := Option Addr); apply Exists.intro (α := Nat); apply Exists.intro (α := Nat)) | apply Exists.intro (α := Option Addr) | apply Exists.intro (α := Value))); refine ⟨rfl, ?_⟩)
    | refine h.stG fun w' h => ?_
    | refine h.stV fun w' h => ?_
    | refine h.box fun p w' h => ?_
    | refine h.boxV fun p w' h => ?_
    | refine h.allocZ fun p w' h => ?_
    | refine h.allocZV fun p w' h => ?_
    | (refine RD.bld ?_; (repeat (first | apply Exists.intro (α := Int) | apply Exists.intro (α := Bool) | apply Exists.intro (α := ByteArray) | (apply Exists.intro (α := Option Addr); apply Exists.intro (α := Nat); apply Exists.intro (α := Nat)) | apply Exists.intro (α := Option Addr) | apply Exists.intro (α := Value))); refine ⟨rfl, ?_⟩)
    | (refine RDS.bld ?_; (repeat (first | apply Exists.intro (α := Int) | apply Exists.intro (α := Bool) | apply Exists.intro (α := ByteArray) | (apply Exists.intro (α := Option Addr); apply Exists.intro (α := Nat); apply Exists.intro (α := Nat)) | apply Exists.intro (α := Option Addr) | apply Exists.intro (α := Value))); refine ⟨rfl, ?_⟩)
    | refine St.rdsI _ ?_
    | refine St.rdsB _ ?_
    | refine St.rdsP _ ?_
    | refine St.rdsL _ ?_
    | refine St.rdsT _ ?_
    | refine St.rdsI2 _ _ ?_
    | refine St.rdsB2 _ _ ?_
    | (refine St.rdsG ?_; (repeat (first | apply Exists.intro (α := Int) | apply Exists.intro (α := Bool) | apply Exists.intro (α := ByteArray) | (apply Exists.intro (α := Option Addr); apply Exists.intro (α := Nat); apply Exists.intro (α := Nat)) | apply Exists.intro (α := Option Addr) | apply Exists.intro (α := Value))); refine ⟨rfl, ?_⟩)
    | refine letb rfl ?_
    | refine sat h ?_
    | (have h := h.drew; refine sat h ?_)
    | refine sat1 h (fun _ h => h.to) ?_)
  refine iff_ rfl ?_
  have h := St.tblC (l := []) h
  refine rnew_ok h fun w' h => ?_
  have hm : 0 ≤ minN (maxN most 0) 8 ∧ minN (maxN most 0) 8 ≤ 8 := by unfold minN maxN; (repeat' split) <;> omega
  have hpt : minN (maxN paths 1) 4 ≤ 4 := by unfold minN maxN; (repeat' split) <;> omega
  generalize minN (maxN most 0) 8 = most at *
  generalize minN (maxN paths 1) 4 = paths at *
  (repeat (first | apply Exists.intro (α := Int) | apply Exists.intro (α := Bool) | apply Exists.intro (α := ByteArray) | (apply Exists.intro (α := Option Addr); apply Exists.intro (α := Nat); apply Exists.intro (α := Nat)) | apply Exists.intro (α := Option Addr) | apply Exists.intro (α := Value)))
  refine ⟨rfl, ?_⟩
  refine h.allocZ fun q w' h => ?_
  repeat' (first
    | refine nilc ?_
    | refine h.rdI _ ?_
    | refine h.rdB _ ?_
    | refine h.rdP _ ?_
    | refine h.rdL _ ?_
    | refine h.rdT _ ?_
    | refine h.rdI2 _ _ ?_
    | refine h.rdB2 _ _ ?_
    | refine h.rdP2 _ _ ?_
    | refine h.rdL2 _ _ ?_
    | refine h.st2 _ _ fun w' h => ?_
    | refine h.st _ fun w' h => ?_
    | refine h.rdvI ?_
    | refine h.rdvB ?_
    | refine h.rdvP ?_
    | refine h.rdvL ?_
    | refine h.rdvT ?_
    | (refine h.rdG ?_; (repeat (first | apply Exists.intro (α := Int) | apply Exists.intro (α := Bool) | apply Exists.intro (α := ByteArray) | (apply Exists.intro (α := Option Addr); apply Exists.intro (α := Nat); apply Exists.intro (α := Nat)) | apply Exists.intro (α := Option Addr) | apply Exists.intro (α := Value))); refine ⟨rfl, ?_⟩)
    | refine h.stG fun w' h => ?_
    | refine h.stV fun w' h => ?_
    | refine h.box fun p w' h => ?_
    | refine h.boxV fun p w' h => ?_
    | refine h.allocZ fun p w' h => ?_
    | refine h.allocZV fun p w' h => ?_
    | (refine RD.bld ?_; (repeat (first | apply Exists.intro (α := Int) | apply Exists.intro (α := Bool) | apply Exists.intro (α := ByteArray) | (apply Exists.intro (α := Option Addr); apply Exists.intro (α := Nat); apply Exists.intro (α := Nat)) | apply Exists.intro (α := Option Addr) | apply Exists.intro (α := Value))); refine ⟨rfl, ?_⟩)
    | (refine RDS.bld ?_; (repeat (first | apply Exists.intro (α := Int) | apply Exists.intro (α := Bool) | apply Exists.intro (α := ByteArray) | (apply Exists.intro (α := Option Addr); apply Exists.intro (α := Nat); apply Exists.intro (α := Nat)) | apply Exists.intro (α := Option Addr) | apply Exists.intro (α := Value))); refine ⟨rfl, ?_⟩)
    | refine St.rdsI _ ?_
    | refine St.rdsB _ ?_
    | refine St.rdsP _ ?_
    | refine St.rdsL _ ?_
    | refine St.rdsT _ ?_
    | refine St.rdsI2 _ _ ?_
    | refine St.rdsB2 _ _ ?_
    | (refine St.rdsG ?_; (repeat (first | apply Exists.intro (α := Int) | apply Exists.intro (α := Bool) | apply Exists.intro (α := ByteArray) | (apply Exists.intro (α := Option Addr); apply Exists.intro (α := Nat); apply Exists.intro (α := Nat)) | apply Exists.intro (α := Option Addr) | apply Exists.intro (α := Value))); refine ⟨rfl, ?_⟩)
    | refine letb rfl ?_
    | refine sat h ?_
    | (have h := h.drew; refine sat h ?_)
    | refine sat1 h (fun _ h => h.to) ?_)
  have h := h.addOwnNil 119 2
  refine ⟨fun m i w' => ∃ (j : Nat) (tok : Int) (T : List Ad) (O : Option Go.Addr) (d : Nat), j + m = X.length ∧ i = (j : Int) ∧ AdL T ∧ AdP T ∧ (T.length : Int) ≤ most ∧ 0 ≤ tok ∧ tok ≤ 64 ∧ St c w' (tbl p bk most paths tok T :: Br.blk q 113 [.int .i64 most, .int .i64 paths, .slice O T.length d, .int .i64 64, .int .i64 1, .int .i64 tok] :: own 119 2 O T.length d (T.flatMap ad) :: L),
    ⟨X.length, 0, 64, [], none, 0, by omega, rfl, ⟨by simp, by simp⟩, fun x hx => by simp at hx, hm.1, by decide, by decide, h.to⟩, ?_⟩
  clear h
  rintro m _ w' ⟨j, tok, T, O, d, hj, rfl, hT, hP, hTm, t0, t1, h⟩
  refine ifd (fun hlt => ?_) fun hge => ?_
  · obtain ⟨x, hx⟩ := ex_get (L := X) (j := j) (by omega)
    have hl := hT.2
    refine ⟨fun ok is w' => ok = is ∧ ∃ (tok : Int) (T : List Ad) (O : Option Go.Addr) (d : Nat), AdL T ∧ AdP T ∧ (T.length : Int) ≤ most ∧ 0 ≤ tok ∧ tok ≤ 64 ∧ St c w' (tbl p bk most paths tok T :: Br.blk q 113 [.int .i64 most, .int .i64 paths, .slice O T.length d, .int .i64 64, .int .i64 1, .int .i64 tok] :: own 119 2 O T.length d (T.flatMap ad) :: L), ?_, ?_⟩
    · refine h.ix (z := 3) hr.more.more.more hx fun b hb => ?_
      have hr1 := hr
      rw [hb] at hr1
      refine h.rdEI 0 hr1.more.more.more hx ?_
      refine ⟨by decide, ⟨by decide, letb rfl ?_⟩⟩
      have h := h.drew
      refine ifb (fun e3 => ?_) fun e3 => letb rfl (ifb (fun e4 => ?_) fun e4 => ?_)
      · repeat' (first
          | refine nilc ?_
          | refine h.rdI _ ?_
          | refine h.rdB _ ?_
          | refine h.rdP _ ?_
          | refine h.rdL _ ?_
          | refine h.rdT _ ?_
          | refine h.rdI2 _ _ ?_
          | refine h.rdB2 _ _ ?_
          | refine h.rdP2 _ _ ?_
          | refine h.rdL2 _ _ ?_
          | refine h.st2 _ _ fun w' h => ?_
          | refine h.st _ fun w' h => ?_
          | refine h.rdvI ?_
          | refine h.rdvB ?_
          | refine h.rdvP ?_
          | refine h.rdvL ?_
          | refine h.rdvT ?_
          | (refine h.rdG ?_; (repeat (first | apply Exists.intro (α := Int) | apply Exists.intro (α := Bool) | apply Exists.intro (α := ByteArray) | (apply Exists.intro (α := Option Addr); apply Exists.intro (α := Nat); apply Exists.intro (α := Nat)) | apply Exists.intro (α := Option Addr) | apply Exists.intro (α := Value))); refine ⟨rfl, ?_⟩)
          | refine h.stG fun w' h => ?_
          | refine h.stV fun w' h => ?_
          | refine h.box fun p w' h => ?_
          | refine h.boxV fun p w' h => ?_
          | refine h.allocZ fun p w' h => ?_
          | refine h.allocZV fun p w' h => ?_
          | (refine RD.bld ?_; (repeat (first | apply Exists.intro (α := Int) | apply Exists.intro (α := Bool) | apply Exists.intro (α := ByteArray) | (apply Exists.intro (α := Option Addr); apply Exists.intro (α := Nat); apply Exists.intro (α := Nat)) | apply Exists.intro (α := Option Addr) | apply Exists.intro (α := Value))); refine ⟨rfl, ?_⟩)
          | (refine RDS.bld ?_; (repeat (first | apply Exists.intro (α := Int) | apply Exists.intro (α := Bool) | apply Exists.intro (α := ByteArray) | (apply Exists.intro (α := Option Addr); apply Exists.intro (α := Nat); apply Exists.intro (α := Nat)) | apply Exists.intro (α := Option Addr) | apply Exists.intro (α := Value))); refine ⟨rfl, ?_⟩)
          | refine St.rdsI _ ?_
          | refine St.rdsB _ ?_
          | refine St.rdsP _ ?_
          | refine St.rdsL _ ?_
          | refine St.rdsT _ ?_
          | refine St.rdsI2 _ _ ?_
          | refine St.rdsB2 _ _ ?_
          | (refine St.rdsG ?_; (repeat (first | apply Exists.intro (α := Int) | apply Exists.intro (α := Bool) | apply Exists.intro (α := ByteArray) | (apply Exists.intro (α := Option Addr); apply Exists.intro (α := Nat); apply Exists.intro (α := Nat)) | apply Exists.intro (α := Option Addr) | apply Exists.intro (α := Value))); refine ⟨rfl, ?_⟩)
          | refine letb rfl ?_
          | refine sat h ?_
          | (have h := h.drew; refine sat h ?_)
          | refine sat1 h (fun _ h => h.to) ?_)
        refine h.ix (z := 3) hr.more.more.more hx fun b2 hb2 => ?_
        rw [hb] at hb2
        injection hb2 with hb2
        subst hb2
        refine h.rdEI2 2 0 hr1.more.more.more hx ?_
        refine rgone_ok h (.tail (.tail .head)) (by omega) fun O2 d2 w' h => ?_
        (repeat (first | apply Exists.intro (α := Int) | apply Exists.intro (α := Bool) | apply Exists.intro (α := ByteArray) | (apply Exists.intro (α := Option Addr); apply Exists.intro (α := Nat); apply Exists.intro (α := Nat)) | apply Exists.intro (α := Option Addr) | apply Exists.intro (α := Value)))
        refine ⟨rfl, ?_⟩
        refine ⟨fun _ => True, trivial, ?_⟩
        refine h.stG fun w' h => ?_
        refine ⟨fun _ => True, fun _ h => h, trivial, letb rfl ?_⟩
        refine h.ix (z := 3) hr.more.more.more hx fun b2 hb2 => ?_
        rw [hb] at hb2
        injection hb2 with hb2
        subst hb2
        refine h.rdEI2 2 0 hr1.more.more.more hx ?_
        have h := h.to (L' := tbl p bk most paths tok T :: Br.blk q 113 [.int .i64 most, .int .i64 paths, .slice O2 (goneA T x.aID).1.length d2, .int .i64 64, .int .i64 1, .int .i64 tok] :: own 119 2 O2 (goneA T x.aID).1.length d2 ((goneA T x.aID).1.flatMap ad) :: L)
        refine agone_ok h .head (by omega) fun w' h => ?_
        (repeat (first | apply Exists.intro (α := Int) | apply Exists.intro (α := Bool) | apply Exists.intro (α := ByteArray) | (apply Exists.intro (α := Option Addr); apply Exists.intro (α := Nat); apply Exists.intro (α := Nat)) | apply Exists.intro (α := Option Addr) | apply Exists.intro (α := Value)))
        refine ⟨rfl, ?_⟩
        exact letb rfl ⟨rfl, tok, _, O2, d2, goneA_adl hT, goneA_adp hP, goneA_len hTm, t0, t1, h⟩
      · refine nilc ?_
        obtain ⟨A0, k0, h⟩ := h.tblO
        repeat' (first
          | refine nilc ?_
          | refine h.rdI _ ?_
          | refine h.rdB _ ?_
          | refine h.rdP _ ?_
          | refine h.rdL _ ?_
          | refine h.rdT _ ?_
          | refine h.rdI2 _ _ ?_
          | refine h.rdB2 _ _ ?_
          | refine h.rdP2 _ _ ?_
          | refine h.rdL2 _ _ ?_
          | refine h.st2 _ _ fun w' h => ?_
          | refine h.st _ fun w' h => ?_
          | refine h.rdvI ?_
          | refine h.rdvB ?_
          | refine h.rdvP ?_
          | refine h.rdvL ?_
          | refine h.rdvT ?_
          | (refine h.rdG ?_; (repeat (first | apply Exists.intro (α := Int) | apply Exists.intro (α := Bool) | apply Exists.intro (α := ByteArray) | (apply Exists.intro (α := Option Addr); apply Exists.intro (α := Nat); apply Exists.intro (α := Nat)) | apply Exists.intro (α := Option Addr) | apply Exists.intro (α := Value))); refine ⟨rfl, ?_⟩)
          | refine h.stG fun w' h => ?_
          | refine h.stV fun w' h => ?_
          | refine h.box fun p w' h => ?_
          | refine h.boxV fun p w' h => ?_
          | refine h.allocZ fun p w' h => ?_
          | refine h.allocZV fun p w' h => ?_
          | (refine RD.bld ?_; (repeat (first | apply Exists.intro (α := Int) | apply Exists.intro (α := Bool) | apply Exists.intro (α := ByteArray) | (apply Exists.intro (α := Option Addr); apply Exists.intro (α := Nat); apply Exists.intro (α := Nat)) | apply Exists.intro (α := Option Addr) | apply Exists.intro (α := Value))); refine ⟨rfl, ?_⟩)
          | (refine RDS.bld ?_; (repeat (first | apply Exists.intro (α := Int) | apply Exists.intro (α := Bool) | apply Exists.intro (α := ByteArray) | (apply Exists.intro (α := Option Addr); apply Exists.intro (α := Nat); apply Exists.intro (α := Nat)) | apply Exists.intro (α := Option Addr) | apply Exists.intro (α := Value))); refine ⟨rfl, ?_⟩)
          | refine St.rdsI _ ?_
          | refine St.rdsB _ ?_
          | refine St.rdsP _ ?_
          | refine St.rdsL _ ?_
          | refine St.rdsT _ ?_
          | refine St.rdsI2 _ _ ?_
          | refine St.rdsB2 _ _ ?_
          | (refine St.rdsG ?_; (repeat (first | apply Exists.intro (α := Int) | apply Exists.intro (α := Bool) | apply Exists.intro (α := ByteArray) | (apply Exists.intro (α := Option Addr); apply Exists.intro (α := Nat); apply Exists.intro (α := Nat)) | apply Exists.intro (α := Option Addr) | apply Exists.intro (α := Value))); refine ⟨rfl, ?_⟩)
          | refine letb rfl ?_
          | refine sat h ?_
          | (have h := h.drew; refine sat h ?_)
          | refine sat1 h (fun _ h => h.to) ?_)
        refine h.ix (z := 3) hr.more.more.more.more.more hx fun b2 hb2 => ?_
        rw [hb] at hb2
        injection hb2 with hb2
        subst hb2
        refine h.rdEI 1 hr1.more.more.more.more.more hx ?_
        refine btick_ok h (.tail .head) t0 t1 fun w' h => ?_
        (repeat (first | apply Exists.intro (α := Int) | apply Exists.intro (α := Bool) | apply Exists.intro (α := ByteArray) | (apply Exists.intro (α := Option Addr); apply Exists.intro (α := Nat); apply Exists.intro (α := Nat)) | apply Exists.intro (α := Option Addr) | apply Exists.intro (α := Value)))
        refine ⟨rfl, ?_⟩
        have h := St.tblC (h.to (L' := Br.blk p 30 [.pointer (some ⟨bk, 0, none⟩), .int .i64 most, .int .i64 paths, .slice A0 T.length k0] :: Br.blk bk 127 [.int .i64 64, .int .i64 1, .int .i64 (minN (tok + minN (maxN x.n 0) 4096) 64)] :: own 24 2 A0 T.length k0 (T.flatMap ad) :: Br.blk q 113 [.int .i64 most, .int .i64 paths, .slice O T.length d, .int .i64 64, .int .i64 1, .int .i64 tok] :: own 119 2 O T.length d (T.flatMap ad) :: L))
        have h := h.drew
        refine h.rdGo 3 3 ?_
        (repeat (first | apply Exists.intro (α := Int) | apply Exists.intro (α := Bool) | apply Exists.intro (α := ByteArray) | (apply Exists.intro (α := Option Addr); apply Exists.intro (α := Nat); apply Exists.intro (α := Nat)) | apply Exists.intro (α := Option Addr) | apply Exists.intro (α := Value)))
        refine ⟨rfl, ?_⟩
        refine h.ix (z := 3) hr.more.more.more hx fun b2 hb2 => ?_
        rw [hb] at hb2
        injection hb2 with hb2
        subst hb2
        refine h.rdEI 1 hr1.more.more.more hx ?_
        refine rtick_ok h t0 t1 fun w' h => ?_
        (repeat (first | apply Exists.intro (α := Int) | apply Exists.intro (α := Bool) | apply Exists.intro (α := ByteArray) | (apply Exists.intro (α := Option Addr); apply Exists.intro (α := Nat); apply Exists.intro (α := Nat)) | apply Exists.intro (α := Option Addr) | apply Exists.intro (α := Value)))
        refine ⟨rfl, ?_⟩
        refine h.stGo 3 (vs := [.int .i64 64, .int .i64 1, .int .i64 _]) fun w' h => ?_
        refine ⟨rfl, _, T, O, d, hT, hP, hTm, ?_, ?_, h.to⟩
        all_goals (unfold minN maxN; (repeat' split) <;> omega)
      · repeat' (first
          | refine nilc ?_
          | refine h.rdI _ ?_
          | refine h.rdB _ ?_
          | refine h.rdP _ ?_
          | refine h.rdL _ ?_
          | refine h.rdT _ ?_
          | refine h.rdI2 _ _ ?_
          | refine h.rdB2 _ _ ?_
          | refine h.rdP2 _ _ ?_
          | refine h.rdL2 _ _ ?_
          | refine h.st2 _ _ fun w' h => ?_
          | refine h.st _ fun w' h => ?_
          | refine h.rdvI ?_
          | refine h.rdvB ?_
          | refine h.rdvP ?_
          | refine h.rdvL ?_
          | refine h.rdvT ?_
          | (refine h.rdG ?_; (repeat (first | apply Exists.intro (α := Int) | apply Exists.intro (α := Bool) | apply Exists.intro (α := ByteArray) | (apply Exists.intro (α := Option Addr); apply Exists.intro (α := Nat); apply Exists.intro (α := Nat)) | apply Exists.intro (α := Option Addr) | apply Exists.intro (α := Value))); refine ⟨rfl, ?_⟩)
          | refine h.stG fun w' h => ?_
          | refine h.stV fun w' h => ?_
          | refine h.box fun p w' h => ?_
          | refine h.boxV fun p w' h => ?_
          | refine h.allocZ fun p w' h => ?_
          | refine h.allocZV fun p w' h => ?_
          | (refine RD.bld ?_; (repeat (first | apply Exists.intro (α := Int) | apply Exists.intro (α := Bool) | apply Exists.intro (α := ByteArray) | (apply Exists.intro (α := Option Addr); apply Exists.intro (α := Nat); apply Exists.intro (α := Nat)) | apply Exists.intro (α := Option Addr) | apply Exists.intro (α := Value))); refine ⟨rfl, ?_⟩)
          | (refine RDS.bld ?_; (repeat (first | apply Exists.intro (α := Int) | apply Exists.intro (α := Bool) | apply Exists.intro (α := ByteArray) | (apply Exists.intro (α := Option Addr); apply Exists.intro (α := Nat); apply Exists.intro (α := Nat)) | apply Exists.intro (α := Option Addr) | apply Exists.intro (α := Value))); refine ⟨rfl, ?_⟩)
          | refine St.rdsI _ ?_
          | refine St.rdsB _ ?_
          | refine St.rdsP _ ?_
          | refine St.rdsL _ ?_
          | refine St.rdsT _ ?_
          | refine St.rdsI2 _ _ ?_
          | refine St.rdsB2 _ _ ?_
          | (refine St.rdsG ?_; (repeat (first | apply Exists.intro (α := Int) | apply Exists.intro (α := Bool) | apply Exists.intro (α := ByteArray) | (apply Exists.intro (α := Option Addr); apply Exists.intro (α := Nat); apply Exists.intro (α := Nat)) | apply Exists.intro (α := Option Addr) | apply Exists.intro (α := Value))); refine ⟨rfl, ?_⟩)
          | refine letb rfl ?_
          | refine sat h ?_
          | (have h := h.drew; refine sat h ?_)
          | refine sat1 h (fun _ h => h.to) ?_)
        refine h.ix (z := 3) hr.more.more.more hx fun b2 hb2 => ?_
        rw [hb] at hb2
        injection hb2 with hb2
        subst hb2
        refine h.rdEI2 2 0 hr1.more.more.more hx ?_
        refine h.ix (z := 3) hr.more.more.more hx fun b2 hb2 => ?_
        rw [hb] at hb2
        injection hb2 with hb2
        subst hb2
        refine h.rdEI2 2 1 hr1.more.more.more hx ?_
        repeat' (first
          | refine nilc ?_
          | refine h.rdI _ ?_
          | refine h.rdB _ ?_
          | refine h.rdP _ ?_
          | refine h.rdL _ ?_
          | refine h.rdT _ ?_
          | refine h.rdI2 _ _ ?_
          | refine h.rdB2 _ _ ?_
          | refine h.rdP2 _ _ ?_
          | refine h.rdL2 _ _ ?_
          | refine h.st2 _ _ fun w' h => ?_
          | refine h.st _ fun w' h => ?_
          | refine h.rdvI ?_
          | refine h.rdvB ?_
          | refine h.rdvP ?_
          | refine h.rdvL ?_
          | refine h.rdvT ?_
          | (refine h.rdG ?_; (repeat (first | apply Exists.intro (α := Int) | apply Exists.intro (α := Bool) | apply Exists.intro (α := ByteArray) | (apply Exists.intro (α := Option Addr); apply Exists.intro (α := Nat); apply Exists.intro (α := Nat)) | apply Exists.intro (α := Option Addr) | apply Exists.intro (α := Value))); refine ⟨rfl, ?_⟩)
          | refine h.stG fun w' h => ?_
          | refine h.stV fun w' h => ?_
          | refine h.box fun p w' h => ?_
          | refine h.boxV fun p w' h => ?_
          | refine h.allocZ fun p w' h => ?_
          | refine h.allocZV fun p w' h => ?_
          | (refine RD.bld ?_; (repeat (first | apply Exists.intro (α := Int) | apply Exists.intro (α := Bool) | apply Exists.intro (α := ByteArray) | (apply Exists.intro (α := Option Addr); apply Exists.intro (α := Nat); apply Exists.intro (α := Nat)) | apply Exists.intro (α := Option Addr) | apply Exists.intro (α := Value))); refine ⟨rfl, ?_⟩)
          | (refine RDS.bld ?_; (repeat (first | apply Exists.intro (α := Int) | apply Exists.intro (α := Bool) | apply Exists.intro (α := ByteArray) | (apply Exists.intro (α := Option Addr); apply Exists.intro (α := Nat); apply Exists.intro (α := Nat)) | apply Exists.intro (α := Option Addr) | apply Exists.intro (α := Value))); refine ⟨rfl, ?_⟩)
          | refine St.rdsI _ ?_
          | refine St.rdsB _ ?_
          | refine St.rdsP _ ?_
          | refine St.rdsL _ ?_
          | refine St.rdsT _ ?_
          | refine St.rdsI2 _ _ ?_
          | refine St.rdsB2 _ _ ?_
          | (refine St.rdsG ?_; (repeat (first | apply Exists.intro (α := Int) | apply Exists.intro (α := Bool) | apply Exists.intro (α := ByteArray) | (apply Exists.intro (α := Option Addr); apply Exists.intro (α := Nat); apply Exists.intro (α := Nat)) | apply Exists.intro (α := Option Addr) | apply Exists.intro (α := Value))); refine ⟨rfl, ?_⟩)
          | refine letb rfl ?_
          | refine sat h ?_
          | (have h := h.drew; refine sat h ?_)
          | refine sat1 h (fun _ h => h.to) ?_)
        refine radd_ok h (a := ⟨x.aID, x.aPath⟩) (.tail (.tail .head)) hT hTm t0 t1 fun O2 d2 w' h => ?_
        have ht := addA_tok (most := most) (paths := paths) (l := T) (a := ⟨x.aID, x.aPath⟩) t0 t1
        have g1 := addA_adl (most := most) (paths := paths) (tok := tok) (a := ⟨x.aID, x.aPath⟩) hT hm.2
        have g2 := addA_adp (most := most) (paths := paths) (tok := tok) (a := ⟨x.aID, x.aPath⟩) hP hpt
        have g3 := addA_len (paths := paths) (tok := tok) (a := ⟨x.aID, x.aPath⟩) hTm
        (repeat (first | apply Exists.intro (α := Int) | apply Exists.intro (α := Bool) | apply Exists.intro (α := ByteArray) | (apply Exists.intro (α := Option Addr); apply Exists.intro (α := Nat); apply Exists.intro (α := Nat)) | apply Exists.intro (α := Option Addr) | apply Exists.intro (α := Value)))
        refine ⟨rfl, ?_⟩
        refine ⟨fun _ => True, trivial, ?_⟩
        refine h.stG fun w' h => ?_
        refine ⟨fun _ => True, fun _ h => h, trivial, letb rfl ?_⟩
        refine h.ix (z := 3) hr.more.more.more hx fun b2 hb2 => ?_
        rw [hb] at hb2
        injection hb2 with hb2
        subst hb2
        refine h.rdEGo 2 2 hr1.more.more.more hx ?_
        (repeat (first | apply Exists.intro (α := Int) | apply Exists.intro (α := Bool) | apply Exists.intro (α := ByteArray) | (apply Exists.intro (α := Option Addr); apply Exists.intro (α := Nat); apply Exists.intro (α := Nat)) | apply Exists.intro (α := Option Addr) | apply Exists.intro (α := Value)))
        refine ⟨rfl, ?_⟩
        have h := h.pick (A := tbl p bk most paths tok T) (.tail (.tail .head))
        refine aadd_ok (a := ⟨x.aID, x.aPath⟩) h .head (by omega) t0 t1 fun w' h => ?_
        (repeat (first | apply Exists.intro (α := Int) | apply Exists.intro (α := Bool) | apply Exists.intro (α := ByteArray) | (apply Exists.intro (α := Option Addr); apply Exists.intro (α := Nat); apply Exists.intro (α := Nat)) | apply Exists.intro (α := Option Addr) | apply Exists.intro (α := Value)))
        refine ⟨rfl, ?_⟩
        exact letb rfl ⟨rfl, _, _, O2, d2, g1, g2, g3, ht.1, ht.2, h.to⟩
    clear h hl hT hP hTm t0 t1 T tok O d
    rintro ok is w' ⟨rfl, tok, T, O, d, hT, hP, hTm, t0, t1, h⟩
    have hl := hT.2
    have h := h.drew
    refine sat h (ifsame rfl ?_)
    refine St.rdsL 2 ?_
    refine alist_ok h .head (by omega) fun O1 d1 w' h => ?_
    (repeat (first | apply Exists.intro (α := Int) | apply Exists.intro (α := Bool) | apply Exists.intro (α := ByteArray) | (apply Exists.intro (α := Option Addr); apply Exists.intro (α := Nat); apply Exists.intro (α := Nat)) | apply Exists.intro (α := Option Addr) | apply Exists.intro (α := Value)))
    refine ⟨rfl, ?_⟩
    refine sat1 h (fun _ h => h.to) ?_
    refine same20_ok h (RdIn.own .head) (RdIn.own (.tail (.tail (.tail .head)))) (by omega) fun w' h => ?_
    (repeat (first | apply Exists.intro (α := Int) | apply Exists.intro (α := Bool) | apply Exists.intro (α := ByteArray) | (apply Exists.intro (α := Option Addr); apply Exists.intro (α := Nat); apply Exists.intro (α := Nat)) | apply Exists.intro (α := Option Addr) | apply Exists.intro (α := Value)))
    refine ⟨rfl, ?_⟩
    have h := h.drop
    refine sat h (iff_ rfl (nilc ?_))
    refine rdsTbl .head ?_
    refine St.rdsI2 3 2 ?_
    obtain ⟨A0, k0, ho⟩ := h.tblO
    refine left_ok ho (.tail .head) ?_
    (repeat (first | apply Exists.intro (α := Int) | apply Exists.intro (α := Bool) | apply Exists.intro (α := ByteArray) | (apply Exists.intro (α := Option Addr); apply Exists.intro (α := Nat); apply Exists.intro (α := Nat)) | apply Exists.intro (α := Option Addr) | apply Exists.intro (α := Value)))
    refine ⟨rfl, ?_⟩
    refine sat1 h (fun _ h => h) (iff_ (by simp) ?_)
    refine St.rdsG ?_
    (repeat (first | apply Exists.intro (α := Int) | apply Exists.intro (α := Bool) | apply Exists.intro (α := ByteArray) | (apply Exists.intro (α := Option Addr); apply Exists.intro (α := Nat); apply Exists.intro (α := Nat)) | apply Exists.intro (α := Option Addr) | apply Exists.intro (α := Value)))
    refine ⟨rfl, ?_⟩
    refine apaths_ok h .head hl hP fun O2 d2 w' h => ?_
    (repeat (first | apply Exists.intro (α := Int) | apply Exists.intro (α := Bool) | apply Exists.intro (α := ByteArray) | (apply Exists.intro (α := Option Addr); apply Exists.intro (α := Nat); apply Exists.intro (α := Nat)) | apply Exists.intro (α := Option Addr) | apply Exists.intro (α := Value)))
    refine ⟨rfl, ?_⟩
    refine sat1 h (fun _ h => h.to) ?_
    refine rpaths_ok h (l := T) (RdIn.own (.tail (.tail (.tail .head)))) (by omega) fun O3 d3 w' h => ?_
    (repeat (first | apply Exists.intro (α := Int) | apply Exists.intro (α := Bool) | apply Exists.intro (α := ByteArray) | (apply Exists.intro (α := Option Addr); apply Exists.intro (α := Nat); apply Exists.intro (α := Nat)) | apply Exists.intro (α := Option Addr) | apply Exists.intro (α := Value)))
    refine ⟨rfl, ?_⟩
    refine rowI_ok h (RdIn.own (.tail .head)) (RdIn.own .head) (by have := pth_len T; omega) fun w' h => ?_
    (repeat (first | apply Exists.intro (α := Int) | apply Exists.intro (α := Bool) | apply Exists.intro (α := ByteArray) | (apply Exists.intro (α := Option Addr); apply Exists.intro (α := Nat); apply Exists.intro (α := Nat)) | apply Exists.intro (α := Option Addr) | apply Exists.intro (α := Value)))
    refine ⟨rfl, ?_⟩
    exact iff_ rfl (leti (wrap_i64 (n := (j : Int) + 1) (by omega) (by omega)) ⟨m - 1, by omega, j + 1, tok, T, O, d, by omega, by omega, hT, hP, hTm, t0, t1, h.drop.drop⟩)
  refine alive20_ok h fun w' h => ?_
  (repeat (first | apply Exists.intro (α := Int) | apply Exists.intro (α := Bool) | apply Exists.intro (α := ByteArray) | (apply Exists.intro (α := Option Addr); apply Exists.intro (α := Nat); apply Exists.intro (α := Nat)) | apply Exists.intro (α := Option Addr) | apply Exists.intro (α := Value)))
  refine ⟨rfl, ?_⟩
  exact letb rfl (hk _ h.drop.drop.drop)
end
end Go.Br
