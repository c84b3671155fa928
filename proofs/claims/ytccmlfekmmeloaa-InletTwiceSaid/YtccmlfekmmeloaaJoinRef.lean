/- The document's pieces: one that is put in (as in SpansRef, SpansRef2, without the functions that this seat lacks). -/
import Derived.Test.YtccmlfekmmeloaaNJoinRef
import Derived.Test.YtccmlfekmmeloaaSpans2
set_option linter.unusedVariables false
set_option linter.unusedSimpArgs false
set_option linter.unnecessarySimpa false
namespace Go.Br
open Go
attribute [local irreducible] Addr.add RD RDS RUN RUNU NILC LETB CALL CALLX CALLV

theorem tiRp : TI PG 266 2 16 (.agg #[.int .u64 0, .int .u64 0]) := tiOf (by kernel_rfl)
theorem huRp : PG.underlying 224 = some (.slice 266) := by kernel_rfl
/-! ### Joining -/
def jstep (o : List Sp × Sp) (p : Sp) : List Sp × Sp := if p.t < o.2.f ∨ o.2.t < p.f then (o.1 ++ [p], o.2) else (o.1, ⟨minN o.2.f p.f, maxN o.2.t p.t⟩)
def jst (x : Sp) (l : List Sp) : List Sp × Sp := l.foldl jstep ([], x)
theorem jst_snoc (x : Sp) (l : List Sp) (p : Sp) : jst x (l ++ [p]) = jstep (jst x l) p := by simp [jst]
theorem jfold_out : ∀ {A : List Sp} {o : List Sp} {x : Sp}, (∀ p ∈ A, p.t < x.f ∨ x.t < p.f) → A.foldl jstep (o, x) = (o ++ A, x)
  | [], o, x, _ => by simp
  | a :: A, o, x, h => by
    have ha := h a (by simp)
    have e : jstep (o, x) a = (o ++ [a], x) := by unfold jstep; rw [if_pos ha]
    rw [List.foldl_cons, e, jfold_out fun p hp => h p (by simp [hp])]
    simp
theorem jfold_in {f t : Int} : ∀ {M : List Sp} {o : List Sp} {f' t' : Int}, f' ≤ f → t ≤ t' → (∀ p ∈ M, f ≤ p.t ∧ p.f ≤ t) → M.foldl jstep (o, ⟨f', t'⟩) = (o, ⟨jF f' M, jT t' M⟩)
  | [], o, f', t', _, _, _ => rfl
  | a :: M, o, f', t', h1, h2, h => by
    have ha := h a (by simp)
    have e : jstep (o, ⟨f', t'⟩) a = (o, ⟨minN f' a.f, maxN t' a.t⟩) := by unfold jstep; rw [if_neg (by simp only; omega)]
    have m1 : minN f' a.f ≤ f' := by unfold minN; split <;> omega
    have m2 : t' ≤ maxN t' a.t := by unfold maxN; split <;> omega
    rw [List.foldl_cons, e, jfold_in (by omega) (by omega) fun p hp => h p (by simp [hp])]
    rfl
theorem jst_eq {l : List Sp} {f t : Int} (hs : Sep l) : jst ⟨f, t⟩ l = (spA l f ++ spZ (spB l f) t, ⟨jF f (spM (spB l f) t), jT t (spM (spB l f) t)⟩) := by
  obtain ⟨a1, a2, a3, a4, a5, a6⟩ := sep_parts (f := f) (t := t) hs
  obtain ⟨t1, t2, t3⟩ := jT_ge (spM (spB l f) t) t
  have e : l = spA l f ++ (spM (spB l f) t ++ spZ (spB l f) t) := by rw [spMZ, spAB]
  have hf : l.foldl jstep ([], ⟨f, t⟩) = (spA l f ++ (spM (spB l f) t ++ spZ (spB l f) t)).foldl jstep ([], ⟨f, t⟩) := congrArg (fun x => x.foldl jstep ([], ⟨f, t⟩)) e
  unfold jst
  rw [hf, List.foldl_append, List.foldl_append, jfold_out (fun p hp => .inl (spA_lt hp)), jfold_in (f := f) (t := t) (Int.le_refl _) (Int.le_refl _) (fun p hp => ⟨spB_ge hs (mem_spM hp), spM_le hp⟩), jfold_out]
  · simp
  · intro p hp
    refine .inr ?_
    simp only
    rcases t3 with e | ⟨q, hq, e⟩
    · rw [e]; exact spZ_gt a4 hp
    · rw [e]; exact a6 q hq p hp
section
variable {c : Ctx} {w : World} {L R : List SA}
theorem r6join_ok (h : St c w L) {A : Option Addr} {k : Nat} {X : List Sp} {f t : Int} (hX : RdIn L A (X.flatMap spn)) (hs : Sep X) (hl : X.length ≤ 1000) (h0 : 0 ≤ f) (hft : f < t) (h1 : t < 18446744073709551616) {Q : Value → World → Prop}
    (hk : ∀ O d w', St c w' (own 266 2 O (addS X f t).length d ((addS X f t).flatMap spn) :: L) → Q (.slice O (addS X f t).length d) w') : CALL PG 146 [.slice A X.length k, .agg #[.int .u64 f, .int .u64 t]] w Q := by
  refine call146 ?_
  unfold N146
  refine h.box fun p w' h => ?_
  refine ⟨fun m O n d i w' => ∃ j : Nat, j + m = X.length ∧ i = (j : Int) ∧ n = (jst ⟨f, t⟩ (X.take j)).1.length ∧ n ≤ j ∧ St c w' (blk p 266 (spn (jst ⟨f, t⟩ (X.take j)).2) :: own 266 2 O n d ((jst ⟨f, t⟩ (X.take j)).1.flatMap spn) :: L),
    ⟨X.length, 0, by omega, rfl, rfl, by omega, (h.addOwnNil 266 2).swap⟩, ?_⟩
  clear h
  rintro m O _ d _ w' ⟨j, hj, rfl, rfl, hnj, h⟩
  refine ifd (fun hlt => ?_) fun hge => ?_
  · obtain ⟨x, hx⟩ := ex_get (L := X) (j := j) (by omega)
    have eJ : jst ⟨f, t⟩ (X.take (j + 1)) = jstep (jst ⟨f, t⟩ (X.take j)) x := by rw [take_snoc' hx, jst_snoc]
    generalize jst ⟨f, t⟩ (X.take j) = o at *
    obtain ⟨out, y⟩ := o
    simp only at h hnj eJ ⊢
    have hX1 := hX
    have h := h.drew
    refine h.ix (z := 1) hX.more.more hx fun a ha => ?_
    rw [ha] at hX1
    have nx : ∀ {K : Addr → Prop} {w : World}, St c w (blk p 266 (spn y) :: own 266 2 O out.length d (out.flatMap spn) :: L) → K a → IDX A X.length (j : Int) K := fun {K w} h hk => h.ix (z := 1) hX.more.more hx fun b hb => by
      rw [ha] at hb
      injection hb with hb
      subst hb
      exact hk
    have app : y.f ≤ y.t ∨ True → (x.t < y.f ∨ y.t < x.f) → ∀ {w : World}, St c w (blk p 266 (spn y) :: own 266 2 O out.length d (out.flatMap spn) :: L) →
        RUNL PG (Instr.buildSlice 224 1 #[(0, spnv x)]) w fun x xN xC w3 => RUNL PG (Builtin.append_ #[224, 224] 224 #[.slice O out.length d, .slice x xN xC]) w3 fun O' n' d' w4 =>
          LETI (IntKind.i64.wrap ((j : Int) + (1 : Int))) fun i1 => ∃ m2, m2 < m ∧ ∃ j' : Nat, j' + m2 = X.length ∧ i1 = (j' : Int) ∧ n' = (jst ⟨f, t⟩ (X.take j')).1.length ∧ n' ≤ j' ∧ St c w4 (blk p 266 (spn (jst ⟨f, t⟩ (X.take j')).2) :: own 266 2 O' n' d' ((jst ⟨f, t⟩ (X.take j')).1.flatMap spn) :: L) := by
      intro _ hc w h
      have e : jst ⟨f, t⟩ (X.take (j + 1)) = (out ++ [x], y) := by rw [eJ]; unfold jstep; rw [if_pos hc]
      refine h.app1 huRp tiRp (spn x) (.tail .head) (spn_flat1 x) (by omega) fun O' d' w' h => ?_
      refine letw ⟨m - 1, by omega, j + 1, by omega, by omega, by rw [e]; simp, by omega, ?_⟩
      rw [e]
      simp only [List.flatMap_append, List.flatMap_cons, List.flatMap_nil, List.append_nil]
      exact h.swap
    refine h.rdEI 1 hX1.more.more hx ?_
    repeat' (first
      | refine nilc ?_
      | refine h.rdI _ ?_
      | refine h.rdB _ ?_
      | refine h.rdP _ ?_
      | refine h.rdL _ ?_
      | refine h.rdT _ ?_
      | refine h.rdI2 _ _ ?_
      | refine h.rdB2 _ _ ?_
      | refine h.rdP2 _ _ ?_
      | refine h.rdL2 _ _ ?_
      | refine h.st2 _ _ fun w' h => ?_
      | refine h.st _ fun w' h => ?_
      | refine h.rdvI ?_
      | refine h.rdvB ?_
      | refine h.rdvP ?_
      | refine h.rdvL ?_
      | refine h.rdvT ?_
      | (refine h.rdG ?_; (repeat (first | apply Exists.intro (α := Int) | apply Exists.intro (α := Bool) | apply Exists.intro (α := ByteArray) | (apply Exists.intro (α := Option Addr); apply Exists.intro (α := Nat); apply Exists.intro (α := Nat)) | apply Exists.intro (α := Option Addr) | apply Exists.intro (α := Value))); refine ⟨rfl, ?_⟩)
      | refine h.stG fun w' h => ?_
      | refine h.stV fun w' h => ?_
      | refine h.box fun p w' h => ?_
      | refine h.boxV fun p w' h => ?_
      | refine h.allocZ fun p w' h => ?_
      | refine h.allocZV fun p w' h => ?_
      | (refine RD.bld ?_; (repeat (first | apply Exists.intro (α := Int) | apply Exists.intro (α := Bool) | apply Exists.intro (α := ByteArray) | (apply Exists.intro (α := Option Addr); apply Exists.intro (α := Nat); apply Exists.intro (α := Nat)) | apply Exists.intro (α := Option Addr) | apply Exists.intro (α := Value))); refine ⟨rfl, ?_⟩)
      | (refine RDS.bld ?_; (repeat (first | apply Exists.intro (α := Int) | apply Exists.intro (α := Bool) | apply Exists.intro (α := ByteArray) | (apply Exists.intro (α := Option Addr); apply Exists.intro (α := Nat); apply Exists.intro (α := Nat)) | apply Exists.intro (α := Option Addr) | apply Exists.intro (α := Value))); refine ⟨rfl, ?_⟩)
      | refine St.rdsI _ ?_
      | refine St.rdsB _ ?_
      | refine St.rdsP _ ?_
      | refine St.rdsL _ ?_
      | refine St.rdsT _ ?_
      | refine St.rdsI2 _ _ ?_
      | refine St.rdsB2 _ _ ?_
      | (refine St.rdsG ?_; (repeat (first | apply Exists.intro (α := Int) | apply Exists.intro (α := Bool) | apply Exists.intro (α := ByteArray) | (apply Exists.intro (α := Option Addr); apply Exists.intro (α := Nat); apply Exists.intro (α := Nat)) | apply Exists.intro (α := Option Addr) | apply Exists.intro (α := Value))); refine ⟨rfl, ?_⟩)
      | refine letb rfl ?_
      | refine sat h ?_
      | (have h := h.drew; refine sat h ?_)
      | refine sat1 h (fun _ h => h.to) ?_)
    refine ifd (fun c1 => ?_) fun c1 => ?_
    · refine nx h ?_
      refine h.rdEG hX1.more.more hx ?_
      (repeat (first | apply Exists.intro (α := Int) | apply Exists.intro (α := Bool) | apply Exists.intro (α := ByteArray) | (apply Exists.intro (α := Option Addr); apply Exists.intro (α := Nat); apply Exists.intro (α := Nat)) | apply Exists.intro (α := Option Addr) | apply Exists.intro (α := Value)))
      refine ⟨rfl, ?_⟩
      exact app (.inr trivial) (.inl c1) h
    refine nx h ?_
    refine h.rdEI 0 hX1.more.more hx ?_
    repeat' (first
      | refine nilc ?_
      | refine h.rdI _ ?_
      | refine h.rdB _ ?_
      | refine h.rdP _ ?_
      | refine h.rdL _ ?_
      | refine h.rdT _ ?_
      | refine h.rdI2 _ _ ?_
      | refine h.rdB2 _ _ ?_
      | refine h.rdP2 _ _ ?_
      | refine h.rdL2 _ _ ?_
      | refine h.st2 _ _ fun w' h => ?_
      | refine h.st _ fun w' h => ?_
      | refine h.rdvI ?_
      | refine h.rdvB ?_
      | refine h.rdvP ?_
      | refine h.rdvL ?_
      | refine h.rdvT ?_
      | (refine h.rdG ?_; (repeat (first | apply Exists.intro (α := Int) | apply Exists.intro (α := Bool) | apply Exists.intro (α := ByteArray) | (apply Exists.intro (α := Option Addr); apply Exists.intro (α := Nat); apply Exists.intro (α := Nat)) | apply Exists.intro (α := Option Addr) | apply Exists.intro (α := Value))); refine ⟨rfl, ?_⟩)
      | refine h.stG fun w' h => ?_
      | refine h.stV fun w' h => ?_
      | refine h.box fun p w' h => ?_
      | refine h.boxV fun p w' h => ?_
      | refine h.allocZ fun p w' h => ?_
      | refine h.allocZV fun p w' h => ?_
      | (refine RD.bld ?_; (repeat (first | apply Exists.intro (α := Int) | apply Exists.intro (α := Bool) | apply Exists.intro (α := ByteArray) | (apply Exists.intro (α := Option Addr); apply Exists.intro (α := Nat); apply Exists.intro (α := Nat)) | apply Exists.intro (α := Option Addr) | apply Exists.intro (α := Value))); refine ⟨rfl, ?_⟩)
      | (refine RDS.bld ?_; (repeat (first | apply Exists.intro (α := Int) | apply Exists.intro (α := Bool) | apply Exists.intro (α := ByteArray) | (apply Exists.intro (α := Option Addr); apply Exists.intro (α := Nat); apply Exists.intro (α := Nat)) | apply Exists.intro (α := Option Addr) | apply Exists.intro (α := Value))); refine ⟨rfl, ?_⟩)
      | refine St.rdsI _ ?_
      | refine St.rdsB _ ?_
      | refine St.rdsP _ ?_
      | refine St.rdsL _ ?_
      | refine St.rdsT _ ?_
      | refine St.rdsI2 _ _ ?_
      | refine St.rdsB2 _ _ ?_
      | (refine St.rdsG ?_; (repeat (first | apply Exists.intro (α := Int) | apply Exists.intro (α := Bool) | apply Exists.intro (α := ByteArray) | (apply Exists.intro (α := Option Addr); apply Exists.intro (α := Nat); apply Exists.intro (α := Nat)) | apply Exists.intro (α := Option Addr) | apply Exists.intro (α := Value))); refine ⟨rfl, ?_⟩)
      | refine letb rfl ?_
      | refine sat h ?_
      | (have h := h.drew; refine sat h ?_)
      | refine sat1 h (fun _ h => h.to) ?_)
    refine ifd (fun c2 => ?_) fun c2 => ?_
    · refine nx h ?_
      refine h.rdEG hX1.more.more hx ?_
      (repeat (first | apply Exists.intro (α := Int) | apply Exists.intro (α := Bool) | apply Exists.intro (α := ByteArray) | (apply Exists.intro (α := Option Addr); apply Exists.intro (α := Nat); apply Exists.intro (α := Nat)) | apply Exists.intro (α := Option Addr) | apply Exists.intro (α := Value)))
      refine ⟨rfl, ?_⟩
      exact app (.inr trivial) (.inr c2) h
    have e : jst ⟨f, t⟩ (X.take (j + 1)) = (out, ⟨minN y.f x.f, maxN y.t x.t⟩) := by rw [eJ]; unfold jstep; rw [if_neg (by simp only; omega)]
    have h := h.drew
    refine ⟨fun w' => St c w' (blk p 266 (spn ⟨minN y.f x.f, y.t⟩) :: own 266 2 O out.length d (out.flatMap spn) :: L), ?_, ?_⟩
    · refine nx h ?_
      refine h.rdEI 0 hX1.more.more hx ?_
      repeat' (first
        | refine nilc ?_
        | refine h.rdI _ ?_
        | refine h.rdB _ ?_
        | refine h.rdP _ ?_
        | refine h.rdL _ ?_
        | refine h.rdT _ ?_
        | refine h.rdI2 _ _ ?_
        | refine h.rdB2 _ _ ?_
        | refine h.rdP2 _ _ ?_
        | refine h.rdL2 _ _ ?_
        | refine h.st2 _ _ fun w' h => ?_
        | refine h.st _ fun w' h => ?_
        | refine h.rdvI ?_
        | refine h.rdvB ?_
        | refine h.rdvP ?_
        | refine h.rdvL ?_
        | refine h.rdvT ?_
        | (refine h.rdG ?_; (repeat (first | apply Exists.intro (α := Int) | apply Exists.intro (α := Bool) | apply Exists.intro (α := ByteArray) | (apply Exists.intro (α := Option Addr); apply Exists.intro (α := Nat); apply Exists.intro (α := Nat)) | apply Exists.intro (α := Option Addr) | apply Exists.intro (α := Value))); refine ⟨rfl, ?_⟩)
        | refine h.stG fun w' h => ?_
        | refine h.stV fun w' h => ?_
        | refine h.box fun p w' h => ?_
        | refine h.boxV fun p w' h => ?_
        | refine h.allocZ fun p w' h => ?_
        | refine h.allocZV fun p w' h => ?_
        | (refine RD.bld ?_; (repeat (first | apply Exists.intro (α := Int) | apply Exists.intro (α := Bool) | apply Exists.intro (α := ByteArray) | (apply Exists.intro (α := Option Addr); apply Exists.intro (α := Nat); apply Exists.intro (α := Nat)) | apply Exists.intro (α := Option Addr) | apply Exists.intro (α := Value))); refine ⟨rfl, ?_⟩)
        | (refine RDS.bld ?_; (repeat (first | apply Exists.intro (α := Int) | apply Exists.intro (α := Bool) | apply Exists.intro (α := ByteArray) | (apply Exists.intro (α := Option Addr); apply Exists.intro (α := Nat); apply Exists.intro (α := Nat)) | apply Exists.intro (α := Option Addr) | apply Exists.intro (α := Value))); refine ⟨rfl, ?_⟩)
        | refine St.rdsI _ ?_
        | refine St.rdsB _ ?_
        | refine St.rdsP _ ?_
        | refine St.rdsL _ ?_
        | refine St.rdsT _ ?_
        | refine St.rdsI2 _ _ ?_
        | refine St.rdsB2 _ _ ?_
        | (refine St.rdsG ?_; (repeat (first | apply Exists.intro (α := Int) | apply Exists.intro (α := Bool) | apply Exists.intro (α := ByteArray) | (apply Exists.intro (α := Option Addr); apply Exists.intro (α := Nat); apply Exists.intro (α := Nat)) | apply Exists.intro (α := Option Addr) | apply Exists.intro (α := Value))); refine ⟨rfl, ?_⟩)
        | refine letb rfl ?_
        | refine sat h ?_
        | (have h := h.drew; refine sat h ?_)
        | refine sat1 h (fun _ h => h.to) ?_)
      refine ifd (fun c3 => ?_) fun c3 => ?_
      · refine nx h ?_
        refine h.rdEI 0 hX1.more.more hx ?_
        repeat' (first
          | refine nilc ?_
          | refine h.rdI _ ?_
          | refine h.rdB _ ?_
          | refine h.rdP _ ?_
          | refine h.rdL _ ?_
          | refine h.rdT _ ?_
          | refine h.rdI2 _ _ ?_
          | refine h.rdB2 _ _ ?_
          | refine h.rdP2 _ _ ?_
          | refine h.rdL2 _ _ ?_
          | refine h.st2 _ _ fun w' h => ?_
          | refine h.st _ fun w' h => ?_
          | refine h.rdvI ?_
          | refine h.rdvB ?_
          | refine h.rdvP ?_
          | refine h.rdvL ?_
          | refine h.rdvT ?_
          | (refine h.rdG ?_; (repeat (first | apply Exists.intro (α := Int) | apply Exists.intro (α := Bool) | apply Exists.intro (α := ByteArray) | (apply Exists.intro (α := Option Addr); apply Exists.intro (α := Nat); apply Exists.intro (α := Nat)) | apply Exists.intro (α := Option Addr) | apply Exists.intro (α := Value))); refine ⟨rfl, ?_⟩)
          | refine h.stG fun w' h => ?_
          | refine h.stV fun w' h => ?_
          | refine h.box fun p w' h => ?_
          | refine h.boxV fun p w' h => ?_
          | refine h.allocZ fun p w' h => ?_
          | refine h.allocZV fun p w' h => ?_
          | (refine RD.bld ?_; (repeat (first | apply Exists.intro (α := Int) | apply Exists.intro (α := Bool) | apply Exists.intro (α := ByteArray) | (apply Exists.intro (α := Option Addr); apply Exists.intro (α := Nat); apply Exists.intro (α := Nat)) | apply Exists.intro (α := Option Addr) | apply Exists.intro (α := Value))); refine ⟨rfl, ?_⟩)
          | (refine RDS.bld ?_; (repeat (first | apply Exists.intro (α := Int) | apply Exists.intro (α := Bool) | apply Exists.intro (α := ByteArray) | (apply Exists.intro (α := Option Addr); apply Exists.intro (α := Nat); apply Exists.intro (α := Nat)) | apply Exists.intro (α := Option Addr) | apply Exists.intro (α := Value))); refine ⟨rfl, ?_⟩)
          | refine St.rdsI _ ?_
          | refine St.rdsB _ ?_
          | refine St.rdsP _ ?_
          | refine St.rdsL _ ?_
          | refine St.rdsT _ ?_
          | refine St.rdsI2 _ _ ?_
          | refine St.rdsB2 _ _ ?_
          | (refine St.rdsG ?_; (repeat (first | apply Exists.intro (α := Int) | apply Exists.intro (α := Bool) | apply Exists.intro (α := ByteArray) | (apply Exists.intro (α := Option Addr); apply Exists.intro (α := Nat); apply Exists.intro (α := Nat)) | apply Exists.intro (α := Option Addr) | apply Exists.intro (α := Value))); refine ⟨rfl, ?_⟩)
          | refine letb rfl ?_
          | refine sat h ?_
          | (have h := h.drew; refine sat h ?_)
          | refine sat1 h (fun _ h => h.to) ?_)
        rw [show minN y.f x.f = x.f by unfold minN; rw [if_pos c3]]
        exact h
      · rw [show minN y.f x.f = y.f by unfold minN; rw [if_neg c3]]
        exact h
    clear h
    intro w' h
    have nx : ∀ {K : Addr → Prop} {w : World}, St c w (blk p 266 (spn ⟨minN y.f x.f, y.t⟩) :: own 266 2 O out.length d (out.flatMap spn) :: L) → K a → IDX A X.length (j : Int) K := fun {K w} h hk => h.ix (z := 1) hX.more.more hx fun b hb => by
      rw [ha] at hb
      injection hb with hb
      subst hb
      exact hk
    have h := h.drew
    refine nx h ?_
    refine h.rdEI 1 hX1.more.more hx ?_
    repeat' (first
      | refine nilc ?_
      | refine h.rdI _ ?_
      | refine h.rdB _ ?_
      | refine h.rdP _ ?_
      | refine h.rdL _ ?_
      | refine h.rdT _ ?_
      | refine h.rdI2 _ _ ?_
      | refine h.rdB2 _ _ ?_
      | refine h.rdP2 _ _ ?_
      | refine h.rdL2 _ _ ?_
      | refine h.st2 _ _ fun w' h => ?_
      | refine h.st _ fun w' h => ?_
      | refine h.rdvI ?_
      | refine h.rdvB ?_
      | refine h.rdvP ?_
      | refine h.rdvL ?_
      | refine h.rdvT ?_
      | (refine h.rdG ?_; (repeat (first | apply Exists.intro (α := Int) | apply Exists.intro (α := Bool) | apply Exists.intro (α := ByteArray) | (apply Exists.intro (α := Option Addr); apply Exists.intro (α := Nat); apply Exists.intro (α := Nat)) | apply Exists.intro (α := Option Addr) | apply Exists.intro (α := Value))); refine ⟨rfl, ?_⟩)
      | refine h.stG fun w' h => ?_
      | refine h.stV fun w' h => ?_
      | refine h.box fun p w' h => ?_
      | refine h.boxV fun p w' h => ?_
      | refine h.allocZ fun p w' h => ?_
      | refine h.allocZV fun p w' h => ?_
      | (refine RD.bld ?_; (repeat (first | apply Exists.intro (α := Int) | apply Exists.intro (α := Bool) | apply Exists.intro (α := ByteArray) | (apply Exists.intro (α := Option Addr); apply Exists.intro (α := Nat); apply Exists.intro (α := Nat)) | apply Exists.intro (α := Option Addr) | apply Exists.intro (α := Value))); refine ⟨rfl, ?_⟩)
      | (refine RDS.bld ?_; (repeat (first | apply Exists.intro (α := Int) | apply Exists.intro (α := Bool) | apply Exists.intro (α := ByteArray) | (apply Exists.intro (α := Option Addr); apply Exists.intro (α := Nat); apply Exists.intro (α := Nat)) | apply Exists.intro (α := Option Addr) | apply Exists.intro (α := Value))); refine ⟨rfl, ?_⟩)
      | refine St.rdsI _ ?_
      | refine St.rdsB _ ?_
      | refine St.rdsP _ ?_
      | refine St.rdsL _ ?_
      | refine St.rdsT _ ?_
      | refine St.rdsI2 _ _ ?_
      | refine St.rdsB2 _ _ ?_
      | (refine St.rdsG ?_; (repeat (first | apply Exists.intro (α := Int) | apply Exists.intro (α := Bool) | apply Exists.intro (α := ByteArray) | (apply Exists.intro (α := Option Addr); apply Exists.intro (α := Nat); apply Exists.intro (α := Nat)) | apply Exists.intro (α := Option Addr) | apply Exists.intro (α := Value))); refine ⟨rfl, ?_⟩)
      | refine letb rfl ?_
      | refine sat h ?_
      | (have h := h.drew; refine sat h ?_)
      | refine sat1 h (fun _ h => h.to) ?_)
    refine ifd (fun c4 => ?_) fun c4 => ?_
    · refine nx h ?_
      refine h.rdEI 1 hX1.more.more hx ?_
      repeat' (first
        | refine nilc ?_
        | refine h.rdI _ ?_
        | refine h.rdB _ ?_
        | refine h.rdP _ ?_
        | refine h.rdL _ ?_
        | refine h.rdT _ ?_
        | refine h.rdI2 _ _ ?_
        | refine h.rdB2 _ _ ?_
        | refine h.rdP2 _ _ ?_
        | refine h.rdL2 _ _ ?_
        | refine h.st2 _ _ fun w' h => ?_
        | refine h.st _ fun w' h => ?_
        | refine h.rdvI ?_
        | refine h.rdvB ?_
        | refine h.rdvP ?_
        | refine h.rdvL ?_
        | refine h.rdvT ?_
        | (refine h.rdG ?_; (repeat (first | apply Exists.intro (α := Int) | apply Exists.intro (α := Bool) | apply Exists.intro (α := ByteArray) | (apply Exists.intro (α := Option Addr); apply Exists.intro (α := Nat); apply Exists.intro (α := Nat)) | apply Exists.intro (α := Option Addr) | apply Exists.intro (α := Value))); refine ⟨rfl, ?_⟩)
        | refine h.stG fun w' h => ?_
        | refine h.stV fun w' h => ?_
        | refine h.box fun p w' h => ?_
        | refine h.boxV fun p w' h => ?_
        | refine h.allocZ fun p w' h => ?_
        | refine h.allocZV fun p w' h => ?_
        | (refine RD.bld ?_; (repeat (first | apply Exists.intro (α := Int) | apply Exists.intro (α := Bool) | apply Exists.intro (α := ByteArray) | (apply Exists.intro (α := Option Addr); apply Exists.intro (α := Nat); apply Exists.intro (α := Nat)) | apply Exists.intro (α := Option Addr) | apply Exists.intro (α := Value))); refine ⟨rfl, ?_⟩)
        | (refine RDS.bld ?_; (repeat (first | apply Exists.intro (α := Int) | apply Exists.intro (α := Bool) | apply Exists.intro (α := ByteArray) | (apply Exists.intro (α := Option Addr); apply Exists.intro (α := Nat); apply Exists.intro (α := Nat)) | apply Exists.intro (α := Option Addr) | apply Exists.intro (α := Value))); refine ⟨rfl, ?_⟩)
        | refine St.rdsI _ ?_
        | refine St.rdsB _ ?_
        | refine St.rdsP _ ?_
        | refine St.rdsL _ ?_
        | refine St.rdsT _ ?_
        | refine St.rdsI2 _ _ ?_
        | refine St.rdsB2 _ _ ?_
        | (refine St.rdsG ?_; (repeat (first | apply Exists.intro (α := Int) | apply Exists.intro (α := Bool) | apply Exists.intro (α := ByteArray) | (apply Exists.intro (α := Option Addr); apply Exists.intro (α := Nat); apply Exists.intro (α := Nat)) | apply Exists.intro (α := Option Addr) | apply Exists.intro (α := Value))); refine ⟨rfl, ?_⟩)
        | refine letb rfl ?_
        | refine sat h ?_
        | (have h := h.drew; refine sat h ?_)
        | refine sat1 h (fun _ h => h.to) ?_)
      refine letw ⟨m - 1, by omega, j + 1, by omega, by omega, by rw [e], by omega, ?_⟩
      rw [e]
      simp only
      rw [show maxN y.t x.t = x.t by unfold maxN; rw [if_pos c4]]
      exact h
    · refine letw ⟨m - 1, by omega, j + 1, by omega, by omega, by rw [e], by omega, ?_⟩
      rw [e]
      simp only
      rw [show maxN y.t x.t = y.t by unfold maxN; rw [if_neg c4]]
      exact h
  have hjl : j = X.length := by omega
  subst hjl
  rw [List.take_length, jst_eq hs] at h hnj
  rw [List.take_length, jst_eq hs]
  obtain ⟨a1, a2, a3, a4, a5, a6⟩ := sep_parts (f := f) (t := t) hs
  have hsep := addS_sep (S := X) hs h0 hft h1
  have eA : addS X f t = spA X f ++ ⟨jF f (spM (spB X f) t), jT t (spM (spB X f) t)⟩ :: spZ (spB X f) t := rfl
  rw [eA] at hk hsep
  generalize spA X f = P at *
  generalize spZ (spB X f) t = Z at *
  generalize (⟨jF f (spM (spB X f) t), jT t (spM (spB X f) t)⟩ : Sp) = y at *
  simp only at h hnj ⊢
  obtain ⟨q1, q2, q3⟩ := Sep.append.1 hsep
  obtain ⟨y1, y2, y3⟩ := Sep.cons.1 q2
  repeat' (first
    | refine nilc ?_
    | refine h.rdI _ ?_
    | refine h.rdB _ ?_
    | refine h.rdP _ ?_
    | refine h.rdL _ ?_
    | refine h.rdT _ ?_
    | refine h.rdI2 _ _ ?_
    | refine h.rdB2 _ _ ?_
    | refine h.rdP2 _ _ ?_
    | refine h.rdL2 _ _ ?_
    | refine h.st2 _ _ fun w' h => ?_
    | refine h.st _ fun w' h => ?_
    | refine h.rdvI ?_
    | refine h.rdvB ?_
    | refine h.rdvP ?_
    | refine h.rdvL ?_
    | refine h.rdvT ?_
    | (refine h.rdG ?_; (repeat (first | apply Exists.intro (α := Int) | apply Exists.intro (α := Bool) | apply Exists.intro (α := ByteArray) | (apply Exists.intro (α := Option Addr); apply Exists.intro (α := Nat); apply Exists.intro (α := Nat)) | apply Exists.intro (α := Option Addr) | apply Exists.intro (α := Value))); refine ⟨rfl, ?_⟩)
    | refine h.stG fun w' h => ?_
    | refine h.stV fun w' h => ?_
    | refine h.box fun p w' h => ?_
    | refine h.boxV fun p w' h => ?_
    | refine h.allocZ fun p w' h => ?_
    | refine h.allocZV fun p w' h => ?_
    | (refine RD.bld ?_; (repeat (first | apply Exists.intro (α := Int) | apply Exists.intro (α := Bool) | apply Exists.intro (α := ByteArray) | (apply Exists.intro (α := Option Addr); apply Exists.intro (α := Nat); apply Exists.intro (α := Nat)) | apply Exists.intro (α := Option Addr) | apply Exists.intro (α := Value))); refine ⟨rfl, ?_⟩)
    | (refine RDS.bld ?_; (repeat (first | apply Exists.intro (α := Int) | apply Exists.intro (α := Bool) | apply Exists.intro (α := ByteArray) | (apply Exists.intro (α := Option Addr); apply Exists.intro (α := Nat); apply Exists.intro (α := Nat)) | apply Exists.intro (α := Option Addr) | apply Exists.intro (α := Value))); refine ⟨rfl, ?_⟩)
    | refine St.rdsI _ ?_
    | refine St.rdsB _ ?_
    | refine St.rdsP _ ?_
    | refine St.rdsL _ ?_
    | refine St.rdsT _ ?_
    | refine St.rdsI2 _ _ ?_
    | refine St.rdsB2 _ _ ?_
    | (refine St.rdsG ?_; (repeat (first | apply Exists.intro (α := Int) | apply Exists.intro (α := Bool) | apply Exists.intro (α := ByteArray) | (apply Exists.intro (α := Option Addr); apply Exists.intro (α := Nat); apply Exists.intro (α := Nat)) | apply Exists.intro (α := Option Addr) | apply Exists.intro (α := Value))); refine ⟨rfl, ?_⟩)
    | refine letb rfl ?_
    | refine sat h ?_
    | (have h := h.drew; refine sat h ?_)
    | refine sat1 h (fun _ h => h.to) ?_)
  refine h.app1 huRp tiRp (spn y) (.tail .head) (spn_flat1 y) (by omega) fun O' d' w' h => ?_
  refine letw ?_
  have hl1 : (P ++ Z).length = P.length + Z.length := List.length_append
  have hl2 : (P ++ y :: Z).length = P.length + Z.length + 1 := by simp; omega
  have h : St c w' (own 266 2 O' (P ++ y :: Z).length d' ((P ++ Z ++ [y]).flatMap spn) :: L) := by
    rw [show (P ++ Z).length + 1 = (P ++ y :: Z).length by omega] at h
    simp only [List.flatMap_append, List.flatMap_cons, List.flatMap_nil, List.append_nil] at h ⊢
    exact h.to
  rw [show (P ++ Z).length + 1 = (P ++ y :: Z).length by omega]
  refine ⟨fun m i w' => ∃ r : Nat, r ≤ Z.length ∧ m = r ∧ i = ((P.length + r : Nat) : Int) ∧ St c w' (own 266 2 O' (P ++ y :: Z).length d' ((P ++ Z.take r ++ y :: Z.drop r).flatMap spn) :: L), ⟨Z.length, Z.length, by omega, rfl, by omega, ?_⟩, ?_⟩
  · rw [List.take_length, List.drop_length]; exact h
  clear h
  rintro m _ w' ⟨r, hr, rfl, rfl, h⟩
  have ly : (P ++ Z.take m ++ y :: Z.drop m)[P.length + m]? = some y := by
    rw [List.getElem?_append_right (by rw [List.length_append, List.length_take]; omega)]
    rw [show P.length + m - (P ++ Z.take m).length = 0 by rw [List.length_append, List.length_take]; omega]
    rfl
  cases m with
  | zero =>
    rw [List.take_zero, List.append_nil, List.drop_zero] at h ly
    have hk := hk O' d'
    refine ifd (fun hpos => ?_) fun _ => ?_
    · have h := h.drew
      have hP : 0 < P.length := by omega
      obtain ⟨z, hz⟩ := ex_get (L := P) (j := P.length - 1) (by omega)
      have lz : (P ++ y :: Z)[P.length - 1]? = some z := by rw [List.getElem?_append_left (by omega)]; exact hz
      refine h.ix (z := 1) (i := P.length + 0) (RdIn.own .head) ly (fun a ha => ?_) (by omega)
      subst ha
      refine h.rdEI (i := P.length + 0) 0 (RdIn.own .head) ly ?_
      rw [wrap_i64 (n := ((P.length + 0 : Nat) : Int) - 1) (by omega) (by omega), show ((P.length + 0 : Nat) : Int) - 1 = ((P.length - 1 : Nat) : Int) by omega]
      refine h.ix (z := 1) (i := P.length - 1) (RdIn.own .head) lz (fun a ha => ?_) (by omega)
      injection ha with ha
      subst ha
      refine h.rdEI (i := P.length - 1) 0 (RdIn.own .head) lz ?_
      refine ifdf ?_ (hk _ h)
      have := q3 z (List.mem_of_getElem? hz) y (by simp)
      have := (q1.2 z (List.mem_of_getElem? hz)).2.1
      omega
    · exact hk _ h.drew
  | succ r =>
    obtain ⟨z, hz⟩ := ex_get (L := Z) (j := r) (by omega)
    have e1 : Z.take (r + 1) = Z.take r ++ [z] := take_snoc' hz
    have e2 : Z.drop r = z :: Z.drop (r + 1) := drop_cons' hz
    have lP : (P ++ Z.take r).length = P.length + r := by rw [List.length_append, List.length_take]; omega
    have eL : P ++ Z.take (r + 1) ++ y :: Z.drop (r + 1) = (P ++ Z.take r) ++ z :: y :: Z.drop (r + 1) := by rw [e1]; simp
    rw [eL] at h ly
    have eL2 : P ++ Z.take r ++ y :: Z.drop r = (P ++ Z.take r) ++ y :: z :: Z.drop (r + 1) := by rw [e2]
    have lz : ((P ++ Z.take r) ++ z :: y :: Z.drop (r + 1))[P.length + r]? = some z := by
      rw [List.getElem?_append_right (by omega), lP, Nat.sub_self]; rfl
    refine ifdt (by omega) ?_
    have h := h.drew
    refine h.ix (z := 1) (i := P.length + (r + 1)) (RdIn.own .head) ly (fun a ha => ?_) (by omega)
    subst ha
    refine h.rdEI (i := P.length + (r + 1)) 0 (RdIn.own .head) ly ?_
    rw [wrap_i64 (n := ((P.length + (r + 1) : Nat) : Int) - 1) (by omega) (by omega), show ((P.length + (r + 1) : Nat) : Int) - 1 = ((P.length + r : Nat) : Int) by omega]
    refine h.ix (z := 1) (i := P.length + r) (RdIn.own .head) lz (fun a ha => ?_) (by omega)
    injection ha with ha
    subst ha
    refine h.rdEI (i := P.length + r) 0 (RdIn.own .head) lz ?_
    refine ifdt (by have := y1 z (List.mem_of_getElem? hz); have := y2.2.1; omega) ?_
    have h := h.drew
    refine h.ix (z := 1) (i := P.length + r) (RdIn.own .head) lz (fun a ha => ?_) (by omega)
    injection ha with ha
    subst ha
    refine h.rdEG (i := P.length + r) (RdIn.own .head) lz ?_
    (repeat (first | apply Exists.intro (α := Int) | apply Exists.intro (α := Bool) | apply Exists.intro (α := ByteArray) | (apply Exists.intro (α := Option Addr); apply Exists.intro (α := Nat); apply Exists.intro (α := Nat)) | apply Exists.intro (α := Option Addr) | apply Exists.intro (α := Value)))
    refine ⟨rfl, ?_⟩
    refine h.ix (z := 1) (i := P.length + (r + 1)) (RdIn.own .head) ly (fun a ha => ?_) (by omega)
    injection ha with ha
    subst ha
    refine h.rdEG (i := P.length + (r + 1)) (RdIn.own .head) ly ?_
    (repeat (first | apply Exists.intro (α := Int) | apply Exists.intro (α := Bool) | apply Exists.intro (α := ByteArray) | (apply Exists.intro (α := Option Addr); apply Exists.intro (α := Nat); apply Exists.intro (α := Nat)) | apply Exists.intro (α := Option Addr) | apply Exists.intro (α := Value)))
    refine ⟨rfl, ?_⟩
    refine h.ix (z := 1) (i := P.length + (r + 1)) (RdIn.own .head) ly (fun a ha => ?_) (by omega)
    injection ha with ha
    subst ha
    refine h.stE (i := P.length + (r + 1)) .head (by simp; omega) z (spn_flat1 z) fun w' h => ?_
    have es : ((P ++ Z.take r) ++ z :: y :: Z.drop (r + 1)).set (P.length + (r + 1)) z = (P ++ Z.take r) ++ z :: z :: Z.drop (r + 1) := by
      rw [List.set_append_right _ _ (by omega), lP, show P.length + (r + 1) - (P.length + r) = 1 by omega]; rfl
    rw [es] at h
    have lz2 : ((P ++ Z.take r) ++ z :: z :: Z.drop (r + 1))[P.length + r]? = some z := by
      rw [List.getElem?_append_right (by omega), lP, Nat.sub_self]; rfl
    refine h.ix (z := 1) (i := P.length + r) (RdIn.own .head) lz2 (fun a ha => ?_) (by omega)
    injection ha with ha
    subst ha
    refine h.stE (i := P.length + r) .head (by simp; omega) y (spn_flat1 y) fun w' h => ?_
    have es2 : ((P ++ Z.take r) ++ z :: z :: Z.drop (r + 1)).set (P.length + r) y = (P ++ Z.take r) ++ y :: z :: Z.drop (r + 1) := by
      rw [List.set_append_right _ _ (by omega), lP, Nat.sub_self]; rfl
    rw [es2, ← eL2] at h
    exact leti rfl ⟨r, by omega, r, by omega, rfl, rfl, h⟩
end
end Go.Br
