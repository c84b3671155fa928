/- Offers: what a call of each function does. -/
import Derived.Test.YtccmlfekmmeloaaNAddrs
import Derived.Test.YtccmlfekmmeloaaBrOwn
import Derived.Test.YtccmlfekmmeloaaBrSeat
set_option linter.unusedVariables false
set_option linter.unusedSimpArgs false
set_option linter.unnecessarySimpa false
namespace Go.Br
open Go
instance biAddrsa (x0 : Option Addr) (x1 : Int) (x2 : Int) : Bld PG (Instr.build 30 #[(0, .pointer x0), (1, .int .i64 x1), (2, .int .i64 x2)]) (.agg #[.pointer x0, .int .i64 x1, .int .i64 x2, .slice none 0 0]) := ⟨fun w => by kernel_rfl⟩
instance biAddrsb (x0 : Int) (x1 : Int) (x2 : Int) : Bld PG (Instr.build 127 #[(0, .int .i64 x0), (1, .int .i64 x1), (2, .int .i64 x2)]) (.agg #[.int .i64 x0, .int .i64 x1, .int .i64 x2]) := ⟨fun w => by kernel_rfl⟩
attribute [local irreducible] Addr.add RD RDS RUN RUNU NILC LETB CALL CALLX CALLV

structure Ad where
  id : Int
  path : Int
def ad (x : Ad) : List Value := [.int .i64 x.id, .int .i64 x.path]
abbrev adv (x : Ad) : Value := .agg #[.int .i64 x.id, .int .i64 x.path]
theorem ad_length (x : Ad) : (ad x).length = 2 := rfl
theorem ad_flat1 (x : Ad) : Flat (ad x) := by intro v hv; simp [ad] at hv; rcases hv with rfl | rfl <;> rfl
theorem ad_flat (L : List Ad) : Flat (L.flatMap ad) := by
  intro v hv
  simp only [List.mem_flatMap] at hv
  obtain ⟨x, _, hx⟩ := hv
  exact ad_flat1 x v hx
theorem tiAd : TI PG 24 2 16 (.agg #[.int .i64 0, .int .i64 0]) := tiOf (by kernel_rfl)
theorem huAd : PG.underlying 28 = some (.slice 24) := by kernel_rfl
def ixI {α : Type} (p : α → Bool) (l : List α) : Int := if l.findIdx p < l.length then (l.findIdx p : Int) else -1
theorem ixI_none {α : Type} {p : α → Bool} {l : List α} (h : ∀ x ∈ l, p x = false) : ixI p l = -1 := by
  unfold ixI
  rw [if_neg]
  intro hlt
  have := List.findIdx_getElem (w := hlt)
  rw [h _ (List.getElem_mem hlt)] at this
  cases this
theorem findIdx_at {α : Type} {p : α → Bool} {l : List α} {j : Nat} {x : α} (hx : l[j]? = some x) (h : ∀ y ∈ l.take j, p y = false) (hp : p x = true) : l.findIdx p = j := by
  obtain ⟨h1, h2⟩ := List.getElem?_eq_some_iff.1 hx
  refine (List.findIdx_eq h1).2 ⟨by rw [h2]; exact hp, fun i hi => ?_⟩
  exact h _ (List.mem_iff_getElem?.2 ⟨i, by rw [List.getElem?_take, if_pos hi]; simp⟩)
theorem ixI_some {α : Type} {p : α → Bool} {l : List α} {j : Nat} {x : α} (hx : l[j]? = some x) (h : ∀ y ∈ l.take j, p y = false) (hp : p x = true) : ixI p l = (j : Int) := by
  unfold ixI
  rw [findIdx_at hx h hp, if_pos (List.getElem?_eq_some_iff.1 hx).1]
theorem tiacC : TI PG 24 2 16 (.agg #[.int .i64 0, .int .i64 0]) := tiOf (by kernel_rfl)
theorem huacC : PG.underlying 28 = some (.slice 24) := by kernel_rfl
theorem acclone_ok {c : Ctx} {w : World} {L : List SA} (h : St c w L) {A : Option Addr} {k : Nat} {S : List Ad} (hr : RdIn L A (S.flatMap ad)) (hl : S.length ≤ 100000) {Q : Value → World → Prop}
    (hk : ∀ O d w', St c w' (own 24 2 O S.length d (S.flatMap ad) :: L) → Q (.slice O S.length d) w') : CALL PG 68 [.slice A S.length k] w Q := by
  refine call68 ?_
  unfold N68
  refine ifb (fun hn => ?_) fun hn => ?_
  · have hA : A = none := by simpa using hn
    subst hA
    have e := (hr c w h).none
    have hS : S = [] := by
      have := congrArg List.length e
      rw [flat_length ad_length, List.length_nil] at this
      exact List.length_eq_zero_iff.1 (by omega)
    subst hS
    exact hk none 0 _ (h.addOwnNil _ _)
  · refine h.lit (n := 0) 24 2 [] fun q w' h => ?_
    refine h.append huacC tiacC .head hr.more (m := S.length) (flat_length ad_length S) (ad_flat S) (by omega) fun O d w' h => ?_
    simp only [Nat.zero_add, List.nil_append] at h ⊢
    exact hk O d _ h
theorem tiacD : TI PG 24 2 16 (.agg #[.int .i64 0, .int .i64 0]) := tiOf (by kernel_rfl)
theorem huacD : PG.underlying 28 = some (.slice 24) := by kernel_rfl
theorem acdel_ok {c : Ctx} {w : World} {L R : List SA} (h : St c w L) {A : Option Addr} {d i : Nat} {S : List Ad} (hp : Pick (own 24 2 A S.length d (S.flatMap ad)) L R) (hi : i < S.length) (hl : S.length ≤ 100000) {Q : Value → World → Prop}
    (hk : ∀ O d' w', St c w' (own 24 2 O (S.eraseIdx i).length d' ((S.eraseIdx i).flatMap ad) :: R) → Q (.slice O (S.eraseIdx i).length d') w') : CALL PG 70 [.slice A S.length d, .int .i64 (i : Int), .int .i64 ((i + 1 : Nat) : Int)] w Q := by
  have h := h.pick hp
  have hle := (h.own .head).le
  have eS := flat_cut ad S i
  have eS2 := flat_cut ad (S.drop i) 1
  rw [List.drop_drop] at eS2
  have lT : ((S.take i).flatMap ad).length = i * 2 := by rw [flat_length ad_length, List.length_take]; congr 1; omega
  have lM : (((S.drop i).take 1).flatMap ad).length = 2 := by rw [flat_length ad_length, List.length_take, List.length_drop, Nat.min_eq_left (by omega), Nat.one_mul]
  have lD : ((S.drop (i + 1)).flatMap ad).length = (S.length - (i + 1)) * 2 := by rw [flat_length ad_length, List.length_drop]
  have eN : S.eraseIdx i = S.take i ++ S.drop (i + 1) := List.eraseIdx_eq_take_drop_succ S i
  have lN : (S.eraseIdx i).length = i + (S.length - (i + 1)) := by rw [eN, List.length_append, List.length_take, List.length_drop]; omega
  obtain ⟨B, sp, rfl, e2, e3, e4, h⟩ := h.ownBlk (by omega)
  refine call70 ?_
  unfold N70
  refine RDL.slice3 huacD (z := 2) (by kernel_rfl) (by omega) (by omega) (by omega) (by omega) fun _ _ _ => ?_
  refine ifq (fun he => absurd he (by omega)) fun _ => leti rfl ?_
  refine ⟨by omega, by omega, ?_⟩
  simp only [cutA_zero, Int.toNat_natCast, Int.toNat_zero, Nat.sub_zero]
  have h := h.drew
  have hD : Row w.drew (cutA (some ⟨B, 0, none⟩) d 2 ((i + 1 : Nat) : Int)) ((S.drop (i + 1)).flatMap ad) := by
    have hr := h.rowB .head 0 (S.length * 2)
    rw [List.drop_zero, ← e4, List.take_left] at hr
    have := cutA_row (c := d) (z := 2) (l := ((i + 1 : Nat) : Int)) hr (by rw [e4]; omega)
    rw [Int.toNat_natCast, flat_drop ad_length] at this
    exact this
  refine h.appRoom (z := 2) (m := S.length - (i + 1)) .head huacD (by kernel_rfl) (by omega) (by simp only [List.length_append]; omega) hD lD (ad_flat _) fun w' h => ?_
  rw [eS, eS2, List.append_assoc, List.append_assoc, ← lT, splice_tail (by simp only [List.length_append]; omega), ← List.flatMap_append, ← eN] at h
  generalize hY : List.drop _ (((S.drop i).take 1).flatMap ad ++ ((S.drop (i + 1)).flatMap ad ++ sp)) = Y at h
  have lY : Y.length = 2 + sp.length := by rw [← hY, List.length_drop, List.length_append, List.length_append]; omega
  have lF : ((S.eraseIdx i).flatMap ad).length = (i + (S.length - (i + 1))) * 2 := by rw [flat_length ad_length, lN]
  have hk := fun w' => hk (some ⟨B, 0, none⟩) d w'
  rw [lN] at hk
  refine ⟨by omega, ?_⟩
  rw [cutA_at (by simp only [Int.toNat_natCast]; omega), Nat.zero_add]
  simp only [Int.toNat_natCast]
  refine h.clearB .head huacD tiacD (by simp only [List.length_append, lY, lF]; omega) fun w' h => ?_
  generalize hZ : zeros _ (S.length - (i + (S.length - (i + 1)))) = Z at h
  have lZ : Z.length = (S.length - (i + (S.length - (i + 1)))) * 2 := by rw [← hZ, zeros_length]; rfl
  rw [← lF, splice_tail (by rw [lY]; omega), List.append_assoc] at h
  exact hk _ (h.blkOwn (n := i + (S.length - (i + 1))) (d := d) (z := 2) lF (by rw [List.length_append, List.length_drop, lY]; omega) (by omega))
theorem acixf_ok {c : Ctx} {w : World} {L : List SA} (h : St c w L) {A : Option Addr} {k : Nat} {S : List Ad} {fv : Value} {pr : Ad → Bool} (hr : RdIn L A (S.flatMap ad)) (hl : S.length ≤ 100000)
    (hf : ∀ (x : Ad) {w : World} {Q : Value → World → Prop}, St c w L → (∀ w', St c w' L → Q (.bool (pr x)) w') → CALLV PG fv [adv x] w Q) {Q : Value → World → Prop}
    (hk : ∀ w', St c w' L → Q (.int .i64 (ixI pr S)) w') : CALL PG 65 [.slice A S.length k, fv] w Q := by
  refine call65 ?_
  unfold N65
  refine ⟨fun m i w' => ∃ j : Nat, j + m = S.length ∧ i = (j : Int) ∧ (∀ x ∈ S.take j, pr x = false) ∧ St c w' L, ⟨S.length, 0, by omega, rfl, by simp, h⟩, ?_⟩
  clear h
  rintro m _ w' ⟨j, hj, rfl, hno, h⟩
  refine ifd (fun hlt => ?_) fun hge => ?_
  · obtain ⟨x, hx⟩ := ex_get (L := S) (j := j) (by omega)
    refine leti rfl ?_
    refine h.ix (z := 1) hr hx fun a ha => ?_
    have hr1 := hr
    rw [ha] at hr1
    refine h.rdEG hr1 hx ?_
    (repeat (first | apply Exists.intro (α := Int) | apply Exists.intro (α := Bool) | apply Exists.intro (α := ByteArray) | (apply Exists.intro (α := Option Addr); apply Exists.intro (α := Nat); apply Exists.intro (α := Nat)) | apply Exists.intro (α := Option Addr) | apply Exists.intro (α := Value)))
    refine ⟨rfl, ?_⟩
    refine hf x h fun w' h => ?_
    (repeat (first | apply Exists.intro (α := Int) | apply Exists.intro (α := Bool) | apply Exists.intro (α := ByteArray) | (apply Exists.intro (α := Option Addr); apply Exists.intro (α := Nat); apply Exists.intro (α := Nat)) | apply Exists.intro (α := Option Addr) | apply Exists.intro (α := Value)))
    refine ⟨rfl, ?_⟩
    refine ifb (fun hp => ?_) fun hp => ⟨m - 1, by omega, j + 1, by omega, wrap_i64 (by omega) (by omega), fun y hy => ?_, h⟩
    · refine leti (ixI_some hx hno hp).symm (hk _ h)
    · rw [take_snoc' hx] at hy
      rcases List.mem_append.1 hy with hy | hy
      · exact hno y hy
      · simp at hy; subst hy; exact hp
  · have : j = S.length := by omega
    subst this
    rw [List.take_length] at hno
    have hk := hk _ h
    rwa [ixI_none hno] at hk
def badA (paths : Int) (a : Ad) : Prop := a.id < 0 ∨ 255 < a.id ∨ a.path < 0 ∨ paths ≤ a.path
instance (paths : Int) (a : Ad) : Decidable (badA paths a) := by unfold badA; infer_instance
def sameA (a x : Ad) : Bool := a.id == x.id && (a.path == x.path && true)
def idA (id : Int) (x : Ad) : Bool := x.id == id
/-- The tokens, the offers, whether it was heard. -/
def addA (most paths tok : Int) (l : List Ad) (a : Ad) : Int × List Ad × Bool :=
  if badA paths a ∨ l.any (sameA a) = true then (tok, l, false)
  else if l.findIdx (idA a.id) < l.length then (if tok < 16 then (tok, l, false) else (tok - 16, l.set (l.findIdx (idA a.id)) a, true))
  else if most ≤ (l.length : Int) ∨ tok < 16 then (tok, l, false) else (tok - 16, l ++ [a], true)
def goneA (l : List Ad) (id : Int) : List Ad × Bool := if l.findIdx (idA id) < l.length then (l.eraseIdx (l.findIdx (idA id)), true) else (l, false)
/-- A table. -/
def tbl (p bk : Nat) (most paths tok : Int) (l : List Ad) : SA := Br.ex fun x : Option Go.Addr × Nat => sep (Br.blk p 30 [.pointer (some ⟨bk, 0, none⟩), .int .i64 most, .int .i64 paths, .slice x.1 l.length x.2]) (sep (Br.blk bk 127 [.int .i64 64, .int .i64 1, .int .i64 tok]) (Br.own 24 2 x.1 l.length x.2 (l.flatMap ad)))
section
variable {c : Ctx} {w : World} {L R : List SA}
theorem St.tblO {p bk : Nat} {most paths tok : Int} {l : List Ad} (h : St c w (tbl p bk most paths tok l :: R)) : ∃ A k, St c w (Br.blk p 30 [.pointer (some ⟨bk, 0, none⟩), .int .i64 most, .int .i64 paths, .slice A l.length k] :: Br.blk bk 127 [.int .i64 64, .int .i64 1, .int .i64 tok] :: Br.own 24 2 A l.length k (l.flatMap ad) :: R) := by
  obtain ⟨⟨A, k⟩, h⟩ := h.ex
  exact ⟨A, k, (h.split.swap.split).to⟩
theorem St.tblC {p bk : Nat} {most paths tok : Int} {l : List Ad} {A : Option Go.Addr} {k : Nat} (h : St c w (Br.blk p 30 [.pointer (some ⟨bk, 0, none⟩), .int .i64 most, .int .i64 paths, .slice A l.length k] :: Br.blk bk 127 [.int .i64 64, .int .i64 1, .int .i64 tok] :: Br.own 24 2 A l.length k (l.flatMap ad) :: R)) : St c w (tbl p bk most paths tok l :: R) := by
  have h : St c w (Br.blk bk 127 [.int .i64 64, .int .i64 1, .int .i64 tok] :: Br.own 24 2 A l.length k (l.flatMap ad) :: Br.blk p 30 [.pointer (some ⟨bk, 0, none⟩), .int .i64 most, .int .i64 paths, .slice A l.length k] :: R) := h.to
  exact (h.join.swap.join).exi (f := fun x : Option Go.Addr × Nat => sep (Br.blk p 30 [.pointer (some ⟨bk, 0, none⟩), .int .i64 most, .int .i64 paths, .slice x.1 l.length x.2]) (sep (Br.blk bk 127 [.int .i64 64, .int .i64 1, .int .i64 tok]) (Br.own 24 2 x.1 l.length x.2 (l.flatMap ad)))) (A, k)
theorem anew_ok (h : St c w L) {most paths : Int} {Q : Value → World → Prop} (hk : ∀ p bk w', St c w' (tbl p bk (minN (maxN most 0) 8) (minN (maxN paths 1) 4) 64 [] :: L) → Q (.pointer (some ⟨p, 0, none⟩)) w') : CALL PG 12 [.int .i64 most, .int .i64 paths] w Q := by
  refine call12 ?_
  unfold N12
  refine call63 ?_
  unfold N63
  refine leti (y := 64) (by decide) (leti (y := 1) (by decide) ?_)
  repeat' (first
    | refine nilc ?_
    | refine h.rdI _ ?_
    | refine h.rdB _ ?_
    | refine h.rdP _ ?_
    | refine h.rdL _ ?_
    | refine h.rdT _ ?_
    | refine h.rdI2 _ _ ?_
    | refine h.rdB2 _ _ ?_
    | refine h.rdP2 _ _ ?_
    | refine h.rdL2 _ _ ?_
    | refine h.st2 _ _ fun w' h => ?_
    | refine h.st _ fun w' h => ?_
    | refine h.rdvI ?_
    | refine h.rdvB ?_
    | refine h.rdvP ?_
    | refine h.rdvL ?_
    | refine h.rdvT ?_
    | (refine h.rdG ?_; (repeat (first | apply Exists.intro (α := Int) | apply Exists.intro (α := Bool) | apply Exists.intro (α := ByteArray) | (apply Exists.intro (α := Option Addr); apply Exists.intro (α := Nat); apply Exists.intro (α := Nat)) | apply Exists.intro (α := Option Addr) | apply Exists.intro (α := Value))); refine ⟨rfl, ?_⟩)
    | refine h.stG fun w' h => ?_
    | refine h.stV fun w' h => ?_
    | refine h.box fun p w' h => ?_
    | refine h.boxV fun p w' h => ?_
    | refine h.allocZ fun p w' h => ?_
    | refine h.allocZV fun p w' h => ?_
    | (refine RD.bld ?_; (repeat (first | apply Exists.intro (α := Int) | apply Exists.intro (α := Bool) | apply Exists.intro (α := ByteArray) | (apply Exists.intro (α := Option Addr); apply Exists.intro (α := Nat); apply Exists.intro (α := Nat)) | apply Exists.intro (α := Option Addr) | apply Exists.intro (α := Value))); refine ⟨rfl, ?_⟩)
    | (refine RDS.bld ?_; (repeat (first | apply Exists.intro (α := Int) | apply Exists.intro (α := Bool) | apply Exists.intro (α := ByteArray) | (apply Exists.intro (α := Option Addr); apply Exists.intro (α := Nat); apply Exists.intro (α := Nat)) | apply Exists.intro (α := Option Addr) | apply Exists.intro (α := Value))); refine ⟨rfl, ?_⟩)
    | refine St.rdsI _ ?_
    | refine St.rdsB _ ?_
    | refine St.rdsP _ ?_
    | refine St.rdsL _ ?_
    | refine St.rdsT _ ?_
    | refine St.rdsI2 _ _ ?_
    | refine St.rdsB2 _ _ ?_
    | (refine St.rdsG ?_; (repeat (first | apply Exists.intro (α := Int) | apply Exists.intro (α := Bool) | apply Exists.intro (α := ByteArray) | (apply Exists.intro (α := Option Addr); apply Exists.intro (α := Nat); apply Exists.intro (α := Nat)) | apply Exists.intro (α := Option Addr) | apply Exists.intro (α := Value))); refine ⟨rfl, ?_⟩)
    | refine letb rfl ?_
    | refine sat h ?_
    | (have h := h.drew; refine sat h ?_)
    | refine sat1 h (fun _ h => h.to) ?_)
  (repeat (first | apply Exists.intro (α := Int) | apply Exists.intro (α := Bool) | apply Exists.intro (α := ByteArray) | (apply Exists.intro (α := Option Addr); apply Exists.intro (α := Nat); apply Exists.intro (α := Nat)) | apply Exists.intro (α := Option Addr) | apply Exists.intro (α := Value)))
  refine ⟨rfl, ?_⟩
  repeat' (first
    | refine nilc ?_
    | refine h.rdI _ ?_
    | refine h.rdB _ ?_
    | refine h.rdP _ ?_
    | refine h.rdL _ ?_
    | refine h.rdT _ ?_
    | refine h.rdI2 _ _ ?_
    | refine h.rdB2 _ _ ?_
    | refine h.rdP2 _ _ ?_
    | refine h.rdL2 _ _ ?_
    | refine h.st2 _ _ fun w' h => ?_
    | refine h.st _ fun w' h => ?_
    | refine h.rdvI ?_
    | refine h.rdvB ?_
    | refine h.rdvP ?_
    | refine h.rdvL ?_
    | refine h.rdvT ?_
    | (refine h.rdG ?_; (repeat (first | apply Exists.intro (α := Int) | apply Exists.intro (α := Bool) | apply Exists.intro (α := ByteArray) | (apply Exists.intro (α := Option Addr); apply Exists.intro (α := Nat); apply Exists.intro (α := Nat)) | apply Exists.intro (α := Option Addr) | apply Exists.intro (α := Value))); refine ⟨rfl, ?_⟩)
    | refine h.stG fun w' h => ?_
    | refine h.stV fun w' h => ?_
    | refine h.box fun p w' h => ?_
    | refine h.boxV fun p w' h => ?_
    | refine h.allocZ fun p w' h => ?_
    | refine h.allocZV fun p w' h => ?_
    | (refine RD.bld ?_; (repeat (first | apply Exists.intro (α := Int) | apply Exists.intro (α := Bool) | apply Exists.intro (α := ByteArray) | (apply Exists.intro (α := Option Addr); apply Exists.intro (α := Nat); apply Exists.intro (α := Nat)) | apply Exists.intro (α := Option Addr) | apply Exists.intro (α := Value))); refine ⟨rfl, ?_⟩)
    | (refine RDS.bld ?_; (repeat (first | apply Exists.intro (α := Int) | apply Exists.intro (α := Bool) | apply Exists.intro (α := ByteArray) | (apply Exists.intro (α := Option Addr); apply Exists.intro (α := Nat); apply Exists.intro (α := Nat)) | apply Exists.intro (α := Option Addr) | apply Exists.intro (α := Value))); refine ⟨rfl, ?_⟩)
    | refine St.rdsI _ ?_
    | refine St.rdsB _ ?_
    | refine St.rdsP _ ?_
    | refine St.rdsL _ ?_
    | refine St.rdsT _ ?_
    | refine St.rdsI2 _ _ ?_
    | refine St.rdsB2 _ _ ?_
    | (refine St.rdsG ?_; (repeat (first | apply Exists.intro (α := Int) | apply Exists.intro (α := Bool) | apply Exists.intro (α := ByteArray) | (apply Exists.intro (α := Option Addr); apply Exists.intro (α := Nat); apply Exists.intro (α := Nat)) | apply Exists.intro (α := Option Addr) | apply Exists.intro (α := Value))); refine ⟨rfl, ?_⟩)
    | refine letb rfl ?_
    | refine sat h ?_
    | (have h := h.drew; refine sat h ?_)
    | refine sat1 h (fun _ h => h.to) ?_)
  exact hk _ _ _ (St.tblC (l := []) ((h.addOwnNil 24 2).to))
theorem left_ok (h : St c w L) {bk : Nat} {a b tok : Int} (hp : Pick (Br.blk bk 127 [.int .i64 a, .int .i64 b, .int .i64 tok]) L R) {Q : Value → World → Prop} (hk : Q (.int .i64 tok) w) : CALL PG 60 [.pointer (some ⟨bk, 0, none⟩)] w Q := by
  refine call60 ?_
  unfold N60
  refine nilc ?_
  refine h.rdI 2 ?_ hp
  exact leti rfl hk
theorem btick_ok (h : St c w L) {bk : Nat} {tok n : Int} (hp : Pick (Br.blk bk 127 [.int .i64 64, .int .i64 1, .int .i64 tok]) L R) (h0 : 0 ≤ tok) (h1 : tok ≤ 64) {Q : Value → World → Prop}
    (hk : ∀ w', St c w' (Br.blk bk 127 [.int .i64 64, .int .i64 1, .int .i64 (minN (tok + minN (maxN n 0) 4096) 64)] :: R) → Q (.tuple #[]) w') : CALL PG 14 [.pointer (some ⟨bk, 0, none⟩), .int .i64 n] w Q := by
  have h := h.pick hp
  have hb : 0 ≤ minN (maxN n 0) 4096 ∧ minN (maxN n 0) 4096 ≤ 4096 := by unfold minN maxN; (repeat' split) <;> omega
  refine call14 ?_
  unfold N14
  refine leti rfl ?_
  have h := h.drew
  refine nilc (h.rdI 2 ?_)
  refine nilc (h.rdI 1 ?_)
  refine nilc (h.rdI 0 ?_)
  rw [Int.mul_one, wrap_i64 (n := minN (maxN n 0) 4096) (by omega) (by omega), wrap_i64 (by omega) (by omega)]
  refine nilc (h.st 2 fun w' h => ?_)
  exact hk _ h
theorem btake_ok (h : St c w L) {bk : Nat} {tok : Int} (hp : Pick (Br.blk bk 127 [.int .i64 64, .int .i64 1, .int .i64 tok]) L R) (h0 : 0 < tok) (h1 : tok ≤ 64) {Q : Value → World → Prop}
    (hk : ∀ w', St c w' (Br.blk bk 127 [.int .i64 64, .int .i64 1, .int .i64 (tok - 1)] :: R) → Q (.bool true) w') : CALL PG 107 [.pointer (some ⟨bk, 0, none⟩)] w Q := by
  have h := h.pick hp
  refine call107 ?_
  unfold N107
  refine nilc (h.rdI 2 ?_)
  refine ifq (fun he => absurd he (by omega)) fun _ => ?_
  refine nilc (h.rdI 2 ?_)
  rw [wrap_i64 (by omega) (by omega)]
  exact nilc (h.st 2 fun w' h => hk _ h)
theorem hear_ok (h : St c w L) {p bk : Nat} {most paths tok : Int} {sl : Value} {R2 : List SA} (hp : Pick (Br.blk p 30 [.pointer (some ⟨bk, 0, none⟩), .int .i64 most, .int .i64 paths, sl]) L R) (hq : Pick (Br.blk bk 127 [.int .i64 64, .int .i64 1, .int .i64 tok]) R R2) (h0 : 0 ≤ tok) (h1 : tok ≤ 64) {Q : Value → World → Prop}
    (hn : tok < 16 → ∀ w', St c w' (Br.blk p 30 [.pointer (some ⟨bk, 0, none⟩), .int .i64 most, .int .i64 paths, sl] :: Br.blk bk 127 [.int .i64 64, .int .i64 1, .int .i64 tok] :: R2) → Q (.bool false) w')
    (hy : 16 ≤ tok → ∀ w', St c w' (Br.blk p 30 [.pointer (some ⟨bk, 0, none⟩), .int .i64 most, .int .i64 paths, sl] :: Br.blk bk 127 [.int .i64 64, .int .i64 1, .int .i64 (tok - 16)] :: R2) → Q (.bool true) w') : CALL PG 67 [.pointer (some ⟨p, 0, none⟩)] w Q := by
  have h := h.pick2 hp hq
  refine call67 ?_
  unfold N67
  refine nilc (h.rdP 0 ?_)
  refine left_ok h (.tail .head) ⟨_, rfl, ?_⟩
  refine ifd (fun hl => hn hl _ h) fun hl => ?_
  refine ⟨fun m i w' => ∃ j : Nat, j + m = 16 ∧ i = (j : Int) ∧ St c w' (Br.blk p 30 [.pointer (some ⟨bk, 0, none⟩), .int .i64 most, .int .i64 paths, sl] :: Br.blk bk 127 [.int .i64 64, .int .i64 1, .int .i64 (tok - j)] :: R2), ⟨16, 0, rfl, rfl, by simpa using h⟩, ?_⟩
  clear h
  rintro m _ w' ⟨j, hj, rfl, h⟩
  refine ifd (fun hlt => ?_) fun hge => ?_
  · refine nilc (h.rdP 0 ?_)
    refine btake_ok h (.tail .head) (by omega) (by omega) fun w' h => ⟨_, rfl, m - 1, by omega, j + 1, by omega, wrap_i64 (by omega) (by omega), ?_⟩
    rw [show tok - ((j + 1 : Nat) : Int) = tok - (j : Int) - 1 by omega]
    exact h.swap
  · have : j = 16 := by omega
    subst this
    exact hy (by omega) _ h
theorem addf_ok (h : St c w L) {x a : Ad} {q : Nat} (hq : Pick (Br.blk q 24 (ad a)) L R) {Q : Value → World → Prop} (hk : ∀ w', St c w' L → Q (.bool (idA a.id x)) w') : CALL PG 66 [adv x, .pointer (some ⟨q, 0, none⟩)] w Q := by
  refine call66 ?_
  unfold N66
  refine h.box fun p w' h => ?_
  refine h.rdI 0 ?_
  refine h.rdI 0 ?_ (.tail hq)
  exact letb rfl (hk _ h.drop)
theorem gonef_ok (h : St c w L) {x : Ad} {id : Int} {q : Nat} (hq : Pick (Br.blk q 3 [.int .i64 id]) L R) {Q : Value → World → Prop} (hk : ∀ w', St c w' L → Q (.bool (idA id x)) w') : CALL PG 69 [adv x, .pointer (some ⟨q, 0, none⟩)] w Q := by
  refine call69 ?_
  unfold N69
  refine h.box fun p w' h => ?_
  refine h.rdI 0 ?_
  refine h.rdvI ?_ (.tail hq)
  exact letb rfl (hk _ h.drop)
theorem hasA_ok (h : St c w L) {A : Option Go.Addr} {k : Nat} {l : List Ad} {a : Ad} (hr : RdIn L A (l.flatMap ad)) (hl : l.length ≤ 1000) {Q : Value → World → Prop} (hk : ∀ w', St c w' L → Q (.bool (l.any (sameA a))) w') : CALL PG 64 [.slice A l.length k, adv a] w Q := by
  refine call64 ?_
  unfold N64
  repeat' (first
    | refine nilc ?_
    | refine h.rdI _ ?_
    | refine h.rdB _ ?_
    | refine h.rdP _ ?_
    | refine h.rdL _ ?_
    | refine h.rdT _ ?_
    | refine h.rdI2 _ _ ?_
    | refine h.rdB2 _ _ ?_
    | refine h.rdP2 _ _ ?_
    | refine h.rdL2 _ _ ?_
    | refine h.st2 _ _ fun w' h => ?_
    | refine h.st _ fun w' h => ?_
    | refine h.rdvI ?_
    | refine h.rdvB ?_
    | refine h.rdvP ?_
    | refine h.rdvL ?_
    | refine h.rdvT ?_
    | (refine h.rdG ?_; (repeat (first | apply Exists.intro (α := Int) | apply Exists.intro (α := Bool) | apply Exists.intro (α := ByteArray) | (apply Exists.intro (α := Option Addr); apply Exists.intro (α := Nat); apply Exists.intro (α := Nat)) | apply Exists.intro (α := Option Addr) | apply Exists.intro (α := Value))); refine ⟨rfl, ?_⟩)
    | refine h.stG fun w' h => ?_
    | refine h.stV fun w' h => ?_
    | refine h.box fun p w' h => ?_
    | refine h.boxV fun p w' h => ?_
    | refine h.allocZ fun p w' h => ?_
    | refine h.allocZV fun p w' h => ?_
    | (refine RD.bld ?_; (repeat (first | apply Exists.intro (α := Int) | apply Exists.intro (α := Bool) | apply Exists.intro (α := ByteArray) | (apply Exists.intro (α := Option Addr); apply Exists.intro (α := Nat); apply Exists.intro (α := Nat)) | apply Exists.intro (α := Option Addr) | apply Exists.intro (α := Value))); refine ⟨rfl, ?_⟩)
    | (refine RDS.bld ?_; (repeat (first | apply Exists.intro (α := Int) | apply Exists.intro (α := Bool) | apply Exists.intro (α := ByteArray) | (apply Exists.intro (α := Option Addr); apply Exists.intro (α := Nat); apply Exists.intro (α := Nat)) | apply Exists.intro (α := Option Addr) | apply Exists.intro (α := Value))); refine ⟨rfl, ?_⟩)
    | refine St.rdsI _ ?_
    | refine St.rdsB _ ?_
    | refine St.rdsP _ ?_
    | refine St.rdsL _ ?_
    | refine St.rdsT _ ?_
    | refine St.rdsI2 _ _ ?_
    | refine St.rdsB2 _ _ ?_
    | (refine St.rdsG ?_; (repeat (first | apply Exists.intro (α := Int) | apply Exists.intro (α := Bool) | apply Exists.intro (α := ByteArray) | (apply Exists.intro (α := Option Addr); apply Exists.intro (α := Nat); apply Exists.intro (α := Nat)) | apply Exists.intro (α := Option Addr) | apply Exists.intro (α := Value))); refine ⟨rfl, ?_⟩)
    | refine letb rfl ?_
    | refine sat h ?_
    | (have h := h.drew; refine sat h ?_)
    | refine sat1 h (fun _ h => h.to) ?_)
  refine call106 ?_
  unfold N106
  repeat' (first
    | refine nilc ?_
    | refine h.rdI _ ?_
    | refine h.rdB _ ?_
    | refine h.rdP _ ?_
    | refine h.rdL _ ?_
    | refine h.rdT _ ?_
    | refine h.rdI2 _ _ ?_
    | refine h.rdB2 _ _ ?_
    | refine h.rdP2 _ _ ?_
    | refine h.rdL2 _ _ ?_
    | refine h.st2 _ _ fun w' h => ?_
    | refine h.st _ fun w' h => ?_
    | refine h.rdvI ?_
    | refine h.rdvB ?_
    | refine h.rdvP ?_
    | refine h.rdvL ?_
    | refine h.rdvT ?_
    | (refine h.rdG ?_; (repeat (first | apply Exists.intro (α := Int) | apply Exists.intro (α := Bool) | apply Exists.intro (α := ByteArray) | (apply Exists.intro (α := Option Addr); apply Exists.intro (α := Nat); apply Exists.intro (α := Nat)) | apply Exists.intro (α := Option Addr) | apply Exists.intro (α := Value))); refine ⟨rfl, ?_⟩)
    | refine h.stG fun w' h => ?_
    | refine h.stV fun w' h => ?_
    | refine h.box fun p w' h => ?_
    | refine h.boxV fun p w' h => ?_
    | refine h.allocZ fun p w' h => ?_
    | refine h.allocZV fun p w' h => ?_
    | (refine RD.bld ?_; (repeat (first | apply Exists.intro (α := Int) | apply Exists.intro (α := Bool) | apply Exists.intro (α := ByteArray) | (apply Exists.intro (α := Option Addr); apply Exists.intro (α := Nat); apply Exists.intro (α := Nat)) | apply Exists.intro (α := Option Addr) | apply Exists.intro (α := Value))); refine ⟨rfl, ?_⟩)
    | (refine RDS.bld ?_; (repeat (first | apply Exists.intro (α := Int) | apply Exists.intro (α := Bool) | apply Exists.intro (α := ByteArray) | (apply Exists.intro (α := Option Addr); apply Exists.intro (α := Nat); apply Exists.intro (α := Nat)) | apply Exists.intro (α := Option Addr) | apply Exists.intro (α := Value))); refine ⟨rfl, ?_⟩)
    | refine St.rdsI _ ?_
    | refine St.rdsB _ ?_
    | refine St.rdsP _ ?_
    | refine St.rdsL _ ?_
    | refine St.rdsT _ ?_
    | refine St.rdsI2 _ _ ?_
    | refine St.rdsB2 _ _ ?_
    | (refine St.rdsG ?_; (repeat (first | apply Exists.intro (α := Int) | apply Exists.intro (α := Bool) | apply Exists.intro (α := ByteArray) | (apply Exists.intro (α := Option Addr); apply Exists.intro (α := Nat); apply Exists.intro (α := Nat)) | apply Exists.intro (α := Option Addr) | apply Exists.intro (α := Value))); refine ⟨rfl, ?_⟩)
    | refine letb rfl ?_
    | refine sat h ?_
    | (have h := h.drew; refine sat h ?_)
    | refine sat1 h (fun _ h => h.to) ?_)
  refine ⟨fun m i w' => ∃ j : Nat, j + m = l.length ∧ i = (j : Int) ∧ (∀ x ∈ l.take j, sameA a x = false) ∧ St c w' _, ⟨l.length, 0, by omega, rfl, by simp, h⟩, ?_⟩
  clear h
  rintro m _ w' ⟨j, hj, rfl, hno, h⟩
  refine ifd (fun hlt => ?_) fun hge => ?_
  · obtain ⟨x, hx⟩ := ex_get (L := l) (j := j) (by omega)
    refine leti rfl ?_
    have h := h.drew
    refine h.rdG ?_
    (repeat (first | apply Exists.intro (α := Int) | apply Exists.intro (α := Bool) | apply Exists.intro (α := ByteArray) | (apply Exists.intro (α := Option Addr); apply Exists.intro (α := Nat); apply Exists.intro (α := Nat)) | apply Exists.intro (α := Option Addr) | apply Exists.intro (α := Value)))
    refine ⟨rfl, ?_⟩
    refine h.ix (z := 1) hr.more.more hx fun b hb => ?_
    have hr1 := hr
    rw [hb] at hr1
    refine h.rdEG hr1.more.more hx ?_
    (repeat (first | apply Exists.intro (α := Int) | apply Exists.intro (α := Bool) | apply Exists.intro (α := ByteArray) | (apply Exists.intro (α := Option Addr); apply Exists.intro (α := Nat); apply Exists.intro (α := Nat)) | apply Exists.intro (α := Option Addr) | apply Exists.intro (α := Value)))
    refine ⟨rfl, ?_⟩
    refine RDB.eqN (sameA a x) ?_
    refine ifb (fun hs => leti rfl ?_) fun hs => ⟨m - 1, by omega, j + 1, by omega, wrap_i64 (by omega) (by omega), fun y hy => ?_, h⟩
    · (repeat (first | apply Exists.intro (α := Int) | apply Exists.intro (α := Bool) | apply Exists.intro (α := ByteArray) | (apply Exists.intro (α := Option Addr); apply Exists.intro (α := Nat); apply Exists.intro (α := Nat)) | apply Exists.intro (α := Option Addr) | apply Exists.intro (α := Value)))
      refine ⟨rfl, ?_⟩
      have hk := hk _ h.drop.drop
      rw [List.any_eq_true.2 ⟨x, List.mem_of_getElem? hx, hs⟩] at hk
      exact letb (by simp) hk
    · rw [take_snoc' hx] at hy
      rcases List.mem_append.1 hy with hy | hy
      · exact hno y hy
      · simp at hy; subst hy; exact hs
  · have : j = l.length := by omega
    subst this
    rw [List.take_length] at hno
    (repeat (first | apply Exists.intro (α := Int) | apply Exists.intro (α := Bool) | apply Exists.intro (α := ByteArray) | (apply Exists.intro (α := Option Addr); apply Exists.intro (α := Nat); apply Exists.intro (α := Nat)) | apply Exists.intro (α := Option Addr) | apply Exists.intro (α := Value)))
    refine ⟨rfl, ?_⟩
    have hk := hk _ h.drop.drop
    rw [List.any_eq_false.2 (by simpa using hno)] at hk
    exact letb (by decide) hk
theorem alist_ok (h : St c w L) {p bk : Nat} {most paths tok : Int} {l : List Ad} (hp : Pick (tbl p bk most paths tok l) L R) (hl : l.length ≤ 1000) {Q : Value → World → Prop}
    (hk : ∀ O d w', St c w' (own 24 2 O l.length d (l.flatMap ad) :: L) → Q (.slice O l.length d) w') : CALL PG 15 [.pointer (some ⟨p, 0, none⟩)] w Q := by
  obtain ⟨A, k, h⟩ := (h.pick hp).tblO
  refine call15 ?_
  unfold N15
  repeat' (first
    | refine nilc ?_
    | refine h.rdI _ ?_
    | refine h.rdB _ ?_
    | refine h.rdP _ ?_
    | refine h.rdL _ ?_
    | refine h.rdT _ ?_
    | refine h.rdI2 _ _ ?_
    | refine h.rdB2 _ _ ?_
    | refine h.rdP2 _ _ ?_
    | refine h.rdL2 _ _ ?_
    | refine h.st2 _ _ fun w' h => ?_
    | refine h.st _ fun w' h => ?_
    | refine h.rdvI ?_
    | refine h.rdvB ?_
    | refine h.rdvP ?_
    | refine h.rdvL ?_
    | refine h.rdvT ?_
    | (refine h.rdG ?_; (repeat (first | apply Exists.intro (α := Int) | apply Exists.intro (α := Bool) | apply Exists.intro (α := ByteArray) | (apply Exists.intro (α := Option Addr); apply Exists.intro (α := Nat); apply Exists.intro (α := Nat)) | apply Exists.intro (α := Option Addr) | apply Exists.intro (α := Value))); refine ⟨rfl, ?_⟩)
    | refine h.stG fun w' h => ?_
    | refine h.stV fun w' h => ?_
    | refine h.box fun p w' h => ?_
    | refine h.boxV fun p w' h => ?_
    | refine h.allocZ fun p w' h => ?_
    | refine h.allocZV fun p w' h => ?_
    | (refine RD.bld ?_; (repeat (first | apply Exists.intro (α := Int) | apply Exists.intro (α := Bool) | apply Exists.intro (α := ByteArray) | (apply Exists.intro (α := Option Addr); apply Exists.intro (α := Nat); apply Exists.intro (α := Nat)) | apply Exists.intro (α := Option Addr) | apply Exists.intro (α := Value))); refine ⟨rfl, ?_⟩)
    | (refine RDS.bld ?_; (repeat (first | apply Exists.intro (α := Int) | apply Exists.intro (α := Bool) | apply Exists.intro (α := ByteArray) | (apply Exists.intro (α := Option Addr); apply Exists.intro (α := Nat); apply Exists.intro (α := Nat)) | apply Exists.intro (α := Option Addr) | apply Exists.intro (α := Value))); refine ⟨rfl, ?_⟩)
    | refine St.rdsI _ ?_
    | refine St.rdsB _ ?_
    | refine St.rdsP _ ?_
    | refine St.rdsL _ ?_
    | refine St.rdsT _ ?_
    | refine St.rdsI2 _ _ ?_
    | refine St.rdsB2 _ _ ?_
    | (refine St.rdsG ?_; (repeat (first | apply Exists.intro (α := Int) | apply Exists.intro (α := Bool) | apply Exists.intro (α := ByteArray) | (apply Exists.intro (α := Option Addr); apply Exists.intro (α := Nat); apply Exists.intro (α := Nat)) | apply Exists.intro (α := Option Addr) | apply Exists.intro (α := Value))); refine ⟨rfl, ?_⟩)
    | refine letb rfl ?_
    | refine sat h ?_
    | (have h := h.drew; refine sat h ?_)
    | refine sat1 h (fun _ h => h.to) ?_)
  refine acclone_ok h (RdIn.own (.tail (.tail .head))) (by omega) fun O d w' h => ?_
  (repeat (first | apply Exists.intro (α := Int) | apply Exists.intro (α := Bool) | apply Exists.intro (α := ByteArray) | (apply Exists.intro (α := Option Addr); apply Exists.intro (α := Nat); apply Exists.intro (α := Nat)) | apply Exists.intro (α := Option Addr) | apply Exists.intro (α := Value)))
  refine ⟨rfl, ?_⟩
  exact hk O d w' ((St.tblC (R := own 24 2 O l.length d (l.flatMap ad) :: R) h.to).back (.tail hp))
theorem aadd_ok (h : St c w L) {p bk : Nat} {most paths tok : Int} {l : List Ad} {a : Ad} (hp : Pick (tbl p bk most paths tok l) L R) (hl : l.length ≤ 1000) (h0 : 0 ≤ tok) (h1 : tok ≤ 64) {Q : Value → World → Prop}
    (hk : ∀ w', St c w' (tbl p bk most paths (addA most paths tok l a).1 (addA most paths tok l a).2.1 :: R) → Q (.bool (addA most paths tok l a).2.2) w') : CALL PG 13 [.pointer (some ⟨p, 0, none⟩), adv a] w Q := by
  obtain ⟨A, k, h⟩ := (h.pick hp).tblO
  unfold addA at hk
  refine call13 ?_
  unfold N13
  refine h.box fun q w' h => ?_
  have h := h.drew
  have no : (badA paths a ∨ l.any (sameA a) = true) → ∀ {w' : World}, St c w' (Br.blk q 24 (ad a) :: Br.blk p 30 [.pointer (some ⟨bk, 0, none⟩), .int .i64 most, .int .i64 paths, .slice A l.length k] :: Br.blk bk 127 [.int .i64 64, .int .i64 1, .int .i64 tok] :: Br.own 24 2 A l.length k (l.flatMap ad) :: R) → Q (.bool false) w' := fun hb w' h => by
    rw [if_pos hb] at hk
    exact hk _ h.drop.tblC
  repeat' (first
    | refine nilc ?_
    | refine h.rdI _ ?_
    | refine h.rdB _ ?_
    | refine h.rdP _ ?_
    | refine h.rdL _ ?_
    | refine h.rdT _ ?_
    | refine h.rdI2 _ _ ?_
    | refine h.rdB2 _ _ ?_
    | refine h.rdP2 _ _ ?_
    | refine h.rdL2 _ _ ?_
    | refine h.st2 _ _ fun w' h => ?_
    | refine h.st _ fun w' h => ?_
    | refine h.rdvI ?_
    | refine h.rdvB ?_
    | refine h.rdvP ?_
    | refine h.rdvL ?_
    | refine h.rdvT ?_
    | (refine h.rdG ?_; (repeat (first | apply Exists.intro (α := Int) | apply Exists.intro (α := Bool) | apply Exists.intro (α := ByteArray) | (apply Exists.intro (α := Option Addr); apply Exists.intro (α := Nat); apply Exists.intro (α := Nat)) | apply Exists.intro (α := Option Addr) | apply Exists.intro (α := Value))); refine ⟨rfl, ?_⟩)
    | refine h.stG fun w' h => ?_
    | refine h.stV fun w' h => ?_
    | refine h.box fun p w' h => ?_
    | refine h.boxV fun p w' h => ?_
    | refine h.allocZ fun p w' h => ?_
    | refine h.allocZV fun p w' h => ?_
    | (refine RD.bld ?_; (repeat (first | apply Exists.intro (α := Int) | apply Exists.intro (α := Bool) | apply Exists.intro (α := ByteArray) | (apply Exists.intro (α := Option Addr); apply Exists.intro (α := Nat); apply Exists.intro (α := Nat)) | apply Exists.intro (α := Option Addr) | apply Exists.intro (α := Value))); refine ⟨rfl, ?_⟩)
    | (refine RDS.bld ?_; (repeat (first | apply Exists.intro (α := Int) | apply Exists.intro (α := Bool) | apply Exists.intro (α := ByteArray) | (apply Exists.intro (α := Option Addr); apply Exists.intro (α := Nat); apply Exists.intro (α := Nat)) | apply Exists.intro (α := Option Addr) | apply Exists.intro (α := Value))); refine ⟨rfl, ?_⟩)
    | refine St.rdsI _ ?_
    | refine St.rdsB _ ?_
    | refine St.rdsP _ ?_
    | refine St.rdsL _ ?_
    | refine St.rdsT _ ?_
    | refine St.rdsI2 _ _ ?_
    | refine St.rdsB2 _ _ ?_
    | (refine St.rdsG ?_; (repeat (first | apply Exists.intro (α := Int) | apply Exists.intro (α := Bool) | apply Exists.intro (α := ByteArray) | (apply Exists.intro (α := Option Addr); apply Exists.intro (α := Nat); apply Exists.intro (α := Nat)) | apply Exists.intro (α := Option Addr) | apply Exists.intro (α := Value))); refine ⟨rfl, ?_⟩)
    | refine letb rfl ?_
    | refine sat h ?_
    | (have h := h.drew; refine sat h ?_)
    | refine sat1 h (fun _ h => h.to) ?_)
  refine ifd (fun e => no (.inl (.inl e)) h) fun e1 => ?_
  repeat' (first
    | refine nilc ?_
    | refine h.rdI _ ?_
    | refine h.rdB _ ?_
    | refine h.rdP _ ?_
    | refine h.rdL _ ?_
    | refine h.rdT _ ?_
    | refine h.rdI2 _ _ ?_
    | refine h.rdB2 _ _ ?_
    | refine h.rdP2 _ _ ?_
    | refine h.rdL2 _ _ ?_
    | refine h.st2 _ _ fun w' h => ?_
    | refine h.st _ fun w' h => ?_
    | refine h.rdvI ?_
    | refine h.rdvB ?_
    | refine h.rdvP ?_
    | refine h.rdvL ?_
    | refine h.rdvT ?_
    | (refine h.rdG ?_; (repeat (first | apply Exists.intro (α := Int) | apply Exists.intro (α := Bool) | apply Exists.intro (α := ByteArray) | (apply Exists.intro (α := Option Addr); apply Exists.intro (α := Nat); apply Exists.intro (α := Nat)) | apply Exists.intro (α := Option Addr) | apply Exists.intro (α := Value))); refine ⟨rfl, ?_⟩)
    | refine h.stG fun w' h => ?_
    | refine h.stV fun w' h => ?_
    | refine h.box fun p w' h => ?_
    | refine h.boxV fun p w' h => ?_
    | refine h.allocZ fun p w' h => ?_
    | refine h.allocZV fun p w' h => ?_
    | (refine RD.bld ?_; (repeat (first | apply Exists.intro (α := Int) | apply Exists.intro (α := Bool) | apply Exists.intro (α := ByteArray) | (apply Exists.intro (α := Option Addr); apply Exists.intro (α := Nat); apply Exists.intro (α := Nat)) | apply Exists.intro (α := Option Addr) | apply Exists.intro (α := Value))); refine ⟨rfl, ?_⟩)
    | (refine RDS.bld ?_; (repeat (first | apply Exists.intro (α := Int) | apply Exists.intro (α := Bool) | apply Exists.intro (α := ByteArray) | (apply Exists.intro (α := Option Addr); apply Exists.intro (α := Nat); apply Exists.intro (α := Nat)) | apply Exists.intro (α := Option Addr) | apply Exists.intro (α := Value))); refine ⟨rfl, ?_⟩)
    | refine St.rdsI _ ?_
    | refine St.rdsB _ ?_
    | refine St.rdsP _ ?_
    | refine St.rdsL _ ?_
    | refine St.rdsT _ ?_
    | refine St.rdsI2 _ _ ?_
    | refine St.rdsB2 _ _ ?_
    | (refine St.rdsG ?_; (repeat (first | apply Exists.intro (α := Int) | apply Exists.intro (α := Bool) | apply Exists.intro (α := ByteArray) | (apply Exists.intro (α := Option Addr); apply Exists.intro (α := Nat); apply Exists.intro (α := Nat)) | apply Exists.intro (α := Option Addr) | apply Exists.intro (α := Value))); refine ⟨rfl, ?_⟩)
    | refine letb rfl ?_
    | refine sat h ?_
    | (have h := h.drew; refine sat h ?_)
    | refine sat1 h (fun _ h => h.to) ?_)
  refine ifd (fun e => no (.inl (.inr (.inl e))) h) fun e2 => ?_
  repeat' (first
    | refine nilc ?_
    | refine h.rdI _ ?_
    | refine h.rdB _ ?_
    | refine h.rdP _ ?_
    | refine h.rdL _ ?_
    | refine h.rdT _ ?_
    | refine h.rdI2 _ _ ?_
    | refine h.rdB2 _ _ ?_
    | refine h.rdP2 _ _ ?_
    | refine h.rdL2 _ _ ?_
    | refine h.st2 _ _ fun w' h => ?_
    | refine h.st _ fun w' h => ?_
    | refine h.rdvI ?_
    | refine h.rdvB ?_
    | refine h.rdvP ?_
    | refine h.rdvL ?_
    | refine h.rdvT ?_
    | (refine h.rdG ?_; (repeat (first | apply Exists.intro (α := Int) | apply Exists.intro (α := Bool) | apply Exists.intro (α := ByteArray) | (apply Exists.intro (α := Option Addr); apply Exists.intro (α := Nat); apply Exists.intro (α := Nat)) | apply Exists.intro (α := Option Addr) | apply Exists.intro (α := Value))); refine ⟨rfl, ?_⟩)
    | refine h.stG fun w' h => ?_
    | refine h.stV fun w' h => ?_
    | refine h.box fun p w' h => ?_
    | refine h.boxV fun p w' h => ?_
    | refine h.allocZ fun p w' h => ?_
    | refine h.allocZV fun p w' h => ?_
    | (refine RD.bld ?_; (repeat (first | apply Exists.intro (α := Int) | apply Exists.intro (α := Bool) | apply Exists.intro (α := ByteArray) | (apply Exists.intro (α := Option Addr); apply Exists.intro (α := Nat); apply Exists.intro (α := Nat)) | apply Exists.intro (α := Option Addr) | apply Exists.intro (α := Value))); refine ⟨rfl, ?_⟩)
    | (refine RDS.bld ?_; (repeat (first | apply Exists.intro (α := Int) | apply Exists.intro (α := Bool) | apply Exists.intro (α := ByteArray) | (apply Exists.intro (α := Option Addr); apply Exists.intro (α := Nat); apply Exists.intro (α := Nat)) | apply Exists.intro (α := Option Addr) | apply Exists.intro (α := Value))); refine ⟨rfl, ?_⟩)
    | refine St.rdsI _ ?_
    | refine St.rdsB _ ?_
    | refine St.rdsP _ ?_
    | refine St.rdsL _ ?_
    | refine St.rdsT _ ?_
    | refine St.rdsI2 _ _ ?_
    | refine St.rdsB2 _ _ ?_
    | (refine St.rdsG ?_; (repeat (first | apply Exists.intro (α := Int) | apply Exists.intro (α := Bool) | apply Exists.intro (α := ByteArray) | (apply Exists.intro (α := Option Addr); apply Exists.intro (α := Nat); apply Exists.intro (α := Nat)) | apply Exists.intro (α := Option Addr) | apply Exists.intro (α := Value))); refine ⟨rfl, ?_⟩)
    | refine letb rfl ?_
    | refine sat h ?_
    | (have h := h.drew; refine sat h ?_)
    | refine sat1 h (fun _ h => h.to) ?_)
  refine ifd (fun e => no (.inl (.inr (.inr (.inl e)))) h) fun e3 => ?_
  repeat' (first
    | refine nilc ?_
    | refine h.rdI _ ?_
    | refine h.rdB _ ?_
    | refine h.rdP _ ?_
    | refine h.rdL _ ?_
    | refine h.rdT _ ?_
    | refine h.rdI2 _ _ ?_
    | refine h.rdB2 _ _ ?_
    | refine h.rdP2 _ _ ?_
    | refine h.rdL2 _ _ ?_
    | refine h.st2 _ _ fun w' h => ?_
    | refine h.st _ fun w' h => ?_
    | refine h.rdvI ?_
    | refine h.rdvB ?_
    | refine h.rdvP ?_
    | refine h.rdvL ?_
    | refine h.rdvT ?_
    | (refine h.rdG ?_; (repeat (first | apply Exists.intro (α := Int) | apply Exists.intro (α := Bool) | apply Exists.intro (α := ByteArray) | (apply Exists.intro (α := Option Addr); apply Exists.intro (α := Nat); apply Exists.intro (α := Nat)) | apply Exists.intro (α := Option Addr) | apply Exists.intro (α := Value))); refine ⟨rfl, ?_⟩)
    | refine h.stG fun w' h => ?_
    | refine h.stV fun w' h => ?_
    | refine h.box fun p w' h => ?_
    | refine h.boxV fun p w' h => ?_
    | refine h.allocZ fun p w' h => ?_
    | refine h.allocZV fun p w' h => ?_
    | (refine RD.bld ?_; (repeat (first | apply Exists.intro (α := Int) | apply Exists.intro (α := Bool) | apply Exists.intro (α := ByteArray) | (apply Exists.intro (α := Option Addr); apply Exists.intro (α := Nat); apply Exists.intro (α := Nat)) | apply Exists.intro (α := Option Addr) | apply Exists.intro (α := Value))); refine ⟨rfl, ?_⟩)
    | (refine RDS.bld ?_; (repeat (first | apply Exists.intro (α := Int) | apply Exists.intro (α := Bool) | apply Exists.intro (α := ByteArray) | (apply Exists.intro (α := Option Addr); apply Exists.intro (α := Nat); apply Exists.intro (α := Nat)) | apply Exists.intro (α := Option Addr) | apply Exists.intro (α := Value))); refine ⟨rfl, ?_⟩)
    | refine St.rdsI _ ?_
    | refine St.rdsB _ ?_
    | refine St.rdsP _ ?_
    | refine St.rdsL _ ?_
    | refine St.rdsT _ ?_
    | refine St.rdsI2 _ _ ?_
    | refine St.rdsB2 _ _ ?_
    | (refine St.rdsG ?_; (repeat (first | apply Exists.intro (α := Int) | apply Exists.intro (α := Bool) | apply Exists.intro (α := ByteArray) | (apply Exists.intro (α := Option Addr); apply Exists.intro (α := Nat); apply Exists.intro (α := Nat)) | apply Exists.intro (α := Option Addr) | apply Exists.intro (α := Value))); refine ⟨rfl, ?_⟩)
    | refine letb rfl ?_
    | refine sat h ?_
    | (have h := h.drew; refine sat h ?_)
    | refine sat1 h (fun _ h => h.to) ?_)
  refine ifd (fun e => no (.inl (.inr (.inr (.inr e)))) h) fun e4 => ?_
  repeat' (first
    | refine nilc ?_
    | refine h.rdI _ ?_
    | refine h.rdB _ ?_
    | refine h.rdP _ ?_
    | refine h.rdL _ ?_
    | refine h.rdT _ ?_
    | refine h.rdI2 _ _ ?_
    | refine h.rdB2 _ _ ?_
    | refine h.rdP2 _ _ ?_
    | refine h.rdL2 _ _ ?_
    | refine h.st2 _ _ fun w' h => ?_
    | refine h.st _ fun w' h => ?_
    | refine h.rdvI ?_
    | refine h.rdvB ?_
    | refine h.rdvP ?_
    | refine h.rdvL ?_
    | refine h.rdvT ?_
    | (refine h.rdG ?_; (repeat (first | apply Exists.intro (α := Int) | apply Exists.intro (α := Bool) | apply Exists.intro (α := ByteArray) | (apply Exists.intro (α := Option Addr); apply Exists.intro (α := Nat); apply Exists.intro (α := Nat)) | apply Exists.intro (α := Option Addr) | apply Exists.intro (α := Value))); refine ⟨rfl, ?_⟩)
    | refine h.stG fun w' h => ?_
    | refine h.stV fun w' h => ?_
    | refine h.box fun p w' h => ?_
    | refine h.boxV fun p w' h => ?_
    | refine h.allocZ fun p w' h => ?_
    | refine h.allocZV fun p w' h => ?_
    | (refine RD.bld ?_; (repeat (first | apply Exists.intro (α := Int) | apply Exists.intro (α := Bool) | apply Exists.intro (α := ByteArray) | (apply Exists.intro (α := Option Addr); apply Exists.intro (α := Nat); apply Exists.intro (α := Nat)) | apply Exists.intro (α := Option Addr) | apply Exists.intro (α := Value))); refine ⟨rfl, ?_⟩)
    | (refine RDS.bld ?_; (repeat (first | apply Exists.intro (α := Int) | apply Exists.intro (α := Bool) | apply Exists.intro (α := ByteArray) | (apply Exists.intro (α := Option Addr); apply Exists.intro (α := Nat); apply Exists.intro (α := Nat)) | apply Exists.intro (α := Option Addr) | apply Exists.intro (α := Value))); refine ⟨rfl, ?_⟩)
    | refine St.rdsI _ ?_
    | refine St.rdsB _ ?_
    | refine St.rdsP _ ?_
    | refine St.rdsL _ ?_
    | refine St.rdsT _ ?_
    | refine St.rdsI2 _ _ ?_
    | refine St.rdsB2 _ _ ?_
    | (refine St.rdsG ?_; (repeat (first | apply Exists.intro (α := Int) | apply Exists.intro (α := Bool) | apply Exists.intro (α := ByteArray) | (apply Exists.intro (α := Option Addr); apply Exists.intro (α := Nat); apply Exists.intro (α := Nat)) | apply Exists.intro (α := Option Addr) | apply Exists.intro (α := Value))); refine ⟨rfl, ?_⟩)
    | refine letb rfl ?_
    | refine sat h ?_
    | (have h := h.drew; refine sat h ?_)
    | refine sat1 h (fun _ h => h.to) ?_)
  refine hasA_ok h (a := a) (RdIn.own (.tail (.tail (.tail .head)))) hl fun w' h => ?_
  (repeat (first | apply Exists.intro (α := Int) | apply Exists.intro (α := Bool) | apply Exists.intro (α := ByteArray) | (apply Exists.intro (α := Option Addr); apply Exists.intro (α := Nat); apply Exists.intro (α := Nat)) | apply Exists.intro (α := Option Addr) | apply Exists.intro (α := Value)))
  refine ⟨rfl, ?_⟩
  refine ifb (fun e => no (.inr e) h) fun e5 => ?_
  rw [if_neg (by unfold badA; rw [e5]; simp; omega)] at hk
  clear no
  repeat' (first
    | refine nilc ?_
    | refine h.rdI _ ?_
    | refine h.rdB _ ?_
    | refine h.rdP _ ?_
    | refine h.rdL _ ?_
    | refine h.rdT _ ?_
    | refine h.rdI2 _ _ ?_
    | refine h.rdB2 _ _ ?_
    | refine h.rdP2 _ _ ?_
    | refine h.rdL2 _ _ ?_
    | refine h.st2 _ _ fun w' h => ?_
    | refine h.st _ fun w' h => ?_
    | refine h.rdvI ?_
    | refine h.rdvB ?_
    | refine h.rdvP ?_
    | refine h.rdvL ?_
    | refine h.rdvT ?_
    | (refine h.rdG ?_; (repeat (first | apply Exists.intro (α := Int) | apply Exists.intro (α := Bool) | apply Exists.intro (α := ByteArray) | (apply Exists.intro (α := Option Addr); apply Exists.intro (α := Nat); apply Exists.intro (α := Nat)) | apply Exists.intro (α := Option Addr) | apply Exists.intro (α := Value))); refine ⟨rfl, ?_⟩)
    | refine h.stG fun w' h => ?_
    | refine h.stV fun w' h => ?_
    | refine h.box fun p w' h => ?_
    | refine h.boxV fun p w' h => ?_
    | refine h.allocZ fun p w' h => ?_
    | refine h.allocZV fun p w' h => ?_
    | (refine RD.bld ?_; (repeat (first | apply Exists.intro (α := Int) | apply Exists.intro (α := Bool) | apply Exists.intro (α := ByteArray) | (apply Exists.intro (α := Option Addr); apply Exists.intro (α := Nat); apply Exists.intro (α := Nat)) | apply Exists.intro (α := Option Addr) | apply Exists.intro (α := Value))); refine ⟨rfl, ?_⟩)
    | (refine RDS.bld ?_; (repeat (first | apply Exists.intro (α := Int) | apply Exists.intro (α := Bool) | apply Exists.intro (α := ByteArray) | (apply Exists.intro (α := Option Addr); apply Exists.intro (α := Nat); apply Exists.intro (α := Nat)) | apply Exists.intro (α := Option Addr) | apply Exists.intro (α := Value))); refine ⟨rfl, ?_⟩)
    | refine St.rdsI _ ?_
    | refine St.rdsB _ ?_
    | refine St.rdsP _ ?_
    | refine St.rdsL _ ?_
    | refine St.rdsT _ ?_
    | refine St.rdsI2 _ _ ?_
    | refine St.rdsB2 _ _ ?_
    | (refine St.rdsG ?_; (repeat (first | apply Exists.intro (α := Int) | apply Exists.intro (α := Bool) | apply Exists.intro (α := ByteArray) | (apply Exists.intro (α := Option Addr); apply Exists.intro (α := Nat); apply Exists.intro (α := Nat)) | apply Exists.intro (α := Option Addr) | apply Exists.intro (α := Value))); refine ⟨rfl, ?_⟩)
    | refine letb rfl ?_
    | refine sat h ?_
    | (have h := h.drew; refine sat h ?_)
    | refine sat1 h (fun _ h => h.to) ?_)
  refine acixf_ok h (pr := idA a.id) (RdIn.own (.tail (.tail (.tail .head)))) (by omega) (fun x w Q h hk => callvT tabOk (by kernel_rfl) (addf_ok h .head hk)) fun w' h => ?_
  (repeat (first | apply Exists.intro (α := Int) | apply Exists.intro (α := Bool) | apply Exists.intro (α := ByteArray) | (apply Exists.intro (α := Option Addr); apply Exists.intro (α := Nat); apply Exists.intro (α := Nat)) | apply Exists.intro (α := Option Addr) | apply Exists.intro (α := Value)))
  refine ⟨rfl, ?_⟩
  refine leti rfl ?_
  unfold ixI
  by_cases hix : l.findIdx (idA a.id) < l.length
  · rw [if_pos hix] at hk ⊢
    refine ⟨fun w' => 16 ≤ tok ∧ St c w' (Br.blk q 24 (ad a) :: Br.blk p 30 [.pointer (some ⟨bk, 0, none⟩), .int .i64 most, .int .i64 paths, .slice A l.length k] :: Br.blk bk 127 [.int .i64 64, .int .i64 1, .int .i64 (tok - 16)] :: Br.own 24 2 A l.length k (l.flatMap ad) :: R), ?_, ?_⟩
    · refine ifdf (by omega) ?_
      have h := h.drew
      refine hear_ok h (.tail .head) (.tail .head) h0 h1 (fun hlt w' h => ?_) fun hge w' h => ?_
      · (repeat (first | apply Exists.intro (α := Int) | apply Exists.intro (α := Bool) | apply Exists.intro (α := ByteArray) | (apply Exists.intro (α := Option Addr); apply Exists.intro (α := Nat); apply Exists.intro (α := Nat)) | apply Exists.intro (α := Option Addr) | apply Exists.intro (α := Value)))
        refine ⟨rfl, ?_⟩
        rw [if_pos hlt] at hk
        exact ift rfl (hk _ (St.tblC h.to))
      · (repeat (first | apply Exists.intro (α := Int) | apply Exists.intro (α := Bool) | apply Exists.intro (α := ByteArray) | (apply Exists.intro (α := Option Addr); apply Exists.intro (α := Nat); apply Exists.intro (α := Nat)) | apply Exists.intro (α := Option Addr) | apply Exists.intro (α := Value)))
        refine ⟨rfl, ?_⟩
        exact iff_ rfl ⟨hge, h.to⟩
    clear h
    rintro w' ⟨hge, h⟩
    rw [if_neg (by omega)] at hk
    obtain ⟨x, hx⟩ := ex_get (L := l) (j := l.findIdx (idA a.id)) hix
    refine ifdt (by omega) ?_
    have h := h.drew
    repeat' (first
      | refine nilc ?_
      | refine h.rdI _ ?_
      | refine h.rdB _ ?_
      | refine h.rdP _ ?_
      | refine h.rdL _ ?_
      | refine h.rdT _ ?_
      | refine h.rdI2 _ _ ?_
      | refine h.rdB2 _ _ ?_
      | refine h.rdP2 _ _ ?_
      | refine h.rdL2 _ _ ?_
      | refine h.st2 _ _ fun w' h => ?_
      | refine h.st _ fun w' h => ?_
      | refine h.rdvI ?_
      | refine h.rdvB ?_
      | refine h.rdvP ?_
      | refine h.rdvL ?_
      | refine h.rdvT ?_
      | (refine h.rdG ?_; (repeat (first | apply Exists.intro (α := Int) | apply Exists.intro (α := Bool) | apply Exists.intro (α := ByteArray) | (apply Exists.intro (α := Option Addr); apply Exists.intro (α := Nat); apply Exists.intro (α := Nat)) | apply Exists.intro (α := Option Addr) | apply Exists.intro (α := Value))); refine ⟨rfl, ?_⟩)
      | refine h.stG fun w' h => ?_
      | refine h.stV fun w' h => ?_
      | refine h.box fun p w' h => ?_
      | refine h.boxV fun p w' h => ?_
      | refine h.allocZ fun p w' h => ?_
      | refine h.allocZV fun p w' h => ?_
      | (refine RD.bld ?_; (repeat (first | apply Exists.intro (α := Int) | apply Exists.intro (α := Bool) | apply Exists.intro (α := ByteArray) | (apply Exists.intro (α := Option Addr); apply Exists.intro (α := Nat); apply Exists.intro (α := Nat)) | apply Exists.intro (α := Option Addr) | apply Exists.intro (α := Value))); refine ⟨rfl, ?_⟩)
      | (refine RDS.bld ?_; (repeat (first | apply Exists.intro (α := Int) | apply Exists.intro (α := Bool) | apply Exists.intro (α := ByteArray) | (apply Exists.intro (α := Option Addr); apply Exists.intro (α := Nat); apply Exists.intro (α := Nat)) | apply Exists.intro (α := Option Addr) | apply Exists.intro (α := Value))); refine ⟨rfl, ?_⟩)
      | refine St.rdsI _ ?_
      | refine St.rdsB _ ?_
      | refine St.rdsP _ ?_
      | refine St.rdsL _ ?_
      | refine St.rdsT _ ?_
      | refine St.rdsI2 _ _ ?_
      | refine St.rdsB2 _ _ ?_
      | (refine St.rdsG ?_; (repeat (first | apply Exists.intro (α := Int) | apply Exists.intro (α := Bool) | apply Exists.intro (α := ByteArray) | (apply Exists.intro (α := Option Addr); apply Exists.intro (α := Nat); apply Exists.intro (α := Nat)) | apply Exists.intro (α := Option Addr) | apply Exists.intro (α := Value))); refine ⟨rfl, ?_⟩)
      | refine letb rfl ?_
      | refine sat h ?_
      | (have h := h.drew; refine sat h ?_)
      | refine sat1 h (fun _ h => h.to) ?_)
    refine h.ix (z := 1) (RdIn.own (.tail (.tail (.tail .head)))) hx fun b hb => ?_
    subst hb
    refine h.stE (.tail (.tail (.tail .head))) hix a (ad_flat1 a) fun w' h => ?_
    have hk := hk w'
    simp only at hk
    refine hk (St.tblC (A := some b) (k := k) ?_)
    rw [List.length_set]
    exact h.to
  · rw [if_neg hix] at hk ⊢
    refine ⟨fun w' => ¬ (most ≤ (l.length : Int) ∨ tok < 16) ∧ St c w' (Br.blk q 24 (ad a) :: Br.blk p 30 [.pointer (some ⟨bk, 0, none⟩), .int .i64 most, .int .i64 paths, .slice A l.length k] :: Br.blk bk 127 [.int .i64 64, .int .i64 1, .int .i64 (tok - 16)] :: Br.own 24 2 A l.length k (l.flatMap ad) :: R), ?_, ?_⟩
    · refine ifdt (by omega) ?_
      have h := h.drew
      repeat' (first
        | refine nilc ?_
        | refine h.rdI _ ?_
        | refine h.rdB _ ?_
        | refine h.rdP _ ?_
        | refine h.rdL _ ?_
        | refine h.rdT _ ?_
        | refine h.rdI2 _ _ ?_
        | refine h.rdB2 _ _ ?_
        | refine h.rdP2 _ _ ?_
        | refine h.rdL2 _ _ ?_
        | refine h.st2 _ _ fun w' h => ?_
        | refine h.st _ fun w' h => ?_
        | refine h.rdvI ?_
        | refine h.rdvB ?_
        | refine h.rdvP ?_
        | refine h.rdvL ?_
        | refine h.rdvT ?_
        | (refine h.rdG ?_; (repeat (first | apply Exists.intro (α := Int) | apply Exists.intro (α := Bool) | apply Exists.intro (α := ByteArray) | (apply Exists.intro (α := Option Addr); apply Exists.intro (α := Nat); apply Exists.intro (α := Nat)) | apply Exists.intro (α := Option Addr) | apply Exists.intro (α := Value))); refine ⟨rfl, ?_⟩)
        | refine h.stG fun w' h => ?_
        | refine h.stV fun w' h => ?_
        | refine h.box fun p w' h => ?_
        | refine h.boxV fun p w' h => ?_
        | refine h.allocZ fun p w' h => ?_
        | refine h.allocZV fun p w' h => ?_
        | (refine RD.bld ?_; (repeat (first | apply Exists.intro (α := Int) | apply Exists.intro (α := Bool) | apply Exists.intro (α := ByteArray) | (apply Exists.intro (α := Option Addr); apply Exists.intro (α := Nat); apply Exists.intro (α := Nat)) | apply Exists.intro (α := Option Addr) | apply Exists.intro (α := Value))); refine ⟨rfl, ?_⟩)
        | (refine RDS.bld ?_; (repeat (first | apply Exists.intro (α := Int) | apply Exists.intro (α := Bool) | apply Exists.intro (α := ByteArray) | (apply Exists.intro (α := Option Addr); apply Exists.intro (α := Nat); apply Exists.intro (α := Nat)) | apply Exists.intro (α := Option Addr) | apply Exists.intro (α := Value))); refine ⟨rfl, ?_⟩)
        | refine St.rdsI _ ?_
        | refine St.rdsB _ ?_
        | refine St.rdsP _ ?_
        | refine St.rdsL _ ?_
        | refine St.rdsT _ ?_
        | refine St.rdsI2 _ _ ?_
        | refine St.rdsB2 _ _ ?_
        | (refine St.rdsG ?_; (repeat (first | apply Exists.intro (α := Int) | apply Exists.intro (α := Bool) | apply Exists.intro (α := ByteArray) | (apply Exists.intro (α := Option Addr); apply Exists.intro (α := Nat); apply Exists.intro (α := Nat)) | apply Exists.intro (α := Option Addr) | apply Exists.intro (α := Value))); refine ⟨rfl, ?_⟩)
        | refine letb rfl ?_
        | refine sat h ?_
        | (have h := h.drew; refine sat h ?_)
        | refine sat1 h (fun _ h => h.to) ?_)
      refine ifd (fun hf => ?_) fun hf => ?_
      · rw [if_pos (.inl (by omega))] at hk
        exact hk _ (h.drop.tblC)
      · refine hear_ok h (.tail .head) (.tail .head) h0 h1 (fun hlt w' h => ?_) fun hge w' h => ?_
        · (repeat (first | apply Exists.intro (α := Int) | apply Exists.intro (α := Bool) | apply Exists.intro (α := ByteArray) | (apply Exists.intro (α := Option Addr); apply Exists.intro (α := Nat); apply Exists.intro (α := Nat)) | apply Exists.intro (α := Option Addr) | apply Exists.intro (α := Value)))
          refine ⟨rfl, ?_⟩
          rw [if_pos (.inr hlt)] at hk
          exact ift rfl (hk _ (St.tblC h.to))
        · (repeat (first | apply Exists.intro (α := Int) | apply Exists.intro (α := Bool) | apply Exists.intro (α := ByteArray) | (apply Exists.intro (α := Option Addr); apply Exists.intro (α := Nat); apply Exists.intro (α := Nat)) | apply Exists.intro (α := Option Addr) | apply Exists.intro (α := Value)))
          refine ⟨rfl, ?_⟩
          exact iff_ rfl ⟨by omega, h.to⟩
    clear h
    rintro w' ⟨hno, h⟩
    rw [if_neg hno] at hk
    refine ifdf (by omega) ?_
    have h := h.drew
    refine sat (h.to : St c _ (Br.blk q 24 (ad a) :: Br.blk p 30 [.pointer (some ⟨bk, 0, none⟩), .int .i64 most, .int .i64 paths, .slice A l.length k] :: Br.blk bk 127 [.int .i64 64, .int .i64 1, .int .i64 (tok - 16)] :: R)) ?_
    refine nilc (St.rdsL 3 ?_)
    refine St.rdsG ?_
    (repeat (first | apply Exists.intro (α := Int) | apply Exists.intro (α := Bool) | apply Exists.intro (α := ByteArray) | (apply Exists.intro (α := Option Addr); apply Exists.intro (α := Nat); apply Exists.intro (α := Nat)) | apply Exists.intro (α := Option Addr) | apply Exists.intro (α := Value)))
    refine ⟨rfl, ?_⟩
    refine h.lit (n := 1) 24 2 ([a].flatMap ad) fun q2 w' h => ?_
    refine sat1 (h.to : St c _ (Br.blk q 24 (ad a) :: Br.blk p 30 [.pointer (some ⟨bk, 0, none⟩), .int .i64 most, .int .i64 paths, .slice A l.length k] :: Br.blk bk 127 [.int .i64 64, .int .i64 1, .int .i64 (tok - 16)] :: R)) (fun _ h => h) ?_
    refine h.append huAd tiAd (.tail (.tail (.tail (.tail .head)))) (RdIn.own .head) (m := 1) rfl (ad_flat _) (by omega) fun O d w' h => ?_
    repeat' (first
      | refine nilc ?_
      | refine h.rdI _ ?_
      | refine h.rdB _ ?_
      | refine h.rdP _ ?_
      | refine h.rdL _ ?_
      | refine h.rdT _ ?_
      | refine h.rdI2 _ _ ?_
      | refine h.rdB2 _ _ ?_
      | refine h.rdP2 _ _ ?_
      | refine h.rdL2 _ _ ?_
      | refine h.st2 _ _ fun w' h => ?_
      | refine h.st _ fun w' h => ?_
      | refine h.rdvI ?_
      | refine h.rdvB ?_
      | refine h.rdvP ?_
      | refine h.rdvL ?_
      | refine h.rdvT ?_
      | (refine h.rdG ?_; (repeat (first | apply Exists.intro (α := Int) | apply Exists.intro (α := Bool) | apply Exists.intro (α := ByteArray) | (apply Exists.intro (α := Option Addr); apply Exists.intro (α := Nat); apply Exists.intro (α := Nat)) | apply Exists.intro (α := Option Addr) | apply Exists.intro (α := Value))); refine ⟨rfl, ?_⟩)
      | refine h.stG fun w' h => ?_
      | refine h.stV fun w' h => ?_
      | refine h.box fun p w' h => ?_
      | refine h.boxV fun p w' h => ?_
      | refine h.allocZ fun p w' h => ?_
      | refine h.allocZV fun p w' h => ?_
      | (refine RD.bld ?_; (repeat (first | apply Exists.intro (α := Int) | apply Exists.intro (α := Bool) | apply Exists.intro (α := ByteArray) | (apply Exists.intro (α := Option Addr); apply Exists.intro (α := Nat); apply Exists.intro (α := Nat)) | apply Exists.intro (α := Option Addr) | apply Exists.intro (α := Value))); refine ⟨rfl, ?_⟩)
      | (refine RDS.bld ?_; (repeat (first | apply Exists.intro (α := Int) | apply Exists.intro (α := Bool) | apply Exists.intro (α := ByteArray) | (apply Exists.intro (α := Option Addr); apply Exists.intro (α := Nat); apply Exists.intro (α := Nat)) | apply Exists.intro (α := Option Addr) | apply Exists.intro (α := Value))); refine ⟨rfl, ?_⟩)
      | refine St.rdsI _ ?_
      | refine St.rdsB _ ?_
      | refine St.rdsP _ ?_
      | refine St.rdsL _ ?_
      | refine St.rdsT _ ?_
      | refine St.rdsI2 _ _ ?_
      | refine St.rdsB2 _ _ ?_
      | (refine St.rdsG ?_; (repeat (first | apply Exists.intro (α := Int) | apply Exists.intro (α := Bool) | apply Exists.intro (α := ByteArray) | (apply Exists.intro (α := Option Addr); apply Exists.intro (α := Nat); apply Exists.intro (α := Nat)) | apply Exists.intro (α := Option Addr) | apply Exists.intro (α := Value))); refine ⟨rfl, ?_⟩)
      | refine letb rfl ?_
      | refine sat h ?_
      | (have h := h.drew; refine sat h ?_)
      | refine sat1 h (fun _ h => h.to) ?_)
    have hk := hk w'
    simp only at hk
    refine hk (St.tblC (A := O) (k := d) ?_)
    rw [List.flatMap_append, List.length_append, List.length_singleton]
    exact h.to
theorem agone_ok (h : St c w L) {p bk : Nat} {most paths tok : Int} {l : List Ad} {id : Int} (hp : Pick (tbl p bk most paths tok l) L R) (hl : l.length ≤ 1000) {Q : Value → World → Prop}
    (hk : ∀ w', St c w' (tbl p bk most paths tok (goneA l id).1 :: R) → Q (.bool (goneA l id).2) w') : CALL PG 16 [.pointer (some ⟨p, 0, none⟩), .int .i64 id] w Q := by
  obtain ⟨A, k, h⟩ := (h.pick hp).tblO
  unfold goneA at hk
  refine call16 ?_
  unfold N16
  repeat' (first
    | refine nilc ?_
    | refine h.rdI _ ?_
    | refine h.rdB _ ?_
    | refine h.rdP _ ?_
    | refine h.rdL _ ?_
    | refine h.rdT _ ?_
    | refine h.rdI2 _ _ ?_
    | refine h.rdB2 _ _ ?_
    | refine h.rdP2 _ _ ?_
    | refine h.rdL2 _ _ ?_
    | refine h.st2 _ _ fun w' h => ?_
    | refine h.st _ fun w' h => ?_
    | refine h.rdvI ?_
    | refine h.rdvB ?_
    | refine h.rdvP ?_
    | refine h.rdvL ?_
    | refine h.rdvT ?_
    | (refine h.rdG ?_; (repeat (first | apply Exists.intro (α := Int) | apply Exists.intro (α := Bool) | apply Exists.intro (α := ByteArray) | (apply Exists.intro (α := Option Addr); apply Exists.intro (α := Nat); apply Exists.intro (α := Nat)) | apply Exists.intro (α := Option Addr) | apply Exists.intro (α := Value))); refine ⟨rfl, ?_⟩)
    | refine h.stG fun w' h => ?_
    | refine h.stV fun w' h => ?_
    | refine h.box fun p w' h => ?_
    | refine h.boxV fun p w' h => ?_
    | refine h.allocZ fun p w' h => ?_
    | refine h.allocZV fun p w' h => ?_
    | (refine RD.bld ?_; (repeat (first | apply Exists.intro (α := Int) | apply Exists.intro (α := Bool) | apply Exists.intro (α := ByteArray) | (apply Exists.intro (α := Option Addr); apply Exists.intro (α := Nat); apply Exists.intro (α := Nat)) | apply Exists.intro (α := Option Addr) | apply Exists.intro (α := Value))); refine ⟨rfl, ?_⟩)
    | (refine RDS.bld ?_; (repeat (first | apply Exists.intro (α := Int) | apply Exists.intro (α := Bool) | apply Exists.intro (α := ByteArray) | (apply Exists.intro (α := Option Addr); apply Exists.intro (α := Nat); apply Exists.intro (α := Nat)) | apply Exists.intro (α := Option Addr) | apply Exists.intro (α := Value))); refine ⟨rfl, ?_⟩)
    | refine St.rdsI _ ?_
    | refine St.rdsB _ ?_
    | refine St.rdsP _ ?_
    | refine St.rdsL _ ?_
    | refine St.rdsT _ ?_
    | refine St.rdsI2 _ _ ?_
    | refine St.rdsB2 _ _ ?_
    | (refine St.rdsG ?_; (repeat (first | apply Exists.intro (α := Int) | apply Exists.intro (α := Bool) | apply Exists.intro (α := ByteArray) | (apply Exists.intro (α := Option Addr); apply Exists.intro (α := Nat); apply Exists.intro (α := Nat)) | apply Exists.intro (α := Option Addr) | apply Exists.intro (α := Value))); refine ⟨rfl, ?_⟩)
    | refine letb rfl ?_
    | refine sat h ?_
    | (have h := h.drew; refine sat h ?_)
    | refine sat1 h (fun _ h => h.to) ?_)
  refine acixf_ok h (pr := idA id) (RdIn.own (.tail (.tail (.tail .head)))) (by omega) (fun x w Q h hk => callvT tabOk (by kernel_rfl) (gonef_ok h .head hk)) fun w' h => ?_
  (repeat (first | apply Exists.intro (α := Int) | apply Exists.intro (α := Bool) | apply Exists.intro (α := ByteArray) | (apply Exists.intro (α := Option Addr); apply Exists.intro (α := Nat); apply Exists.intro (α := Nat)) | apply Exists.intro (α := Option Addr) | apply Exists.intro (α := Value)))
  refine ⟨rfl, ?_⟩
  refine leti rfl ?_
  unfold ixI
  by_cases hix : l.findIdx (idA id) < l.length
  · rw [if_pos hix] at hk ⊢
    refine ifdf (by omega) ?_
    repeat' (first
      | refine nilc ?_
      | refine h.rdI _ ?_
      | refine h.rdB _ ?_
      | refine h.rdP _ ?_
      | refine h.rdL _ ?_
      | refine h.rdT _ ?_
      | refine h.rdI2 _ _ ?_
      | refine h.rdB2 _ _ ?_
      | refine h.rdP2 _ _ ?_
      | refine h.rdL2 _ _ ?_
      | refine h.st2 _ _ fun w' h => ?_
      | refine h.st _ fun w' h => ?_
      | refine h.rdvI ?_
      | refine h.rdvB ?_
      | refine h.rdvP ?_
      | refine h.rdvL ?_
      | refine h.rdvT ?_
      | (refine h.rdG ?_; (repeat (first | apply Exists.intro (α := Int) | apply Exists.intro (α := Bool) | apply Exists.intro (α := ByteArray) | (apply Exists.intro (α := Option Addr); apply Exists.intro (α := Nat); apply Exists.intro (α := Nat)) | apply Exists.intro (α := Option Addr) | apply Exists.intro (α := Value))); refine ⟨rfl, ?_⟩)
      | refine h.stG fun w' h => ?_
      | refine h.stV fun w' h => ?_
      | refine h.box fun p w' h => ?_
      | refine h.boxV fun p w' h => ?_
      | refine h.allocZ fun p w' h => ?_
      | refine h.allocZV fun p w' h => ?_
      | (refine RD.bld ?_; (repeat (first | apply Exists.intro (α := Int) | apply Exists.intro (α := Bool) | apply Exists.intro (α := ByteArray) | (apply Exists.intro (α := Option Addr); apply Exists.intro (α := Nat); apply Exists.intro (α := Nat)) | apply Exists.intro (α := Option Addr) | apply Exists.intro (α := Value))); refine ⟨rfl, ?_⟩)
      | (refine RDS.bld ?_; (repeat (first | apply Exists.intro (α := Int) | apply Exists.intro (α := Bool) | apply Exists.intro (α := ByteArray) | (apply Exists.intro (α := Option Addr); apply Exists.intro (α := Nat); apply Exists.intro (α := Nat)) | apply Exists.intro (α := Option Addr) | apply Exists.intro (α := Value))); refine ⟨rfl, ?_⟩)
      | refine St.rdsI _ ?_
      | refine St.rdsB _ ?_
      | refine St.rdsP _ ?_
      | refine St.rdsL _ ?_
      | refine St.rdsT _ ?_
      | refine St.rdsI2 _ _ ?_
      | refine St.rdsB2 _ _ ?_
      | (refine St.rdsG ?_; (repeat (first | apply Exists.intro (α := Int) | apply Exists.intro (α := Bool) | apply Exists.intro (α := ByteArray) | (apply Exists.intro (α := Option Addr); apply Exists.intro (α := Nat); apply Exists.intro (α := Nat)) | apply Exists.intro (α := Option Addr) | apply Exists.intro (α := Value))); refine ⟨rfl, ?_⟩)
      | refine letb rfl ?_
      | refine sat h ?_
      | (have h := h.drew; refine sat h ?_)
      | refine sat1 h (fun _ h => h.to) ?_)
    rw [wrap_i64 (n := (l.findIdx (idA id) : Int) + 1) (by omega) (by omega), show (l.findIdx (idA id) : Int) + 1 = ((l.findIdx (idA id) + 1 : Nat) : Int) by omega]
    refine acdel_ok h (.tail (.tail (.tail .head))) hix (by omega) fun O d w' h => ?_
    (repeat (first | apply Exists.intro (α := Int) | apply Exists.intro (α := Bool) | apply Exists.intro (α := ByteArray) | (apply Exists.intro (α := Option Addr); apply Exists.intro (α := Nat); apply Exists.intro (α := Nat)) | apply Exists.intro (α := Option Addr) | apply Exists.intro (α := Value)))
    refine ⟨rfl, ?_⟩
    repeat' (first
      | refine nilc ?_
      | refine h.rdI _ ?_
      | refine h.rdB _ ?_
      | refine h.rdP _ ?_
      | refine h.rdL _ ?_
      | refine h.rdT _ ?_
      | refine h.rdI2 _ _ ?_
      | refine h.rdB2 _ _ ?_
      | refine h.rdP2 _ _ ?_
      | refine h.rdL2 _ _ ?_
      | refine h.st2 _ _ fun w' h => ?_
      | refine h.st _ fun w' h => ?_
      | refine h.rdvI ?_
      | refine h.rdvB ?_
      | refine h.rdvP ?_
      | refine h.rdvL ?_
      | refine h.rdvT ?_
      | (refine h.rdG ?_; (repeat (first | apply Exists.intro (α := Int) | apply Exists.intro (α := Bool) | apply Exists.intro (α := ByteArray) | (apply Exists.intro (α := Option Addr); apply Exists.intro (α := Nat); apply Exists.intro (α := Nat)) | apply Exists.intro (α := Option Addr) | apply Exists.intro (α := Value))); refine ⟨rfl, ?_⟩)
      | refine h.stG fun w' h => ?_
      | refine h.stV fun w' h => ?_
      | refine h.box fun p w' h => ?_
      | refine h.boxV fun p w' h => ?_
      | refine h.allocZ fun p w' h => ?_
      | refine h.allocZV fun p w' h => ?_
      | (refine RD.bld ?_; (repeat (first | apply Exists.intro (α := Int) | apply Exists.intro (α := Bool) | apply Exists.intro (α := ByteArray) | (apply Exists.intro (α := Option Addr); apply Exists.intro (α := Nat); apply Exists.intro (α := Nat)) | apply Exists.intro (α := Option Addr) | apply Exists.intro (α := Value))); refine ⟨rfl, ?_⟩)
      | (refine RDS.bld ?_; (repeat (first | apply Exists.intro (α := Int) | apply Exists.intro (α := Bool) | apply Exists.intro (α := ByteArray) | (apply Exists.intro (α := Option Addr); apply Exists.intro (α := Nat); apply Exists.intro (α := Nat)) | apply Exists.intro (α := Option Addr) | apply Exists.intro (α := Value))); refine ⟨rfl, ?_⟩)
      | refine St.rdsI _ ?_
      | refine St.rdsB _ ?_
      | refine St.rdsP _ ?_
      | refine St.rdsL _ ?_
      | refine St.rdsT _ ?_
      | refine St.rdsI2 _ _ ?_
      | refine St.rdsB2 _ _ ?_
      | (refine St.rdsG ?_; (repeat (first | apply Exists.intro (α := Int) | apply Exists.intro (α := Bool) | apply Exists.intro (α := ByteArray) | (apply Exists.intro (α := Option Addr); apply Exists.intro (α := Nat); apply Exists.intro (α := Nat)) | apply Exists.intro (α := Option Addr) | apply Exists.intro (α := Value))); refine ⟨rfl, ?_⟩)
      | refine letb rfl ?_
      | refine sat h ?_
      | (have h := h.drew; refine sat h ?_)
      | refine sat1 h (fun _ h => h.to) ?_)
    exact hk _ (St.tblC (A := O) (k := d) h.to)
  · rw [if_neg hix] at hk ⊢
    exact ifdt (by decide) (hk _ h.drop.tblC)
end
end Go.Br
