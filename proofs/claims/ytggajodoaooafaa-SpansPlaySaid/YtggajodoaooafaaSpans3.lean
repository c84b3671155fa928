/- A set of pieces: how many, what is there; the law's helpers. -/
import Derived.Test.YtggajodoaooafaaNSpans3
import Derived.Test.YtggajodoaooafaaSpans2
set_option linter.unusedVariables false
set_option linter.unusedSimpArgs false
set_option linter.unnecessarySimpa false
namespace Go.Br
open Go
instance biSpans3a : Zro PG 122 2 16 (.agg #[.int .u64 0, .int .u64 0]) := ⟨tiOf (by kernel_rfl)⟩
instance biSpans3b (x0 : Int) (x1 : Int) : Bld PG (Instr.build 133 #[(0, .int .u64 x0), (1, .int .u64 x1)]) (.agg #[.int .u64 x0, .int .u64 x1]) := ⟨fun w => by kernel_rfl⟩
attribute [local irreducible] Addr.add RD RDS RUN RUNU NILC LETB CALL CALLX CALLV

theorem tiRp : TI PG 133 2 16 (.agg #[.int .u64 0, .int .u64 0]) := tiOf (by kernel_rfl)
theorem huRp : PG.underlying 125 = some (.slice 133) := by kernel_rfl
theorem msr_snoc (S : List Sp) (x : Sp) : msr (S ++ [x]) = msr S + (x.t - x.f) := by simp [msr]
theorem sum_step {a d n : Int} (h : n = a % 18446744073709551616) : IntKind.u64.wrap (n + IntKind.u64.wrap d) = (a + d) % 18446744073709551616 := by
  rw [wrapU64, wrapU64]; omega
section
variable {c : Ctx} {w : World} {L R : List SA}
theorem smany_ok (h : St c w L) {p : Nat} {most : Int} {S : List Sp} (hp : Pick (sset p most S) L R) (hl : S.length ≤ 1000) {Q : Value → World → Prop} (hk : ∀ w', St c w' L → Q (.int .u64 (msr S % 18446744073709551616)) w') : CALL PG 54 [.pointer (some ⟨p, 0, none⟩)] w Q := by
  obtain ⟨A, k, h⟩ := (h.pick hp).setO
  have hk : ∀ w', St c w' (Br.blk p 191 [.int .i64 most, .slice A S.length k] :: Br.own 122 2 A S.length k (S.flatMap spn) :: R) → Q (.int .u64 (msr S % 18446744073709551616)) w' := fun w' h => hk w' (h.setC.back hp)
  refine call54 ?_
  unfold N54
  repeat' (first
    | refine nilc ?_
    | refine h.rdI _ ?_
    | refine h.rdB _ ?_
    | refine h.rdP _ ?_
    | refine h.rdL _ ?_
    | refine h.rdT _ ?_
    | refine h.rdI2 _ _ ?_
    | refine h.rdB2 _ _ ?_
    | refine h.rdP2 _ _ ?_
    | refine h.rdL2 _ _ ?_
    | refine h.st2 _ _ fun w' h => ?_
    | refine h.st _ fun w' h => ?_
    | refine h.rdvI ?_
    | refine h.rdvB ?_
    | refine h.rdvP ?_
    | refine h.rdvL ?_
    | refine h.rdvT ?_
    | (refine h.rdG ?_; (repeat (first | apply Exists.intro (α := Int) | apply Exists.intro (α := Bool) | apply Exists.intro (α := ByteArray) | (apply Exists.intro (α := Option Addr); apply Exists.intro (α := Nat); apply Exists.intro (α := Nat)) | apply Exists.intro (α := Option Addr) | apply Exists.intro (α := Value))); refine ⟨rfl, ?_⟩)
    | refine h.stG fun w' h => ?_
    | refine h.stV fun w' h => ?_
    | refine h.box fun p w' h => ?_
    | refine h.boxV fun p w' h => ?_
    | refine h.allocZ fun p w' h => ?_
    | refine h.allocZV fun p w' h => ?_
    | (refine RD.bld ?_; (repeat (first | apply Exists.intro (α := Int) | apply Exists.intro (α := Bool) | apply Exists.intro (α := ByteArray) | (apply Exists.intro (α := Option Addr); apply Exists.intro (α := Nat); apply Exists.intro (α := Nat)) | apply Exists.intro (α := Option Addr) | apply Exists.intro (α := Value))); refine ⟨rfl, ?_⟩)
    | (refine RDS.bld ?_; (repeat (first | apply Exists.intro (α := Int) | apply Exists.intro (α := Bool) | apply Exists.intro (α := ByteArray) | (apply Exists.intro (α := Option Addr); apply Exists.intro (α := Nat); apply Exists.intro (α := Nat)) | apply Exists.intro (α := Option Addr) | apply Exists.intro (α := Value))); refine ⟨rfl, ?_⟩)
    | refine St.rdsI _ ?_
    | refine St.rdsB _ ?_
    | refine St.rdsP _ ?_
    | refine St.rdsL _ ?_
    | refine St.rdsT _ ?_
    | refine St.rdsI2 _ _ ?_
    | refine St.rdsB2 _ _ ?_
    | (refine St.rdsG ?_; (repeat (first | apply Exists.intro (α := Int) | apply Exists.intro (α := Bool) | apply Exists.intro (α := ByteArray) | (apply Exists.intro (α := Option Addr); apply Exists.intro (α := Nat); apply Exists.intro (α := Nat)) | apply Exists.intro (α := Option Addr) | apply Exists.intro (α := Value))); refine ⟨rfl, ?_⟩)
    | refine letb rfl ?_
    | refine sat h ?_
    | (have h := h.drew; refine sat h ?_)
    | refine sat1 h (fun _ h => h.to) ?_)
  refine ⟨fun m n i w' => ∃ j : Nat, j + m = S.length ∧ i = (j : Int) ∧ n = msr (S.take j) % 18446744073709551616 ∧ St c w' _, ⟨S.length, 0, by omega, rfl, rfl, h⟩, ?_⟩
  clear h
  rintro m n _ w' ⟨j, hj, rfl, hn, h⟩
  refine ifd (fun hlt => ?_) fun hge => ?_
  · obtain ⟨x, hx⟩ := ex_get (L := S) (j := j) (by omega)
    refine h.ix (z := 1) (RdIn.own (.tail .head)) hx fun a ha => ?_
    subst ha
    refine h.rdEG (RdIn.own (.tail .head)) hx ?_
    (repeat (first | apply Exists.intro (α := Int) | apply Exists.intro (α := Bool) | apply Exists.intro (α := ByteArray) | (apply Exists.intro (α := Option Addr); apply Exists.intro (α := Nat); apply Exists.intro (α := Nat)) | apply Exists.intro (α := Option Addr) | apply Exists.intro (α := Value)))
    refine ⟨rfl, ?_⟩
    repeat' (first
      | refine nilc ?_
      | refine h.rdI _ ?_
      | refine h.rdB _ ?_
      | refine h.rdP _ ?_
      | refine h.rdL _ ?_
      | refine h.rdT _ ?_
      | refine h.rdI2 _ _ ?_
      | refine h.rdB2 _ _ ?_
      | refine h.rdP2 _ _ ?_
      | refine h.rdL2 _ _ ?_
      | refine h.st2 _ _ fun w' h => ?_
      | refine h.st _ fun w' h => ?_
      | refine h.rdvI ?_
      | refine h.rdvB ?_
      | refine h.rdvP ?_
      | refine h.rdvL ?_
      | refine h.rdvT ?_
      | (refine h.rdG ?_; (repeat (first | apply Exists.intro (α := Int) | apply Exists.intro (α := Bool) | apply Exists.intro (α := ByteArray) | (apply Exists.intro (α := Option Addr); apply Exists.intro (α := Nat); apply Exists.intro (α := Nat)) | apply Exists.intro (α := Option Addr) | apply Exists.intro (α := Value))); refine ⟨rfl, ?_⟩)
      | refine h.stG fun w' h => ?_
      | refine h.stV fun w' h => ?_
      | refine h.box fun p w' h => ?_
      | refine h.boxV fun p w' h => ?_
      | refine h.allocZ fun p w' h => ?_
      | refine h.allocZV fun p w' h => ?_
      | (refine RD.bld ?_; (repeat (first | apply Exists.intro (α := Int) | apply Exists.intro (α := Bool) | apply Exists.intro (α := ByteArray) | (apply Exists.intro (α := Option Addr); apply Exists.intro (α := Nat); apply Exists.intro (α := Nat)) | apply Exists.intro (α := Option Addr) | apply Exists.intro (α := Value))); refine ⟨rfl, ?_⟩)
      | (refine RDS.bld ?_; (repeat (first | apply Exists.intro (α := Int) | apply Exists.intro (α := Bool) | apply Exists.intro (α := ByteArray) | (apply Exists.intro (α := Option Addr); apply Exists.intro (α := Nat); apply Exists.intro (α := Nat)) | apply Exists.intro (α := Option Addr) | apply Exists.intro (α := Value))); refine ⟨rfl, ?_⟩)
      | refine St.rdsI _ ?_
      | refine St.rdsB _ ?_
      | refine St.rdsP _ ?_
      | refine St.rdsL _ ?_
      | refine St.rdsT _ ?_
      | refine St.rdsI2 _ _ ?_
      | refine St.rdsB2 _ _ ?_
      | (refine St.rdsG ?_; (repeat (first | apply Exists.intro (α := Int) | apply Exists.intro (α := Bool) | apply Exists.intro (α := ByteArray) | (apply Exists.intro (α := Option Addr); apply Exists.intro (α := Nat); apply Exists.intro (α := Nat)) | apply Exists.intro (α := Option Addr) | apply Exists.intro (α := Value))); refine ⟨rfl, ?_⟩)
      | refine letb rfl ?_
      | refine sat h ?_
      | (have h := h.drew; refine sat h ?_)
      | refine sat1 h (fun _ h => h.to) ?_)
    refine leti (sum_step hn) ⟨m - 1, by omega, j + 1, by omega, wrap_i64 (by omega) (by omega), ?_, h.drop⟩
    rw [take_snoc' hx, msr_snoc]
  · have : j = S.length := by omega
    subst this
    rw [List.take_length] at hn
    exact leti hn (hk _ h)
theorem shas_ok (h : St c w L) {p : Nat} {most : Int} {S : List Sp} {n : Int} (hp : Pick (sset p most S) L R) (hl : S.length ≤ 1000) {Q : Value → World → Prop} (hk : ∀ w', St c w' L → Q (.bool (decide (n < runS S n))) w') : CALL PG 56 [.pointer (some ⟨p, 0, none⟩), .int .u64 n] w Q := by
  refine call56 ?_
  unfold N56
  refine srun_ok h hp hl fun w' h => ?_
  (repeat (first | apply Exists.intro (α := Int) | apply Exists.intro (α := Bool) | apply Exists.intro (α := ByteArray) | (apply Exists.intro (α := Option Addr); apply Exists.intro (α := Nat); apply Exists.intro (α := Nat)) | apply Exists.intro (α := Option Addr) | apply Exists.intro (α := Value)))
  refine ⟨rfl, ?_⟩
  exact letb rfl (hk _ h)
theorem scovers_ok (h : St c w L) {p : Nat} {most : Int} {S : List Sp} {f t : Int} (hp : Pick (sset p most S) L R) (hl : S.length ≤ 1000) {Q : Value → World → Prop} (hk : ∀ w', St c w' L → Q (.bool (decide (t ≤ f ∨ t ≤ runS S f))) w') : CALL PG 57 [.pointer (some ⟨p, 0, none⟩), .int .u64 f, .int .u64 t] w Q := by
  refine call57 ?_
  unfold N57
  refine ifd (fun h1 => ?_) fun h1 => ?_
  · refine letb (y := decide (t ≤ f ∨ t ≤ runS S f)) (by simp; omega) (hk _ h)
  · refine srun_ok h hp hl fun w' h => ?_
    (repeat (first | apply Exists.intro (α := Int) | apply Exists.intro (α := Bool) | apply Exists.intro (α := ByteArray) | (apply Exists.intro (α := Option Addr); apply Exists.intro (α := Nat); apply Exists.intro (α := Nat)) | apply Exists.intro (α := Option Addr) | apply Exists.intro (α := Value)))
    refine ⟨rfl, ?_⟩
    exact letb (y := decide (t ≤ f ∨ t ≤ runS S f)) (by congr 1; apply propext; omega) (hk _ h)
theorem r6same_ok (h : St c w L) {A B : Option Addr} {k d : Nat} {X Y : List Sp} (hX : RdIn L A (X.flatMap spn)) (hY : RdIn L B (Y.flatMap spn)) (he : X = Y) (hl : X.length ≤ 1000) {Q : Value → World → Prop} (hk : ∀ w', St c w' L → Q (.bool true) w') : CALL PG 63 [.slice A X.length k, .slice B Y.length d] w Q := by
  subst he
  refine call63 ?_
  unfold N63
  refine ifn (fun hne => absurd rfl hne) fun _ => ?_
  refine ⟨fun m i w' => ∃ j : Nat, j + m = X.length ∧ i = (j : Int) ∧ St c w' L, ⟨X.length, 0, by omega, rfl, h⟩, ?_⟩
  clear h
  rintro m _ w' ⟨j, hj, rfl, h⟩
  refine ifd (fun hlt => ?_) fun hge => hk _ h
  obtain ⟨x, hx⟩ := ex_get (L := X) (j := j) (by omega)
  have h := h.drew
  refine h.ix (z := 1) hX hx fun a ha => ?_
  have hX1 := hX
  rw [ha] at hX1
  refine h.rdEG hX1 hx ?_
  (repeat (first | apply Exists.intro (α := Int) | apply Exists.intro (α := Bool) | apply Exists.intro (α := ByteArray) | (apply Exists.intro (α := Option Addr); apply Exists.intro (α := Nat); apply Exists.intro (α := Nat)) | apply Exists.intro (α := Option Addr) | apply Exists.intro (α := Value)))
  refine ⟨rfl, ?_⟩
  refine h.ix (z := 1) hY hx fun b hb => ?_
  have hY1 := hY
  rw [hb] at hY1
  refine h.rdEG hY1 hx ?_
  (repeat (first | apply Exists.intro (α := Int) | apply Exists.intro (α := Bool) | apply Exists.intro (α := ByteArray) | (apply Exists.intro (α := Option Addr); apply Exists.intro (α := Nat); apply Exists.intro (α := Nat)) | apply Exists.intro (α := Option Addr) | apply Exists.intro (α := Value)))
  refine ⟨rfl, ?_⟩
  refine RDB.neqN (x.f == x.f && (x.t == x.t && true)) ?_
  exact iff_ (by simp) (leti (wrap_i64 (n := (j : Int) + 1) (by omega) (by omega)) ⟨m - 1, by omega, j + 1, by omega, by omega, h⟩)
theorem plain6_ok (h : St c w L) {A : Option Addr} {k : Nat} {X : List Sp} (hX : RdIn L A (X.flatMap spn)) (hl : X.length ≤ 1000) {Q : Value → World → Prop}
    (hk : ∀ O d w', St c w' (own 133 2 O X.length d (X.flatMap spn) :: L) → Q (.slice O X.length d) w') : CALL PG 64 [.slice A X.length k] w Q := by
  refine call64 ?_
  unfold N64
  refine ⟨fun m O n d i w' => ∃ j : Nat, j + m = X.length ∧ i = (j : Int) ∧ n = j ∧ St c w' (own 133 2 O n d ((X.take j).flatMap spn) :: L), ⟨X.length, 0, by omega, rfl, rfl, h.addOwnNil 133 2⟩, ?_⟩
  clear h
  rintro m O n d _ w' ⟨j, hj, rfl, rfl, h⟩
  refine ifd (fun hlt => ?_) fun hge => ?_
  · obtain ⟨x, hx⟩ := ex_get (L := X) (j := n) (by omega)
    have hX1 := hX
    have h := h.drew
    refine h.ix (z := 1) hX.more hx fun a ha => ?_
    rw [ha] at hX1
    refine h.rdEI 0 hX1.more hx ?_
    refine h.ix (z := 1) hX.more hx fun b hb => ?_
    rw [ha] at hb
    injection hb with hb
    subst hb
    refine h.rdEI 1 hX1.more hx ?_
    repeat' (first
      | refine nilc ?_
      | refine h.rdI _ ?_
      | refine h.rdB _ ?_
      | refine h.rdP _ ?_
      | refine h.rdL _ ?_
      | refine h.rdT _ ?_
      | refine h.rdI2 _ _ ?_
      | refine h.rdB2 _ _ ?_
      | refine h.rdP2 _ _ ?_
      | refine h.rdL2 _ _ ?_
      | refine h.st2 _ _ fun w' h => ?_
      | refine h.st _ fun w' h => ?_
      | refine h.rdvI ?_
      | refine h.rdvB ?_
      | refine h.rdvP ?_
      | refine h.rdvL ?_
      | refine h.rdvT ?_
      | (refine h.rdG ?_; (repeat (first | apply Exists.intro (α := Int) | apply Exists.intro (α := Bool) | apply Exists.intro (α := ByteArray) | (apply Exists.intro (α := Option Addr); apply Exists.intro (α := Nat); apply Exists.intro (α := Nat)) | apply Exists.intro (α := Option Addr) | apply Exists.intro (α := Value))); refine ⟨rfl, ?_⟩)
      | refine h.stG fun w' h => ?_
      | refine h.stV fun w' h => ?_
      | refine h.box fun p w' h => ?_
      | refine h.boxV fun p w' h => ?_
      | refine h.allocZ fun p w' h => ?_
      | refine h.allocZV fun p w' h => ?_
      | (refine RD.bld ?_; (repeat (first | apply Exists.intro (α := Int) | apply Exists.intro (α := Bool) | apply Exists.intro (α := ByteArray) | (apply Exists.intro (α := Option Addr); apply Exists.intro (α := Nat); apply Exists.intro (α := Nat)) | apply Exists.intro (α := Option Addr) | apply Exists.intro (α := Value))); refine ⟨rfl, ?_⟩)
      | (refine RDS.bld ?_; (repeat (first | apply Exists.intro (α := Int) | apply Exists.intro (α := Bool) | apply Exists.intro (α := ByteArray) | (apply Exists.intro (α := Option Addr); apply Exists.intro (α := Nat); apply Exists.intro (α := Nat)) | apply Exists.intro (α := Option Addr) | apply Exists.intro (α := Value))); refine ⟨rfl, ?_⟩)
      | refine St.rdsI _ ?_
      | refine St.rdsB _ ?_
      | refine St.rdsP _ ?_
      | refine St.rdsL _ ?_
      | refine St.rdsT _ ?_
      | refine St.rdsI2 _ _ ?_
      | refine St.rdsB2 _ _ ?_
      | (refine St.rdsG ?_; (repeat (first | apply Exists.intro (α := Int) | apply Exists.intro (α := Bool) | apply Exists.intro (α := ByteArray) | (apply Exists.intro (α := Option Addr); apply Exists.intro (α := Nat); apply Exists.intro (α := Nat)) | apply Exists.intro (α := Option Addr) | apply Exists.intro (α := Value))); refine ⟨rfl, ?_⟩)
      | refine letb rfl ?_
      | refine sat h ?_
      | (have h := h.drew; refine sat h ?_)
      | refine sat1 h (fun _ h => h.to) ?_)
    refine h.app1 huRp tiRp (spn x) .head (spn_flat1 x) (by omega) fun O' d' w' h => ?_
    refine letw ⟨m - 1, by omega, n + 1, by omega, by omega, rfl, ?_⟩
    rw [take_snoc' hx, List.flatMap_append, List.flatMap_cons, List.flatMap_nil, List.append_nil]
    exact h
  · have : n = X.length := by omega
    subst this
    rw [List.take_length] at h
    exact hk _ _ _ h
theorem most6_ok {n : Int} {Q : Value → World → Prop} (hk : Q (.int .i64 (minN (maxN n 1) 64)) w) : CALL PG 62 [.int .i64 n] w Q := by
  refine call62 ?_
  unfold N62
  have fin : ∀ {v : Int}, minN (maxN n 1) 64 = v → Q (.int .i64 v) w := fun e => e ▸ hk
  refine ifd (fun h1 => fin ?_) fun h1 => ifd (fun h2 => fin ?_) fun h2 => leti rfl (fin ?_) <;> (unfold minN maxN; repeat' split) <;> omega
theorem alive6_ok (h : St c w L) {Q : Value → World → Prop} (hk : ∀ w', St c w' L → Q (.bool true) w') : CALL PG 58 [] w Q := by
  refine call58 ?_
  unfold N58
  refine snew_ok h fun p w' h => ?_
  (repeat (first | apply Exists.intro (α := Int) | apply Exists.intro (α := Bool) | apply Exists.intro (α := ByteArray) | (apply Exists.intro (α := Option Addr); apply Exists.intro (α := Nat); apply Exists.intro (α := Nat)) | apply Exists.intro (α := Option Addr) | apply Exists.intro (α := Value)))
  refine ⟨rfl, ?_⟩
  refine iff_ rfl ?_
  have e1 : addR [] 1 3 (minN (maxN 9 1) 64) = ([⟨1, 3⟩], true) := by rfl
  have e2 : addR [⟨1, 3⟩] 5 6 (minN (maxN 9 1) 64) = ([⟨1, 3⟩, ⟨5, 6⟩], true) := by rfl
  have e3 : addR [⟨1, 3⟩, ⟨5, 6⟩] 3 4 (minN (maxN 9 1) 64) = ([⟨1, 4⟩, ⟨5, 6⟩], true) := by rfl
  refine ⟨fun b w' => b = true ∧ St c w' (sset p (minN (maxN 9 1) 64) [⟨1, 4⟩, ⟨5, 6⟩] :: L), ?_, ?_⟩
  · refine sadd_ok h .head Sep.nil (by simp) (by decide) (by decide) fun w' h => ?_
    (repeat (first | apply Exists.intro (α := Int) | apply Exists.intro (α := Bool) | apply Exists.intro (α := ByteArray) | (apply Exists.intro (α := Option Addr); apply Exists.intro (α := Nat); apply Exists.intro (α := Nat)) | apply Exists.intro (α := Option Addr) | apply Exists.intro (α := Value)))
    refine ⟨rfl, ?_⟩
    rw [e1] at h ⊢
    refine ift rfl ?_
    refine sadd_ok h .head (by simp [Sep, SpOk]) (by simp) (by decide) (by decide) fun w' h => ?_
    (repeat (first | apply Exists.intro (α := Int) | apply Exists.intro (α := Bool) | apply Exists.intro (α := ByteArray) | (apply Exists.intro (α := Option Addr); apply Exists.intro (α := Nat); apply Exists.intro (α := Nat)) | apply Exists.intro (α := Option Addr) | apply Exists.intro (α := Value)))
    refine ⟨rfl, ?_⟩
    rw [e2] at h ⊢
    refine ift rfl ?_
    refine sadd_ok h .head (by simp [Sep, SpOk]) (by simp) (by decide) (by decide) fun w' h => ?_
    (repeat (first | apply Exists.intro (α := Int) | apply Exists.intro (α := Bool) | apply Exists.intro (α := ByteArray) | (apply Exists.intro (α := Option Addr); apply Exists.intro (α := Nat); apply Exists.intro (α := Nat)) | apply Exists.intro (α := Option Addr) | apply Exists.intro (α := Value)))
    refine ⟨rfl, ?_⟩
    rw [e3] at h ⊢
    exact letb rfl ⟨rfl, h⟩
  clear h
  rintro _ w' ⟨rfl, h⟩
  refine ift rfl ?_
  refine sgaps_ok h .head (by simp) fun O k w' h => ?_
  (repeat (first | apply Exists.intro (α := Int) | apply Exists.intro (α := Bool) | apply Exists.intro (α := ByteArray) | (apply Exists.intro (α := Option Addr); apply Exists.intro (α := Nat); apply Exists.intro (α := Nat)) | apply Exists.intro (α := Option Addr) | apply Exists.intro (α := Value)))
  refine ⟨rfl, ?_⟩
  have e4 : gapsS [⟨1, 4⟩, ⟨5, 6⟩] 0 7 = [⟨0, 1⟩, ⟨4, 5⟩, ⟨6, 7⟩] := by rfl
  rw [e4] at h ⊢
  refine plain6_ok h (RdIn.own .head) (by simp) fun O2 k2 w' h => ?_
  (repeat (first | apply Exists.intro (α := Int) | apply Exists.intro (α := Bool) | apply Exists.intro (α := ByteArray) | (apply Exists.intro (α := Option Addr); apply Exists.intro (α := Nat); apply Exists.intro (α := Nat)) | apply Exists.intro (α := Option Addr) | apply Exists.intro (α := Value)))
  refine ⟨rfl, ?_⟩
  repeat' (first
    | refine nilc ?_
    | refine h.rdI _ ?_
    | refine h.rdB _ ?_
    | refine h.rdP _ ?_
    | refine h.rdL _ ?_
    | refine h.rdT _ ?_
    | refine h.rdI2 _ _ ?_
    | refine h.rdB2 _ _ ?_
    | refine h.rdP2 _ _ ?_
    | refine h.rdL2 _ _ ?_
    | refine h.st2 _ _ fun w' h => ?_
    | refine h.st _ fun w' h => ?_
    | refine h.rdvI ?_
    | refine h.rdvB ?_
    | refine h.rdvP ?_
    | refine h.rdvL ?_
    | refine h.rdvT ?_
    | (refine h.rdG ?_; (repeat (first | apply Exists.intro (α := Int) | apply Exists.intro (α := Bool) | apply Exists.intro (α := ByteArray) | (apply Exists.intro (α := Option Addr); apply Exists.intro (α := Nat); apply Exists.intro (α := Nat)) | apply Exists.intro (α := Option Addr) | apply Exists.intro (α := Value))); refine ⟨rfl, ?_⟩)
    | refine h.stG fun w' h => ?_
    | refine h.stV fun w' h => ?_
    | refine h.box fun p w' h => ?_
    | refine h.boxV fun p w' h => ?_
    | refine h.allocZ fun p w' h => ?_
    | refine h.allocZV fun p w' h => ?_
    | (refine RD.bld ?_; (repeat (first | apply Exists.intro (α := Int) | apply Exists.intro (α := Bool) | apply Exists.intro (α := ByteArray) | (apply Exists.intro (α := Option Addr); apply Exists.intro (α := Nat); apply Exists.intro (α := Nat)) | apply Exists.intro (α := Option Addr) | apply Exists.intro (α := Value))); refine ⟨rfl, ?_⟩)
    | (refine RDS.bld ?_; (repeat (first | apply Exists.intro (α := Int) | apply Exists.intro (α := Bool) | apply Exists.intro (α := ByteArray) | (apply Exists.intro (α := Option Addr); apply Exists.intro (α := Nat); apply Exists.intro (α := Nat)) | apply Exists.intro (α := Option Addr) | apply Exists.intro (α := Value))); refine ⟨rfl, ?_⟩)
    | refine St.rdsI _ ?_
    | refine St.rdsB _ ?_
    | refine St.rdsP _ ?_
    | refine St.rdsL _ ?_
    | refine St.rdsT _ ?_
    | refine St.rdsI2 _ _ ?_
    | refine St.rdsB2 _ _ ?_
    | (refine St.rdsG ?_; (repeat (first | apply Exists.intro (α := Int) | apply Exists.intro (α := Bool) | apply Exists.intro (α := ByteArray) | (apply Exists.intro (α := Option Addr); apply Exists.intro (α := Nat); apply Exists.intro (α := Nat)) | apply Exists.intro (α := Option Addr) | apply Exists.intro (α := Value))); refine ⟨rfl, ?_⟩)
    | refine letb rfl ?_
    | refine sat h ?_
    | (have h := h.drew; refine sat h ?_)
    | refine sat1 h (fun _ h => h.to) ?_)
  refine h.lit (n := 3) 133 2 ([(⟨0, 1⟩ : Sp), ⟨4, 5⟩, ⟨6, 7⟩].flatMap spn) fun q w' h => ?_
  refine r6same_ok h (X := [⟨0, 1⟩, ⟨4, 5⟩, ⟨6, 7⟩]) (Y := [⟨0, 1⟩, ⟨4, 5⟩, ⟨6, 7⟩]) (RdIn.own (.tail .head)) (RdIn.own .head) rfl (by simp) fun w' h => ?_
  (repeat (first | apply Exists.intro (α := Int) | apply Exists.intro (α := Bool) | apply Exists.intro (α := ByteArray) | (apply Exists.intro (α := Option Addr); apply Exists.intro (α := Nat); apply Exists.intro (α := Nat)) | apply Exists.intro (α := Option Addr) | apply Exists.intro (α := Value)))
  refine ⟨rfl, ?_⟩
  refine ift rfl ?_
  refine smany_ok h (.tail (.tail (.tail .head))) (by simp) fun w' h => ?_
  (repeat (first | apply Exists.intro (α := Int) | apply Exists.intro (α := Bool) | apply Exists.intro (α := ByteArray) | (apply Exists.intro (α := Option Addr); apply Exists.intro (α := Nat); apply Exists.intro (α := Nat)) | apply Exists.intro (α := Option Addr) | apply Exists.intro (α := Value)))
  refine ⟨rfl, ?_⟩
  refine ift (by rfl) ?_
  refine shas_ok h (.tail (.tail (.tail .head))) (by simp) fun w' h => ?_
  (repeat (first | apply Exists.intro (α := Int) | apply Exists.intro (α := Bool) | apply Exists.intro (α := ByteArray) | (apply Exists.intro (α := Option Addr); apply Exists.intro (α := Nat); apply Exists.intro (α := Nat)) | apply Exists.intro (α := Option Addr) | apply Exists.intro (α := Value)))
  refine ⟨rfl, ?_⟩
  refine ift (by rfl) ?_
  refine shas_ok h (.tail (.tail (.tail .head))) (by simp) fun w' h => ?_
  (repeat (first | apply Exists.intro (α := Int) | apply Exists.intro (α := Bool) | apply Exists.intro (α := ByteArray) | (apply Exists.intro (α := Option Addr); apply Exists.intro (α := Nat); apply Exists.intro (α := Nat)) | apply Exists.intro (α := Option Addr) | apply Exists.intro (α := Value)))
  refine ⟨rfl, ?_⟩
  exact letb (by rfl) (hk _ h.to)
end
end Go.Br
