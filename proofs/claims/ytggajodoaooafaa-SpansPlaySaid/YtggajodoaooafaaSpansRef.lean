/- The document's pieces: what they are. -/
import Derived.Test.YtggajodoaooafaaNSpansRef
import Derived.Test.YtggajodoaooafaaSpans3
set_option linter.unusedVariables false
set_option linter.unusedSimpArgs false
set_option linter.unnecessarySimpa false
namespace Go.Br
open Go
instance biSpansRefa : Zro PG 133 2 16 (.agg #[.int .u64 0, .int .u64 0]) := ⟨tiOf (by kernel_rfl)⟩
instance biSpansRefb (x0 : Int) (x1 : Int) : Bld PG (Instr.build 133 #[(0, .int .u64 x0), (1, .int .u64 x1)]) (.agg #[.int .u64 x0, .int .u64 x1]) := ⟨fun w => by kernel_rfl⟩
attribute [local irreducible] Addr.add RD RDS RUN RUNU NILC LETB CALL CALLX CALLV

/-! ### Joining -/
def jstep (o : List Sp × Sp) (p : Sp) : List Sp × Sp := if p.t < o.2.f ∨ o.2.t < p.f then (o.1 ++ [p], o.2) else (o.1, ⟨minN o.2.f p.f, maxN o.2.t p.t⟩)
def jst (x : Sp) (l : List Sp) : List Sp × Sp := l.foldl jstep ([], x)
theorem jst_snoc (x : Sp) (l : List Sp) (p : Sp) : jst x (l ++ [p]) = jstep (jst x l) p := by simp [jst]
theorem jfold_out : ∀ {A : List Sp} {o : List Sp} {x : Sp}, (∀ p ∈ A, p.t < x.f ∨ x.t < p.f) → A.foldl jstep (o, x) = (o ++ A, x)
  | [], o, x, _ => by simp
  | a :: A, o, x, h => by
    have ha := h a (by simp)
    have e : jstep (o, x) a = (o ++ [a], x) := by unfold jstep; rw [if_pos ha]
    rw [List.foldl_cons, e, jfold_out fun p hp => h p (by simp [hp])]
    simp
theorem jfold_in {f t : Int} : ∀ {M : List Sp} {o : List Sp} {f' t' : Int}, f' ≤ f → t ≤ t' → (∀ p ∈ M, f ≤ p.t ∧ p.f ≤ t) → M.foldl jstep (o, ⟨f', t'⟩) = (o, ⟨jF f' M, jT t' M⟩)
  | [], o, f', t', _, _, _ => rfl
  | a :: M, o, f', t', h1, h2, h => by
    have ha := h a (by simp)
    have e : jstep (o, ⟨f', t'⟩) a = (o, ⟨minN f' a.f, maxN t' a.t⟩) := by unfold jstep; rw [if_neg (by simp only; omega)]
    have m1 : minN f' a.f ≤ f' := by unfold minN; split <;> omega
    have m2 : t' ≤ maxN t' a.t := by unfold maxN; split <;> omega
    rw [List.foldl_cons, e, jfold_in (by omega) (by omega) fun p hp => h p (by simp [hp])]
    rfl
theorem jst_eq {l : List Sp} {f t : Int} (hs : Sep l) : jst ⟨f, t⟩ l = (spA l f ++ spZ (spB l f) t, ⟨jF f (spM (spB l f) t), jT t (spM (spB l f) t)⟩) := by
  obtain ⟨a1, a2, a3, a4, a5, a6⟩ := sep_parts (f := f) (t := t) hs
  obtain ⟨t1, t2, t3⟩ := jT_ge (spM (spB l f) t) t
  have e : l = spA l f ++ (spM (spB l f) t ++ spZ (spB l f) t) := by rw [spMZ, spAB]
  have hf : l.foldl jstep ([], ⟨f, t⟩) = (spA l f ++ (spM (spB l f) t ++ spZ (spB l f) t)).foldl jstep ([], ⟨f, t⟩) := congrArg (fun x => x.foldl jstep ([], ⟨f, t⟩)) e
  unfold jst
  rw [hf, List.foldl_append, List.foldl_append, jfold_out (fun p hp => .inl (spA_lt hp)), jfold_in (f := f) (t := t) (Int.le_refl _) (Int.le_refl _) (fun p hp => ⟨spB_ge hs (mem_spM hp), spM_le hp⟩), jfold_out]
  · simp
  · intro p hp
    refine .inr ?_
    simp only
    rcases t3 with e | ⟨q, hq, e⟩
    · rw [e]; exact spZ_gt a4 hp
    · rw [e]; exact a6 q hq p hp
/-! ### Cutting -/
def rcut (b : Int) (x : Sp) : Sp := ⟨maxN x.f b, x.t⟩
def rC (X : List Sp) (b : Int) : List Sp := (X.map (rcut b)).filter fun x => decide (x.f < x.t)
theorem rC_snoc (X : List Sp) (x : Sp) (b : Int) : rC (X ++ [x]) b = rC X b ++ (if maxN x.f b < x.t then [rcut b x] else []) := by
  unfold rC
  rw [List.map_append, List.filter_append]
  congr 1
  simp only [List.map_cons, List.map_nil, List.filter_cons, List.filter_nil, rcut]
  by_cases h : maxN x.f b < x.t <;> simp [h]
theorem rC_all : ∀ {X : List Sp} {b : Int}, (∀ x ∈ X, b < x.f ∧ x.f < x.t) → rC X b = X
  | [], b, _ => rfl
  | x :: X, b, h => by
    obtain ⟨h1, h2⟩ := h x (by simp)
    have ih := rC_all (X := X) (b := b) fun y hy => h y (by simp [hy])
    have e : rcut b x = x := by unfold rcut maxN; rw [if_neg (by omega)]
    unfold rC at ih ⊢
    rw [List.map_cons, e, List.filter_cons_of_pos (by simpa using h2), ih]
theorem rC_eq : ∀ {X : List Sp} {b : Int}, Sep X → rC X b = cutP X b
  | [], b, _ => rfl
  | x :: X, b, hs => by
    obtain ⟨h1, h2, h3⟩ := Sep.cons.1 hs
    have ih := rC_eq (b := b) h3
    rw [cutP_cons]
    have e0 : rC (x :: X) b = (if maxN x.f b < x.t then [rcut b x] else []) ++ rC X b := by
      unfold rC
      simp only [List.map_cons, List.filter_cons, rcut]
      by_cases h : maxN x.f b < x.t <;> simp [h]
    rw [e0]
    have ok := h2.2.1
    by_cases h : x.t ≤ b
    · rw [if_pos h, if_neg (by unfold maxN; split <;> omega), List.nil_append, ih]
    · rw [if_neg h, if_pos (by unfold maxN; split <;> omega), rC_all fun y hy => ⟨by have := h1 y hy; omega, (h3.2 y hy).2.1⟩]
      rfl
/-! ### Gaps -/
def nxt (x t : Int) (S : List Sp) : Int := S.foldl (fun a p => if x < p.f ∧ p.f < a then p.f else a) t
theorem nxt_snoc (x t : Int) (S : List Sp) (p : Sp) : nxt x t (S ++ [p]) = if x < p.f ∧ p.f < nxt x t S then p.f else nxt x t S := by unfold nxt; rw [List.foldl_append]; rfl
theorem nxt_cons (x t : Int) (p : Sp) (S : List Sp) : nxt x t (p :: S) = nxt x (if x < p.f ∧ p.f < t then p.f else t) S := rfl
theorem nxt_le : ∀ (S : List Sp) {x t : Int}, x < t → x < nxt x t S ∧ nxt x t S ≤ t
  | [], x, t, h => ⟨h, Int.le_refl _⟩
  | p :: S, x, t, h => by
    rw [nxt_cons]
    split
    · have := nxt_le S (x := x) (t := p.f) (by omega); omega
    · exact nxt_le S h
theorem nxt_far : ∀ {S : List Sp} {x t : Int}, (∀ p ∈ S, t ≤ p.f) → nxt x t S = t
  | [], x, t, _ => rfl
  | p :: S, x, t, h => by
    have := h p (by simp)
    rw [nxt_cons, if_neg (by omega)]
    exact nxt_far fun q hq => h q (by simp [hq])
theorem gaps_none {S : List Sp} {f t : Int} (hs : Sep S) (h : t ≤ f) : gapsS S f t = [] := by
  cases hg : gapsS S f t with
  | nil => rfl
  | cons g r =>
    obtain ⟨g1, g2, g3, _⟩ := gaps_mem hs g (by rw [hg]; simp)
    omega
theorem runS_skip {p : Sp} {S : List Sp} {x : Int} (h : ¬ (p.f ≤ x ∧ x < p.t)) : runS (p :: S) x = runS S x := by
  unfold runS
  rw [List.find?_cons_of_neg (by simp; omega)]
theorem gaps_step : ∀ {S : List Sp} {f t : Int}, Sep S → f < t → (t ≤ runS S f → gapsS S f t = []) ∧ (runS S f < t → gapsS S f t = ⟨runS S f, nxt (runS S f) t S⟩ :: gapsS S (nxt (runS S f) t S) t)
  | [], f, t, _, hft => by
    have e : runS [] f = f := rfl
    rw [e]
    refine ⟨fun h => by omega, fun _ => ?_⟩
    have e2 : nxt f t [] = t := rfl
    rw [e2, gapsS_nil, if_pos hft, gapsS_nil, if_neg (by omega)]
  | p :: S, f, t, hs, hft => by
    obtain ⟨h1, h2, h3⟩ := Sep.cons.1 hs
    have ok := h2.2.1
    obtain ⟨i1, i2⟩ := gaps_step h3 hft
    rw [gapsS_cons]
    by_cases c1 : p.t ≤ f
    · rw [if_pos c1]
      have er : runS (p :: S) f = runS S f := runS_skip (by omega)
      have hge : f ≤ runS S f := by
        by_cases hi : inP S f
        · have := (runS_gt (S := S) (x := f)).2 hi; omega
        · rw [runS_out hi]; exact Int.le_refl _
      rw [er, nxt_cons, if_neg (by omega)]
      refine ⟨i1, fun hx => ?_⟩
      have hn := (nxt_le S hx).1
      rw [i2 hx, gapsS_cons, if_pos (by omega)]
    · rw [if_neg c1]
      by_cases c2 : t ≤ p.f
      · rw [if_pos c2]
        have er : runS (p :: S) f = runS S f := runS_skip (by omega)
        have hno : ¬ inP S f := fun ⟨q, hq, q1, q2⟩ => by have := h1 q hq; omega
        have er2 : runS S f = f := runS_out hno
        have en : nxt f t S = t := nxt_far fun q hq => by have := h1 q hq; omega
        rw [er2] at i2
        rw [er, er2, nxt_cons, if_neg (by omega)]
        refine ⟨fun h => by omega, fun hx => ?_⟩
        rw [i2 hx, en, gaps_none h3 (Int.le_refl _), gaps_none hs (Int.le_refl _)]
      · rw [if_neg c2]
        by_cases c3 : f < p.f
        · rw [if_pos c3]
          have er : runS (p :: S) f = f := runS_out fun hi => by
            rcases inP_cons.1 hi with h | ⟨q, hq, q1, q2⟩
            · omega
            · have := h1 q hq; omega
          rw [er]
          refine ⟨fun h => by omega, fun _ => ?_⟩
          have en : nxt f t (p :: S) = p.f := by
            rw [nxt_cons, if_pos (by omega)]
            exact nxt_far fun q hq => by have := h1 q hq; omega
          rw [en, gapsS_cons (f := p.f), if_neg (by omega), if_neg (by omega), if_neg (by omega)]
          rfl
        · rw [if_neg c3, List.nil_append]
          have er : runS (p :: S) f = p.t := by
            unfold runS
            rw [List.find?_cons_of_pos (by simp; omega)]
          rw [er]
          refine ⟨fun h => gaps_none h3 h, fun hx => ?_⟩
          have hno : ¬ inP S p.t := fun ⟨q, hq, q1, q2⟩ => by have := h1 q hq; omega
          obtain ⟨_, j2⟩ := gaps_step h3 hx
          rw [runS_out hno] at j2
          have hn := (nxt_le S hx).1
          rw [j2 hx, nxt_cons, if_neg (by omega), gapsS_cons (f := nxt p.t t S), if_pos (by omega)]
section
variable {c : Ctx} {w : World} {L R : List SA}
theorem r6run_ok (h : St c w L) {A : Option Addr} {k : Nat} {X : List Sp} {n : Int} (hX : RdIn L A (X.flatMap spn)) (hl : X.length ≤ 1000) {Q : Value → World → Prop} (hk : ∀ w', St c w' L → Q (.int .u64 (runS X n)) w') : CALL PG 66 [.slice A X.length k, .int .u64 n] w Q := by
  refine call66 ?_
  unfold N66
  refine ⟨fun m i w' => ∃ j : Nat, j + m = X.length ∧ i = (j : Int) ∧ (∀ q ∈ X.take j, ¬ (q.f ≤ n ∧ n < q.t)) ∧ St c w' L, ⟨X.length, 0, by omega, rfl, by simp, h⟩, ?_⟩
  clear h
  rintro m _ w' ⟨j, hj, rfl, hno, h⟩
  refine ifd (fun hlt => ?_) fun hge => ?_
  · obtain ⟨x, hx⟩ := ex_get (L := X) (j := j) (by omega)
    have skip : ¬ (x.f ≤ n ∧ n < x.t) → ∀ q ∈ X.take (j + 1), ¬ (q.f ≤ n ∧ n < q.t) := fun hxn q hq => by
      rw [take_snoc' hx] at hq
      rcases List.mem_append.1 hq with hq | hq
      · exact hno q hq
      · simp at hq; subst hq; exact hxn
    refine h.ix (z := 1) hX hx fun a ha => ?_
    have hX1 := hX
    rw [ha] at hX1
    refine h.rdEI 0 hX1 hx ?_
    refine ifd (fun h1 => ?_) fun h1 => letw ⟨m - 1, by omega, j + 1, by omega, by omega, skip (fun e => h1 e.1), h⟩
    refine h.ix (z := 1) hX hx fun b hb => ?_
    rw [ha] at hb
    injection hb with hb
    subst hb
    refine h.rdEI 1 hX1 hx ?_
    refine ifd (fun h2 => ?_) fun h2 => letw ⟨m - 1, by omega, j + 1, by omega, by omega, skip (fun e => h2 e.2), h⟩
    refine h.ix (z := 1) hX hx fun b hb => ?_
    rw [ha] at hb
    injection hb with hb
    subst hb
    refine h.rdEI 1 hX1 hx ?_
    refine leti ?_ (hk _ h)
    have e : X = X.take j ++ x :: X.drop (j + 1) := by rw [← drop_cons' hx, List.take_append_drop]
    unfold runS
    rw [e, List.find?_append, List.find?_eq_none.2 (fun q hq => by have := hno q hq; simp; omega), Option.none_or, List.find?_cons_of_pos (by simp [h1, h2])]
  · have : j = X.length := by omega
    subst this
    rw [List.take_length] at hno
    refine leti ?_ (hk _ h)
    rw [runS_out (fun ⟨q, hq, e⟩ => hno q hq e)]
theorem r6cut_ok (h : St c w L) {A : Option Addr} {k : Nat} {X : List Sp} {b : Int} (hX : RdIn L A (X.flatMap spn)) (hs : Sep X) (hl : X.length ≤ 1000) {Q : Value → World → Prop}
    (hk : ∀ O d w', St c w' (own 133 2 O (cutP X b).length d ((cutP X b).flatMap spn) :: L) → Q (.slice O (cutP X b).length d) w') : CALL PG 60 [.slice A X.length k, .int .u64 b] w Q := by
  refine call60 ?_
  unfold N60
  refine ⟨fun m O n d i w' => ∃ j : Nat, j + m = X.length ∧ i = (j : Int) ∧ n = (rC (X.take j) b).length ∧ n ≤ j ∧ St c w' (own 133 2 O n d ((rC (X.take j) b).flatMap spn) :: L), ⟨X.length, 0, by omega, rfl, rfl, by omega, h.addOwnNil 133 2⟩, ?_⟩
  clear h
  rintro m O _ d _ w' ⟨j, hj, rfl, rfl, hnj, h⟩
  refine ifd (fun hlt => ?_) fun hge => ?_
  · obtain ⟨x, hx⟩ := ex_get (L := X) (j := j) (by omega)
    have eC : rC (X.take (j + 1)) b = rC (X.take j) b ++ (if maxN x.f b < x.t then [rcut b x] else []) := by rw [take_snoc' hx, rC_snoc]
    refine h.ix (z := 1) hX.more hx fun a ha => ?_
    have hX1 := hX
    rw [ha] at hX1
    refine h.rdEG hX1.more hx ?_
    (repeat (first | apply Exists.intro (α := Int) | apply Exists.intro (α := Bool) | apply Exists.intro (α := ByteArray) | (apply Exists.intro (α := Option Addr); apply Exists.intro (α := Nat); apply Exists.intro (α := Nat)) | apply Exists.intro (α := Option Addr) | apply Exists.intro (α := Value)))
    refine ⟨rfl, ?_⟩
    repeat' (first
      | refine nilc ?_
      | refine h.rdI _ ?_
      | refine h.rdB _ ?_
      | refine h.rdP _ ?_
      | refine h.rdL _ ?_
      | refine h.rdT _ ?_
      | refine h.rdI2 _ _ ?_
      | refine h.rdB2 _ _ ?_
      | refine h.rdP2 _ _ ?_
      | refine h.rdL2 _ _ ?_
      | refine h.st2 _ _ fun w' h => ?_
      | refine h.st _ fun w' h => ?_
      | refine h.rdvI ?_
      | refine h.rdvB ?_
      | refine h.rdvP ?_
      | refine h.rdvL ?_
      | refine h.rdvT ?_
      | (refine h.rdG ?_; (repeat (first | apply Exists.intro (α := Int) | apply Exists.intro (α := Bool) | apply Exists.intro (α := ByteArray) | (apply Exists.intro (α := Option Addr); apply Exists.intro (α := Nat); apply Exists.intro (α := Nat)) | apply Exists.intro (α := Option Addr) | apply Exists.intro (α := Value))); refine ⟨rfl, ?_⟩)
      | refine h.stG fun w' h => ?_
      | refine h.stV fun w' h => ?_
      | refine h.box fun p w' h => ?_
      | refine h.boxV fun p w' h => ?_
      | refine h.allocZ fun p w' h => ?_
      | refine h.allocZV fun p w' h => ?_
      | (refine RD.bld ?_; (repeat (first | apply Exists.intro (α := Int) | apply Exists.intro (α := Bool) | apply Exists.intro (α := ByteArray) | (apply Exists.intro (α := Option Addr); apply Exists.intro (α := Nat); apply Exists.intro (α := Nat)) | apply Exists.intro (α := Option Addr) | apply Exists.intro (α := Value))); refine ⟨rfl, ?_⟩)
      | (refine RDS.bld ?_; (repeat (first | apply Exists.intro (α := Int) | apply Exists.intro (α := Bool) | apply Exists.intro (α := ByteArray) | (apply Exists.intro (α := Option Addr); apply Exists.intro (α := Nat); apply Exists.intro (α := Nat)) | apply Exists.intro (α := Option Addr) | apply Exists.intro (α := Value))); refine ⟨rfl, ?_⟩)
      | refine St.rdsI _ ?_
      | refine St.rdsB _ ?_
      | refine St.rdsP _ ?_
      | refine St.rdsL _ ?_
      | refine St.rdsT _ ?_
      | refine St.rdsI2 _ _ ?_
      | refine St.rdsB2 _ _ ?_
      | (refine St.rdsG ?_; (repeat (first | apply Exists.intro (α := Int) | apply Exists.intro (α := Bool) | apply Exists.intro (α := ByteArray) | (apply Exists.intro (α := Option Addr); apply Exists.intro (α := Nat); apply Exists.intro (α := Nat)) | apply Exists.intro (α := Option Addr) | apply Exists.intro (α := Value))); refine ⟨rfl, ?_⟩)
      | refine letb rfl ?_
      | refine sat h ?_
      | (have h := h.drew; refine sat h ?_)
      | refine sat1 h (fun _ h => h.to) ?_)
    have app : ∀ {q : Nat} {w' : World} {y : Sp}, y = rcut b x → maxN x.f b < x.t → St c w' (blk q 133 (spn y) :: own 133 2 O (rC (X.take j) b).length d ((rC (X.take j) b).flatMap spn) :: L) →
        RUNL PG (Instr.buildSlice 125 1 #[(0, spnv y)]) w' fun x xN xC w3 => RUNL PG (Builtin.append_ #[125, 125] 125 #[.slice O (rC (X.take j) b).length d, .slice x xN xC]) w3 fun O' n' d' w4 =>
          LETI (IntKind.i64.wrap ((j : Int) + (1 : Int))) fun i1 => ∃ m2, m2 < m ∧ ∃ j' : Nat, j' + m2 = X.length ∧ i1 = (j' : Int) ∧ n' = (rC (X.take j') b).length ∧ n' ≤ j' ∧ St c w4 (own 133 2 O' n' d' ((rC (X.take j') b).flatMap spn) :: L) := by
      intro q w' y hy hlt2 h
      refine h.app1 huRp tiRp (spn y) (.tail .head) (spn_flat1 y) (by omega) fun O' d' w' h => ?_
      refine letw ⟨m - 1, by omega, j + 1, by omega, by omega, ?_, by omega, ?_⟩
      · rw [eC, if_pos hlt2, List.length_append, List.length_singleton]
      · rw [eC, if_pos hlt2, ← hy, List.flatMap_append, List.flatMap_cons, List.flatMap_nil, List.append_nil]
        exact h.to
    have noapp : ∀ {q : Nat} {w' : World} {cs : List Value}, ¬ maxN x.f b < x.t → St c w' (blk q 133 cs :: own 133 2 O (rC (X.take j) b).length d ((rC (X.take j) b).flatMap spn) :: L) →
        LETI (IntKind.i64.wrap ((j : Int) + (1 : Int))) fun i1 => ∃ m2, m2 < m ∧ ∃ j' : Nat, j' + m2 = X.length ∧ i1 = (j' : Int) ∧ (rC (X.take j) b).length = (rC (X.take j') b).length ∧ (rC (X.take j) b).length ≤ j' ∧ St c w' (own 133 2 O (rC (X.take j) b).length d ((rC (X.take j') b).flatMap spn) :: L) := by
      intro q w' cs hlt2 h
      refine letw ⟨m - 1, by omega, j + 1, by omega, by omega, ?_, by omega, ?_⟩
      · rw [eC, if_neg hlt2, List.append_nil]
      · rw [eC, if_neg hlt2, List.append_nil]; exact h.drop
    refine ifd (fun h1 => ?_) fun h1 => ?_
    · have em : maxN x.f b = b := by unfold maxN; rw [if_pos (by omega)]
      repeat' (first
        | refine nilc ?_
        | refine h.rdI _ ?_
        | refine h.rdB _ ?_
        | refine h.rdP _ ?_
        | refine h.rdL _ ?_
        | refine h.rdT _ ?_
        | refine h.rdI2 _ _ ?_
        | refine h.rdB2 _ _ ?_
        | refine h.rdP2 _ _ ?_
        | refine h.rdL2 _ _ ?_
        | refine h.st2 _ _ fun w' h => ?_
        | refine h.st _ fun w' h => ?_
        | refine h.rdvI ?_
        | refine h.rdvB ?_
        | refine h.rdvP ?_
        | refine h.rdvL ?_
        | refine h.rdvT ?_
        | (refine h.rdG ?_; (repeat (first | apply Exists.intro (α := Int) | apply Exists.intro (α := Bool) | apply Exists.intro (α := ByteArray) | (apply Exists.intro (α := Option Addr); apply Exists.intro (α := Nat); apply Exists.intro (α := Nat)) | apply Exists.intro (α := Option Addr) | apply Exists.intro (α := Value))); refine ⟨rfl, ?_⟩)
        | refine h.stG fun w' h => ?_
        | refine h.stV fun w' h => ?_
        | refine h.box fun p w' h => ?_
        | refine h.boxV fun p w' h => ?_
        | refine h.allocZ fun p w' h => ?_
        | refine h.allocZV fun p w' h => ?_
        | (refine RD.bld ?_; (repeat (first | apply Exists.intro (α := Int) | apply Exists.intro (α := Bool) | apply Exists.intro (α := ByteArray) | (apply Exists.intro (α := Option Addr); apply Exists.intro (α := Nat); apply Exists.intro (α := Nat)) | apply Exists.intro (α := Option Addr) | apply Exists.intro (α := Value))); refine ⟨rfl, ?_⟩)
        | (refine RDS.bld ?_; (repeat (first | apply Exists.intro (α := Int) | apply Exists.intro (α := Bool) | apply Exists.intro (α := ByteArray) | (apply Exists.intro (α := Option Addr); apply Exists.intro (α := Nat); apply Exists.intro (α := Nat)) | apply Exists.intro (α := Option Addr) | apply Exists.intro (α := Value))); refine ⟨rfl, ?_⟩)
        | refine St.rdsI _ ?_
        | refine St.rdsB _ ?_
        | refine St.rdsP _ ?_
        | refine St.rdsL _ ?_
        | refine St.rdsT _ ?_
        | refine St.rdsI2 _ _ ?_
        | refine St.rdsB2 _ _ ?_
        | (refine St.rdsG ?_; (repeat (first | apply Exists.intro (α := Int) | apply Exists.intro (α := Bool) | apply Exists.intro (α := ByteArray) | (apply Exists.intro (α := Option Addr); apply Exists.intro (α := Nat); apply Exists.intro (α := Nat)) | apply Exists.intro (α := Option Addr) | apply Exists.intro (α := Value))); refine ⟨rfl, ?_⟩)
        | refine letb rfl ?_
        | refine sat h ?_
        | (have h := h.drew; refine sat h ?_)
        | refine sat1 h (fun _ h => h.to) ?_)
      refine ifd (fun h2 => ?_) fun h2 => noapp (by rw [em]; exact h2) h
      repeat' (first
        | refine nilc ?_
        | refine h.rdI _ ?_
        | refine h.rdB _ ?_
        | refine h.rdP _ ?_
        | refine h.rdL _ ?_
        | refine h.rdT _ ?_
        | refine h.rdI2 _ _ ?_
        | refine h.rdB2 _ _ ?_
        | refine h.rdP2 _ _ ?_
        | refine h.rdL2 _ _ ?_
        | refine h.st2 _ _ fun w' h => ?_
        | refine h.st _ fun w' h => ?_
        | refine h.rdvI ?_
        | refine h.rdvB ?_
        | refine h.rdvP ?_
        | refine h.rdvL ?_
        | refine h.rdvT ?_
        | (refine h.rdG ?_; (repeat (first | apply Exists.intro (α := Int) | apply Exists.intro (α := Bool) | apply Exists.intro (α := ByteArray) | (apply Exists.intro (α := Option Addr); apply Exists.intro (α := Nat); apply Exists.intro (α := Nat)) | apply Exists.intro (α := Option Addr) | apply Exists.intro (α := Value))); refine ⟨rfl, ?_⟩)
        | refine h.stG fun w' h => ?_
        | refine h.stV fun w' h => ?_
        | refine h.box fun p w' h => ?_
        | refine h.boxV fun p w' h => ?_
        | refine h.allocZ fun p w' h => ?_
        | refine h.allocZV fun p w' h => ?_
        | (refine RD.bld ?_; (repeat (first | apply Exists.intro (α := Int) | apply Exists.intro (α := Bool) | apply Exists.intro (α := ByteArray) | (apply Exists.intro (α := Option Addr); apply Exists.intro (α := Nat); apply Exists.intro (α := Nat)) | apply Exists.intro (α := Option Addr) | apply Exists.intro (α := Value))); refine ⟨rfl, ?_⟩)
        | (refine RDS.bld ?_; (repeat (first | apply Exists.intro (α := Int) | apply Exists.intro (α := Bool) | apply Exists.intro (α := ByteArray) | (apply Exists.intro (α := Option Addr); apply Exists.intro (α := Nat); apply Exists.intro (α := Nat)) | apply Exists.intro (α := Option Addr) | apply Exists.intro (α := Value))); refine ⟨rfl, ?_⟩)
        | refine St.rdsI _ ?_
        | refine St.rdsB _ ?_
        | refine St.rdsP _ ?_
        | refine St.rdsL _ ?_
        | refine St.rdsT _ ?_
        | refine St.rdsI2 _ _ ?_
        | refine St.rdsB2 _ _ ?_
        | (refine St.rdsG ?_; (repeat (first | apply Exists.intro (α := Int) | apply Exists.intro (α := Bool) | apply Exists.intro (α := ByteArray) | (apply Exists.intro (α := Option Addr); apply Exists.intro (α := Nat); apply Exists.intro (α := Nat)) | apply Exists.intro (α := Option Addr) | apply Exists.intro (α := Value))); refine ⟨rfl, ?_⟩)
        | refine letb rfl ?_
        | refine sat h ?_
        | (have h := h.drew; refine sat h ?_)
        | refine sat1 h (fun _ h => h.to) ?_)
      exact app (y := ⟨b, x.t⟩) (by unfold rcut; rw [em]) (by rw [em]; exact h2) h
    · have em : maxN x.f b = x.f := by unfold maxN; rw [if_neg (by omega)]
      repeat' (first
        | refine nilc ?_
        | refine h.rdI _ ?_
        | refine h.rdB _ ?_
        | refine h.rdP _ ?_
        | refine h.rdL _ ?_
        | refine h.rdT _ ?_
        | refine h.rdI2 _ _ ?_
        | refine h.rdB2 _ _ ?_
        | refine h.rdP2 _ _ ?_
        | refine h.rdL2 _ _ ?_
        | refine h.st2 _ _ fun w' h => ?_
        | refine h.st _ fun w' h => ?_
        | refine h.rdvI ?_
        | refine h.rdvB ?_
        | refine h.rdvP ?_
        | refine h.rdvL ?_
        | refine h.rdvT ?_
        | (refine h.rdG ?_; (repeat (first | apply Exists.intro (α := Int) | apply Exists.intro (α := Bool) | apply Exists.intro (α := ByteArray) | (apply Exists.intro (α := Option Addr); apply Exists.intro (α := Nat); apply Exists.intro (α := Nat)) | apply Exists.intro (α := Option Addr) | apply Exists.intro (α := Value))); refine ⟨rfl, ?_⟩)
        | refine h.stG fun w' h => ?_
        | refine h.stV fun w' h => ?_
        | refine h.box fun p w' h => ?_
        | refine h.boxV fun p w' h => ?_
        | refine h.allocZ fun p w' h => ?_
        | refine h.allocZV fun p w' h => ?_
        | (refine RD.bld ?_; (repeat (first | apply Exists.intro (α := Int) | apply Exists.intro (α := Bool) | apply Exists.intro (α := ByteArray) | (apply Exists.intro (α := Option Addr); apply Exists.intro (α := Nat); apply Exists.intro (α := Nat)) | apply Exists.intro (α := Option Addr) | apply Exists.intro (α := Value))); refine ⟨rfl, ?_⟩)
        | (refine RDS.bld ?_; (repeat (first | apply Exists.intro (α := Int) | apply Exists.intro (α := Bool) | apply Exists.intro (α := ByteArray) | (apply Exists.intro (α := Option Addr); apply Exists.intro (α := Nat); apply Exists.intro (α := Nat)) | apply Exists.intro (α := Option Addr) | apply Exists.intro (α := Value))); refine ⟨rfl, ?_⟩)
        | refine St.rdsI _ ?_
        | refine St.rdsB _ ?_
        | refine St.rdsP _ ?_
        | refine St.rdsL _ ?_
        | refine St.rdsT _ ?_
        | refine St.rdsI2 _ _ ?_
        | refine St.rdsB2 _ _ ?_
        | (refine St.rdsG ?_; (repeat (first | apply Exists.intro (α := Int) | apply Exists.intro (α := Bool) | apply Exists.intro (α := ByteArray) | (apply Exists.intro (α := Option Addr); apply Exists.intro (α := Nat); apply Exists.intro (α := Nat)) | apply Exists.intro (α := Option Addr) | apply Exists.intro (α := Value))); refine ⟨rfl, ?_⟩)
        | refine letb rfl ?_
        | refine sat h ?_
        | (have h := h.drew; refine sat h ?_)
        | refine sat1 h (fun _ h => h.to) ?_)
      refine ifd (fun h2 => ?_) fun h2 => noapp (by rw [em]; exact h2) h
      repeat' (first
        | refine nilc ?_
        | refine h.rdI _ ?_
        | refine h.rdB _ ?_
        | refine h.rdP _ ?_
        | refine h.rdL _ ?_
        | refine h.rdT _ ?_
        | refine h.rdI2 _ _ ?_
        | refine h.rdB2 _ _ ?_
        | refine h.rdP2 _ _ ?_
        | refine h.rdL2 _ _ ?_
        | refine h.st2 _ _ fun w' h => ?_
        | refine h.st _ fun w' h => ?_
        | refine h.rdvI ?_
        | refine h.rdvB ?_
        | refine h.rdvP ?_
        | refine h.rdvL ?_
        | refine h.rdvT ?_
        | (refine h.rdG ?_; (repeat (first | apply Exists.intro (α := Int) | apply Exists.intro (α := Bool) | apply Exists.intro (α := ByteArray) | (apply Exists.intro (α := Option Addr); apply Exists.intro (α := Nat); apply Exists.intro (α := Nat)) | apply Exists.intro (α := Option Addr) | apply Exists.intro (α := Value))); refine ⟨rfl, ?_⟩)
        | refine h.stG fun w' h => ?_
        | refine h.stV fun w' h => ?_
        | refine h.box fun p w' h => ?_
        | refine h.boxV fun p w' h => ?_
        | refine h.allocZ fun p w' h => ?_
        | refine h.allocZV fun p w' h => ?_
        | (refine RD.bld ?_; (repeat (first | apply Exists.intro (α := Int) | apply Exists.intro (α := Bool) | apply Exists.intro (α := ByteArray) | (apply Exists.intro (α := Option Addr); apply Exists.intro (α := Nat); apply Exists.intro (α := Nat)) | apply Exists.intro (α := Option Addr) | apply Exists.intro (α := Value))); refine ⟨rfl, ?_⟩)
        | (refine RDS.bld ?_; (repeat (first | apply Exists.intro (α := Int) | apply Exists.intro (α := Bool) | apply Exists.intro (α := ByteArray) | (apply Exists.intro (α := Option Addr); apply Exists.intro (α := Nat); apply Exists.intro (α := Nat)) | apply Exists.intro (α := Option Addr) | apply Exists.intro (α := Value))); refine ⟨rfl, ?_⟩)
        | refine St.rdsI _ ?_
        | refine St.rdsB _ ?_
        | refine St.rdsP _ ?_
        | refine St.rdsL _ ?_
        | refine St.rdsT _ ?_
        | refine St.rdsI2 _ _ ?_
        | refine St.rdsB2 _ _ ?_
        | (refine St.rdsG ?_; (repeat (first | apply Exists.intro (α := Int) | apply Exists.intro (α := Bool) | apply Exists.intro (α := ByteArray) | (apply Exists.intro (α := Option Addr); apply Exists.intro (α := Nat); apply Exists.intro (α := Nat)) | apply Exists.intro (α := Option Addr) | apply Exists.intro (α := Value))); refine ⟨rfl, ?_⟩)
        | refine letb rfl ?_
        | refine sat h ?_
        | (have h := h.drew; refine sat h ?_)
        | refine sat1 h (fun _ h => h.to) ?_)
      exact app (y := x) (by unfold rcut; rw [em]) (by rw [em]; exact h2) h
  · have : j = X.length := by omega
    subst this
    rw [List.take_length, rC_eq hs] at h
    rw [List.take_length, rC_eq hs]
    exact hk _ _ _ h
theorem r6gaps_ok (h : St c w L) {A : Option Addr} {k : Nat} {X : List Sp} {f t : Int} (hX : RdIn L A (X.flatMap spn)) (hs : Sep X) (hl : X.length ≤ 1000) {Q : Value → World → Prop}
    (hk : ∀ O d w', St c w' (own 133 2 O (gapsS X f t).length d ((gapsS X f t).flatMap spn) :: L) → Q (.slice O (gapsS X f t).length d) w') : CALL PG 68 [.slice A X.length k, .int .u64 f, .int .u64 t] w Q := by
  have gl := gaps_len X f t
  refine call68 ?_
  unfold N68
  refine ⟨fun m f' O n d w' => ∃ out : List Sp, m = (t - f').toNat ∧ n = out.length ∧ gapsS X f t = out ++ gapsS X f' t ∧ St c w' (own 133 2 O n d (out.flatMap spn) :: L), ⟨(t - f).toNat, [], rfl, rfl, rfl, h.addOwnNil 133 2⟩, ?_⟩
  clear h
  rintro m f' O _ d w' ⟨out, rfl, rfl, hg, h⟩
  have hlen : out.length ≤ X.length + 1 := by have := congrArg List.length hg; rw [List.length_append] at this; omega
  refine ifd (fun hlt => ?_) fun hge => ?_
  · obtain ⟨s1, s2⟩ := gaps_step hs hlt
    have hge' : f' ≤ runS X f' := by
      by_cases hi : inP X f'
      · have := (runS_gt (S := X) (x := f')).2 hi; omega
      · rw [runS_out hi]; exact Int.le_refl _
    refine r6run_ok h hX.more hl fun w' h => ?_
    (repeat (first | apply Exists.intro (α := Int) | apply Exists.intro (α := Bool) | apply Exists.intro (α := ByteArray) | (apply Exists.intro (α := Option Addr); apply Exists.intro (α := Nat); apply Exists.intro (α := Nat)) | apply Exists.intro (α := Option Addr) | apply Exists.intro (α := Value)))
    refine ⟨rfl, ?_⟩
    refine leti rfl ?_
    refine ifd (fun h1 => ?_) fun h1 => ?_
    · rw [s1 (by omega), List.append_nil] at hg
      have hk := hk O d w'
      rw [hg] at hk
      exact hk h
    · have hx : runS X f' < t := by omega
      have s2 := s2 hx
      have hn := nxt_le X hx
      refine leti rfl ?_
      refine ⟨fun m2 nx i w' => ∃ j : Nat, j + m2 = X.length ∧ i = (j : Int) ∧ nx = nxt (runS X f') t (X.take j) ∧ St c w' (own 133 2 O out.length d (out.flatMap spn) :: L), ⟨X.length, 0, by omega, rfl, rfl, h⟩, ?_⟩
      clear h
      rintro m2 nx _ w' ⟨j, hj, rfl, hnx, h⟩
      refine ifd (fun hlt2 => ?_) fun hge2 => ?_
      · obtain ⟨x, hx2⟩ := ex_get (L := X) (j := j) (by omega)
        have eN : nxt (runS X f') t (X.take (j + 1)) = if runS X f' < x.f ∧ x.f < nx then x.f else nx := by rw [take_snoc' hx2, nxt_snoc, hnx]
        refine h.ix (z := 1) hX.more hx2 fun a ha => ?_
        have hX1 := hX
        rw [ha] at hX1
        refine h.rdEI 0 hX1.more hx2 ?_
        refine ifd (fun h3 => ?_) fun h3 => letw ⟨m2 - 1, by omega, j + 1, by omega, by omega, by rw [eN, if_neg (by omega)], h⟩
        refine h.ix (z := 1) hX.more hx2 fun b hb => ?_
        rw [ha] at hb
        injection hb with hb
        subst hb
        refine h.rdEI 0 hX1.more hx2 ?_
        refine ifd (fun h4 => ?_) fun h4 => letw ⟨m2 - 1, by omega, j + 1, by omega, by omega, by rw [eN, if_neg (by omega)], h⟩
        refine h.ix (z := 1) hX.more hx2 fun b hb => ?_
        rw [ha] at hb
        injection hb with hb
        subst hb
        refine h.rdEI 0 hX1.more hx2 ?_
        exact leti rfl (letw ⟨m2 - 1, by omega, j + 1, by omega, by omega, by rw [eN, if_pos (by omega)], h⟩)
      · have : j = X.length := by omega
        subst this
        rw [List.take_length] at hnx
        subst hnx
        repeat' (first
          | refine nilc ?_
          | refine h.rdI _ ?_
          | refine h.rdB _ ?_
          | refine h.rdP _ ?_
          | refine h.rdL _ ?_
          | refine h.rdT _ ?_
          | refine h.rdI2 _ _ ?_
          | refine h.rdB2 _ _ ?_
          | refine h.rdP2 _ _ ?_
          | refine h.rdL2 _ _ ?_
          | refine h.st2 _ _ fun w' h => ?_
          | refine h.st _ fun w' h => ?_
          | refine h.rdvI ?_
          | refine h.rdvB ?_
          | refine h.rdvP ?_
          | refine h.rdvL ?_
          | refine h.rdvT ?_
          | (refine h.rdG ?_; (repeat (first | apply Exists.intro (α := Int) | apply Exists.intro (α := Bool) | apply Exists.intro (α := ByteArray) | (apply Exists.intro (α := Option Addr); apply Exists.intro (α := Nat); apply Exists.intro (α := Nat)) | apply Exists.intro (α := Option Addr) | apply Exists.intro (α := Value))); refine ⟨rfl, ?_⟩)
          | refine h.stG fun w' h => ?_
          | refine h.stV fun w' h => ?_
          | refine h.box fun p w' h => ?_
          | refine h.boxV fun p w' h => ?_
          | refine h.allocZ fun p w' h => ?_
          | refine h.allocZV fun p w' h => ?_
          | (refine RD.bld ?_; (repeat (first | apply Exists.intro (α := Int) | apply Exists.intro (α := Bool) | apply Exists.intro (α := ByteArray) | (apply Exists.intro (α := Option Addr); apply Exists.intro (α := Nat); apply Exists.intro (α := Nat)) | apply Exists.intro (α := Option Addr) | apply Exists.intro (α := Value))); refine ⟨rfl, ?_⟩)
          | (refine RDS.bld ?_; (repeat (first | apply Exists.intro (α := Int) | apply Exists.intro (α := Bool) | apply Exists.intro (α := ByteArray) | (apply Exists.intro (α := Option Addr); apply Exists.intro (α := Nat); apply Exists.intro (α := Nat)) | apply Exists.intro (α := Option Addr) | apply Exists.intro (α := Value))); refine ⟨rfl, ?_⟩)
          | refine St.rdsI _ ?_
          | refine St.rdsB _ ?_
          | refine St.rdsP _ ?_
          | refine St.rdsL _ ?_
          | refine St.rdsT _ ?_
          | refine St.rdsI2 _ _ ?_
          | refine St.rdsB2 _ _ ?_
          | (refine St.rdsG ?_; (repeat (first | apply Exists.intro (α := Int) | apply Exists.intro (α := Bool) | apply Exists.intro (α := ByteArray) | (apply Exists.intro (α := Option Addr); apply Exists.intro (α := Nat); apply Exists.intro (α := Nat)) | apply Exists.intro (α := Option Addr) | apply Exists.intro (α := Value))); refine ⟨rfl, ?_⟩)
          | refine letb rfl ?_
          | refine sat h ?_
          | (have h := h.drew; refine sat h ?_)
          | refine sat1 h (fun _ h => h.to) ?_)
        refine h.app1 huRp tiRp (spn ⟨runS X f', nxt (runS X f') t X⟩) .head (spn_flat1 _) (by omega) fun O' d' w' h => ?_
        refine leti rfl ⟨(t - nxt (runS X f') t X).toNat, by omega, out ++ [⟨runS X f', nxt (runS X f') t X⟩], rfl, by simp, by rw [hg, s2, List.append_assoc]; rfl, ?_⟩
        rw [List.flatMap_append, List.flatMap_cons, List.flatMap_nil, List.append_nil]
        exact h
  · rw [gaps_none (f := f') hs (by omega), List.append_nil] at hg
    have hk := hk O d w'
    rw [hg] at hk
    exact hk h
end
end Go.Br
