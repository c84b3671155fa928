/- Pieces of numbers that rise and don't touch, in plain lists. -/
import Derived.Test.YtccmlfekmmeloaaSpansRep
set_option linter.unusedVariables false
set_option linter.unusedSimpArgs false
set_option linter.unnecessarySimpa false
namespace Go.Br
open Go
attribute [local irreducible] Addr.add

def SpOk (p : Sp) : Prop := 0 ≤ p.f ∧ p.f < p.t ∧ p.t < 18446744073709551616
def Sep (S : List Sp) : Prop := S.Pairwise (fun a b => a.t < b.f) ∧ ∀ a ∈ S, SpOk a
def inP (S : List Sp) (n : Int) : Prop := ∃ p ∈ S, p.f ≤ n ∧ n < p.t
theorem Sep.nil : Sep [] := ⟨List.Pairwise.nil, fun a h => by cases h⟩
theorem Sep.cons {p : Sp} {S : List Sp} : Sep (p :: S) ↔ (∀ b ∈ S, p.t < b.f) ∧ SpOk p ∧ Sep S := by
  unfold Sep
  rw [List.pairwise_cons]
  constructor
  · rintro ⟨⟨h1, h2⟩, h3⟩
    exact ⟨h1, h3 p (by simp), h2, fun a ha => h3 a (by simp [ha])⟩
  · rintro ⟨h1, h2, h3, h4⟩
    exact ⟨⟨h1, h3⟩, fun a ha => by
      rcases List.mem_cons.1 ha with rfl | ha
      · exact h2
      · exact h4 a ha⟩
theorem Sep.append {X Y : List Sp} : Sep (X ++ Y) ↔ Sep X ∧ Sep Y ∧ ∀ a ∈ X, ∀ b ∈ Y, a.t < b.f := by
  unfold Sep
  rw [List.pairwise_append]
  constructor
  · rintro ⟨⟨h1, h2, h3⟩, h4⟩
    exact ⟨⟨h1, fun a ha => h4 a (by simp [ha])⟩, ⟨h2, fun a ha => h4 a (by simp [ha])⟩, h3⟩
  · rintro ⟨⟨h1, h2⟩, ⟨h3, h4⟩, h5⟩
    exact ⟨⟨h1, h3, h5⟩, fun a ha => by
      rcases List.mem_append.1 ha with ha | ha
      · exact h2 a ha
      · exact h4 a ha⟩
theorem inP_nil (n : Int) : ¬ inP [] n := fun ⟨p, h, _⟩ => by cases h
theorem inP_cons {p : Sp} {S : List Sp} {n : Int} : inP (p :: S) n ↔ (p.f ≤ n ∧ n < p.t) ∨ inP S n := by simp [inP]
theorem inP_append {X Y : List Sp} {n : Int} : inP (X ++ Y) n ↔ inP X n ∨ inP Y n := by
  unfold inP
  constructor
  · rintro ⟨p, hp, h⟩
    rcases List.mem_append.1 hp with hp | hp
    · exact .inl ⟨p, hp, h⟩
    · exact .inr ⟨p, hp, h⟩
  · rintro (⟨p, hp, h⟩ | ⟨p, hp, h⟩)
    · exact ⟨p, by simp [hp], h⟩
    · exact ⟨p, by simp [hp], h⟩

/-! ### Adding -/
def spA (S : List Sp) (f : Int) : List Sp := S.takeWhile fun p => decide (p.t < f)
def spB (S : List Sp) (f : Int) : List Sp := S.dropWhile fun p => decide (p.t < f)
def spM (B : List Sp) (t : Int) : List Sp := B.takeWhile fun p => decide (p.f ≤ t)
def spZ (B : List Sp) (t : Int) : List Sp := B.dropWhile fun p => decide (p.f ≤ t)
def jF (f : Int) (M : List Sp) : Int := M.foldl (fun a p => minN a p.f) f
def jT (t : Int) (M : List Sp) : Int := M.foldl (fun a p => maxN a p.t) t
def addS (S : List Sp) (f t : Int) : List Sp := spA S f ++ ⟨jF f (spM (spB S f) t), jT t (spM (spB S f) t)⟩ :: spZ (spB S f) t
/-- The pieces, whether there is room. -/
def addR (S : List Sp) (f t most : Int) : List Sp × Bool :=
  if t ≤ f then (S, true) else if spM (spB S f) t = [] ∧ (S.length : Int) = most then (S, false) else (addS S f t, true)
theorem spAB (S : List Sp) (f : Int) : spA S f ++ spB S f = S := List.takeWhile_append_dropWhile
theorem spMZ (B : List Sp) (t : Int) : spM B t ++ spZ B t = B := List.takeWhile_append_dropWhile
theorem mem_takeWhile' {α : Type} {p : α → Bool} : ∀ {l : List α} {x : α}, x ∈ l.takeWhile p → p x = true
  | [], x, h => by cases h
  | y :: l, x, h => by
    rw [List.takeWhile_cons] at h
    split at h
    · rcases List.mem_cons.1 h with rfl | h
      · assumption
      · exact mem_takeWhile' h
    · cases h
theorem spA_lt {S : List Sp} {f : Int} {p : Sp} (h : p ∈ spA S f) : p.t < f := by simpa using mem_takeWhile' h
theorem spM_le {B : List Sp} {t : Int} {p : Sp} (h : p ∈ spM B t) : p.f ≤ t := by simpa using mem_takeWhile' h
theorem spB_ge : ∀ {S : List Sp} {f : Int} {p : Sp}, Sep S → p ∈ spB S f → f ≤ p.t
  | [], f, p, _, h => by cases h
  | a :: S, f, p, hs, h => by
    obtain ⟨h1, h2, h3⟩ := Sep.cons.1 hs
    unfold spB at h
    rw [List.dropWhile_cons] at h
    split at h
    · exact spB_ge h3 h
    · rename_i hn
      simp at hn
      rcases List.mem_cons.1 h with rfl | h
      · exact hn
      · have a1 := h1 p h
        have a2 := (h3.2 p h).2.1
        omega
theorem spZ_gt : ∀ {B : List Sp} {t : Int} {p : Sp}, Sep B → p ∈ spZ B t → t < p.f
  | [], t, p, _, h => by cases h
  | a :: B, t, p, hs, h => by
    obtain ⟨h1, h2, h3⟩ := Sep.cons.1 hs
    unfold spZ at h
    rw [List.dropWhile_cons] at h
    split at h
    · exact spZ_gt h3 h
    · rename_i hn
      simp at hn
      rcases List.mem_cons.1 h with rfl | h
      · exact hn
      · have a1 := h1 p h
        have a2 := h2.2.1
        omega
theorem jF_le (M : List Sp) : ∀ f : Int, jF f M ≤ f ∧ (∀ p ∈ M, jF f M ≤ p.f) ∧ (jF f M = f ∨ ∃ p ∈ M, jF f M = p.f) := by
  induction M with
  | nil => intro f; exact ⟨Int.le_refl _, (fun p h => by cases h), .inl rfl⟩
  | cons a M ih =>
    intro f
    obtain ⟨h1, h2, h3⟩ := ih (minN f a.f)
    have e : jF f (a :: M) = jF (minN f a.f) M := rfl
    rw [e]
    have hm : minN f a.f ≤ f ∧ minN f a.f ≤ a.f ∧ (minN f a.f = f ∨ minN f a.f = a.f) := by unfold minN; split <;> omega
    refine ⟨by omega, fun p hp => ?_, ?_⟩
    · rcases List.mem_cons.1 hp with rfl | hp
      · omega
      · exact h2 p hp
    · rcases h3 with h3 | ⟨p, hp, h3⟩
      · rcases hm.2.2 with e | e
        · exact .inl (by omega)
        · exact .inr ⟨a, by simp, by omega⟩
      · exact .inr ⟨p, by simp [hp], h3⟩
theorem jT_ge (M : List Sp) : ∀ t : Int, t ≤ jT t M ∧ (∀ p ∈ M, p.t ≤ jT t M) ∧ (jT t M = t ∨ ∃ p ∈ M, jT t M = p.t) := by
  induction M with
  | nil => intro t; exact ⟨Int.le_refl _, (fun p h => by cases h), .inl rfl⟩
  | cons a M ih =>
    intro t
    obtain ⟨h1, h2, h3⟩ := ih (maxN t a.t)
    have e : jT t (a :: M) = jT (maxN t a.t) M := rfl
    rw [e]
    have hm : t ≤ maxN t a.t ∧ a.t ≤ maxN t a.t ∧ (maxN t a.t = t ∨ maxN t a.t = a.t) := by unfold maxN; split <;> omega
    refine ⟨by omega, fun p hp => ?_, ?_⟩
    · rcases List.mem_cons.1 hp with rfl | hp
      · omega
      · exact h2 p hp
    · rcases h3 with h3 | ⟨p, hp, h3⟩
      · rcases hm.2.2 with e | e
        · exact .inl (by omega)
        · exact .inr ⟨a, by simp, by omega⟩
      · exact .inr ⟨p, by simp [hp], h3⟩
theorem sep_parts {S : List Sp} {f t : Int} (h : Sep S) : Sep (spA S f) ∧ Sep (spM (spB S f) t) ∧ Sep (spZ (spB S f) t) ∧ Sep (spB S f) ∧ (∀ a ∈ spA S f, ∀ b ∈ spB S f, a.t < b.f) ∧ ∀ a ∈ spM (spB S f) t, ∀ b ∈ spZ (spB S f) t, a.t < b.f := by
  have h1 := h
  rw [← spAB S f] at h1
  obtain ⟨a1, a2, a3⟩ := Sep.append.1 h1
  have h2 := a2
  rw [← spMZ (spB S f) t] at h2
  obtain ⟨b1, b2, b3⟩ := Sep.append.1 h2
  exact ⟨a1, b1, b2, a2, a3, b3⟩
theorem mem_spM {B : List Sp} {t : Int} {p : Sp} (h : p ∈ spM B t) : p ∈ B := by rw [← spMZ B t]; simp [h]
theorem mem_spZ {B : List Sp} {t : Int} {p : Sp} (h : p ∈ spZ B t) : p ∈ B := by rw [← spMZ B t]; simp [h]
theorem addS_sep {S : List Sp} {f t : Int} (h : Sep S) (h0 : 0 ≤ f) (hft : f < t) (h1 : t < 18446744073709551616) : Sep (addS S f t) := by
  obtain ⟨a1, a2, a3, a4, a5, a6⟩ := sep_parts (f := f) (t := t) h
  obtain ⟨f1, f2, f3⟩ := jF_le (spM (spB S f) t) f
  obtain ⟨t1, t2, t3⟩ := jT_ge (spM (spB S f) t) t
  unfold addS
  refine Sep.append.2 ⟨a1, Sep.cons.2 ⟨fun b hb => ?_, ⟨?_, ?_, ?_⟩, a3⟩, fun a ha b hb => ?_⟩
  · simp only
    rcases t3 with e | ⟨p, hp, e⟩
    · rw [e]; exact spZ_gt a4 hb
    · rw [e]; exact a6 p hp b hb
  · simp only
    rcases f3 with e | ⟨p, hp, e⟩
    · omega
    · rw [e]; exact (a2.2 p hp).1
  · simp only; omega
  · simp only
    rcases t3 with e | ⟨p, hp, e⟩
    · omega
    · rw [e]; exact (a2.2 p hp).2.2
  · rcases List.mem_cons.1 hb with rfl | hb
    · simp only
      rcases f3 with e | ⟨p, hp, e⟩
      · rw [e]; exact spA_lt ha
      · rw [e]; exact a5 a ha p (mem_spM hp)
    · exact a5 a ha b (mem_spZ hb)
theorem addS_in {S : List Sp} {f t : Int} (h : Sep S) (hft : f < t) (n : Int) : inP (addS S f t) n ↔ inP S n ∨ (f ≤ n ∧ n < t) := by
  obtain ⟨a1, a2, a3, a4, a5, a6⟩ := sep_parts (f := f) (t := t) h
  obtain ⟨f1, f2, f3⟩ := jF_le (spM (spB S f) t) f
  obtain ⟨t1, t2, t3⟩ := jT_ge (spM (spB S f) t) t
  have eS : inP S n ↔ inP (spA S f) n ∨ inP (spM (spB S f) t) n ∨ inP (spZ (spB S f) t) n := by
    rw [← inP_append, spMZ, ← inP_append, spAB]
  unfold addS
  rw [inP_append, inP_cons, eS]
  simp only
  constructor
  · rintro (h | ⟨h1, h2⟩ | h)
    · exact .inl (.inl h)
    · by_cases hn : n < f
      · rcases f3 with e | ⟨p, hp, e⟩
        · omega
        · refine .inl (.inr (.inl ⟨p, hp, by omega, ?_⟩))
          have := spB_ge h (mem_spM hp)
          omega
      · by_cases hn2 : n < t
        · exact .inr ⟨by omega, hn2⟩
        · rcases t3 with e | ⟨p, hp, e⟩
          · omega
          · refine .inl (.inr (.inl ⟨p, hp, ?_, by omega⟩))
            have := spM_le hp
            omega
    · exact .inl (.inr (.inr h))
  · rintro ((h | ⟨p, hp, h1, h2⟩ | h) | ⟨h1, h2⟩)
    · exact .inl h
    · have := f2 p hp
      have := t2 p hp
      exact .inr (.inl ⟨by omega, by omega⟩)
    · exact .inr (.inr h)
    · exact .inr (.inl ⟨by omega, by omega⟩)
theorem addS_len (S : List Sp) (f t : Int) : (addS S f t).length + (spM (spB S f) t).length = S.length + 1 := by
  have h1 := congrArg List.length (spAB S f)
  have h2 := congrArg List.length (spMZ (spB S f) t)
  rw [List.length_append] at h1 h2
  unfold addS
  rw [List.length_append, List.length_cons]; omega

/-! ### What is there -/
def runS (S : List Sp) (x : Int) : Int := match S.find? (fun p => decide (p.f ≤ x) && decide (x < p.t)) with
  | some p => p.t
  | none => x
theorem runS_in {S : List Sp} {x : Int} (h : inP S x) : ∃ p ∈ S, p.f ≤ x ∧ x < p.t ∧ runS S x = p.t := by
  unfold runS
  split
  · rename_i p hp
    have h1 := List.find?_some hp
    simp at h1
    exact ⟨p, List.mem_of_find?_eq_some hp, h1.1, h1.2, rfl⟩
  · rename_i hn
    rw [List.find?_eq_none] at hn
    obtain ⟨p, hp, h1, h2⟩ := h
    have := hn p hp
    simp at this
    omega
theorem runS_out {S : List Sp} {x : Int} (h : ¬ inP S x) : runS S x = x := by
  unfold runS
  split
  · rename_i p hp
    have h1 := List.find?_some hp
    simp at h1
    exact absurd ⟨p, List.mem_of_find?_eq_some hp, h1⟩ h
  · rfl
theorem runS_gt {S : List Sp} {x : Int} : x < runS S x ↔ inP S x := by
  by_cases h : inP S x
  · obtain ⟨p, _, _, h2, e⟩ := runS_in h
    exact ⟨fun _ => h, fun _ => by omega⟩
  · rw [runS_out h]; exact ⟨fun h' => by omega, fun h' => absurd h' h⟩
/-- All of a piece is there in one piece. -/
theorem run_all {S : List Sp} {f t : Int} (hs : Sep S) (hft : f < t) (h : ∀ n, f ≤ n → n < t → inP S n) : t ≤ runS S f := by
  obtain ⟨p, hp, h1, h2, e⟩ := runS_in (h f (Int.le_refl _) hft)
  rw [e]
  rcases Int.lt_or_le p.t t with hlt | hge
  · exfalso
    obtain ⟨q, hq, h3, h4⟩ := h p.t (by omega) hlt
    obtain ⟨i, hi⟩ := List.mem_iff_getElem?.1 hp
    obtain ⟨j, hj⟩ := List.mem_iff_getElem?.1 hq
    obtain ⟨hi', hi⟩ := List.getElem?_eq_some_iff.1 hi
    obtain ⟨hj', hj⟩ := List.getElem?_eq_some_iff.1 hj
    have hpw := List.pairwise_iff_getElem.1 hs.1
    rcases Nat.lt_trichotomy i j with hij | hij | hij
    · have := hpw i j hi' hj' hij
      rw [hi, hj] at this
      omega
    · subst hij
      rw [hi] at hj
      subst hj
      omega
    · have := hpw j i hj' hi' hij
      rw [hi, hj] at this
      have := (hs.2 q hq).2.1
      omega
  · exact hge

/-! ### Gaps -/
def gapsS : List Sp → Int → Int → List Sp
  | [], f, t => if f < t then [⟨f, t⟩] else []
  | p :: S, f, t => if p.t ≤ f then gapsS S f t else if t ≤ p.f then gapsS S f t else (if f < p.f then [⟨f, p.f⟩] else []) ++ gapsS S p.t t
theorem gaps_mem : ∀ {S : List Sp} {f t : Int}, Sep S → ∀ g ∈ gapsS S f t, f ≤ g.f ∧ g.f < g.t ∧ g.t ≤ t ∧ ∀ n, g.f ≤ n → n < g.t → ¬ inP S n
  | [], f, t, _, g, hg => by
    unfold gapsS at hg
    split at hg
    · simp at hg; subst hg
      exact ⟨Int.le_refl _, by assumption, Int.le_refl _, fun n _ _ => inP_nil n⟩
    · cases hg
  | p :: S, f, t, hs, g, hg => by
    obtain ⟨h1, h2, h3⟩ := Sep.cons.1 hs
    unfold gapsS at hg
    split at hg
    · rename_i hc
      obtain ⟨a1, a2, a3, a4⟩ := gaps_mem h3 g hg
      exact ⟨a1, a2, a3, fun n hn1 hn2 hi => by
        rcases inP_cons.1 hi with hi | hi
        · omega
        · exact a4 n hn1 hn2 hi⟩
    · split at hg
      · rename_i hc
        obtain ⟨a1, a2, a3, a4⟩ := gaps_mem h3 g hg
        exact ⟨a1, a2, a3, fun n hn1 hn2 hi => by
          rcases inP_cons.1 hi with hi | hi
          · omega
          · exact a4 n hn1 hn2 hi⟩
      · rename_i hc1 hc2
        rcases List.mem_append.1 hg with hg | hg
        · split at hg
          · simp at hg; subst hg
            refine ⟨Int.le_refl _, by assumption, by simp only; omega, fun n hn1 hn2 hi => ?_⟩
            simp only at hn1 hn2
            rcases inP_cons.1 hi with hi | ⟨b, hb, hi1, hi2⟩
            · omega
            · have := h1 b hb
              have := h2.2.1
              omega
          · cases hg
        · obtain ⟨a1, a2, a3, a4⟩ := gaps_mem h3 g hg
          exact ⟨by omega, a2, a3, fun n hn1 hn2 hi => by
            rcases inP_cons.1 hi with hi | hi
            · omega
            · exact a4 n hn1 hn2 hi⟩
theorem gaps_cov : ∀ {S : List Sp} {f t : Int}, Sep S → ∀ n, f ≤ n → n < t → inP S n ∨ inP (gapsS S f t) n
  | [], f, t, _, n, h1, h2 => by
    unfold gapsS
    rw [if_pos (by omega)]
    exact .inr ⟨⟨f, t⟩, by simp, h1, h2⟩
  | p :: S, f, t, hs, n, hn1, hn2 => by
    obtain ⟨h1, h2, h3⟩ := Sep.cons.1 hs
    unfold gapsS
    split
    · rcases gaps_cov h3 n hn1 hn2 with h | h
      · exact .inl (inP_cons.2 (.inr h))
      · exact .inr h
    · split
      · rcases gaps_cov h3 n hn1 hn2 with h | h
        · exact .inl (inP_cons.2 (.inr h))
        · exact .inr h
      · rename_i hc1 hc2
        rw [inP_append, inP_cons]
        by_cases hp : n < p.f
        · rw [if_pos (by omega)]
          exact .inr (.inl ⟨⟨f, p.f⟩, by simp, hn1, hp⟩)
        · by_cases hq : n < p.t
          · exact .inl (.inl ⟨by omega, hq⟩)
          · rcases gaps_cov (f := p.t) (t := t) h3 n (by omega) hn2 with h | h
            · exact .inl (.inr h)
            · exact .inr (.inr h)
theorem gaps_sep : ∀ {S : List Sp} {f t : Int}, Sep S → (gapsS S f t).Pairwise fun a b => a.t ≤ b.f
  | [], f, t, _ => by unfold gapsS; split <;> simp
  | p :: S, f, t, hs => by
    obtain ⟨h1, h2, h3⟩ := Sep.cons.1 hs
    unfold gapsS
    split
    · exact gaps_sep h3
    · split
      · exact gaps_sep h3
      · rw [List.pairwise_append]
        refine ⟨by split <;> simp, gaps_sep h3, fun a ha b hb => ?_⟩
        split at ha
        · simp at ha; subst ha
          have := (gaps_mem h3 b hb).1
          have := h2.2.1
          simp only; omega
        · cases ha
theorem gaps_len : ∀ (S : List Sp) (f t : Int), (gapsS S f t).length ≤ S.length + 1
  | [], f, t => by unfold gapsS; split <;> simp
  | p :: S, f, t => by
    unfold gapsS
    split
    · have := gaps_len S f t; simp; omega
    · split
      · have := gaps_len S f t; simp; omega
      · have := gaps_len S p.t t
        rw [List.length_append, List.length_cons]
        split <;> simp <;> omega
theorem gaps_snoc (S : List Sp) (f t : Int) : True := trivial

/-! ### Cutting -/
def cutP (S : List Sp) (b : Int) : List Sp := match S.dropWhile (fun p => decide (p.t ≤ b)) with
  | [] => []
  | p :: r => ⟨maxN p.f b, p.t⟩ :: r
theorem cutP_cons (p : Sp) (S : List Sp) (b : Int) : cutP (p :: S) b = if p.t ≤ b then cutP S b else ⟨maxN p.f b, p.t⟩ :: S := by
  unfold cutP
  rw [List.dropWhile_cons]
  by_cases h : p.t ≤ b
  · simp only [h, decide_true, if_true]
  · simp only [h, decide_false, Bool.false_eq_true, if_false]
theorem cutP_sep : ∀ {S : List Sp} {b : Int}, Sep S → Sep (cutP S b)
  | [], b, _ => Sep.nil
  | p :: S, b, hs => by
    obtain ⟨h1, h2, h3⟩ := Sep.cons.1 hs
    rw [cutP_cons]
    split
    · exact cutP_sep h3
    · refine Sep.cons.2 ⟨h1, ⟨?_, ?_, h2.2.2⟩, h3⟩
      · have := h2.1; simp only; unfold maxN; split <;> omega
      · have := h2.2.1; simp only; unfold maxN; split <;> omega
theorem cutP_in : ∀ {S : List Sp} {b n : Int}, Sep S → (inP (cutP S b) n ↔ inP S n ∧ b ≤ n)
  | [], b, n, _ => ⟨fun h => absurd h (inP_nil n), fun h => absurd h.1 (inP_nil n)⟩
  | p :: S, b, n, hs => by
    obtain ⟨h1, h2, h3⟩ := Sep.cons.1 hs
    rw [cutP_cons, inP_cons]
    split
    · rw [cutP_in h3]
      constructor
      · rintro ⟨a, b⟩; exact ⟨.inr a, b⟩
      · rintro ⟨a | a, b⟩
        · omega
        · exact ⟨a, b⟩
    · rw [inP_cons]
      have hS : inP S n → b ≤ n := fun ⟨q, hq, q1, q2⟩ => by have := h1 q hq; omega
      constructor
      · rintro (a | a)
        · obtain ⟨a1, a2⟩ := a
          simp only at a1 a2
          unfold maxN at a1
          refine ⟨.inl ?_, ?_⟩ <;> (split at a1 <;> omega)
        · exact ⟨.inr a, hS a⟩
      · rintro ⟨a | a, b⟩
        · refine .inl ⟨?_, a.2⟩
          simp only; unfold maxN; split <;> omega
        · exact .inr a
theorem cutP_len : ∀ (S : List Sp) (b : Int), (cutP S b).length ≤ S.length
  | [], b => by simp [cutP]
  | p :: S, b => by
    rw [cutP_cons]
    split
    · have := cutP_len S b; simp; omega
    · simp
/-! ### How many -/
def msr (S : List Sp) : Int := (S.map fun p => p.t - p.f).sum
theorem msr_cons (p : Sp) (S : List Sp) : msr (p :: S) = (p.t - p.f) + msr S := by simp [msr]
theorem msr_append (X Y : List Sp) : msr (X ++ Y) = msr X + msr Y := by simp [msr]
/-- Pieces that lie between, and touch at most. -/
theorem join_msr {f t : Int} (hft : f < t) : ∀ {M : List Sp}, Sep M → (∀ p ∈ M, f ≤ p.t ∧ p.f ≤ t) → (∀ n, f ≤ n → n < t → ¬ inP M n) → jT t M - jF f M = (t - f) + msr M := by
  intro M hs h1 h2
  have hp : ∀ p ∈ M, p.t = f ∨ p.f = t := fun p hp => by
    obtain ⟨a, b⟩ := h1 p hp
    have ok := (hs.2 p hp).2.1
    rcases Int.lt_or_le f p.t with hl | hl
    · rcases Int.lt_or_le p.f t with hl2 | hl2
      · exfalso
        rcases Int.le_total f p.f with h3 | h3
        · exact h2 p.f h3 hl2 ⟨p, hp, Int.le_refl _, ok⟩
        · exact h2 f (Int.le_refl _) hft ⟨p, hp, h3, hl⟩
      · exact .inr (by omega)
    · exact .inl (by omega)
  match M, hs, hp with
  | [], _, _ => simp [jT, jF, msr]
  | [p], hs, hp =>
    have ok := (hs.2 p (by simp)).2.1
    have := hp p (by simp)
    have e : msr [p] = p.t - p.f := by simp [msr]
    rw [e]
    simp only [jT, jF, List.foldl_cons, List.foldl_nil, minN, maxN]
    split <;> split <;> omega
  | [p, q], hs, hp =>
    have ok := (hs.2 p (by simp)).2.1
    have ok2 := (hs.2 q (by simp)).2.1
    have hpq := (Sep.cons.1 hs).1 q (by simp)
    have a1 := hp p (by simp)
    have a2 := hp q (by simp)
    have e : msr [p, q] = (p.t - p.f) + (q.t - q.f) := by simp [msr]
    rw [e]
    have hq1 : jT t [p, q] = maxN (maxN t p.t) q.t := rfl
    have hq2 : jF f [p, q] = minN (minN f p.f) q.f := rfl
    rw [hq1, hq2]
    have b1 : maxN (maxN t p.t) q.t = if q.t > maxN t p.t then q.t else maxN t p.t := rfl
    have b2 : maxN t p.t = if p.t > t then p.t else t := rfl
    have b3 : minN (minN f p.f) q.f = if q.f < minN f p.f then q.f else minN f p.f := rfl
    have b4 : minN f p.f = if p.f < f then p.f else f := rfl
    split at b1 <;> split at b2 <;> split at b3 <;> split at b4 <;> omega
  | p :: q :: r :: M, hs, hp =>
    exfalso
    have hpq := (Sep.cons.1 hs).1 q (by simp)
    have hpr := (Sep.cons.1 hs).1 r (by simp)
    have hqr := (Sep.cons.1 (Sep.cons.1 hs).2.2).1 r (by simp)
    have ok1 := (hs.2 p (by simp)).2.1
    have ok2 := (hs.2 q (by simp)).2.1
    have ok3 := (hs.2 r (by simp)).2.1
    have a1 := hp p (by simp)
    have a2 := hp q (by simp)
    have a3 := hp r (by simp)
    omega
theorem addS_msr {S : List Sp} {f t : Int} (h : Sep S) (hft : f < t) (hd : ∀ n, f ≤ n → n < t → ¬ inP S n) : msr (addS S f t) = msr S + (t - f) := by
  obtain ⟨a1, a2, a3, a4, a5, a6⟩ := sep_parts (f := f) (t := t) h
  have e1 : msr S = msr (spA S f) + (msr (spM (spB S f) t) + msr (spZ (spB S f) t)) := by rw [← msr_append, spMZ, ← msr_append, spAB]
  have hj := join_msr hft a2 (fun p hp => ⟨spB_ge h (mem_spM hp), spM_le hp⟩) (fun n h1 h2 hi => hd n h1 h2 (by
    obtain ⟨p, hp, hh⟩ := hi
    refine ⟨p, ?_, hh⟩
    rw [← spAB S f]
    simp [mem_spM hp]))
  unfold addS
  rw [msr_append, msr_cons, e1]
  simp only
  omega
end Go.Br
