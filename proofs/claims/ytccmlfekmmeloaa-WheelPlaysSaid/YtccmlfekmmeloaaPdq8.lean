/- slices.Sort of numbers: ranges that are put together. -/
import Derived.Test.YtccmlfekmmeloaaPdq7
set_option linter.unusedVariables false
set_option linter.unusedSimpArgs false
set_option linter.unnecessarySimpa false
namespace Go.Br
open Go
attribute [local irreducible] Addr.add RD RDS RUN RUNU NILC LETB CALL CALLX CALLV

/-- What stands ahead of a place isn't above what stands from it on. -/
def Cut (x a b : Nat) (D : List Int) : Prop := ∀ s t, a ≤ s → s < x → x ≤ t → t < b → at0 D s ≤ at0 D t
theorem Cut.mix {x A B a b : Nat} {D D' : List Int} (h : Cut x A B D) (hM : Mix a b D D') (hA : A ≤ a) (hB : b ≤ B) (hx : x ≤ a ∨ b ≤ x) : Cut x A B D' := fun s t h1 h2 h3 h4 => by
  have key : ∀ u, A ≤ u → u < B → ∃ v, at0 D' u = at0 D v ∧ A ≤ v ∧ v < B ∧ (u < x → v < x) ∧ (x ≤ u → x ≤ v) := fun u u1 u2 => by
    by_cases e : a ≤ u ∧ u < b
    · obtain ⟨v, v1, v2, v3⟩ := hM.sub u e.1 e.2
      exact ⟨v, v3, by omega, by omega, by omega, by omega⟩
    · exact ⟨u, hM.out u (by omega), u1, u2, id, id⟩
  obtain ⟨v, e1, v1, v2, v3, v4⟩ := key s h1 (by omega)
  obtain ⟨u, e2, u1, u2, u3, u4⟩ := key t (by omega) h4
  rw [e1, e2]
  exact h v u v1 (v3 h2) (u4 h3) u2
theorem SrtR.mix {x y a b : Nat} {D D' : List Int} (h : SrtR x y D) (hM : Mix a b D D') (hx : y ≤ a ∨ b ≤ x) : SrtR x y D' := fun s t h1 h2 h3 => by
  rw [hM.out s (by omega), hM.out t (by omega)]
  exact h s t h1 h2 h3
theorem SrtR.join {x y z : Nat} {D : List Int} (h : SrtR x y D) (h' : SrtR y z D) (hc : Cut y x z D) : SrtR x z D := fun s t h1 h2 h3 => by
  by_cases e1 : t < y
  · exact h s t h1 h2 e1
  · by_cases e2 : y ≤ s
    · exact h' s t e2 h2 h3
    · exact hc s t h1 (by omega) (by omega) h3
theorem SrtR.one (x : Nat) (D : List Int) : SrtR x (x + 1) D := fun s t h1 h2 h3 => by omega
theorem SrtR.none (x : Nat) (D : List Int) : SrtR x x D := fun s t h1 h2 h3 => by omega
theorem Cut.sub {x A B a b : Nat} {D : List Int} (h : Cut x A B D) (ha : A ≤ a) (hb : b ≤ B) : Cut x a b D := fun s t h1 h2 h3 h4 => h s t (by omega) h2 h3 (by omega)
/-- Where the sort is: between two places it isn't done yet. -/
structure PQ (A B a b : Nat) (D D' : List Int) : Prop where
  mix : Mix A B D D'
  Aa : A ≤ a
  ab : a ≤ b
  bB : b ≤ B
  lo : SrtR A a D'
  lc : Cut a A B D'
  hi : SrtR b B D'
  hc : Cut b A B D'
  pre : Pre A B D'
theorem PQ.start {A B : Nat} {D : List Int} (h : Pre A B D) (hab : A ≤ B) : PQ A B A B D D :=
  ⟨.refl _ _ _, Nat.le_refl _, hab, Nat.le_refl _, .none _ _, fun s t h1 h2 h3 h4 => by omega, .none _ _, fun s t h1 h2 h3 h4 => by omega, h⟩
theorem PQ.here {A B a b : Nat} {D D' : List Int} (h : PQ A B a b D D') : Pre a b D' := by
  have := h.Aa; have := h.bB
  by_cases e : A = a
  · subst e
    rcases h.pre with h1 | h1
    · exact .inl h1
    · exact .inr fun t t1 t2 => h1 t t1 (by omega)
  · exact .inr fun t t1 t2 => h.lc (a - 1) t (by omega) (by omega) t1 (by omega)
theorem PQ.mixed {A B a b : Nat} {D D' D'' : List Int} (h : PQ A B a b D D') (hM : Mix a b D' D'') : PQ A B a b D D'' := by
  have := h.Aa; have := h.bB
  exact ⟨h.mix.trans (hM.mono h.Aa h.bB), h.Aa, h.ab, h.bB, h.lo.mix hM (.inl (by omega)), h.lc.mix hM h.Aa h.bB (.inl (by omega)), h.hi.mix hM (.inr (by omega)), h.hc.mix hM h.Aa h.bB (.inr (by omega)), h.pre.mix (hM.mono h.Aa h.bB)⟩
theorem PQ.fin {A B a b : Nat} {D D' D'' : List Int} (h : PQ A B a b D D') (hM : Mix a b D' D'') (hS : SrtR a b D'') : Mix A B D D'' ∧ SrtR A B D'' := by
  have h' := h.mixed hM
  exact ⟨h'.mix, (h'.lo.join hS (h'.lc.sub (Nat.le_refl _) h.bB)).join h'.hi h'.hc⟩
theorem PQ.equal {A B a b m p : Nat} {D D' D'' : List Int} (h : PQ A B a b D D') (hM : Mix a b D' D'') (ham : a < m) (hmb : m ≤ b) (ha : 0 < a) (hp : a ≤ p ∧ p < b) (hx : at0 D' p ≤ at0 D' (a - 1)) (h1 : ∀ t, a ≤ t → t < m → at0 D'' t ≤ at0 D' p) (h2 : ∀ t, m ≤ t → t < b → at0 D' p < at0 D'' t) : PQ A B m b D D'' := by
  have h' := h.mixed hM
  have := h.Aa; have := h.bB
  have ge : ∀ t, a ≤ t → t < b → at0 D' p ≤ at0 D'' t := fun t t1 t2 => by
    obtain ⟨s, s1, s2, s3⟩ := hM.sub t t1 t2
    rw [s3]
    rcases h.here with e | e
    · omega
    · exact Int.le_trans hx (e s s1 s2)
  refine ⟨h'.mix, by omega, hmb, h.bB, h'.lo.join (fun s t q1 q2 q3 => ?_) (h'.lc.sub (Nat.le_refl _) (by omega)), fun s t q1 q2 q3 q4 => ?_, h'.hi, h'.hc, h'.pre⟩
  · have e1 := h1 s q1 (by omega)
    have e2 := ge t (by omega) (by omega)
    omega
  · by_cases e : s < a
    · exact h'.lc s t q1 e (by omega) q4
    · by_cases e2 : t < b
      · have e1 := h1 s (by omega) q2
        have e3 := h2 t q3 e2
        omega
      · exact h'.hc s t q1 (by omega) (by omega) q4
structure Part (a b m : Nat) (D D' : List Int) : Prop where
  mix : Mix a b D D'
  am : a ≤ m
  mb : m < b
  lt : ∀ t, a ≤ t → t < m → at0 D' t ≤ at0 D' m
  ge : ∀ t, m < t → t < b → at0 D' m ≤ at0 D' t
theorem PQ.part {A B a b m : Nat} {D D' D'' : List Int} (h : PQ A B a b D D') (hP : Part a b m D' D'') : Cut m A B D'' ∧ Cut (m + 1) A B D'' := by
  have h' := h.mixed hP.mix
  have := h.Aa; have := h.bB; have := hP.am; have := hP.mb
  have lm : ∀ s, A ≤ s → s ≤ m → at0 D'' s ≤ at0 D'' m := fun s s1 s2 => by
    by_cases e : s = m
    · rw [e]; exact Int.le_refl _
    by_cases e : s < a
    · exact h'.lc s m s1 e (by omega) (by omega)
    · exact hP.lt s (by omega) (by omega)
  have ml : ∀ t, m ≤ t → t < B → at0 D'' m ≤ at0 D'' t := fun t t1 t2 => by
    by_cases e : t = m
    · rw [e]; exact Int.le_refl _
    by_cases e : t < b
    · exact hP.ge t (by omega) e
    · exact h'.hc m t (by omega) (by omega) (by omega) t2
  exact ⟨fun s t h1 h2 h3 h4 => Int.le_trans (lm s h1 (by omega)) (ml t h3 h4), fun s t h1 h2 h3 h4 => Int.le_trans (lm s h1 (by omega)) (ml t (by omega) h4)⟩
theorem Part.left {a b m : Nat} {D D' : List Int} (h : Part a b m D D') (hp : Pre a b D) : Pre a m D' := by
  have := h.mb
  rcases hp.mix h.mix with e | e
  · exact .inl e
  · exact .inr fun t h1 h2 => e t h1 (by omega)
theorem Part.right {a b m : Nat} {D D' : List Int} (h : Part a b m D D') : Pre (m + 1) b D' := .inr fun t h1 h2 => h.ge t (by omega) h2
theorem PQ.left {A B a b m : Nat} {D D' D2 D3 : List Int} (h : PQ A B a b D D') (hP : Part a b m D' D2) (hM : Mix a m D2 D3) (hS : SrtR a m D3) : PQ A B (m + 1) b D D3 := by
  have h2 := h.mixed hP.mix
  have := h.Aa; have := h.bB; have := hP.am; have := hP.mb
  have h3 := h2.mixed (hM.mono (Nat.le_refl _) (by omega))
  obtain ⟨c1, c2⟩ := h.part hP
  have c1 := c1.mix hM h.Aa (by omega) (.inr (Nat.le_refl _))
  have c2 := c2.mix hM h.Aa (by omega) (.inr (Nat.le_succ _))
  exact ⟨h3.mix, by omega, by omega, h.bB, (h3.lo.join hS (h3.lc.sub (Nat.le_refl _) (by omega))).join (.one _ _) (c1.sub (Nat.le_refl _) (by omega)), c2, h3.hi, h3.hc, h3.pre⟩
theorem PQ.right {A B a b m : Nat} {D D' D2 D3 : List Int} (h : PQ A B a b D D') (hP : Part a b m D' D2) (hM : Mix (m + 1) b D2 D3) (hS : SrtR (m + 1) b D3) : PQ A B a m D D3 := by
  have h2 := h.mixed hP.mix
  have := h.Aa; have := h.bB; have := hP.am; have := hP.mb
  have h3 := h2.mixed (hM.mono (by omega) (Nat.le_refl _))
  obtain ⟨c1, c2⟩ := h.part hP
  have c1 := c1.mix hM (by omega) h.bB (.inl (Nat.le_succ _))
  have c2 := c2.mix hM (by omega) h.bB (.inl (Nat.le_refl _))
  exact ⟨h3.mix, h.Aa, hP.am, by omega, h3.lo, h3.lc, (SrtR.one m D3).join (hS.join h3.hi (h3.hc.sub (by omega) (Nat.le_refl _))) (c2.sub (by omega) (Nat.le_refl _)), c1, h3.pre⟩
end Go.Br
