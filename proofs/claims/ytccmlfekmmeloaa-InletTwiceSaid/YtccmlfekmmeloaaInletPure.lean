/- What comes of a stream, in any order, is the stream's: plain. -/
import Derived.Test.YtccmlfekmmeloaaInlet2
set_option linter.unusedVariables false
set_option linter.unusedSimpArgs false
set_option linter.unnecessarySimpa false
namespace Go.Br
open Go
attribute [local irreducible] Addr.add RD RDS RUN RUNU NILC LETB CALL CALLX CALLV

/-- Two pieces are one, or apart. -/
theorem sep_two {S : List Sp} (h : Sep S) {p q : Sp} (hp : p ∈ S) (hq : q ∈ S) : p = q ∨ p.t < q.f ∨ q.t < p.f := by
  obtain ⟨i, hi, rfl⟩ := List.mem_iff_getElem.1 hp
  obtain ⟨j, hj, rfl⟩ := List.mem_iff_getElem.1 hq
  rcases Nat.lt_trichotomy i j with h1 | h1 | h1
  · exact .inr (.inl (List.pairwise_iff_getElem.1 h.1 i j hi hj h1))
  · subst h1; exact .inl rfl
  · exact .inr (.inr (List.pairwise_iff_getElem.1 h.1 j i hj hi h1))
theorem run_not {S : List Sp} (h : Sep S) (x : Int) : ¬ inP S (runS S x) := by
  by_cases hx : inP S x
  · obtain ⟨p, hp, p1, p2, p3⟩ := runS_in hx
    rw [p3]
    rintro ⟨q, hq, q1, q2⟩
    have := (h.2 p hp).2.1
    have := (h.2 q hq).2.1
    rcases sep_two h hp hq with e | e | e
    · subst e; omega
    · omega
    · omega
  · rw [runS_out hx]; exact hx
theorem spl_at {α : Type} {l new : List α} {o : Nat} (h : o + new.length ≤ l.length) (i : Nat) : (spl l o new)[i]? = if o ≤ i ∧ i < o + new.length then new[i - o]? else l[i]? := spl_get h i
open Classical in
theorem setG_get {base f : Int} {b : List UInt8} {v : List UInt8} : ∀ {G : List Sp}, (∀ g ∈ G, base ≤ g.f ∧ f ≤ g.f ∧ g.f ≤ g.t ∧ g.t ≤ base + v.length ∧ g.t - f ≤ b.length) → ∀ i : Nat, (setG base f b v G)[i]? = if inP G (base + i) then b[(base + i - f).toNat]? else v[i]? := by
  intro G
  induction hn : G.length generalizing G with
  | zero =>
    intro h i
    rw [List.length_eq_zero_iff.1 hn, if_neg (inP_nil _)]
    rfl
  | succ n ih =>
    intro h i
    rcases List.eq_nil_or_concat G with rfl | ⟨q, g, rfl⟩
    · simp at hn
    rw [List.concat_eq_append] at *
    have hq : ∀ x ∈ q, base ≤ x.f ∧ f ≤ x.f ∧ x.f ≤ x.t ∧ x.t ≤ base + v.length ∧ x.t - f ≤ b.length := fun x hx => h x (by simp [hx])
    obtain ⟨g1, g2, g3, g4, g5⟩ := h g (by simp)
    have hl : (setG base f b v q).length = v.length := setG_len fun x hx => ⟨(hq x hx).1, (hq x hx).2.2.1, (hq x hx).2.2.2.1⟩
    have lN : ((b.drop (g.f - f).toNat).take (g.t - g.f).toNat).length = (g.t - g.f).toNat := by rw [List.length_take, List.length_drop]; omega
    rw [setG_snoc, spl_at (by rw [lN, hl]; omega), lN, ih (by simpa using hn) hq i]
    by_cases hi : (g.f - base).toNat ≤ i ∧ i < (g.f - base).toNat + (g.t - g.f).toNat
    · rw [if_pos hi, if_pos (inP_append.2 (.inr ((inP_cons).2 (.inl ⟨by omega, by omega⟩)))), List.getElem?_take, if_pos (by omega), List.getElem?_drop]
      congr 1
      omega
    · rw [if_neg hi]
      have : inP (q ++ [g]) (base + i) ↔ inP q (base + i) := by
        rw [inP_append, inP_cons]
        constructor
        · rintro (h | h | h)
          · exact h
          · omega
          · exact absurd h (inP_nil _)
        · exact .inl
      simp only [this]
/-- An inlet has a stream's bytes. -/
structure OkI (s : List UInt8) (B : Nat) (v : List UInt8) (n : Nat) (S : List Sp) : Prop where
  top : B + n ≤ s.length
  hn : n ≤ v.length
  sep : Sep S
  len : S.length ≤ 4
  bnd : ∀ x ∈ S, (B : Int) + n < x.f ∧ x.t ≤ B + v.length ∧ x.t ≤ s.length
  cov : ∀ i : Nat, i < n ∨ inP S ((B : Int) + i) → v[i]? = s[B + i]?
theorem addR_len {S : List Sp} {f t : Int} (hl : S.length ≤ 4) : (addR S f t 4).1.length ≤ 4 := by
  unfold addR
  split
  · exact hl
  · split
    · exact hl
    · rename_i h
      have := addS_len S f t
      rcases Nat.eq_zero_or_pos (spM (spB S f) t).length with h0 | h0
      · have : S.length ≠ 4 := fun e => h ⟨List.length_eq_zero_iff.1 h0, by omega⟩
        show (addS S f t).length ≤ 4
        omega
      · show (addS S f t).length ≤ 4
        omega
theorem put_inv {s : List UInt8} {B : Nat} {v : List UInt8} {n : Nat} {S : List Sp} (h : OkI s B v n S) {from_ : Nat} {b : List UInt8} (hb : ∀ j, j < b.length → b[j]? = s[from_ + j]?) (hbl : from_ + b.length ≤ s.length) (hs : s.length ≤ 1000) :
    OkI s B (putV B 0 false v n 4 S from_ b).1 (putV B 0 false v n 4 S from_ b).2.1 (putV B 0 false v n 4 S from_ b).2.2.1 ∧ (putV B 0 false v n 4 S from_ b).1.length = v.length ∧
    (from_ = B + n → b.length = 1 → n < v.length → (putV B 0 false v n 4 S from_ b).2.2.2 = true ∧ n < (putV B 0 false v n 4 S from_ b).2.1) := by
  have h1 := h.top
  have h2 := h.hn
  unfold putV
  rw [if_neg (by omega)]
  have hT : topI (B : Int) 0 false v.length = B + v.length := rfl
  rw [hT]
  have hwc := whole_cases ((B : Int) + v.length) ((from_ : Int) + b.length) b.length
  obtain ⟨whole, hw⟩ : ∃ x, x = !(decide ((B : Int) + v.length < (from_ : Int) + b.length) && decide (0 < (b.length : Int))) := ⟨_, rfl⟩
  obtain ⟨hi, hh⟩ : ∃ x, x = if whole = true then (from_ : Int) + b.length else maxN ((B : Int) + v.length) from_ := ⟨_, rfl⟩
  obtain ⟨lo, hlo⟩ : ∃ x, x = maxN (from_ : Int) ((B : Int) + n) := ⟨_, rfl⟩
  simp only [← hw, ← hh, ← hlo]
  rw [← hw] at hwc
  have hlof : (from_ : Int) ≤ lo ∧ (B : Int) + n ≤ lo ∧ (lo = from_ ∨ lo = (B : Int) + n) := by rw [hlo]; unfold maxN; split <;> omega
  have hmx : (from_ : Int) ≤ maxN ((B : Int) + v.length) from_ ∧ (B : Int) + v.length ≤ maxN ((B : Int) + v.length) from_ ∧ (maxN ((B : Int) + v.length) from_ = (B : Int) + v.length ∨ maxN ((B : Int) + v.length) (from_ : Int) = from_) := by unfold maxN; split <;> omega
  have hhw : (whole = true ∧ ¬ ((B : Int) + v.length < (from_ : Int) + b.length ∧ 0 < (b.length : Int)) ∧ hi = (from_ : Int) + b.length) ∨ (whole = false ∧ ((B : Int) + v.length < (from_ : Int) + b.length ∧ 0 < (b.length : Int)) ∧ hi = maxN ((B : Int) + v.length) from_) := by
    rcases hwc with ⟨h1, h2⟩ | ⟨h1, h2⟩
    · rw [if_pos h1] at hh; exact .inl ⟨h1, h2, hh⟩
    · rw [if_neg (by rw [h1]; decide)] at hh; exact .inr ⟨h1, h2, hh⟩
  clear hwc hh hw hlo
  have hhi : (from_ : Int) ≤ hi ∧ hi ≤ (from_ : Int) + b.length ∧ (lo < hi → hi ≤ (B : Int) + v.length) := by
    rcases hhw with ⟨h1, h2, h3⟩ | ⟨h1, h2, h3⟩ <;> omega
  by_cases g0 : hi ≤ lo
  · rw [if_pos g0]
    refine ⟨h, rfl, fun e1 e2 e3 => ?_⟩
    rcases hhw with ⟨h1, h2, h3⟩ | ⟨h1, h2, h3⟩ <;> omega
  rw [if_neg g0]
  by_cases g1 : (B : Int) + n < lo ∧ (addR S lo hi 4).2 = false
  · rw [if_pos g1]
    exact ⟨h, rfl, fun e1 e2 e3 => by omega⟩
  rw [if_neg g1]
  have gm := gaps_mem (f := lo) (t := hi) h.sep
  have gc := gaps_cov (f := lo) (t := hi) h.sep
  have gb : ∀ g ∈ gapsS S lo hi, (B : Int) ≤ g.f ∧ (from_ : Int) ≤ g.f ∧ g.f ≤ g.t ∧ g.t ≤ (B : Int) + v.length ∧ g.t - from_ ≤ b.length := fun g hg => by
    obtain ⟨q1, q2, q3, _⟩ := gm g hg
    omega
  have sl : (setG (B : Int) from_ b v (gapsS S lo hi)).length = v.length := setG_len fun g hg => ⟨(gb g hg).1, (gb g hg).2.2.1, (gb g hg).2.2.2.1⟩
  have sg := setG_get (b := b) gb
  generalize gapsS S lo hi = G at *
  have hV : ∀ i : Nat, (i < n ∨ inP S ((B : Int) + i)) ∨ (lo ≤ (B : Int) + i ∧ (B : Int) + i < hi) → (setG (B : Int) from_ b v G)[i]? = s[B + i]? := fun i hc => by
    rw [sg i]
    by_cases hG : inP G ((B : Int) + i)
    · rw [if_pos hG]
      obtain ⟨g, hg, x1, x2⟩ := hG
      obtain ⟨q1, q2, q3, _⟩ := gm g hg
      rw [hb _ (by omega)]
      congr 1
      omega
    · rw [if_neg hG]
      refine h.cov i ?_
      rcases hc with hc | hc
      · exact hc
      · rcases gc _ hc.1 hc.2 with hc | hc
        · exact .inr hc
        · exact absurd hc hG
  have hpt : ∀ (S' : List Sp), Sep S' → (∀ m, inP S' m → (inP S m ∨ (lo ≤ m ∧ m < hi))) → ∀ x ∈ S', (∃ y ∈ S, y.f ≤ x.f) ∨ lo ≤ x.f := fun S' hS' hm x hx => by
    have hx' := (hS'.2 x hx).2.1
    rcases hm x.f ⟨x, hx, Int.le_refl _, hx'⟩ with ⟨y, hy, y1, y2⟩ | hy
    · exact .inl ⟨y, hy, y1⟩
    · exact .inr hy.1
  have hpe : ∀ (S' : List Sp), Sep S' → (∀ m, inP S' m → (inP S m ∨ (lo ≤ m ∧ m < hi))) → ∀ x ∈ S', x.t ≤ (B : Int) + v.length ∧ x.t ≤ s.length := fun S' hS' hm x hx => by
    have hx' := (hS'.2 x hx).2.1
    rcases hm (x.t - 1) ⟨x, hx, by omega, by omega⟩ with ⟨y, hy, y1, y2⟩ | hy
    · have := h.bnd y hy; omega
    · omega
  by_cases g2 : (B : Int) + n < lo
  · rw [if_pos g2]
    dsimp only
    have ha : (addR S lo hi 4).1 = addS S lo hi := by
      unfold addR at g1 ⊢
      rw [if_neg (by omega)] at g1 ⊢
      split
      · rename_i hc
        rw [if_pos hc] at g1
        exact absurd ⟨g2, rfl⟩ g1
      · rfl
    have hsp : Sep (addS S lo hi) := addS_sep h.sep (by omega) (by omega) (by omega)
    have hin : ∀ m, inP (addS S lo hi) m → (inP S m ∨ (lo ≤ m ∧ m < hi)) := fun m hm => (addS_in h.sep (by omega) m).1 hm
    refine ⟨⟨h1, by rw [sl]; exact h2, by rw [ha]; exact hsp, addR_len h.len, fun x hx => ?_, fun i hc => ?_⟩, sl, fun e1 e2 e3 => by omega⟩
    · rw [ha] at hx
      have he := hpe _ hsp hin x hx
      rw [sl]
      refine ⟨?_, he.1, he.2⟩
      rcases hpt _ hsp hin x hx with ⟨y, hy, y1⟩ | hy
      · have := (h.bnd y hy).1; omega
      · omega
    · rw [ha] at hc
      refine hV i ?_
      rcases hc with hc | hc
      · exact .inl (.inl hc)
      · rcases hin _ hc with hc | hc
        · exact .inl (.inr hc)
        · exact .inr hc
  · rw [if_neg g2]
    dsimp only
    have elo : lo = (B : Int) + n := by omega
    have hrun : hi ≤ runS S hi ∧ runS S hi ≤ (B : Int) + v.length ∧ runS S hi ≤ s.length ∧ ∀ m, hi ≤ m → m < runS S hi → inP S m := by
      by_cases hi' : inP S hi
      · obtain ⟨x, hx, x1, x2, x3⟩ := runS_in hi'
        have := h.bnd x hx
        exact ⟨by omega, by omega, by omega, fun m m1 m2 => ⟨x, hx, by omega, by omega⟩⟩
      · rw [runS_out hi']
        exact ⟨by omega, by omega, by omega, fun m m1 m2 => by omega⟩
    have hno := run_not h.sep hi
    generalize runS S hi = r at *
    have hsp : Sep (cutP S r) := cutP_sep h.sep
    have hin : ∀ m, inP (cutP S r) m → (inP S m ∨ (lo ≤ m ∧ m < hi)) := fun m hm => .inl ((cutP_in h.sep).1 hm).1
    refine ⟨⟨by omega, by rw [sl]; omega, hsp, Nat.le_trans (cutP_len S r) h.len, fun x hx => ?_, fun i hc => ?_⟩, sl, fun e1 e2 e3 => ⟨?_, by show n < (r - B).toNat; omega⟩⟩
    · have he := hpe _ hsp hin x hx
      rw [sl]
      refine ⟨?_, he.1, he.2⟩
      have hx' := (hsp.2 x hx).2.1
      have hxf := (cutP_in h.sep).1 (⟨x, hx, Int.le_refl _, hx'⟩ : inP (cutP S r) x.f)
      have : x.f ≠ r := fun e => hno (by rw [← e]; exact hxf.1)
      omega
    · refine hV i ?_
      rcases hc with hc | hc
      · have hc : i < (r - B).toNat := hc
        by_cases hi2 : (B : Int) + i < hi
        · by_cases hi3 : i < n
          · exact .inl (.inl hi3)
          · exact .inr ⟨by omega, hi2⟩
        · exact .inl (.inr (hrun.2.2.2 _ (by omega) (by omega)))
      · exact .inl (.inr ((cutP_in h.sep).1 hc).1)
    · rcases hhw with ⟨w1, w2, w3⟩ | ⟨w1, w2, w3⟩
      · exact w1
      · omega
theorem take_inv {s : List UInt8} {B : Nat} {v : List UInt8} {n : Nat} {S : List Sp} (h : OkI s B v n S) {k : Nat} (hk : k ≤ n) :
    OkI s (B + k) (v.drop k ++ List.replicate k 0) (n - k) S ∧ v.take k = (s.drop B).take k := by
  have h1 := h.top
  have h2 := h.hn
  have hl : (v.drop k ++ List.replicate k (0 : UInt8)).length = v.length := by simp; omega
  refine ⟨⟨by omega, by rw [hl]; omega, h.sep, h.len, fun x hx => ?_, fun i hc => ?_⟩, ?_⟩
  · have := h.bnd x hx
    rw [hl]
    omega
  · have hc' : k + i < n ∨ inP S ((B : Int) + (k + i : Nat)) := by
      rcases hc with hc | hc
      · exact .inl (by omega)
      · exact .inr (by rw [show (B : Int) + (k + i : Nat) = ((B + k : Nat) : Int) + i by omega]; exact hc)
    have hlt : k + i < v.length := by
      rcases hc' with hc | ⟨x, hx, x1, x2⟩
      · omega
      · have := h.bnd x hx; omega
    rw [List.getElem?_append_left (by rw [List.length_drop]; omega), List.getElem?_drop, h.cov _ hc', Nat.add_assoc]
  · refine List.ext_getElem? fun i => ?_
    rw [List.getElem?_take, List.getElem?_take, List.getElem?_drop]
    split
    · exact h.cov i (.inl (by omega))
    · rfl
end Go.Br
