/- What came once more turns nothing: plain. -/
import Derived.Test.YtccmlfekmmeloaaInletPure
set_option linter.unusedVariables false
set_option linter.unusedSimpArgs false
set_option linter.unnecessarySimpa false
namespace Go.Br
open Go
attribute [local irreducible] Addr.add RD RDS RUN RUNU NILC LETB CALL CALLX CALLV

theorem sep_ext : ∀ {A B : List Sp}, Sep A → Sep B → (∀ n, inP A n ↔ inP B n) → A = B
  | [], [], _, _, _ => rfl
  | [], b :: B, _, hB, h => by
    have := (hB.2 b (by simp)).2.1
    exact absurd ((h b.f).2 ⟨b, by simp, by omega, this⟩) (inP_nil _)
  | a :: A, [], hA, _, h => by
    have := (hA.2 a (by simp)).2.1
    exact absurd ((h a.f).1 ⟨a, by simp, by omega, this⟩) (inP_nil _)
  | a :: A, b :: B, hA, hB, h => by
    obtain ⟨a1, a2, a3⟩ := Sep.cons.1 hA
    obtain ⟨b1, b2, b3⟩ := Sep.cons.1 hB
    have ha := a2.2.1
    have hb := b2.2.1
    have f1 : b.f ≤ a.f := by
      obtain ⟨y, hy, y1, y2⟩ := (h a.f).1 ⟨a, by simp, by omega, ha⟩
      rcases List.mem_cons.1 hy with rfl | hy
      · exact y1
      · have := b1 y hy; omega
    have f2 : a.f ≤ b.f := by
      obtain ⟨y, hy, y1, y2⟩ := (h b.f).2 ⟨b, by simp, by omega, hb⟩
      rcases List.mem_cons.1 hy with rfl | hy
      · exact y1
      · have := a1 y hy; omega
    have t1 : ¬ a.t < b.t := fun hlt => by
      obtain ⟨y, hy, y1, y2⟩ := (h a.t).2 ⟨b, by simp, by omega, hlt⟩
      rcases List.mem_cons.1 hy with rfl | hy
      · omega
      · have := a1 y hy; omega
    have t2 : ¬ b.t < a.t := fun hlt => by
      obtain ⟨y, hy, y1, y2⟩ := (h b.t).1 ⟨a, by simp, by omega, hlt⟩
      rcases List.mem_cons.1 hy with rfl | hy
      · omega
      · have := b1 y hy; omega
    have e : a = b := by
      have q1 : a.f = b.f := by omega
      have q2 : a.t = b.t := by omega
      cases a; cases b
      simp only at q1 q2
      rw [q1, q2]
    subst e
    rw [sep_ext a3 b3 fun n => ⟨fun hn => ?_, fun hn => ?_⟩]
    · obtain ⟨y, hy, y1, y2⟩ := hn
      have := a1 y hy
      obtain ⟨x, hx, x1, x2⟩ := (h n).1 ⟨y, by simp [hy], y1, y2⟩
      rcases List.mem_cons.1 hx with rfl | hx
      · omega
      · exact ⟨x, hx, x1, x2⟩
    · obtain ⟨y, hy, y1, y2⟩ := hn
      have := b1 y hy
      obtain ⟨x, hx, x1, x2⟩ := (h n).2 ⟨y, by simp [hy], y1, y2⟩
      rcases List.mem_cons.1 hx with rfl | hx
      · omega
      · exact ⟨x, hx, x1, x2⟩
theorem putV_small {base e : Int} {kn : Bool} {v : List UInt8} {n : Nat} {most : Int} {S : List Sp} {f : Int} {b : List UInt8} (h : b = [] ∨ base + v.length ≤ f) (hf : f < 18446744073709551616) :
    (putV base e kn v n most S f b).1 = v ∧ (putV base e kn v n most S f b).2.1 = n ∧ (putV base e kn v n most S f b).2.2.1 = S := by
  unfold putV
  by_cases hov : 18446744073709551616 ≤ f + b.length
  · rw [if_pos hov]; exact ⟨rfl, rfl, rfl⟩
  rw [if_neg hov]
  have htop : topI base e kn v.length ≤ base + v.length := by unfold topI minN; (repeat' split) <;> omega
  generalize topI base e kn v.length = T at *
  have hwc := whole_cases T (f + b.length) b.length
  have hlo : f ≤ maxN f (base + n) := by unfold maxN; split <;> omega
  rw [if_pos]
  · exact ⟨rfl, rfl, rfl⟩
  refine Int.le_trans ?_ hlo
  rcases hwc with ⟨h1, h2⟩ | ⟨h1, h2⟩
  · rw [if_pos h1]
    rcases h with h | h
    · subst h; simp
    · omega
  · rw [if_neg (by rw [h1]; decide)]
    rcases h with h | h
    · subst h; simp at h2
    · unfold maxN; split <;> omega
/-- What Put leaves. -/
structure OkT (base : Int) (sz : Nat) (v : List UInt8) (n : Nat) (S : List Sp) : Prop where
  b0 : 0 ≤ base
  lv : v.length = sz
  hn : n ≤ sz
  sep : Sep S
  len : S.length ≤ 4
  bnd : ∀ x ∈ S, x.t ≤ base + sz
theorem putT {base e : Int} {kn : Bool} {sz : Nat} {v : List UInt8} {n : Nat} {S : List Sp} (h : OkT base sz v n S) (hb : base + sz < 9223372036854775808) {f : Int} {b : List UInt8} (hf : 0 ≤ f) (q : List UInt8 × Nat × List Sp × Bool) (hq : q = putV base e kn v n 4 S f b) :
    OkT base sz q.1 q.2.1 q.2.2.1 ∧ putV base e kn q.1 q.2.1 4 q.2.2.1 f b = q := by
  obtain ⟨h0, hv, h2, hS, hl, hbd⟩ := h
  have key : OkT base sz v n S := ⟨h0, hv, h2, hS, hl, hbd⟩
  by_cases hov : 18446744073709551616 ≤ f + b.length
  · have : putV base e kn v n 4 S f b = (v, n, S, false) := by unfold putV; rw [if_pos hov]
    rw [this] at hq
    subst hq
    exact ⟨key, this⟩
  have hlen : topI base e kn v.length = topI base e kn sz := by rw [hv]
  have htop : topI base e kn sz ≤ base + sz := by unfold topI minN; (repeat' split) <;> omega
  obtain ⟨whole, hw⟩ : ∃ x, x = !(decide (topI base e kn sz < f + b.length) && decide (0 < (b.length : Int))) := ⟨_, rfl⟩
  obtain ⟨hi, hh⟩ : ∃ x, x = if whole = true then f + (b.length : Int) else maxN (topI base e kn sz) f := ⟨_, rfl⟩
  have hP : ∀ (v' : List UInt8) (n' : Nat) (S' : List Sp), v'.length = sz → putV base e kn v' n' 4 S' f b = if hi ≤ maxN f (base + n') then (v', n', S', whole) else if base + n' < maxN f (base + n') ∧ (addR S' (maxN f (base + n')) hi 4).2 = false then (v', n', S', false) else
      if base + n' < maxN f (base + n') then (setG base f b v' (gapsS S' (maxN f (base + n')) hi), n', (addR S' (maxN f (base + n')) hi 4).1, whole) else (setG base f b v' (gapsS S' (maxN f (base + n')) hi), (runS S' hi - base).toNat, cutP S' (runS S' hi), whole) := fun v' n' S' hv' => by
    unfold putV
    rw [if_neg hov, hv']
    simp only [← hw, ← hh]
  have hwc := whole_cases (topI base e kn sz) (f + b.length) b.length
  rw [← hw] at hwc
  have hmx : f ≤ maxN (topI base e kn sz) f ∧ (maxN (topI base e kn sz) f = topI base e kn sz ∨ maxN (topI base e kn sz) f = f) := by unfold maxN; split <;> omega
  have hhi : f ≤ hi ∧ (f < hi → hi ≤ base + sz) := by
    rcases hwc with ⟨h1, h2⟩ | ⟨h1, h2⟩
    · rw [if_pos h1] at hh; omega
    · rw [if_neg (by rw [h1]; decide)] at hh; omega
  clear hwc hh hw
  have hlo : ∀ m : Nat, f ≤ maxN f (base + m) ∧ base + m ≤ maxN f (base + m) ∧ (maxN f (base + m) = f ∨ maxN f (base + m) = base + m) := fun m => by unfold maxN; split <;> omega
  have hq' := hP v n S hv
  by_cases g0 : hi ≤ maxN f (base + n)
  · rw [if_pos g0] at hq'
    rw [hq'] at hq
    subst hq
    exact ⟨key, hq'⟩
  rw [if_neg g0] at hq'
  by_cases g1 : base + n < maxN f (base + n) ∧ (addR S (maxN f (base + n)) hi 4).2 = false
  · rw [if_pos g1] at hq'
    rw [hq'] at hq
    subst hq
    exact ⟨key, hq'⟩
  rw [if_neg g1] at hq'
  have hl0 := hlo n
  have gm := gaps_mem (f := maxN f (base + n)) (t := hi) hS
  have sl : (setG base f b v (gapsS S (maxN f (base + n)) hi)).length = sz := by
    rw [← hv]
    refine setG_len fun g hg => ?_
    obtain ⟨q1, q2, q3, _⟩ := gm g hg
    omega
  by_cases g2 : base + n < maxN f (base + n)
  · rw [if_pos g2] at hq'
    rw [hq'] at hq
    subst hq
    generalize hlo' : maxN f (base + n) = lo at *
    generalize setG base f b v (gapsS S lo hi) = V at *
    have ha : (addR S lo hi 4).1 = addS S lo hi := by
      unfold addR at g1 ⊢
      rw [if_neg (by omega)] at g1 ⊢
      split
      · rename_i hc
        rw [if_pos hc] at g1
        exact absurd ⟨g2, rfl⟩ g1
      · rfl
    have hlen' := addR_len (f := lo) (t := hi) hl
    have hsp : Sep (addS S lo hi) := addS_sep hS (by omega) (by omega) (by omega)
    have hin : ∀ m, inP (addS S lo hi) m ↔ (inP S m ∨ (lo ≤ m ∧ m < hi)) := fun m => addS_in hS (by omega) m
    rw [ha] at hlen' ⊢
    generalize addS S lo hi = S1 at *
    have hg0 : gapsS S1 lo hi = [] := by
      cases hG : gapsS S1 lo hi with
      | nil => rfl
      | cons g r =>
        obtain ⟨q1, q2, q3, q4⟩ := gaps_mem (f := lo) (t := hi) hsp g (by rw [hG]; simp)
        exact absurd ((hin g.f).2 (.inr ⟨by omega, by omega⟩)) (q4 g.f (by omega) (by omega))
    have hadd : addS S1 lo hi = S1 := by
      refine sep_ext (addS_sep hsp (by omega) (by omega) (by omega)) hsp fun m => ?_
      rw [addS_in hsp (by omega)]
      exact ⟨fun h => h.elim id fun h => (hin m).2 (.inr h), .inl⟩
    have hrr : addR S1 lo hi 4 = (S1, true) := by
      unfold addR
      rw [if_neg (by omega), if_neg, hadd]
      rintro ⟨h1, _⟩
      have := addS_len S1 lo hi
      rw [hadd, h1] at this
      simp at this
    refine ⟨⟨h0, sl, h2, hsp, hlen', fun x hx => ?_⟩, ?_⟩
    · have hx' := (hsp.2 x hx).2.1
      rcases (hin (x.t - 1)).1 ⟨x, hx, by omega, by omega⟩ with ⟨y, hy, y1, y2⟩ | hy
      · have := hbd y hy; omega
      · omega
    · dsimp only
      rw [hP V n S1 sl, hlo', if_neg g0, hrr, if_neg (by simp), if_pos g2, hg0]
      rfl
  · rw [if_neg g2] at hq'
    rw [hq'] at hq
    subst hq
    have hrun : hi ≤ runS S hi ∧ runS S hi ≤ base + sz := by
      by_cases hi' : inP S hi
      · obtain ⟨x, hx, x1, x2, x3⟩ := runS_in hi'
        have := hbd x hx
        omega
      · rw [runS_out hi']
        omega
    generalize runS S hi = r at *
    have hl1 := hlo (r - base).toNat
    refine ⟨⟨h0, sl, by show (r - base).toNat ≤ sz; omega, cutP_sep hS, Nat.le_trans (cutP_len S r) hl, fun x hx => ?_⟩, ?_⟩
    · have hx' := ((cutP_sep (b := r) hS).2 x hx).2.1
      obtain ⟨y, hy, y1, y2⟩ := ((cutP_in hS).1 (⟨x, hx, by omega, by omega⟩ : inP (cutP S r) (x.t - 1))).1
      have := hbd y hy
      omega
    · dsimp only
      rw [hP _ _ _ sl, if_pos (by omega)]
end Go.Br
