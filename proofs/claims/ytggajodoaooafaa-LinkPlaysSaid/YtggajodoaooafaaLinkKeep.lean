/- What a path keeps: nothing is invented, nothing lost uncounted; a calm path keeps the order. Plain Lean. -/
import Derived.Test.YtggajodoaooafaaLinkLaw
set_option linter.unusedVariables false
set_option linter.unusedSimpArgs false
set_option linter.unnecessarySimpa false
namespace Go.Br
open Go
attribute [local irreducible] Addr.add

/-- The counts of a path, e packets short. -/
def Bal (s : Ls) (e : Int) : Prop := s.sent + s.dbl = s.lost + s.full + s.came + (s.l.length : Int) + e ∧ (s.l.length : Int) ≤ s.m.q
theorem putS_bal {s : Ls} {e : Int} (h : Bal s (e + 1)) (A : Option Addr) (k : Nat) (bs : List UInt8) : Bal (putS s A k bs) e := by
  obtain ⟨h1, h2⟩ := h
  unfold putS
  split
  · refine ⟨?_, h2⟩; simp only; omega
  · refine ⟨?_, ?_⟩ <;> simp only [List.length_append, List.length_singleton] <;> omega
theorem sendS_bal {s : Ls} (h : Bal s 0) (A1 A2 : Option Addr) (k1 k2 : Nat) (bs : List UInt8) : Bal (sendS s A1 A2 k1 k2 bs) 0 := by
  obtain ⟨h1, h2⟩ := h
  unfold sendS
  simp only
  split
  · refine ⟨?_, h2⟩; simp only; omega
  · have a2 : Bal { s with sent := s.sent + 1, x := nx (nx s.x) } (0 + 1) := ⟨by simp only; omega, h2⟩
    have a3 := putS_bal a2 A1 k1 bs
    split
    · refine putS_bal ?_ A2 k2 bs
      generalize putS _ A1 k1 bs = s2 at a3
      obtain ⟨a4, a5⟩ := a3
      exact ⟨by simp only; omega, a5⟩
    · exact a3
theorem putS_m (s : Ls) (A : Option Addr) (k : Nat) (bs : List UInt8) : (putS s A k bs).m = s.m ∧ (putS s A k bs).now = s.now ∧ (putS s A k bs).came = s.came := by unfold putS; split <;> simp
theorem sendS_m (s : Ls) (A1 A2 : Option Addr) (k1 k2 : Nat) (bs : List UInt8) : (sendS s A1 A2 k1 k2 bs).m = s.m ∧ (sendS s A1 A2 k1 k2 bs).now = s.now ∧ (sendS s A1 A2 k1 k2 bs).came = s.came := by
  unfold sendS
  simp only
  split
  · simp
  · split
    · have h1 := putS_m { s with sent := s.sent + 1, x := nx (nx s.x) } A1 k1 bs
      have h2 := putS_m { putS { s with sent := s.sent + 1, x := nx (nx s.x) } A1 k1 bs with dbl := (putS { s with sent := s.sent + 1, x := nx (nx s.x) } A1 k1 bs).dbl + 1 } A2 k2 bs
      rw [h2.1, h2.2.1, h2.2.2]
      exact h1
    · exact putS_m { s with sent := s.sent + 1, x := nx (nx s.x) } A1 k1 bs
theorem tick_bal {s : Ls} {C P D : List It} (h : Bal s 0) (pC : C.Perm s.l) (e : tk (s.now + 1) s.m.r.toNat C = (P, D)) : Bal { s with now := s.now + 1, came := s.came + (P.length : Int), l := D } 0 := by
  obtain ⟨h1, h2⟩ := h
  have lC := pC.length_eq
  rw [(tk_app e).1, List.length_append] at lC
  refine ⟨?_, ?_⟩ <;> simp only <;> omega
def CalmM (m : Mo) : Prop := m.lo = 0 ∧ m.db = 0 ∧ m.j = 0 ∧ 100 ≤ m.q ∧ 100 ≤ m.r
instance (m : Mo) : Decidable (CalmM m) := by unfold CalmM; exact inferInstance
/-- A packet as numbers and bytes. -/
def tri (x : It) : Int × Int × List UInt8 := (x.tm, x.num, x.bs)
def pk (d : Int) (bss : List (List UInt8)) (j : Nat) : Int × Int × List UInt8 := ((j : Int) + d, (j : Int) + 1, bss.getD j [])
/-- A calm path at the beginning of round i. -/
structure CalmAt (s : Ls) (bss : List (List UInt8)) (i n k : Nat) : Prop where
  m : CalmM s.m
  now : s.now = (i : Int)
  num : s.num = (n : Int)
  came : s.came = (k : Int)
  kn : k ≤ n
  ni : n ≤ i
  l : s.l.map tri = (List.range' k (n - k)).map (pk s.m.d bss)
  due : k < n → (i : Int) ≤ (k : Int) + s.m.d
theorem calm_send {s : Ls} {bss : List (List UInt8)} {n k : Nat} (h : CalmAt s bss n n k) (hn : n < 100) {A1 A2 : Option Addr} {k1 k2 : Nat} {bs : List UInt8} (hb : bss[n]? = some bs) :
    (sendS s A1 A2 k1 k2 bs).m = s.m ∧ (sendS s A1 A2 k1 k2 bs).num = ((n + 1 : Nat) : Int) ∧ (sendS s A1 A2 k1 k2 bs).l.map tri = (List.range' k (n + 1 - k)).map (pk s.m.d bss) := by
  obtain ⟨c1, c2, c3, c4, c5⟩ := h.m
  have h1 := (bl_rng s.x (n := 1000) (by omega) (by omega)).1
  have h2 := (bl_rng (nx s.x) (n := 1000) (by omega) (by omega)).1
  have ll : s.l.length = n - k := by have := congrArg List.length h.l; simpa using this
  have hkn := h.kn
  unfold sendS
  simp only
  rw [if_neg (by omega), if_neg (by omega)]
  unfold putS
  rw [if_neg (by simp only; omega)]
  refine ⟨rfl, by simp only; rw [h.num]; omega, ?_⟩
  simp only [List.map_append, List.map_cons, List.map_nil]
  rw [h.l, show n + 1 - k = (n - k) + 1 by omega, List.range'_concat, List.map_append, List.map_cons, List.map_nil]
  congr 1
  simp only [tri, pk, late, if_neg (show ¬ s.m.j > 0 by omega), h.now, h.num, Int.add_zero, Nat.one_mul, show k + (n - k) = n by omega, List.getD, hb, Option.getD_some]
theorem range'_srt {d : Int} {bss : List (List UInt8)} {k n : Nat} {l : List It} (h : l.map tri = (List.range' k n).map (pk d bss)) : l.Pairwise fun a b => a.num < b.num ∧ a.tm < b.tm := by
  have : (l.map tri).Pairwise fun a b => a.2.1 < b.2.1 ∧ a.1 < b.1 := by
    rw [h, List.pairwise_map]
    refine (List.pairwise_lt_range' (s := k) (n := n)).imp fun {a b} hab => ?_
    simp only [pk]
    omega
  rw [List.pairwise_map] at this
  exact this
theorem nd_inj {α β : Type} {f : α → β} {a b : α} : ∀ {l : List α}, (l.map f).Nodup → a ∈ l → b ∈ l → f a = f b → a = b
  | [], _, ha, _, _ => by cases ha
  | x :: l, hn, ha, hb, e => by
    rw [List.map_cons, List.nodup_cons] at hn
    rcases List.mem_cons.1 ha with ha | ha <;> rcases List.mem_cons.1 hb with hb | hb
    · rw [ha, hb]
    · rw [ha] at e; exact absurd (e ▸ List.mem_map_of_mem hb) hn.1
    · rw [hb] at e; exact absurd (e ▸ List.mem_map_of_mem ha) hn.1
    · exact nd_inj hn.2 ha hb e
/-- What is sorted and has no number twice is told by what it holds. -/
theorem srt_uni {C D : List It} (hC : Srt lf C) (hD : Srt lf D) (p : C.Perm D) (hn : (D.map (·.num)).Nodup) : C = D :=
  List.Perm.eq_of_pairwise (le := Le lf) (fun a b ha hb h1 h2 => by
    refine nd_inj hn (p.mem_iff.1 ha) hb ?_
    unfold Le lf at h1 h2
    split at h1 <;> split at h2 <;> omega) hC hD p
theorem srt_eq {C l : List It} (hC : Srt lf C) (pC : C.Perm l) (hl : l.Pairwise fun a b => a.num < b.num ∧ a.tm < b.tm) : C = l := by
  refine srt_uni hC (hl.imp fun {a b} h => ?_) pC ?_
  · unfold Le lf; split <;> omega
  · unfold List.Nodup
    rw [List.pairwise_map]
    exact hl.imp fun {a b} h => by omega
theorem calm_tick {s : Ls} {bss : List (List UInt8)} {i n k : Nat} (hm : CalmM s.m) (hnow : s.now = (i : Int)) (kn : k ≤ n) (hl : s.l.map tri = (List.range' k (n - k)).map (pk s.m.d bss)) (due : k < n → (i : Int) ≤ (k : Int) + s.m.d) {C P D : List It} (hC : Srt lf C) (pC : C.Perm s.l) (e : tk (s.now + 1) s.m.r.toNat C = (P, D)) :
    (P = [] ∧ D = s.l ∧ (k < n → (i : Int) + 1 ≤ (k : Int) + s.m.d)) ∨ ∃ x, P = [x] ∧ x.bs = bss.getD k [] ∧ k < n ∧ (k : Int) + s.m.d = (i : Int) ∧ D.map tri = (List.range' (k + 1) (n - (k + 1))).map (pk s.m.d bss) := by
  have eC := srt_eq hC pC (range'_srt hl)
  subst eC
  obtain ⟨c1, c2, c3, c4, c5⟩ := hm
  obtain ⟨r, hr⟩ : ∃ r, s.m.r.toNat = r + 1 + 1 := ⟨s.m.r.toNat - 2, by omega⟩
  rw [hr, hnow] at e
  by_cases hkn : k < n
  · rw [show n - k = (n - (k + 1)) + 1 by omega, List.range'_succ, List.map_cons] at hl
    obtain ⟨x, t, hx, h1, h2⟩ := List.map_eq_cons_iff.1 hl
    rw [hx] at e
    have hd := due hkn
    have htm : x.tm = (k : Int) + s.m.d := by have := congrArg Prod.fst h1; simpa [tri, pk] using this
    have hbs : x.bs = bss.getD k [] := by have := congrArg (·.2.2) h1; simpa [tri, pk] using this
    unfold tk at e
    by_cases ht : x.tm < (i : Int) + 1
    · rw [if_pos ht] at e
      have e2 : tk ((i : Int) + 1) (r + 1) t = ([], t) := by
        cases t with
        | nil => rfl
        | cons y t =>
          by_cases hkn2 : k + 1 < n
          · rw [show n - (k + 1) = (n - (k + 1 + 1)) + 1 by omega, List.range'_succ, List.map_cons, List.map_cons] at h2
            injection h2 with h3 _
            have hy : y.tm = ((k + 1 : Nat) : Int) + s.m.d := by have := congrArg Prod.fst h3; simpa [tri, pk] using this
            unfold tk
            rw [if_neg (by omega)]
          · rw [show n - (k + 1) = 0 by omega] at h2
            simp at h2
      rw [e2] at e
      cases e
      exact .inr ⟨x, rfl, hbs, hkn, by omega, h2⟩
    · rw [if_neg ht] at e
      cases e
      exact .inl ⟨rfl, hx.symm, fun _ => by omega⟩
  · rw [show n - k = 0 by omega] at hl
    have hs : s.l = [] := by simpa using hl
    rw [hs, tk_nil] at e
    cases e
    exact .inl ⟨rfl, hs.symm, fun h => absurd h hkn⟩
end Go.Br
