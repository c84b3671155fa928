/- The law of bounds: plain part. -/
import Derived.Test.YtggajodoaooafaaPlan5
set_option linter.unusedVariables false
set_option linter.unusedSimpArgs false
set_option linter.unnecessarySimpa false
namespace Go.Br
open Go
attribute [local irreducible] Addr.add

theorem roomOf_eq {most : Int} {u : Nat} (h0 : 0 ≤ most) (h4 : most ≤ 4) (hu : u ≤ 1000) : roomOf most u = if (u : Int) < most then most - u else 0 := by
  unfold roomOf minN maxN
  rw [wrap_i64 (by split <;> split <;> omega) (by split <;> split <;> omega)]
  split <;> split <;> (try split) <;> (try split) <;> omega
/-- Never are more used and asked for than may be. -/
theorem ask_le {wv most : Int} {l : List Pp} (h0 : 0 ≤ most) (h4 : most ≤ 4) (hl : l.length ≤ 60) (hp : 0 < askN wv most l) : (((l.filter isUsed).length : Int) + (askN wv most l : Int)) ≤ most := by
  have lu := List.length_filter_le isUsed l
  have hr := roomOf_eq (u := (l.filter isUsed).length) h0 h4 (by omega)
  have key : ∀ {n : Int}, n ≤ roomOf most (l.filter isUsed).length → 0 < many n (l.filter isFree).length → (((l.filter isUsed).length : Int) + (many n (l.filter isFree).length : Int)) ≤ most := by
    intro n hn hm
    obtain ⟨m1, m2⟩ := many_le n (l.filter isFree).length
    unfold minN maxN at m2
    split at hr <;> split at m2 <;> (try split at m2) <;> omega
  have hm : ∀ x : Int, minN (roomOf most (l.filter isUsed).length) x ≤ roomOf most (l.filter isUsed).length := fun x => by unfold minN; split <;> omega
  unfold askN at hp ⊢
  simp only at hp ⊢
  split at hp
  · rename_i h; rw [if_pos h]; exact key (Int.le_refl _) hp
  · rename_i h; rw [if_neg h]
    split at hp
    · rename_i h; rw [if_pos h]; exact key (hm _) hp
    · rename_i h; rw [if_neg h]
      split at hp
      · rename_i h; rw [if_pos h]
        split at hp
        · rename_i h; rw [if_pos h]; exact key (hm _) hp
        · omega
      · omega
theorem ask_free (wv most : Int) (l : List Pp) : askN wv most l ≤ (l.filter isFree).length := by
  unfold askN
  simp only
  split
  · exact (many_le _ _).1
  · split
    · exact (many_le _ _).1
    · split
      · split
        · exact (many_le _ _).1
        · omega
      · omega
/-- With a good path, all used paths but the best one are given up. -/
theorem extra_len {l B : List Pp} (hB : Srt bcmp B) (pB : B.Perm (l.filter isUsed)) (hg : 0 < (l.filter isGood).length) : (extraL B).length + 1 = (l.filter isUsed).length := by
  have lB := pB.length_eq
  obtain ⟨x, hx⟩ := List.exists_mem_of_length_pos hg
  obtain ⟨hxl, hxg⟩ := List.mem_filter.1 hx
  have hxu : isUsed x = true ∧ x.bad = false := by simpa [isGood] using hxg
  have hxB : x ∈ B := pB.mem_iff.2 (List.mem_filter.2 ⟨hxl, hxu.1⟩)
  cases B with
  | nil => cases hxB
  | cons y t =>
    have hy : y.bad = false := by
      rcases List.mem_cons.1 hxB with rfl | h
      · exact hxu.2
      · have := (List.pairwise_cons.1 hB).1 x h
        unfold Le at this
        have hn := @bcmp_neg x y
        cases hb : y.bad
        · rfl
        · rw [hxu.2, hb] at hn
          simp [bn] at hn
          omega
    rw [show extraL (y :: t) = t.map (·.id) by simp [extraL, hy], List.length_map]
    simpa using lB
end Go.Br
