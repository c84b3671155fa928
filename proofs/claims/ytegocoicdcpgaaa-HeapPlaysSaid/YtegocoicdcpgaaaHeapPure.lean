/- A heap as a list: what rising and sinking do. No program. -/
import Derived.Test.YtegocoicdcpgaaaBrMore
set_option linter.unusedVariables false
namespace Go.Br
open Go

structure It where
  time : Int
  what : Int
  seq : Int
def le (a b : It) : Prop := a.time < b.time ∨ (a.time = b.time ∧ a.seq ≤ b.seq)
def lt (a b : It) : Prop := a.time < b.time ∨ (a.time = b.time ∧ a.seq < b.seq)
theorem le_trans {a b c : It} (h : le a b) (k : le b c) : le a c := by unfold le at *; omega
theorem le_of_lt {a b : It} (h : lt a b) : le a b := by unfold le lt at *; omega
theorem le_of_not {a b : It} (h : ¬ lt a b) : le b a := by unfold le lt at *; omega
theorem le_refl (a : It) : le a a := by unfold le; omega
instance (a b : It) : Decidable (lt a b) := by unfold lt; exact inferInstance

def swap (L : List It) (i a : Nat) (u v : It) : List It := (L.set i v).set a u
theorem swap_get {L : List It} {i a : Nat} {u v : It} (hi : i < L.length) (ha : a < L.length) (k : Nat) : (swap L i a u v)[k]? = if k = a then some u else if k = i then some v else L[k]? := by
  unfold swap
  rw [List.getElem?_set, List.length_set]
  by_cases h : a = k
  · rw [if_pos h, if_pos ha, if_pos h.symm]
  · rw [if_neg h, if_neg (fun e => h e.symm), List.getElem?_set]
    by_cases g : i = k
    · rw [if_pos g, if_pos hi, if_pos g.symm]
    · rw [if_neg g, if_neg (fun e => g e.symm)]
theorem swap_perm {L : List It} {i a : Nat} {u v : It} (hu : L[i]? = some u) (hv : L[a]? = some v) : (swap L i a u v).Perm L := by
  obtain ⟨h1, rfl⟩ := List.getElem?_eq_some_iff.1 hu
  obtain ⟨h2, rfl⟩ := List.getElem?_eq_some_iff.1 hv
  exact List.set_set_perm h1 h2
theorem swap_length (L : List It) (i a : Nat) (u v : It) : (swap L i a u v).length = L.length := by simp [swap]

def Hp (L : List It) : Prop := ∀ k x y, 0 < k → L[k]? = some x → L[(k - 1) / 2]? = some y → le y x
def HpUp (L : List It) (i : Nat) : Prop := (∀ k x y, 0 < k → k ≠ i → L[k]? = some x → L[(k - 1) / 2]? = some y → le y x) ∧
  (∀ k x y, 0 < k → (k - 1) / 2 = i → 0 < i → L[k]? = some x → L[(i - 1) / 2]? = some y → le y x)
def HpDown (L : List It) (i : Nat) : Prop := (∀ k x y, 0 < k → (k - 1) / 2 ≠ i → L[k]? = some x → L[(k - 1) / 2]? = some y → le y x) ∧
  (∀ k x y, 0 < k → (k - 1) / 2 = i → 0 < i → L[k]? = some x → L[(i - 1) / 2]? = some y → le y x)

theorem up_step {L : List It} {i : Nat} {u v : It} (h : HpUp L i) (hi : 0 < i) (hu : L[i]? = some u) (hv : L[(i - 1) / 2]? = some v) (hl : lt u v) : HpUp (swap L i ((i - 1) / 2) u v) ((i - 1) / 2) := by
  have li := (List.getElem?_eq_some_iff.1 hu).1
  have la := (List.getElem?_eq_some_iff.1 hv).1
  obtain ⟨h1, h2⟩ := h
  have huv := le_of_lt hl
  refine ⟨fun k x y hk hka hx hy => ?_, fun k x y hk hka ha hx hy => ?_⟩
  · rw [swap_get li la] at hx hy
    rw [if_neg hka] at hx
    by_cases c : k = i
    · rw [if_pos c] at hx
      subst c
      rw [if_pos rfl] at hy
      injection hx with hx; injection hy with hy; subst hx; subst hy
      exact huv
    · rw [if_neg c] at hx
      by_cases d : (k - 1) / 2 = (i - 1) / 2
      · rw [if_pos d] at hy
        injection hy with hy; subst hy
        have := h1 k x v hk c hx (by rw [d]; exact hv)
        exact le_trans huv this
      · rw [if_neg d] at hy
        by_cases e : (k - 1) / 2 = i
        · rw [if_pos e] at hy
          injection hy with hy; subst hy
          exact h2 k x v hk e hi hx hv
        · rw [if_neg e] at hy
          exact h1 k x y hk c hx hy
  · rw [swap_get li la] at hx hy
    rw [if_neg (by omega), if_neg (by omega)] at hy
    have hgv : le y v := h1 ((i - 1) / 2) v y ha (by omega) hv hy
    rw [if_neg (by omega)] at hx
    by_cases c : k = i
    · rw [if_pos c] at hx
      injection hx with hx; subst hx
      exact hgv
    · rw [if_neg c] at hx
      exact le_trans hgv (h1 k x v hk c hx (by rw [hka]; exact hv))
theorem up_done {L : List It} {i : Nat} (h : HpUp L i) (hi : i = 0 ∨ ∀ u v, L[i]? = some u → L[(i - 1) / 2]? = some v → ¬ lt u v) : Hp L := by
  intro k x y hk hx hy
  by_cases c : k = i
  · subst c
    rcases hi with h | h
    · omega
    · exact le_of_not (h x y hx hy)
  · exact h.1 k x y hk c hx hy
theorem up_start {L : List It} {x : It} (h : Hp L) : HpUp (L ++ [x]) L.length := by
  refine ⟨fun k a b hk hn ha hb => ?_, fun k a b hk hp hl ha hb => ?_⟩
  · have hkl : k < (L ++ [x]).length := (List.getElem?_eq_some_iff.1 ha).1
    rw [List.length_append] at hkl
    simp at hkl
    rw [List.getElem?_append_left (by omega)] at ha hb
    exact h k a b hk ha hb
  · have hkl : k < (L ++ [x]).length := (List.getElem?_eq_some_iff.1 ha).1
    rw [List.length_append] at hkl
    simp at hkl
    omega

theorem down_step {L : List It} {i k : Nat} {u c : It} (h : HpDown L i) (hk : 0 < k) (hp : (k - 1) / 2 = i) (hu : L[i]? = some u) (hc : L[k]? = some c) (hl : lt c u)
    (hmin : ∀ s y, 0 < s → (s - 1) / 2 = i → L[s]? = some y → le c y) : HpDown (swap L i k c u |> fun _ => swap L k i c u) k := by
  have lk := (List.getElem?_eq_some_iff.1 hc).1
  have li := (List.getElem?_eq_some_iff.1 hu).1
  obtain ⟨h1, h2⟩ := h
  have hcu := le_of_lt hl
  have hik : i < k := by omega
  show HpDown (swap L k i c u) k
  refine ⟨fun j x y hj hjk hx hy => ?_, fun j x y hj hjk hk0 hx hy => ?_⟩
  · rw [swap_get lk li] at hx hy
    by_cases e : (j - 1) / 2 = i
    · rw [if_pos e] at hy
      injection hy with hy; subst hy
      rw [if_neg (by omega)] at hx
      by_cases d : j = k
      · rw [if_pos d] at hx; injection hx with hx; subst hx; exact hcu
      · rw [if_neg d] at hx; exact hmin j x hj e hx
    · rw [if_neg e, if_neg hjk] at hy
      by_cases d : j = i
      · rw [if_pos d] at hx
        injection hx with hx; subst hx
        subst d
        exact h2 k _ y hk hp hj hc hy
      · rw [if_neg d, if_neg (by intro hh; subst hh; exact e hp)] at hx
        exact h1 j x y hj e hx hy
  · rw [swap_get lk li] at hx hy
    rw [hp, if_pos rfl] at hy
    injection hy with hy; subst hy
    rw [if_neg (by omega), if_neg (by omega)] at hx
    exact h1 j x _ hj (by omega) hx (by rw [hjk]; exact hc)
theorem down_done {L : List It} {i : Nat} (h : HpDown L i) (hd : ∀ k x y, 0 < k → (k - 1) / 2 = i → L[k]? = some x → L[i]? = some y → le y x) : Hp L := by
  intro k x y hk hx hy
  by_cases c : (k - 1) / 2 = i
  · rw [c] at hy; exact hd k x y hk c hx hy
  · exact h.1 k x y hk c hx hy
theorem Hp.min {L : List It} (h : Hp L) {m : It} (hm : L[0]? = some m) : ∀ (k : Nat) (x : It), L[k]? = some x → le m x := by
  intro k
  induction k using Nat.strongRecOn with
  | ind k ih =>
    intro x hx
    rcases Nat.eq_zero_or_pos k with h0 | h0
    · subst h0; rw [hm] at hx; injection hx with hx; subst hx; exact le_refl _
    · have hk := (List.getElem?_eq_some_iff.1 hx).1
      obtain ⟨y, hy⟩ := ex_get (L := L) (j := (k - 1) / 2) (by omega)
      exact le_trans (ih ((k - 1) / 2) (by omega) y hy) (h k x y h0 hx hy)
theorem Hp.min' {L : List It} (h : Hp L) {m : It} (hm : L[0]? = some m) : ∀ x ∈ L, le m x := by
  intro x hx
  obtain ⟨k, hk⟩ := List.mem_iff_getElem?.1 hx
  exact h.min hm k x hk
/-- The last one put in the first one's place. -/
def tip (L : List It) (z : It) : List It := (L.set 0 z).take (L.length - 1)
theorem tip_down {L : List It} {z : It} (h : Hp L) : HpDown (tip L z) 0 := by
  refine ⟨fun k x y hk hp hx hy => ?_, fun k x y hk hp h0 => absurd h0 (by omega)⟩
  have hl := (List.getElem?_eq_some_iff.1 hx).1
  unfold tip at hx hy hl
  rw [List.length_take, List.length_set] at hl
  rw [List.getElem?_take_of_lt (by omega), List.getElem?_set_ne (by omega)] at hx hy
  exact h k x y hk hx hy
theorem tip_perm {L : List It} {m z : It} (hm : L[0]? = some m) (hz : L[L.length - 1]? = some z) : (m :: tip L z).Perm L := by
  cases L with
  | nil => simp at hm
  | cons a l =>
    simp at hm
    subst hm
    unfold tip
    rw [List.set_cons_zero]
    rcases List.eq_nil_or_concat l with rfl | ⟨l', b, rfl⟩
    · simp
    · have e : z = b := by
        simp at hz
        exact hz.symm
      subst e
      have : (z :: (l' ++ [z])).take ((a :: (l' ++ [z])).length - 1) = z :: l' := by simp
      rw [List.concat_eq_append, this]
      exact List.Perm.cons _ (List.perm_append_singleton z l').symm
end Go.Br
