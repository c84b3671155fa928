/- Where a timer stands in rounds that turn, in plain numbers. -/
import Derived.Test.YtccmlfekmmeloaaBrList
set_option linter.unusedVariables false
set_option linter.unusedSimpArgs false
set_option linter.unnecessarySimpa false
namespace Go.Br
open Go
attribute [local irreducible] Addr.add RD RDS RUN RUNU NILC LETB CALL CALLX CALLV

/-- The round of a timer. -/
def lev (now at' : Nat) : Nat := if at' / 16 = now / 16 then 0 else if at' / 256 = now / 256 then 1 else if at' / 4096 = now / 4096 then 2 else 3
/-- Its place, counted through. -/
def plc (now at' : Nat) : Nat := if at' / 16 = now / 16 then at' % 16 else if at' / 256 = now / 256 then 16 + at' / 16 % 16 else if at' / 4096 = now / 4096 then 32 + at' / 256 % 16 else 48 + at' / 4096 % 16
theorem plc_lt (now at' : Nat) : plc now at' < 64 := by unfold plc; (repeat' split) <;> omega
/-- What turns at a tick. -/
def turned (n r : Nat) : Nat := 16 * r + n / 16 ^ r % 16
theorem plc_keep {now n a : Nat} (hn : n = now + 1) (h1 : now < a) (h2 : a ≤ now + 65535) (t1 : n % 16 = 0 → plc now a ≠ 16 + n / 16 % 16) (t2 : n % 256 = 0 → plc now a ≠ 32 + n / 256 % 16) (t3 : n % 4096 = 0 → plc now a ≠ 48 + n / 4096 % 16) : plc now a = plc n a := by
  subst hn
  unfold plc at *
  by_cases e0 : a / 16 = now / 16
  · rw [if_pos e0] at *
    by_cases d : (now + 1) % 16 = 0
    · omega
    · rw [if_pos (by omega)]
  · rw [if_neg e0] at *
    by_cases e1 : a / 256 = now / 256
    · rw [if_pos e1] at *
      by_cases d : (now + 1) % 256 = 0
      · omega
      · by_cases d1 : (now + 1) % 16 = 0
        · have := t1 d1
          rw [if_neg (by omega), if_pos (by omega)]
        · rw [if_neg (by omega), if_pos (by omega)]
    · rw [if_neg e1] at *
      by_cases e2 : a / 4096 = now / 4096
      · rw [if_pos e2] at *
        by_cases d : (now + 1) % 4096 = 0
        · omega
        · by_cases d1 : (now + 1) % 256 = 0
          · have := t2 d1
            rw [if_neg (by omega), if_neg (by omega), if_pos (by omega)]
          · rw [if_neg (by omega), if_neg (by omega), if_pos (by omega)]
      · rw [if_neg e2] at *
        by_cases d1 : (now + 1) % 4096 = 0
        · have := t3 d1
          rw [if_neg (by omega), if_neg (by omega), if_neg (by omega)]
        · rw [if_neg (by omega), if_neg (by omega), if_neg (by omega)]
theorem plc_due {n a : Nat} (h : n ≤ a) : plc n a = n % 16 ↔ a = n := by
  unfold plc
  constructor
  · intro e
    by_cases e0 : a / 16 = n / 16
    · rw [if_pos e0] at e; omega
    · rw [if_neg e0] at e
      by_cases e1 : a / 256 = n / 256
      · rw [if_pos e1] at e; omega
      · rw [if_neg e1] at e
        by_cases e2 : a / 4096 = n / 4096
        · rw [if_pos e2] at e; omega
        · rw [if_neg e2] at e; omega
  · rintro rfl
    rw [if_pos rfl]

structure Tm where
  id : Int
  at' : Nat
/-- A timer is laid behind those of its place. -/
def putS (now : Nat) (S : List (List Tm)) (t : Tm) : List (List Tm) := S.modify (plc now t.at') (· ++ [t])
theorem putS_length (now : Nat) (S : List (List Tm)) (t : Tm) : (putS now S t).length = S.length := by unfold putS; simp
/-- A place is reached: its timers go elsewhere. -/
def turnS (now : Nat) (S : List (List Tm)) (i : Nat) : List (List Tm) := (S.getD i []).foldl (putS now) (S.set i [])
/-- Each timer of some places is where a rule says. -/
def Stand (p : Nat → Tm → Prop) (S : List (List Tm)) : Prop := ∀ i l, S[i]? = some l → ∀ t ∈ l, p i t
theorem Stand.put {p : Nat → Tm → Prop} {S : List (List Tm)} {now : Nat} {t : Tm} (h : Stand p S) (ht : p (plc now t.at') t) : Stand p (putS now S t) := fun i l hl u hu => by
  unfold putS at hl
  rw [List.getElem?_modify] at hl
  cases hS : S[i]? with
  | none => rw [hS] at hl; simp at hl
  | some m =>
    rw [hS] at hl
    simp at hl
    by_cases e : plc now t.at' = i
    · rw [if_pos e] at hl
      subst hl
      rw [List.mem_append, List.mem_singleton] at hu
      rcases hu with hu | rfl
      · exact h i m hS u hu
      · rw [← e]; exact ht
    · rw [if_neg e] at hl
      subst hl
      exact h i m hS u hu
theorem putS_perm {S : List (List Tm)} {now : Nat} {t : Tm} (hl : S.length = 64) : (putS now S t).flatten.Perm (t :: S.flatten) := by
  unfold putS
  have hi := plc_lt now t.at'
  generalize plc now t.at' = i at *
  have : i < S.length := by omega
  clear hi hl
  induction S generalizing i with
  | nil => simp at this
  | cons a S ih =>
    cases i with
    | zero =>
      simp only [List.modify_zero_cons, List.flatten_cons]
      rw [List.append_assoc]
      exact List.perm_middle
    | succ i =>
      simp only [List.modify_succ_cons, List.flatten_cons]
      simp at this
      exact (List.Perm.append_left a (ih i this)).trans List.perm_middle
theorem puts_perm {now : Nat} : ∀ (l : List Tm) {S : List (List Tm)}, S.length = 64 → (l.foldl (putS now) S).flatten.Perm (l ++ S.flatten) ∧ (l.foldl (putS now) S).length = 64
  | [], S, h => ⟨.refl _, h⟩
  | t :: l, S, h => by
    obtain ⟨h1, h2⟩ := puts_perm l (S := putS now S t) (by rw [putS_length, h])
    refine ⟨h1.trans ((List.Perm.append_left l (putS_perm h)).trans ?_), h2⟩
    exact List.perm_middle
theorem set_perm {S : List (List Tm)} {i : Nat} (hi : i < S.length) : ((S.getD i []) ++ (S.set i []).flatten).Perm S.flatten := by
  induction S generalizing i with
  | nil => simp at hi
  | cons a S ih =>
    cases i with
    | zero => simp
    | succ i =>
      simp at hi
      simp only [List.getD_cons_succ, List.set_cons_succ, List.flatten_cons]
      have := ih hi
      rw [← List.append_assoc]
      refine (List.Perm.append_right _ List.perm_append_comm).trans ?_
      rw [List.append_assoc]
      exact List.Perm.append_left a this
theorem turnS_perm {S : List (List Tm)} {now i : Nat} (hl : S.length = 64) (hi : i < 64) : (turnS now S i).flatten.Perm S.flatten ∧ (turnS now S i).length = 64 := by
  unfold turnS
  obtain ⟨h1, h2⟩ := puts_perm (now := now) (S.getD i []) (S := S.set i []) (by rw [List.length_set]; exact hl)
  exact ⟨h1.trans (set_perm (by omega)), h2⟩
theorem Stand.puts {p : Nat → Tm → Prop} {now : Nat} : ∀ {l : List Tm} {S : List (List Tm)}, Stand p S → (∀ t ∈ l, p (plc now t.at') t) → Stand p (l.foldl (putS now) S)
  | [], S, h, _ => h
  | t :: l, S, h, hl => by
    rw [List.foldl_cons]
    exact Stand.puts (h.put (hl t (by simp))) fun u hu => hl u (by simp [hu])
/-- What stands where it must after some turns. -/
def At (now n : Nat) (D : List Nat) (i : Nat) (t : Tm) : Prop := i = plc n t.at' ∨ (i = plc now t.at' ∧ i ∉ D)
theorem Stand.turn {now n : Nat} {D : List Nat} {S : List (List Tm)} {i : Nat} (h : Stand (At now n D) S) : Stand (At now n (i :: D)) (turnS n S i) := by
  unfold turnS
  refine Stand.puts (fun j l hl t ht => ?_) fun t ht => .inl rfl
  rw [List.getElem?_set] at hl
  split at hl
  · split at hl
    · simp at hl; subst hl; simp at ht
    · cases hl
  · rename_i hij
    rcases h j l hl t ht with e | ⟨e1, e2⟩
    · exact .inl e
    · refine .inr ⟨e1, fun hm => ?_⟩
      rw [List.mem_cons] at hm
      rcases hm with rfl | hm
      · exact hij rfl
      · exact e2 hm
theorem Stand.all {now n : Nat} {D : List Nat} {S : List (List Tm)} (h : Stand (At now n D) S) (hn : n = now + 1) (hr : ∀ t ∈ S.flatten, now < t.at' ∧ t.at' ≤ now + 65535) (d1 : n % 16 = 0 → 16 + n / 16 % 16 ∈ D) (d2 : n % 256 = 0 → 32 + n / 256 % 16 ∈ D) (d3 : n % 4096 = 0 → 48 + n / 4096 % 16 ∈ D) : Stand (fun i t => i = plc n t.at') S := fun i l hl t ht => by
  rcases h i l hl t ht with e | ⟨e1, e2⟩
  · exact e
  · have hm : t ∈ S.flatten := List.mem_flatten.2 ⟨l, List.mem_of_getElem? hl, ht⟩
    obtain ⟨r1, r2⟩ := hr t hm
    rw [e1]
    exact plc_keep hn r1 r2 (fun d e => e2 (by rw [e1, e]; exact d1 d)) (fun d e => e2 (by rw [e1, e]; exact d2 d)) (fun d e => e2 (by rw [e1, e]; exact d3 d))
end Go.Br
