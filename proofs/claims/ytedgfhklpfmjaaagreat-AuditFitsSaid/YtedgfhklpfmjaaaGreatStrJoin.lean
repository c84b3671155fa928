/- strings.Join, by the library's contract; pieces as a line. -/
import Derived.Test.YtedgfhklpfmjaaaGreatNStrJoin
import Derived.Test.YtedgfhklpfmjaaaGreatLlayJoin
import Derived.Test.YtedgfhklpfmjaaaGreatBrOwn
import Derived.Test.YtedgfhklpfmjaaaGreatBrSeat
set_option linter.unusedVariables false
set_option linter.unusedSimpArgs false
set_option linter.unnecessarySimpa false
namespace Go.Br
open Go
attribute [local irreducible] Addr.add RD RDS RUN RUNU NILC LETB CALL CALLX CALLV

theorem tiStrJ : TI PG 9 1 16 (.string (ByteArray.mk #[])) := tiOf (by kernel_rfl)
theorem huStrsJ : PG.underlying 75 = some (.slice 9) := by kernel_rfl
theorem exJoin : Go.Proofs.Builder.Extra PG Go.Proofs.Tryz.layJoin_ren := {
  sizeBuilder := by kernel_rfl
  liesBuilder := by kernel_rfl
  t5 := Go.Proofs.Tryz.underlying5
  a5 := Go.Proofs.Tryz.isAgg5
  z5 := Go.Proofs.Tryz.sizeOf5
  v5 := Go.Proofs.Tryz.zeroValue5
  infoByte := by kernel_rfl
  cellsByte := by kernel_rfl
  sizeByte := by kernel_rfl
  neB5 := by decide }
/-- Texts with one between. -/
def joinL (xs : List ByteArray) (sep : ByteArray) : List UInt8 := Lib.join (xs.map (·.data.toList)) sep.data.toList
/-- Pieces that aren't empty, with one blank between. -/
def lineL (xs : List ByteArray) : List UInt8 := joinL (xs.filter fun s => !(s.toList == [])) (ByteArray.mk #[32])
def sv1 (s : ByteArray) : List Value := [.string s]
theorem sv1_length (s : ByteArray) : (sv1 s).length = 1 := rfl
theorem sv1_flat1 (s : ByteArray) : Flat (sv1 s) := by intro v hv; simp [sv1] at hv; subst hv; rfl
theorem sv1_get {xs : List ByteArray} {j : Nat} {x : ByteArray} (h : xs[j]? = some x) : (xs.flatMap sv1)[j]? = some (.string x) := by
  have e : xs.flatMap sv1 = xs.map fun s => Value.string s := by
    clear h
    induction xs with
    | nil => rfl
    | cons a r ih => rw [List.flatMap_cons, ih]; rfl
  rw [e, List.getElem?_map, h]
  rfl
theorem below_kp {w w' : World} (h : Go.RowKit.Below w.heap.size w w') : Kp [] w w' := ⟨h.os, h.tape, h.output, h.size, fun i hi _ => h.block i hi⟩
section
variable {c : Ctx} {w : World} {L R : List SA}
theorem join_ok (h : St c w L) {A : Option Addr} {n k : Nat} {xs : List ByteArray} {sep : ByteArray} (hp : Pick (own 9 1 A n k (xs.flatMap sv1)) L R) (hn : xs.length = n) (hN : xs.length ≤ 1000000) (hl : (joinL xs sep).length ≤ 140737488355328) {Q : Value → World → Prop}
    (hk : ∀ w', St c w' L → Q (.string (strOf (joinL xs sep))) w') : CALL PG 34 [.slice A n k, .string sep] w Q := by
  unfold CALL
  have ho := h.own hp
  subst hn
  rcases ho with ⟨rfl, e1, e2, e3⟩ | ⟨B, spare, rfl, hb, h3, h4, h5⟩
  · have : xs = [] := List.length_eq_zero_iff.1 e1
    subst this
    exact (Go.Proofs.Any.strings_Join_none Go.Proofs.Tryz.layJoin exJoin none k sep w).mono fun e w' ⟨he, hw⟩ => by subst he; subst hw; exact hk _ h
  · refine (Go.Proofs.Any.strings_Join Go.Proofs.Tryz.layJoin exJoin B 0 k xs sep w (fun j x hx => ?_) ?_ (by omega) h5 hl).mono fun e w' ⟨he, hw⟩ => by
      subst he
      exact hk _ (h.keep (below_kp hw))
    · have e := sv1_get hx
      have hlt := (List.getElem?_eq_some_iff.1 e).1
      rw [hb.cell]
      rw [List.getElem?_append_left (by rw [Nat.zero_add]; exact hlt), Nat.zero_add]
      exact e
    · exact hb.lt
theorem line_ok (h : St c w L) {A : Option Addr} {k : Nat} {xs : List ByteArray} (hr : RdIn L A (xs.flatMap sv1)) (hn : xs.length ≤ 1000000) (hl : (lineL xs).length ≤ 140737488355328) {Q : Value → World → Prop}
    (hk : ∀ w', St c w' L → Q (.string (strOf (lineL xs))) w') : CALL PG 22 [.slice A xs.length k] w Q := by
  refine call22 ?_
  unfold N22
  have h := h.addOwnNil 9 1
  refine ⟨fun m o oN oC x w => ∃ j : Nat, x = j ∧ m = xs.length - j ∧ j ≤ xs.length ∧ oN = ((xs.take j).filter fun s => !(s.toList == [])).length ∧ St c w (own 9 1 o oN oC (((xs.take j).filter fun s => !(s.toList == [])).flatMap sv1) :: L), ⟨_, 0, rfl, rfl, Nat.zero_le _, rfl, h⟩, ?_⟩
  clear h
  rintro m o oN oC x w' ⟨j, rfl, rfl, hj, rfl, h⟩
  by_cases hjl : j < xs.length
  rotate_left
  · obtain rfl : j = xs.length := by omega
    refine ifdf (by omega) ?_
    rw [List.take_length] at h ⊢
    refine join_ok h .head rfl (Nat.le_trans (List.length_filter_le _ _) hn) hl fun w' h => ?_
    (repeat (first | apply Exists.intro (α := Int) | apply Exists.intro (α := Bool) | apply Exists.intro (α := ByteArray) | (apply Exists.intro (α := Option Addr); apply Exists.intro (α := Nat); apply Exists.intro (α := Nat)) | apply Exists.intro (α := Option Addr) | apply Exists.intro (α := Value)))
    refine ⟨rfl, ?_⟩
    exact lets rfl (hk _ h.drop)
  obtain ⟨s, hs⟩ : ∃ s, xs[j]? = some s := ⟨_, List.getElem?_eq_getElem hjl⟩
  have e3 : IntKind.i64.wrap ((j : Int) + 1) = ((j + 1 : Nat) : Int) := by rw [wrap_i64 (by omega) (by omega)]; rfl
  have etk : xs.take (j + 1) = xs.take j ++ [s] := by rw [List.take_add_one, hs]; rfl
  refine ifdt (by omega) ?_
  refine h.ix (z := 0) hr.more hs (fun a ha => ?_) (by omega)
  subst ha
  refine h.rdWT (g := sv1) hr.more hs (lets rfl ?_)
  have e0 : (ByteArray.mk #[]).toList = [] := toList_data _
  rw [e0]
  refine ifb (fun hne => ?_) fun he => ?_
  · have hfl : (xs.take (j + 1)).filter (fun s => !(s.toList == [])) = (xs.take j).filter (fun s => !(s.toList == [])) ++ [s] := by
      rw [etk, List.filter_append, List.filter_cons, if_pos hne]; rfl
    refine h.app1 huStrsJ tiStrJ (sv1 s) .head (sv1_flat1 s) ?_ fun O d w' h => ?_
    · have := List.length_filter_le (fun s : ByteArray => !(s.toList == [])) (xs.take j)
      rw [List.length_take] at this
      omega
    refine ⟨xs.length - (j + 1), by omega, j + 1, e3, rfl, by omega, by rw [hfl]; simp, ?_⟩
    rw [hfl, List.flatMap_append]
    simpa using h
  · have hfl : (xs.take (j + 1)).filter (fun s => !(s.toList == [])) = (xs.take j).filter (fun s => !(s.toList == [])) := by
      rw [etk, List.filter_append, List.filter_cons, if_neg (by rw [he]; simp)]; simp
    refine ⟨xs.length - (j + 1), by omega, j + 1, e3, rfl, by omega, by rw [hfl], ?_⟩
    rw [hfl]
    exact h
end
end Go.Br
