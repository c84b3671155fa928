/- The law of the plays of the pieces under way. -/
import Derived.Test.YtegocoicdcpgaaaNFlightPlay6
import Derived.Test.YtegocoicdcpgaaaFlightPlay5
set_option linter.unusedVariables false
namespace Go.Br
open Go
attribute [local irreducible] Addr.add

theorem fplays_ok {c : Ctx} {w : World} {R : List SA} (h : St c w R) {A : Option Addr} {Y : List OpF} {lk : Nat} {many : Int} (hY : RdIn R A (Y.flatMap opf)) (hwY : ∀ y ∈ Y, WFc y.x) {Q : Value → World → Prop} (hk : ∀ w', St c w' R → Q (.bool true) w') :
    CALL PG 14 [.int .i64 many, .slice A Y.length lk] w Q := by
  refine call14 ?_
  unfold N14
  refine ifd (fun _ => hk _ h) fun hn => ?_
  have hmo := moOf_ok many
  refine fNew_ok h fun p w' h => ⟨_, rfl, iff_ rfl ?_⟩
  refine ⟨fun m r rn rc i w' => ∃ (j : Nat) (l : List Ch), j + m = Y.length ∧ i = (j : Int) ∧ l.length = rn ∧ rn ≤ rc ∧ (l.length : Int) ≤ moOf many ∧ WFs l ∧ St c w' (flA p (moOf many) l :: rows r (l.flatMap ch) :: R),
    ⟨Y.length, 0, [], by omega, rfl, rfl, by decide, by simp; omega, by simp [WFs], (h.addNil (φ := fun w => Row w none []) fun w => Row.nil w none).swap⟩, ?_⟩
  rintro m r rn rc _ w' ⟨j, l, hj, rfl, rfl, hrc, hlm, hwf, h⟩
  refine ifd (fun hlt => ?_) fun hge => alive_ok fun w' k => ⟨_, rfl, letb rfl (hk _ (h.keep k).to)⟩
  obtain ⟨o, ho⟩ := ex_get (L := Y) (j := j) (by omega)
  have hoY := hwY o (List.mem_of_getElem? ho)
  refine h.ix (z := 10) hY.more.more ho fun a ha => ?_
  subst ha
  refine h.rdEG hY.more.more ho ⟨_, _, _, _, _, _, _, _, _, _, _, rfl, ?_⟩
  refine right_ok h o fun w' b h => ⟨_, rfl, ifnot (fun _ => hk _ h.to) fun _ => ?_⟩
  have hd := h.drew
  refine ⟨fun w => St c w _, hd, ?_⟩
  refine h.ix (z := 10) hY.more.more ho fun a ha => ?_
  injection ha with ha
  subst ha
  refine St.rdsEG hY.more.more ho ⟨_, _, _, _, _, _, _, _, _, _, _, rfl, ?_⟩
  refine most_ok ⟨_, rfl, _, fun _ h => h, hd, ?_⟩
  refine do_ok hd .head hrc ⟨by omega, by omega, hlm⟩ o hoY hwf fun l' A' k' w' h hk' hwf' => ⟨_, _, _, _, rfl, letb rfl ?_⟩
  have h : St c w' (flA p (moOf many) l' :: rows A' (l'.flatMap ch) :: R) := h.to
  have hlm' : (l'.length : Int) ≤ moOf many := by
    obtain ⟨A, k, hf⟩ := flGet h .head
    exact hf.hl
  refine fAgain_ok h .head fun w' h => ⟨_, _, _, _, _, _, _, _, _, _, rfl, ?_⟩
  refine h.allocG (cs := ch ch0) tiCh fun q9 w' h => ?_
  refine h.stG fun w' h => ?_
  refine letb rfl ?_
  refine rAgain_ok h (RdIn.rows (.tail (.tail .head))) (by omega) fun w' h => ⟨_, _, _, _, _, _, _, _, _, _, rfl, ?_⟩
  refine h.allocG (cs := ch ch0) tiC fun q11 w' h => ?_
  refine h.stG fun w' h => ?_
  refine letb rfl (iff_ rfl ?_)
  have hd := h.drew
  generalize hx : (l'.find? (·.lost)).getD ch0 = x at h hd
  have hd : St c w'.drew (blk q11 130 (ch x) :: blk q9 46 (ch x) :: flA p (moOf many) l' :: rows A' (l'.flatMap ch) :: R) := hd
  refine fAll_ok hd (.tail (.tail .head)) fun O oc w' h => ⟨_, _, _, rfl, ?_⟩
  refine rPlain_ok h (RdIn.own .head) (by omega) fun O2 oc2 w' h => ⟨_, _, _, rfl, ?_⟩
  refine rSame_ok h (RdIn.own .head) (RdIn.rows (.tail (.tail (.tail (.tail (.tail .head)))))) (by omega) fun w' h => ⟨_, rfl, ?_⟩
  have h : St c w' (blk q11 130 (ch x) :: blk q9 46 (ch x) :: flA p (moOf many) l' :: rows A' (l'.flatMap ch) :: R) := h.to
  refine ⟨fun w => St c w (blk q11 130 (ch x) :: blk q9 46 (ch x) :: flA p (moOf many) l' :: rows A' (l'.flatMap ch) :: R), h, iff_ rfl ?_⟩
  refine fLen_ok h (.tail (.tail .head)) ⟨_, rfl, _, fun _ h => h, h, iff_ (by simp) ?_⟩
  refine fFree_ok h (.tail (.tail .head)) fun w' h => ⟨_, rfl, _, fun _ h => h, h, ?_⟩
  refine most_ok ⟨_, rfl, _, fun _ h => h, h, ?_⟩
  rw [wrap_i64 (by omega) (by omega)]
  refine iff_ (by simp) (iff_ (by simp) ?_)
  refine St.rdsG ⟨_, _, _, _, _, _, _, _, _, rfl, ?_⟩
  refine St.rdsG ⟨_, _, _, _, _, _, _, _, _, rfl, ?_⟩
  refine rOne_ok h x fun w' h => ⟨_, _, _, _, _, _, _, _, _, rfl, ?_⟩
  refine ⟨_, fun _ h => h, h, ?_⟩
  refine neqSameS (xs := ch x) (iff_ rfl ?_)
  refine fFirst_ok h (.tail (.tail .head)) fun w' h => ⟨_, _, _, _, _, _, _, _, _, _, rfl, ?_⟩
  have h : St c w' (flA p (moOf many) l' :: rows A' (l'.flatMap ch) :: R) := h.to
  refine h.allocG (cs := ch ch0) tiCh fun q13 w' h => ?_
  refine h.stG fun w' h => ?_
  refine letb rfl ?_
  have hwx : ∀ y, l'.head? = some y → WFc y := fun y hy => hwf' y (List.mem_of_mem_head? hy)
  have hd := h.drew
  have next : (IntKind.i64.wrap ((j : Int) + 1)) = ((j + 1 : Nat) : Int) := wrap_i64 (by omega) (by omega)
  have fin : ∀ w', St c w' (flA p (moOf many) l' :: rows A' (l'.flatMap ch) :: R) → ∃ m2, m2 < m ∧ ∃ (j' : Nat) (l : List Ch), j' + m2 = Y.length ∧ ((j + 1 : Nat) : Int) = (j' : Int) ∧ l.length = l'.length ∧ l'.length ≤ k' ∧ (l.length : Int) ≤ moOf many ∧ WFs l ∧ St c w' (flA p (moOf many) l :: rows A' (l.flatMap ch) :: R) :=
    fun w' h => ⟨m - 1, by omega, j + 1, l', by omega, rfl, rfl, hk', hlm', hwf', h⟩
  cases l' with
  | nil =>
    have hd : St c w'.drew (blk q13 46 (ch ch0) :: flA p (moOf many) [] :: rows A' (([] : List Ch).flatMap ch) :: R) := hd
    refine ⟨fun w => St c w _, hd, iff_ rfl (iff_ rfl ?_)⟩
    refine St.rdsG ⟨_, _, _, _, _, _, _, _, _, rfl, ?_⟩
    refine St.rdsG ⟨_, _, _, _, _, _, _, _, _, rfl, ?_⟩
    refine fTo_ok hd ch0 fun w' h => ⟨_, rfl, _, fun _ h => h, h, ?_⟩
    refine rOne_ok h ch0 fun w' h => ⟨_, _, _, _, _, _, _, _, _, rfl, ?_⟩
    refine rTo_ok h ch0 fun w' h => ⟨_, rfl, ?_⟩
    exact iff_ (by decide) (leti next (fin _ h.to))
  | cons y r =>
    have hwy := hwx y rfl
    have hd : St c w'.drew (blk q13 46 (ch y) :: flA p (moOf many) (y :: r) :: rows A' ((y :: r).flatMap ch) :: R) := hd
    refine ⟨fun w => St c w _, hd, iff_ ?_ (ift rfl ?_)⟩
    · simp
    refine St.rdsG ⟨_, _, _, _, _, _, _, _, _, rfl, ?_⟩
    refine hd.ix (z := 8) (i := 0) (y := y) (RdIn.rows (.tail (.tail .head))) rfl (fun b hb => ?_) (by simp)
    refine St.rdsEG (i := 0) (y := y) (a := b) (by rw [← hb]; exact RdIn.rows (.tail (.tail .head))) rfl ⟨_, _, _, _, _, _, _, _, _, rfl, ?_⟩
    refine rOne_ok hd y fun w' h => ⟨_, _, _, _, _, _, _, _, _, rfl, ?_⟩
    refine ⟨_, fun _ h => h, h, ?_⟩
    refine neqSameS (xs := ch y) (iff_ rfl ?_)
    refine St.rdsG ⟨_, _, _, _, _, _, _, _, _, rfl, ?_⟩
    refine St.rdsG ⟨_, _, _, _, _, _, _, _, _, rfl, ?_⟩
    refine fTo_ok h y fun w' h => ⟨_, rfl, _, fun _ h => h, h, ?_⟩
    refine rOne_ok h y fun w' h => ⟨_, _, _, _, _, _, _, _, _, rfl, ?_⟩
    refine rTo_ok h y fun w' h => ⟨_, rfl, ?_⟩
    exact iff_ (by rw [rto_eq hwy.1 hwy.2.1]; simp) (leti next (fin _ h.to))
end Go.Br
