/- The ring, by what it has in order. -/
import Derived.Test.YtegocoicdcpgaaaRing
import Derived.Test.YtegocoicdcpgaaaBrMore
set_option linter.unusedVariables false
namespace Go.Br
open Go

def RingC (w : World) (p D : Nat) (C : List UInt8) (sz : Nat) : Prop := ∃ bs a, RingAt w p D bs a C.length ∧ bs.length = sz ∧ C = (rot bs a).take C.length
theorem RingC.kp {S : List Nat} {w w' : World} {p D : Nat} {C : List UInt8} {sz : Nat} (h : RingC w p D C sz) (k : Kp S w w') (h1 : p ∉ S) (h2 : D ∉ S) : RingC w' p D C sz := by
  obtain ⟨bs, a, h, hl, hc⟩ := h
  exact ⟨bs, a, h.kp k h1 h2, hl, hc⟩
theorem RingC.keep {w w' : World} {p D : Nat} {C : List UInt8} {sz : Nat} (h : RingC w p D C sz) (k : Kp [] w w') : RingC w' p D C sz := h.kp k (by simp) (by simp)
theorem RingC.facts {w : World} {p D : Nat} {C : List UInt8} {sz : Nat} (h : RingC w p D C sz) : C.length ≤ sz ∧ 1 ≤ sz ∧ sz ≤ 65536 ∧ p < w.heap.size ∧ D < w.heap.size ∧ p ≠ D := by
  obtain ⟨bs, a, h, rfl, hc⟩ := h
  exact ⟨h.hn, h.pos, h.big, h.hp.lt, h.hD.lt, h.ne⟩
theorem take_spl {α : Type} {l X : List α} {n : Nat} (h : n + X.length ≤ l.length) : (spl l n X).take (n + X.length) = l.take n ++ X := by
  unfold spl
  rw [List.take_append_of_le_length (by simp; omega)]
  exact List.take_of_length_le (by simp; omega)
theorem rc_new {w : World} {size : Nat} (h1 : 1 ≤ size) (h2 : size ≤ 65536) {Q : Value → World → Prop}
    (hk : ∀ w' p D, Kp [] w w' → w.heap.size ≤ p → w.heap.size ≤ D → RingC w' p D [] size → Q (.tuple #[.pointer (some ⟨p, 0, none⟩), .int .i64 0]) w') : CALL PG 15 [.int .i64 (size : Int)] w Q :=
  new_ok h1 h2 fun w' p D k f1 f2 h => hk w' p D k f1 f2 ⟨_, 0, h, by simp, by simp⟩
theorem rc_len {w : World} {p D : Nat} {C : List UInt8} {sz : Nat} (h : RingC w p D C sz) {Q : Value → World → Prop} (hk : Q (.int .i64 (C.length : Int)) w) : CALL PG 19 [.pointer (some ⟨p, 0, none⟩)] w Q := by
  obtain ⟨bs, a, h, hl, hc⟩ := h
  exact len_ok h hk
theorem rc_free {w : World} {p D : Nat} {C : List UInt8} {sz : Nat} (h : RingC w p D C sz) {Q : Value → World → Prop} (hk : Q (.int .i64 ((sz : Int) - C.length)) w.drew) : CALL PG 17 [.pointer (some ⟨p, 0, none⟩)] w Q := by
  obtain ⟨bs, a, h, rfl, hc⟩ := h
  exact free_ok h hk
theorem rc_write {w : World} {p D : Nat} {C : List UInt8} {sz : Nat} (h : RingC w p D C sz) {A : Option Addr} {m c : Nat} {xs : List UInt8} (hr : Row w A (bvs xs)) (hl : xs.length = m) (hc : m ≤ c)
    (hA : ∀ x, A = some x → xs ≠ [] → x.block ≠ p ∧ x.block ≠ D) {Q : Value → World → Prop}
    (hk : ∀ w', Kp [p, D] w w' → w'.heap.size = w.heap.size → RingC w' p D (C ++ xs.take (min m (sz - C.length))) sz → Q (.int .i64 ((min m (sz - C.length) : Nat) : Int)) w') :
    CALL PG 16 [.pointer (some ⟨p, 0, none⟩), .slice A m c] w Q := by
  obtain ⟨bs, a, h, rfl, hC⟩ := h
  have hn := h.hn
  refine write_ok h hr hl hc hA fun w' bs' k s l h' r => hk w' k s ⟨bs', a, ?_, l, ?_⟩
  all_goals
    have e : (C ++ xs.take (min m (bs.length - C.length))).length = C.length + min m (bs.length - C.length) := by rw [List.length_append, List.length_take]; omega
  · rw [e]; exact h'
  · rw [e, r]
    have e2 : min m (bs.length - C.length) = (xs.take (min m (bs.length - C.length))).length := by rw [List.length_take]; omega
    have := take_spl (l := rot bs a) (n := C.length) (X := xs.take (min m (bs.length - C.length))) (by rw [rot_length, List.length_take]; omega)
    rw [← e2, ← hC] at this
    exact this.symm
theorem rc_skip {w : World} {p D : Nat} {C : List UInt8} {sz : Nat} (h : RingC w p D C sz) {many : Int} {k : Nat} (hkd : (k : Int) = minN (maxN many 0) C.length) {Q : Value → World → Prop}
    (hk : ∀ w', Kp [p, D] w w' → w'.heap.size = w.heap.size → RingC w' p D (C.drop k) sz → Q (.int .i64 (k : Int)) w') : CALL PG 21 [.pointer (some ⟨p, 0, none⟩), .int .i64 many] w Q := by
  obtain ⟨bs, a, h, rfl, hC⟩ := h
  have hn := h.hn
  refine skip_ok h hkd fun w' bs' a' kk s l h' r => hk w' kk s ⟨bs', a', ?_, l, ?_⟩
  · rw [List.length_drop]; exact h'
  · rw [List.length_drop, r, List.take_append_of_le_length (by rw [List.length_drop, rot_length]; omega)]
    conv => lhs; rw [hC]
    rw [List.drop_take]
theorem rc_peek {w : World} {p D : Nat} {C : List UInt8} {sz : Nat} (h : RingC w p D C sz) {i : Nat} {many : Int} {Q : Value → World → Prop}
    (hk : ∀ w' A c, Kp [] w w' → Row w' A (bvs ((C.drop i).take many.toNat)) → (∀ x, A = some x → w.heap.size ≤ x.block) → ((C.drop i).take many.toNat).length ≤ c → Q (.slice A ((C.drop i).take many.toNat).length c) w') :
    CALL PG 23 [.pointer (some ⟨p, 0, none⟩), .int .i64 (i : Int), .int .i64 many] w Q := by
  obtain ⟨bs, a, h, rfl, hC⟩ := h
  have hn := h.hn
  by_cases c : C.length ≤ i ∨ many < 1
  · have e : (C.drop i).take many.toNat = [] := by
      rcases c with c | c
      · rw [List.drop_eq_nil_of_le c]; simp
      · rw [show many.toNat = 0 by omega]; simp
    rw [e] at hk
    exact peek_none h (by omega) (hk w none 0 (Kp.refl w) (Row.nil _ _) (by simp) (by simp))
  · have hi : i < C.length := by omega
    obtain ⟨k, hkd⟩ : ∃ k : Nat, (k : Int) = minN many ((C.length : Int) - i) := ⟨(minN many ((C.length : Int) - i)).toNat, by unfold minN; split <;> omega⟩
    have hkm : k = min many.toNat (C.length - i) := by unfold minN at hkd; split at hkd <;> omega
    refine peek_some h hi (by omega) hkd fun w' A cc k1 ho hf => ?_
    have e : (C.drop i).take many.toNat = ((rot bs a).drop i).take k := by
      conv => lhs; rw [hC]
      rw [List.drop_take, List.take_take, hkm]
    have el : ((C.drop i).take many.toNat).length = k := by rw [List.length_take, List.length_drop]; omega
    have := hk w' A cc k1 (by rw [e]; exact ho.row) hf (by rw [el]; exact ho.le)
    rwa [el] at this
end Go.Br
