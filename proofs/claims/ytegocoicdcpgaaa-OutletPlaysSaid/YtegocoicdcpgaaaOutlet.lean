/- The stream that one writes: what a call of each of its functions does. -/
import Derived.Test.YtegocoicdcpgaaaNOutlet
import Derived.Test.YtegocoicdcpgaaaRingC
set_option linter.unusedVariables false
namespace Go.Br
open Go

abbrev Strm : Nat := 4611686018427387904
structure OutAt (w : World) (o p D : Nat) (C : List UInt8) (sz base : Nat) (cl gn : Bool) : Prop where
  ho : Blk w o 68 [.pointer (some ⟨p, 0, none⟩), .int .u64 (base : Int), .bool cl, .bool gn]
  hr : RingC w p D C sz
  op : o ≠ p
  oD : o ≠ D
  big : base + C.length ≤ Strm
theorem OutAt.kp {S : List Nat} {w w' : World} {o p D sz base : Nat} {C : List UInt8} {cl gn : Bool} (h : OutAt w o p D C sz base cl gn) (k : Kp S w w') (h0 : o ∉ S) (h1 : p ∉ S) (h2 : D ∉ S) : OutAt w' o p D C sz base cl gn :=
  ⟨h.ho.kp k h0, h.hr.kp k h1 h2, h.op, h.oD, h.big⟩
theorem OutAt.keep {w w' : World} {o p D sz base : Nat} {C : List UInt8} {cl gn : Bool} (h : OutAt w o p D C sz base cl gn) (k : Kp [] w w') : OutAt w' o p D C sz base cl gn := h.kp k (by simp) (by simp) (by simp)
theorem OutAt.lt {w : World} {o p D sz base : Nat} {C : List UInt8} {cl gn : Bool} (h : OutAt w o p D C sz base cl gn) : o < w.heap.size ∧ p < w.heap.size ∧ D < w.heap.size := ⟨h.ho.lt, h.hr.facts.2.2.2.1, h.hr.facts.2.2.2.2.1⟩
theorem u64_id {y : Int} (h : 0 ≤ y) (h' : y < 18446744073709551616) : IntKind.u64.wrap y = y := by unfold IntKind.wrap; simp [IntKind.bits, IntKind.signed]; omega

theorem ol_new {w : World} {size : Nat} (h1 : 1 ≤ size) (h2 : size ≤ 65536) {Q : Value → World → Prop}
    (hk : ∀ w' o p D, Kp [] w w' → w.heap.size ≤ o → w.heap.size ≤ p → w.heap.size ≤ D → OutAt w' o p D [] size 0 false false → Q (.tuple #[.pointer (some ⟨o, 0, none⟩), .int .i64 0]) w') : CALL PG 40 [.int .i64 (size : Int)] w Q := by
  refine call40 ?_
  unfold N40
  refine rc_new h1 h2 fun w1 p D k1 f1 f2 hr => ⟨_, _, rfl, leti rfl (iff_ (by decide) ?_)⟩
  have e : (Instr.build 68 #[(0, .pointer (some ⟨p, 0, none⟩))]).run PG w1 = .ok (.agg #[.pointer (some ⟨p, 0, none⟩), .int .u64 0, .bool false, .bool false]) w1 := by kernel_rfl
  refine RD.of e ⟨_, _, _, _, rfl, box1 fun w2 k2 s2 hb => ⟨_, rfl, ?_⟩⟩
  have hf := hr.facts
  have sz := k1.size
  exact hk w2 w1.heap.size p D (k1.then k2) sz f1 f2 ⟨hb, hr.keep k2, by omega, by omega, by simp⟩
theorem ol_bad {w : World} {size : Int} (h : size < 1 ∨ 65536 < size) {Q : Value → World → Prop} (hk : Q (.tuple #[.pointer none, .int .i64 50]) w) : CALL PG 40 [.int .i64 size] w Q := by
  refine call40 ?_
  unfold N40
  exact new_bad h ⟨_, _, rfl, leti rfl (ift (by decide) (leti rfl hk))⟩
theorem ol_base {w : World} {o p D sz base : Nat} {C : List UInt8} {cl gn : Bool} (h : OutAt w o p D C sz base cl gn) {Q : Value → World → Prop} (hk : Q (.int .u64 (base : Int)) w) : CALL PG 43 [.pointer (some ⟨o, 0, none⟩)] w Q := by
  refine call43 ?_
  unfold N43
  exact RD.of (ld 1 h.ho rfl (by kernel_rfl)) ⟨_, rfl, leti rfl hk⟩
theorem ol_closed {w : World} {o p D sz base : Nat} {C : List UInt8} {cl gn : Bool} (h : OutAt w o p D C sz base cl gn) {Q : Value → World → Prop} (hk : Q (.bool cl) w) : CALL PG 62 [.pointer (some ⟨o, 0, none⟩)] w Q := by
  refine call62 ?_
  unfold N62
  exact RD.of (ld 2 h.ho rfl (by kernel_rfl)) ⟨_, rfl, letb rfl hk⟩
theorem ol_done {w : World} {o p D sz base : Nat} {C : List UInt8} {cl gn : Bool} (h : OutAt w o p D C sz base cl gn) {Q : Value → World → Prop} (hk : Q (.bool gn) w) : CALL PG 49 [.pointer (some ⟨o, 0, none⟩)] w Q := by
  refine call49 ?_
  unfold N49
  exact RD.of (ld 3 h.ho rfl (by kernel_rfl)) ⟨_, rfl, letb rfl hk⟩
theorem ol_close {w : World} {o p D sz base : Nat} {C : List UInt8} {cl gn : Bool} (h : OutAt w o p D C sz base cl gn) {Q : Value → World → Prop} (hk : ∀ w', Kp [o] w w' → w'.heap.size = w.heap.size → OutAt w' o p D C sz base true gn → Q (.tuple #[]) w') : CALL PG 47 [.pointer (some ⟨o, 0, none⟩)] w Q := by
  refine call47 ?_
  unfold N47
  refine st 2 h.ho (by kernel_rfl) rfl (by simp) fun w' k s hb => hk w' k s ⟨hb, h.hr.kp k ?_ ?_, h.op, h.oD, h.big⟩
  · simp; exact fun e => h.op e.symm
  · simp; exact fun e => h.oD e.symm
theorem ol_end {w : World} {o p D sz base : Nat} {C : List UInt8} {cl gn : Bool} (h : OutAt w o p D C sz base cl gn) {Q : Value → World → Prop} (hk : ∀ w', Kp [] w w' → Q (.int .u64 ((base + C.length : Nat) : Int)) w') : CALL PG 45 [.pointer (some ⟨o, 0, none⟩)] w Q := by
  refine call45 ?_
  unfold N45
  have hb := h.big
  have hd := h.keep (Kp.drew w)
  refine ⟨fun w' => w' = w.drew, rfl, ⟨_, fun w' e => by subst e; exact ld 1 hd.ho rfl (by kernel_rfl), _, rfl, ?_⟩⟩
  refine ⟨_, fun w' e => by subst e; exact ld 0 hd.ho rfl (by kernel_rfl), _, rfl, ?_⟩
  refine rc_len hd.hr ⟨_, rfl, fun w' => w' = w.drew, fun _ h => h, rfl, ?_⟩
  refine leti ?_ (hk _ (Kp.drew w))
  rw [u64_id (y := (C.length : Int)) (by omega) (by unfold Strm at hb; omega), u64_id (by omega) (by unfold Strm at hb; omega)]
  rfl
def topN (base n : Nat) (cl : Bool) : Nat := if cl then base + n + 1 else base + n
theorem ol_top {w : World} {o p D sz base : Nat} {C : List UInt8} {cl gn : Bool} (h : OutAt w o p D C sz base cl gn) {Q : Value → World → Prop} (hk : ∀ w', Kp [] w w' → Q (.int .u64 (topN base C.length cl : Int)) w') : CALL PG 48 [.pointer (some ⟨o, 0, none⟩)] w Q := by
  refine call48 ?_
  unfold N48
  have hb := h.big
  unfold topN at hk
  refine RD.of (ld 2 h.ho rfl (by kernel_rfl)) ⟨_, rfl, ?_⟩
  cases cl with
  | true =>
    refine ift rfl (ol_end h fun w' k => ⟨_, rfl, leti ?_ (hk w' k)⟩)
    rw [u64_id (by omega) (by unfold Strm at hb; omega)]; rfl
  | false => exact iff_ rfl (ol_end h fun w' k => ⟨_, rfl, leti rfl (hk w' k)⟩)

/-- What a writing answers: how many, and why no more. -/
def putN (n sz base : Nat) (cl : Bool) (m : Nat) : Nat × Int :=
  if cl then (0, 212) else if m = 0 then (0, 0) else if base + n = Strm then (0, 215) else
  if min (min m (Strm - (base + n))) (sz - n) = 0 then (0, 210) else (min (min m (Strm - (base + n))) (sz - n), 0)
theorem ol_put {w : World} {o p D sz base : Nat} {C : List UInt8} {cl gn : Bool} (h : OutAt w o p D C sz base cl gn) {A : Option Addr} {c : Nat} {xs : List UInt8} (hr : Row w A (bvs xs)) (hc : xs.length ≤ c) (hcb : xs.length ≤ 1000000)
    (hA : ∀ x, A = some x → xs ≠ [] → x.block ≠ p ∧ x.block ≠ D) {Q : Value → World → Prop}
    (hk : ∀ w', Kp [p, D] w w' → OutAt w' o p D (C ++ xs.take (putN C.length sz base cl xs.length).1) sz base cl gn → Q (.tuple #[.int .i64 ((putN C.length sz base cl xs.length).1 : Int), .int .i64 (putN C.length sz base cl xs.length).2]) w') :
    CALL PG 41 [.pointer (some ⟨o, 0, none⟩), .slice A xs.length c] w Q := by
  refine call41 ?_
  unfold N41
  have hb := h.big
  have hf := h.hr.facts
  have stay : ∀ w', Kp [] w w' → ∀ e : Int, putN C.length sz base cl xs.length = (0, e) → Q (.tuple #[.int .i64 0, .int .i64 e]) w' := by
    intro w' k e he
    have := hk w' (k.mono (by simp)) (by rw [he, List.take_zero, List.append_nil]; exact h.keep k)
    rw [he] at this
    exact this
  refine RD.of (ld 2 h.ho rfl (by kernel_rfl)) ⟨_, rfl, ?_⟩
  cases cl with
  | true => exact ift rfl (stay w (Kp.refl w) 212 (by simp [putN]))
  | false =>
    refine iff_ rfl ?_
    by_cases hm : xs.length = 0
    · exact ift (by simp [hm]) (stay w (Kp.refl w) 0 (by simp [putN, hm]))
    refine iff_ (by simp; exact fun e => hm (by rw [e]; rfl)) ?_
    refine ol_end h fun w1 k1 => ⟨_, rfl, ?_⟩
    refine leti (y := ((Strm - (base + C.length) : Nat) : Int)) (by rw [u64_id (by unfold Strm at hb; omega) (by omega)]; unfold Strm at *; omega) ?_
    by_cases he : base + C.length = Strm
    · exact ift (by rw [he]; rfl) (stay w1 k1 215 (by simp [putN, hm, he]))
    refine iff_ (by simp; unfold Strm at *; omega) ?_
    have kd := k1.then (Kp.drew w1)
    have hd := h.keep kd
    refine RD.of (ld 0 hd.ho rfl (by kernel_rfl)) ⟨_, rfl, ?_⟩
    rw [u64_id (y := (xs.length : Int)) (by omega) (by omega)]
    obtain ⟨m, hmd⟩ : ∃ m : Nat, m = min xs.length (Strm - (base + C.length)) := ⟨_, rfl⟩
    have hmi : minN (xs.length : Int) ((Strm - (base + C.length) : Nat) : Int) = (m : Int) := by unfold minN; split <;> omega
    rw [hmi]
    have hm1 : m ≤ xs.length := by omega
    refine ⟨⟨by omega, by omega, by omega⟩, ?_⟩
    rw [cutA_zero]
    have e1 : Int.toNat (m : Int) - Int.toNat (0 : Int) = m := by simp
    rw [e1]
    have hrow : Row w1.drew A (bvs (xs.take m)) := by rw [← bvs_take]; exact (hr.keep kd).take m
    have hl : (xs.take m).length = m := by rw [List.length_take]; omega
    have hp : putN C.length sz base false xs.length = (if min m (sz - C.length) = 0 then (0, 210) else (min m (sz - C.length), 0)) := by
      unfold putN
      rw [if_neg Bool.false_ne_true, if_neg hm, if_neg he, ← hmd]
    rw [hp] at hk
    refine rc_write hd.hr hrow hl (by simp; omega) (fun x hx hne => hA x hx fun e => hne (by rw [e, List.take_nil])) fun w2 k2 s2 h2 => ⟨_, rfl, leti rfl ?_⟩
    have e2 : (xs.take m).take (min m (sz - C.length)) = xs.take (min m (sz - C.length)) := by rw [List.take_take]; congr 1; omega
    rw [e2] at h2
    have op := h.op; have oD := h.oD
    have hcl : (C ++ xs.take (min m (sz - C.length))).length = C.length + min m (sz - C.length) := by rw [List.length_append, List.length_take]; omega
    have hout : OutAt w2 o p D (C ++ xs.take (min m (sz - C.length))) sz base false gn := ⟨hd.ho.kp k2 (by simp; omega), h2, op, oD, by rw [hcl]; omega⟩
    have K2 : Kp [p, D] w w2 := (kd.mono (by simp)).then k2
    generalize min m (sz - C.length) = k at hk hout
    by_cases hk0 : k = 0
    · rw [if_pos hk0] at hk
      subst hk0
      exact ift rfl (hk w2 K2 hout)
    · rw [if_neg hk0] at hk
      exact iff_ (by simp; omega) (leti rfl (hk w2 K2 hout))

/-- What an acknowledgement up to a number does. -/
theorem ol_acked {w : World} {o p D sz base : Nat} {C : List UInt8} {cl gn : Bool} (h : OutAt w o p D C sz base cl gn) {T : Nat} (hT : T < 18446744073709551616) {Q : Value → World → Prop}
    (hno : (T ≤ base ∨ topN base C.length cl < T ∨ gn = true) → ∀ w', Kp [] w w' → Q (.bool false) w')
    (hyes : base < T → T ≤ topN base C.length cl → gn = false → ∀ (t : Nat) (g : Bool), ((T = topN base C.length cl ∧ cl = true ∧ t = T - 1 ∧ g = true) ∨ (¬ (T = topN base C.length cl ∧ cl = true) ∧ t = T ∧ g = gn)) →
      ∀ w', Kp [o, p, D] w w' → OutAt w' o p D (C.drop (t - base)) sz t cl g → Q (.bool true) w') :
    CALL PG 44 [.pointer (some ⟨o, 0, none⟩), .int .u64 (T : Int)] w Q := by
  refine call44 ?_
  unfold N44
  have hb := h.big
  have op := h.op; have oD := h.oD
  refine RD.of (ld 1 h.ho rfl (by kernel_rfl)) ⟨_, rfl, ?_⟩
  refine ifd (fun hle => hno (.inl (by omega)) w (Kp.refl w)) fun hgt => ?_
  refine ol_top h fun w1 k1 => ⟨_, rfl, ?_⟩
  refine ifd (fun hgt2 => hno (.inr (.inl (by omega))) w1 k1) fun hle2 => ?_
  have h1 := h.keep k1
  refine RD.of (ld 3 h1.ho rfl (by kernel_rfl)) ⟨_, rfl, ?_⟩
  cases gn with
  | true => exact ift rfl (hno (.inr (.inr rfl)) w1 k1)
  | false =>
    refine iff_ rfl ?_
    refine ⟨fun t' w4 => ∃ (t : Nat) (g : Bool), t' = (t : Int) ∧ ((T = topN base C.length cl ∧ cl = true ∧ t = T - 1 ∧ g = true) ∨ (¬ (T = topN base C.length cl ∧ cl = true) ∧ t = T ∧ g = false)) ∧ Kp [o] w w4 ∧ w.heap.size ≤ w4.heap.size ∧ OutAt w4 o p D C sz base cl g, ?_, ?_⟩
    · refine ol_top h1 fun w2 k2 => ⟨_, rfl, ?_⟩
      have k12 := k1.then k2
      have h2 := h.keep k12
      have same : ¬ (T = topN base C.length cl ∧ cl = true) → ∃ (t : Nat) (g : Bool), (T : Int) = (t : Int) ∧ ((T = topN base C.length cl ∧ cl = true ∧ t = T - 1 ∧ g = true) ∨ (¬ (T = topN base C.length cl ∧ cl = true) ∧ t = T ∧ g = false)) ∧ Kp [o] w w2 ∧ w.heap.size ≤ w2.heap.size ∧ OutAt w2 o p D C sz base cl g :=
        fun hn => ⟨T, false, rfl, .inr ⟨hn, rfl, rfl⟩, k12.mono (by simp), k12.size, h2⟩
      by_cases c1 : T = topN base C.length cl
      · refine ift (by rw [← c1]; simp) (RD.of (ld 2 h2.ho rfl (by kernel_rfl)) ⟨_, rfl, ?_⟩)
        cases cl with
        | true =>
          refine ift rfl (st 3 h2.ho (by kernel_rfl) rfl (by simp) fun w3 k3 s3 hb3 => ?_)
          refine leti (y := ((T - 1 : Nat) : Int)) (by rw [u64_id (by omega) (by omega)]; omega) ⟨T - 1, true, rfl, .inl ⟨c1, rfl, rfl, rfl⟩, (k12.mono (by simp)).then k3, by rw [s3]; exact k12.size, ⟨hb3, h2.hr.kp k3 ?_ ?_, op, oD, hb⟩⟩
          · simp; exact fun e => op e.symm
          · simp; exact fun e => oD e.symm
        | false => exact iff_ rfl (same (by simp))
      · exact iff_ (by simp; omega) (same fun h => c1 h.1)
    · rintro _ w4 ⟨t, g, rfl, ht, k4, s4, h4⟩
      have hd := h4.keep (Kp.drew w4)
      have ht2 : base ≤ t ∧ t ≤ base + C.length ∧ t < 18446744073709551616 := by
        unfold topN at ht hle2
        rcases ht with ⟨a, rfl, b, _⟩ | ⟨a, b, _⟩
        · simp at a; omega
        · cases cl with
          | true => simp at a hle2; omega
          | false => simp at hle2; omega
      refine RD.of (ld 0 hd.ho rfl (by kernel_rfl)) ⟨_, rfl, RD.of (ld 1 hd.ho rfl (by kernel_rfl)) ⟨_, rfl, ?_⟩⟩
      have hf := h.hr.facts
      have em : IntKind.i64.wrap (IntKind.u64.wrap ((t : Int) - (base : Int))) = ((t - base : Nat) : Int) := by
        rw [u64_id (by omega) (by omega), wrap_i64 (by omega) (by omega)]; omega
      rw [em]
      refine rc_skip hd.hr (k := t - base) ?_ fun w5 k5 s5 h5 => ⟨_, rfl, ?_⟩
      · unfold maxN; rw [if_neg (by omega)]; unfold minN; rw [if_neg (by omega)]
      have ho5 := hd.ho.kp k5 (by simp; omega)
      refine st 1 ho5 (by kernel_rfl) rfl (by simp) fun w6 k6 s6 hb6 => ?_
      refine hyes (by omega) (by omega) rfl t g ht w6 ?_ ⟨hb6, h5.kp k6 ?_ ?_, op, oD, by rw [List.length_drop]; omega⟩
      · have e1 : Kp [o, p, D] w w4.drew := (k4.then ((Kp.drew w4).mono (by simp))).mono (by simp)
        exact e1.then ((k5.mono (by simp)).then (k6.mono (by simp)))
      · simp; exact fun e => op e.symm
      · simp; exact fun e => oD e.symm

/-- So many bytes from a number on. -/
theorem ol_bytes {w : World} {o p D sz base : Nat} {C : List UInt8} {cl gn : Bool} (h : OutAt w o p D C sz base cl gn) {F : Nat} (hF : F < 18446744073709551616) {many : Int} {Q : Value → World → Prop}
    (hk : ∀ w' A c xs, Kp [] w w' → xs = (if F < base then [] else (C.drop (F - base)).take many.toNat) → Row w' A (bvs xs) → (∀ x, A = some x → w.heap.size ≤ x.block) → xs.length ≤ c → Q (.slice A xs.length c) w') :
    CALL PG 42 [.pointer (some ⟨o, 0, none⟩), .int .u64 (F : Int), .int .i64 many] w Q := by
  refine call42 ?_
  unfold N42
  have hb := h.big
  have hd := h.keep (Kp.drew w)
  have hf := h.hr.facts
  refine ⟨fun w' => w' = w.drew, rfl, ⟨_, fun w' e => by subst e; exact ld 1 hd.ho rfl (by kernel_rfl), _, rfl, ?_⟩⟩
  refine ifd (fun hlt => hk w.drew none 0 [] (Kp.drew w) (by rw [if_pos (by omega)]) (Row.nil _ _) (by simp) (by simp)) fun hge => ?_
  have hFb : ¬ F < base := by omega
  rw [if_neg hFb] at hk
  refine ⟨_, fun w' e => by subst e; exact ld 1 hd.ho rfl (by kernel_rfl), _, rfl, ?_⟩
  refine ⟨_, fun w' e => by subst e; exact ld 0 hd.ho rfl (by kernel_rfl), _, rfl, ?_⟩
  refine rc_len hd.hr ⟨_, rfl, fun w' => w' = w.drew, fun _ h => h, rfl, ?_⟩
  have eF : IntKind.u64.wrap ((F : Int) - (base : Int)) = ((F - base : Nat) : Int) := by rw [u64_id (by omega) (by omega)]; omega
  rw [eF, u64_id (y := (C.length : Int)) (by omega) (by unfold Strm at hb; omega)]
  refine ifd (fun hgt => hk w.drew none 0 [] (Kp.drew w) (by rw [List.drop_eq_nil_of_le (by omega), List.take_nil]) (Row.nil _ _) (by simp) (by simp)) fun hle => ?_
  have hdd := hd.keep (Kp.drew w.drew)
  refine RD.of (ld 0 hdd.ho rfl (by kernel_rfl)) ⟨_, rfl, RD.of (ld 1 hdd.ho rfl (by kernel_rfl)) ⟨_, rfl, ?_⟩⟩
  rw [eF, wrap_i64 (by omega) (by omega)]
  refine rc_peek hdd.hr fun w' A c k hrow hA hc => ⟨_, _, _, rfl, hk w' A c _ (((Kp.drew w).then (Kp.drew w.drew)).then k) rfl hrow hA hc⟩
end Go.Br
