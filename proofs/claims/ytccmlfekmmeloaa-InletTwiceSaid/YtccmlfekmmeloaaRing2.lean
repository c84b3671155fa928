/- The ring's functions but Write: what a call of each does to the ring's bytes. -/
import Derived.Test.YtccmlfekmmeloaaNRing2
import Derived.Test.YtccmlfekmmeloaaBrList
set_option linter.unusedVariables false
namespace Go.Br
open Go

/-- A ring: its places' bytes, counted from the first byte that is there; how many are there. -/
structure RingAt (w : World) (p D : Nat) (bs : List UInt8) (a n : Nat) : Prop where
  hp : Blk w p 215 [.slice (some ⟨D, 0, none⟩) bs.length bs.length, .int .i64 (a : Int), .int .i64 (n : Int)]
  hD : Blk w D 5 (bvs bs)
  ne : p ≠ D
  pos : 0 < bs.length
  big : bs.length ≤ 65536
  ha : a < bs.length
  hn : n ≤ bs.length
def IsRing (w : World) (p D : Nat) (v : List UInt8) (n : Nat) : Prop := ∃ bs a, RingAt w p D bs a n ∧ v = rot bs a
theorem RingAt.kp {S : List Nat} {w w' : World} {p D : Nat} {bs : List UInt8} {a n : Nat} (h : RingAt w p D bs a n) (k : Kp S w w') (h1 : p ∉ S) (h2 : D ∉ S) : RingAt w' p D bs a n :=
  ⟨h.hp.kp k h1, h.hD.kp k h2, h.ne, h.pos, h.big, h.ha, h.hn⟩
theorem IsRing.kp {S : List Nat} {w w' : World} {p D : Nat} {v : List UInt8} {n : Nat} (h : IsRing w p D v n) (k : Kp S w w') (h1 : p ∉ S) (h2 : D ∉ S) : IsRing w' p D v n := by
  obtain ⟨bs, a, h, rfl⟩ := h
  exact ⟨bs, a, h.kp k h1 h2, rfl⟩

theorem free_ok {w : World} {p D : Nat} {bs : List UInt8} {a n : Nat} (h : RingAt w p D bs a n) {Q : Value → World → Prop} (hk : Q (.int .i64 ((bs.length : Int) - n)) w.drew) :
    CALL PG 121 [.pointer (some ⟨p, 0, none⟩)] w Q := by
  have := h.big; have := h.hn
  refine call121 ?_
  unfold N121
  refine RD.of (ld 0 h.hp.drew rfl (by kernel_rfl)) ⟨_, _, _, rfl, ?_⟩
  refine RD.of (ld 2 h.hp.drew rfl (by kernel_rfl)) ⟨_, rfl, ?_⟩
  unfold LETI
  rw [wrap_i64 (by omega) (by omega)]
  exact hk
theorem len_ok {w : World} {p D : Nat} {bs : List UInt8} {a n : Nat} (h : RingAt w p D bs a n) {Q : Value → World → Prop} (hk : Q (.int .i64 (n : Int)) w) :
    CALL PG 90 [.pointer (some ⟨p, 0, none⟩)] w Q := by
  refine call90 ?_
  unfold N90
  exact RD.of (ld 2 h.hp rfl (by kernel_rfl)) ⟨_, rfl, hk⟩
theorem place_ok {w : World} {p D : Nat} {bs : List UInt8} {a n : Nat} (h : RingAt w p D bs a n) {i : Int} (h0 : 0 ≤ i) (h1 : i ≤ 65536) {Q : Value → World → Prop}
    (hk : Q (.int .i64 (((a + i.toNat) % bs.length : Nat) : Int)) w.drew) : CALL PG 120 [.pointer (some ⟨p, 0, none⟩), .int .i64 i] w Q := by
  have := h.big; have := h.ha; have hpos := h.pos
  refine call120 ?_
  unfold N120
  refine RD.of (ld 1 h.hp.drew rfl (by kernel_rfl)) ⟨_, rfl, ?_⟩
  refine RD.of (ld 0 h.hp.drew rfl (by kernel_rfl)) ⟨_, _, _, rfl, ?_⟩
  refine ⟨by omega, ?_⟩
  unfold LETI
  rw [wrap_i64 (by omega) (by omega), Int.tmod_eq_emod_of_nonneg (by omega)]
  have e : ((a : Int) + i) % (bs.length : Int) = (((a + i.toNat) % bs.length : Nat) : Int) := by
    rw [Int.natCast_emod]; congr 1; omega
  rw [e]
  exact hk

theorem RingAt.drew {w : World} {p D : Nat} {bs : List UInt8} {a n : Nat} (h : RingAt w p D bs a n) : RingAt w.drew p D bs a n := h.kp (Kp.drew w) (by simp) (by simp)
theorem hu58 : PG.underlying 58 = some (.slice 5) := by kernel_rfl
theorem hz5 : sizeAt PG 5 = some 1 := by kernel_rfl
theorem ti5 : TI PG 5 1 1 (.int .u8 0) := tiOf (by kernel_rfl)
theorem skip_ok {w : World} {p D : Nat} {bs : List UInt8} {a n : Nat} (h : RingAt w p D bs a n) {many : Int} {k : Nat} (hkd : (k : Int) = minN (maxN many 0) n) {Q : Value → World → Prop}
    (hk : ∀ w' bs' a', Kp [p, D] w w' → w'.heap.size = w.heap.size → bs'.length = bs.length → RingAt w' p D bs' a' (n - k) →
      rot bs' a' = (rot bs a).drop k ++ List.replicate k 0 → Q (.int .i64 (k : Int)) w') :
    CALL PG 124 [.pointer (some ⟨p, 0, none⟩), .int .i64 many] w Q := by
  have hbig := h.big; have hn := h.hn; have ha := h.ha; have hpos := h.pos
  have hkn : k ≤ n := by unfold minN maxN at hkd; split at hkd <;> omega
  refine call124 ?_
  unfold N124
  refine RD.of (ld 2 h.hp rfl (by kernel_rfl)) ⟨_, rfl, ?_⟩
  refine leti hkd.symm ?_
  clear hkd
  refine RD.of (ld 0 h.drew.hp rfl (by kernel_rfl)) ⟨_, _, _, rfl, ?_⟩
  refine RD.of (ld 1 h.drew.hp rfl (by kernel_rfl)) ⟨_, rfl, ?_⟩
  refine RD.of (ld 1 h.drew.hp rfl (by kernel_rfl)) ⟨_, rfl, ?_⟩
  refine RD.of (ld 0 h.drew.hp rfl (by kernel_rfl)) ⟨_, _, _, rfl, ?_⟩
  rw [wrap_i64 (by omega) (by omega)]
  obtain ⟨f, hfd, hf1, hf2, hf3⟩ : ∃ f, f = min k (bs.length - a) ∧ f ≤ k ∧ a + f ≤ bs.length ∧ (f = k ∨ a + f = bs.length) := ⟨_, rfl, by omega, by omega, by omega⟩
  have hrot := rot_skip (l := bs) (a := a) (many := k) (f := f) (z := (0 : UInt8)) ha (by omega) hfd
  clear hfd
  have em : minN ((a : Int) + k) (bs.length : Int) = ((a + f : Nat) : Int) := by unfold minN; split <;> omega
  rw [em]
  refine ⟨by omega, ?_⟩
  rw [cutA_at (by omega)]
  have ed : Int.toNat ((a + f : Nat) : Int) - Int.toNat (a : Int) = f := by omega
  rw [ed]
  have e0 : (0 : Nat) + Int.toNat (a : Int) * 1 = a := by omega
  rw [e0]
  refine clear1 hu58 ti5 rfl h.drew.hD (by simp; omega) (flat_one rfl) fun w1 k1 s1 hD1 => ⟨rfl, ?_⟩
  rw [zeros_u8, bvs_splice] at hD1
  have l1 : (spl bs a (List.replicate f 0)).length = bs.length := spl_length (by simp; omega)
  have hp1 := h.drew.hp.kp k1 (by simp; exact h.ne)
  refine RD.of (ld 0 hp1 rfl (by kernel_rfl)) ⟨_, _, _, rfl, ?_⟩
  have e1 : ((k : Int) - ((f : Nat) : Int)) = ((k - f : Nat) : Int) := by omega
  rw [wrap_i64 (by omega) (by omega), e1]
  refine ⟨by omega, ?_⟩
  rw [cutA_zero]
  have e2 : Int.toNat ((k - f : Nat) : Int) - Int.toNat (0 : Int) = k - f := by omega
  rw [e2]
  refine clear1 (o := 0) hu58 ti5 rfl hD1 (by simp [l1]; omega) (flat_one rfl) fun w2 k2 s2 hD2 => ⟨rfl, ?_⟩
  rw [zeros_u8, bvs_splice] at hD2
  have l2 : (spl (spl bs a (List.replicate f 0)) 0 (List.replicate (k - f) 0)).length = bs.length := by rw [spl_length (by rw [l1]; simp; omega), l1]
  have hp2 := hp1.kp k2 (by simp; exact h.ne)
  have h2 : RingAt w2 p D (spl (spl bs a (List.replicate f 0)) 0 (List.replicate (k - f) 0)) a n := ⟨by rw [l2]; exact hp2, hD2, h.ne, by omega, by omega, by omega, by omega⟩
  refine place_ok h2 (by omega) (by omega) ⟨_, rfl, ?_⟩
  rw [l2, Int.toNat_natCast]
  obtain ⟨to, hto, htl⟩ : ∃ to, (a + k) % bs.length = to ∧ to < bs.length := ⟨_, rfl, Nat.mod_lt _ hpos⟩
  rw [hto] at hrot ⊢
  clear hto
  refine st 1 hp2.drew (by kernel_rfl) rfl (by simp) fun w3 k3 s3 hp3 => ?_
  refine RD.of (ld 2 hp3 rfl (by kernel_rfl)) ⟨_, rfl, ?_⟩
  have e3 : ((n : Int) - k) = ((n - k : Nat) : Int) := by omega
  rw [wrap_i64 (by omega) (by omega), e3]
  refine st 2 hp3 (by kernel_rfl) rfl (by simp) fun w4 k4 s4 hp4 => ?_
  refine leti rfl ?_
  refine hk w4 _ to ?_ ?_ l2 ⟨?_, (hD2.drew.kp k3 (by simp; exact Ne.symm h.ne)).kp k4 (by simp; exact Ne.symm h.ne), h.ne, by omega, by omega, by omega, by omega⟩ hrot
  · have q1 : Kp [p, D] w w1 := (Kp.drew w).trans k1 (by simp) (by simp)
    have q2 : Kp [p, D] w1 w2 := k2.mono (by simp)
    have q3 : Kp [p, D] w2 w3 := (Kp.drew w2).trans k3 (by simp) (by simp)
    exact q1.then (q2.then (q3.then (k4.mono (by simp))))
  · rw [s4, s3]; simp only [World.size_drew]; rw [s2, s1]; simp only [World.size_drew]
  · rw [l2]; exact hp4

theorem grow_no {w : World} {p D : Nat} {bs : List UInt8} {a n : Nat} (h : RingAt w p D bs a n) {many : Int} (hm : many < 0 ∨ (bs.length : Int) - n < many) {Q : Value → World → Prop}
    (hk : ∀ w', Kp [] w w' → w'.heap.size = w.heap.size → Q (.bool false) w') : CALL PG 86 [.pointer (some ⟨p, 0, none⟩), .int .i64 many] w Q := by
  refine call86 ?_
  unfold N86
  refine ifd (fun _ => hk w (Kp.refl w) rfl) fun h0 => ?_
  refine free_ok h ⟨_, rfl, ?_⟩
  exact ifdt (by omega) (hk _ (Kp.drew w) rfl)
theorem grow_ok {w : World} {p D : Nat} {bs : List UInt8} {a n k : Nat} (h : RingAt w p D bs a n) (hm : n + k ≤ bs.length) {Q : Value → World → Prop}
    (hk : ∀ w', Kp [p] w w' → w'.heap.size = w.heap.size → RingAt w' p D bs a (n + k) → Q (.bool true) w') : CALL PG 86 [.pointer (some ⟨p, 0, none⟩), .int .i64 (k : Int)] w Q := by
  have hbig := h.big; have hn := h.hn; have ha := h.ha; have hpos := h.pos
  refine call86 ?_
  unfold N86
  refine ifdf (by omega) ?_
  refine free_ok h ⟨_, rfl, ?_⟩
  refine ifdf (by omega) ?_
  refine RD.of (ld 2 h.drew.hp rfl (by kernel_rfl)) ⟨_, rfl, ?_⟩
  have e3 : ((n : Int) + k) = ((n + k : Nat) : Int) := by omega
  rw [wrap_i64 (by omega) (by omega), e3]
  refine st 2 h.drew.hp (by kernel_rfl) rfl (by simp) fun w1 k1 s1 hp1 => ?_
  refine hk w1 ((Kp.drew w).trans k1 (by simp) (by simp)) (by rw [s1]; rfl) ⟨hp1, h.drew.hD.kp k1 (by simp; exact Ne.symm h.ne), h.ne, by omega, by omega, by omega, by omega⟩

theorem peek_none {w : World} {p D : Nat} {bs : List UInt8} {a n : Nat} (h : RingAt w p D bs a n) {from_ many : Int} (hm : from_ < 0 ∨ (n : Int) ≤ from_ ∨ many < 1) {Q : Value → World → Prop}
    (hk : Q (.slice none 0 0) w) : CALL PG 123 [.pointer (some ⟨p, 0, none⟩), .int .i64 from_, .int .i64 many] w Q := by
  refine call123 ?_
  unfold N123
  refine ifd (fun _ => hk) fun h0 => ?_
  refine RD.of (ld 2 h.hp rfl (by kernel_rfl)) ⟨_, rfl, ?_⟩
  refine ifd (fun _ => hk) fun h1 => ?_
  exact ifdt (by omega) hk
theorem peek_some {w : World} {p D : Nat} {bs : List UInt8} {a n i k : Nat} (h : RingAt w p D bs a n) {many : Int} (hi : i < n) (hm : 1 ≤ many) (hkd : (k : Int) = minN many (n - i)) {Q : Value → World → Prop}
    (hk : ∀ w' A c, Kp [] w w' → Own w' 5 1 A k c (bvs (((rot bs a).drop i).take k)) → (∀ x, A = some x → w.heap.size ≤ x.block) → Q (.slice A k c) w') :
    CALL PG 123 [.pointer (some ⟨p, 0, none⟩), .int .i64 (i : Int), .int .i64 many] w Q := by
  have hbig := h.big; have hn := h.hn; have ha := h.ha; have hpos := h.pos
  have hk1 : 1 ≤ k ∧ i + k ≤ n := by unfold minN at hkd; split at hkd <;> omega
  refine call123 ?_
  unfold N123
  refine ifdf (by omega) ?_
  refine RD.of (ld 2 h.hp rfl (by kernel_rfl)) ⟨_, rfl, ?_⟩
  refine ifdf (by omega) ?_
  refine ifdf (by omega) ?_
  refine RD.of (ld 2 h.hp rfl (by kernel_rfl)) ⟨_, rfl, ?_⟩
  rw [wrap_i64 (by omega) (by omega)]
  refine leti hkd.symm ?_
  clear hkd
  refine make1 hu58 ti5 rfl (by omega) (by omega) (by omega) (by omega) fun w1 k1 s1 hB1 => ⟨_, _, _, rfl, ?_⟩
  have h1 := h.kp k1 (by simp) (by simp)
  refine place_ok h1 (by omega) (by omega) ⟨_, rfl, ?_⟩
  rw [Int.toNat_natCast]
  obtain ⟨to, hto, htl⟩ : ∃ to, (a + i) % bs.length = to ∧ to < bs.length := ⟨_, rfl, Nat.mod_lt _ hpos⟩
  obtain ⟨f, hfd, hf1, hf2, hf3⟩ : ∃ f, min k (bs.length - to) = f ∧ f ≤ k ∧ to + f ≤ bs.length ∧ (f = k ∨ to + f = bs.length) := ⟨_, rfl, by omega, by omega, by omega⟩
  have hread := rot_read (l := bs) (a := a) (from_ := i) (many := k) ha (by omega)
  rw [hto, hfd] at hread
  rw [hto]
  clear hto hfd
  refine leti rfl ?_
  have h2 := h1.drew.drew
  refine RD.of (ld 0 h2.hp rfl (by kernel_rfl)) ⟨_, _, _, rfl, ?_⟩
  refine RD.of (ld 0 h2.hp rfl (by kernel_rfl)) ⟨_, _, _, rfl, ?_⟩
  rw [wrap_i64 (by omega) (by omega)]
  have em : minN ((to : Int) + k) (bs.length : Int) = ((to + f : Nat) : Int) := by unfold minN; split <;> omega
  rw [em]
  refine ⟨by omega, ?_⟩
  rw [cutA_at (by omega)]
  have ed : Int.toNat ((to + f : Nat) : Int) - Int.toNat (to : Int) = f := by omega
  have e0 : (0 : Nat) + Int.toNat (to : Int) * 1 = to := by omega
  rw [ed, e0]
  rw [Int.toNat_natCast] at hB1
  have hown : Own w1.drew.drew 5 1 (some ⟨w.heap.size, 0, none⟩) 0 k [] := Own.made hB1.drew.drew (by rw [zeros_length]; rfl)
  have hrow : Row w1.drew.drew (some ⟨D, to, none⟩) (bvs ((bs.drop to).take f)) := by
    have := h2.hD.row to f
    rwa [bvs_drop, bvs_take] at this
  have hltw := h.hp.lt
  have hltD := h.hD.lt
  simp only [Int.toNat_zero, Int.toNat_natCast]
  refine append1 hu58 ti5 rfl (by omega) (by omega) hown hrow (by simp; omega) (Flat.bvs _) (by omega) fun A3 c3 w3 k3 ho3 hA3 => ⟨_, _, _, rfl, ?_⟩
  rw [List.nil_append] at ho3
  have h3 := h2.kp k3 (by simp [fpA]; omega) (by simp [fpA]; omega)
  refine RD.of (ld 0 h3.hp rfl (by kernel_rfl)) ⟨_, _, _, rfl, ?_⟩
  have e4 : ((k : Int) - ((0 + f : Nat) : Int)) = ((k - f : Nat) : Int) := by omega
  rw [wrap_i64 (by omega) (by omega), e4]
  refine ⟨by omega, ?_⟩
  rw [cutA_zero]
  have e5 : Int.toNat ((k - f : Nat) : Int) - 0 = k - f := by omega
  rw [e5]
  have hrow2 : Row w3 (some ⟨D, 0, none⟩) (bvs (bs.take (k - f))) := by
    have := h3.hD.row 0 (k - f)
    rwa [List.drop_zero, bvs_take] at this
  have hA3' : ∀ x, A3 = some x → w.heap.size ≤ x.block := by
    intro x hx
    rcases hA3 with e | ⟨y, e, hy⟩
    · rw [e] at hx; injection hx with hx; subst hx; exact Nat.le_refl _
    · rw [e] at hx; injection hx with hx; subst hx; simp only [World.size_drew] at hy; omega
  refine append1 hu58 ti5 rfl (by omega) (by omega) ho3 hrow2 (by simp; omega) (Flat.bvs _) (by omega) fun A4 c4 w4 k4 ho4 hA4 => ⟨_, _, _, rfl, ?_⟩
  have e6 : 0 + f + (k - f) = k := by omega
  rw [e6] at ho4 ⊢
  rw [bvs_append, hread] at ho4
  refine hk w4 A4 c4 ?_ ho4 ?_
  · have q1 : Kp [] w w1.drew.drew := k1.then ((Kp.drew _).then (Kp.drew _))
    have q2 : Kp [] w w3 := q1.trans k3 (by simp) (by simp [fpA])
    refine q2.trans k4 (by simp) ?_
    intro x hx hlt
    unfold fpA at hx
    cases A3 with
    | none => simp at hx
    | some y => simp at hx; subst hx; have := hA3' y rfl; omega
  · intro x hx
    rcases hA4 with e | ⟨y, e, hy⟩
    · rw [e] at hx; exact hA3' x hx
    · rw [e] at hx; injection hx with hx; subst hx
      have z1 := k3.size; simp only [World.size_drew] at z1
      omega

/-- What reading hands back: the first bytes that are there, at most so many. -/
theorem read_none {w : World} {p D : Nat} {bs : List UInt8} {a n : Nat} (h : RingAt w p D bs a n) {many : Int} (hm : n = 0 ∨ many < 1) {Q : Value → World → Prop}
    (hk : ∀ w' bs' a', Kp [p, D] w w' → bs'.length = bs.length → RingAt w' p D bs' a' n → rot bs' a' = rot bs a → Q (.slice none 0 0) w') : CALL PG 89 [.pointer (some ⟨p, 0, none⟩), .int .i64 many] w Q := by
  refine call89 ?_
  unfold N89
  refine peek_none h (by omega) ⟨_, _, _, rfl, ?_⟩
  refine skip_ok (k := 0) h (by simp [minN, maxN]; omega) fun w1 bs1 a1 k1 s1 l1 h1 hr1 => ⟨_, rfl, ?_⟩
  refine hk w1 bs1 a1 k1 l1 (by simpa using h1) (by simpa using hr1)
theorem read_some {w : World} {p D : Nat} {bs : List UInt8} {a n k : Nat} (h : RingAt w p D bs a n) {many : Int} (hn0 : 0 < n) (hm : 1 ≤ many) (hkd : (k : Int) = minN many n) {Q : Value → World → Prop}
    (hk : ∀ w' bs' a' A c, Kp [p, D] w w' → bs'.length = bs.length → RingAt w' p D bs' a' (n - k) → rot bs' a' = (rot bs a).drop k ++ List.replicate k 0 → Own w' 5 1 A k c (bvs ((rot bs a).take k)) →
      (∀ x, A = some x → w.heap.size ≤ x.block) → Q (.slice A k c) w') : CALL PG 89 [.pointer (some ⟨p, 0, none⟩), .int .i64 many] w Q := by
  have hkn : k ≤ n := by unfold minN at hkd; split at hkd <;> omega
  have hltw := h.hp.lt
  have hltD := h.hD.lt
  refine call89 ?_
  unfold N89
  refine peek_some (i := 0) (k := k) h hn0 hm (by rw [hkd]; simp) fun w1 A c k1 ho hf => ⟨_, _, _, rfl, ?_⟩
  have h1 := h.kp k1 (by simp) (by simp)
  refine skip_ok (k := k) h1 (by unfold minN maxN; split <;> split <;> omega) fun w2 bs2 a2 k2 s2 l2 h2 hr2 => ⟨_, rfl, ?_⟩
  refine hk w2 bs2 a2 A c (k1.trans k2 (by simp) (fun x hx _ => hx)) l2 h2 hr2 (by
    rw [List.drop_zero] at ho
    refine ho.kp k2 ?_
    intro x hx
    unfold fpA at hx
    cases A with
    | none => simp at hx
    | some y => simp at hx; subst hx; have := hf y rfl; simp; omega) hf

theorem new_bad {w : World} {size : Int} (h : size < 1 ∨ 65536 < size) {Q : Value → World → Prop} (hk : Q (.tuple #[.pointer none, .int .i64 50]) w) : CALL PG 80 [.int .i64 size] w Q := by
  refine call80 ?_
  unfold N80
  refine ifd (fun _ => hk) fun h0 => ?_
  exact ifdt (by omega) hk
theorem build215 (w : World) (A : Option Addr) (n c : Nat) : (Instr.build 215 #[(0, .slice A n c)]).run PG w = .ok (.agg #[.slice A n c, .int .i64 0, .int .i64 0]) w := by kernel_rfl
theorem new_ok {w : World} {size : Nat} (h1 : 1 ≤ size) (h2 : size ≤ 65536) {Q : Value → World → Prop}
    (hk : ∀ w' p D, Kp [] w w' → w.heap.size ≤ p → w.heap.size ≤ D → RingAt w' p D (List.replicate size 0) 0 0 → Q (.tuple #[.pointer (some ⟨p, 0, none⟩), .int .i64 0]) w') : CALL PG 80 [.int .i64 (size : Int)] w Q := by
  refine call80 ?_
  unfold N80
  refine ifdf (by omega) (ifdf (by omega) ?_)
  refine make1 hu58 ti5 rfl (by omega) (by omega) (by omega) (by omega) fun w1 k1 s1 hB1 => ⟨_, _, _, rfl, ?_⟩
  refine RD.of (build215 _ _ _ _) ⟨_, _, _, _, _, rfl, ?_⟩
  refine RUN.of (run_box _ _ _) ⟨_, rfl, ?_⟩
  rw [Int.toNat_natCast] at hB1 ⊢
  rw [zeros_u8] at hB1
  have kb := alloc_kp w1 (.cells (Value.agg #[.slice (some ⟨w.heap.size, 0, none⟩) size size, .int .i64 0, .int .i64 0]).cells 215)
  have hb := Blk.new w1 (Value.agg #[.slice (some ⟨w.heap.size, 0, none⟩) size size, .int .i64 0, .int .i64 0]).cells 215
  refine hk _ w1.heap.size w.heap.size (k1.then kb) (by omega) (Nat.le_refl _) ⟨?_, hB1.kp kb (by simp), by omega, by simp; omega, by simp; omega, by simp; omega, by simp⟩
  rw [List.length_replicate]; exact hb

theorem set_no {w : World} {p D : Nat} {bs : List UInt8} {a n : Nat} (h : RingAt w p D bs a n) {from_ : Int} {A : Option Addr} {m c : Nat} (hm : from_ < 0 ∨ (bs.length : Int) < from_ ∨ (bs.length : Int) - from_ < m) {Q : Value → World → Prop}
    (hk : Q (.bool false) w) : CALL PG 85 [.pointer (some ⟨p, 0, none⟩), .int .i64 from_, .slice A m c] w Q := by
  have hbig := h.big
  refine call85 ?_
  unfold N85
  refine ifd (fun _ => hk) fun h0 => ?_
  refine RD.of (ld 0 h.hp rfl (by kernel_rfl)) ⟨_, _, _, rfl, ?_⟩
  refine ifd (fun _ => hk) fun h1 => ?_
  refine RD.of (ld 0 h.hp rfl (by kernel_rfl)) ⟨_, _, _, rfl, ?_⟩
  rw [wrap_i64 (by omega) (by omega)]
  exact ifdt (by omega) hk
theorem set_ok {w : World} {p D : Nat} {bs : List UInt8} {a n o : Nat} (h : RingAt w p D bs a n) {A : Option Addr} {m c : Nat} {xs : List UInt8} (hr : Row w A (bvs xs)) (hl : xs.length = m) (ho : o + m ≤ bs.length)
    (hA : ∀ x, A = some x → xs ≠ [] → x.block ≠ D) {Q : Value → World → Prop}
    (hk : ∀ w' bs', Kp [D] w w' → w'.heap.size = w.heap.size → bs'.length = bs.length → RingAt w' p D bs' a n → rot bs' a = spl (rot bs a) o xs → Q (.bool true) w') :
    CALL PG 85 [.pointer (some ⟨p, 0, none⟩), .int .i64 (o : Int), .slice A m c] w Q := by
  have hbig := h.big; have ha := h.ha
  refine call85 ?_
  unfold N85
  refine ifdf (by omega) ?_
  refine RD.of (ld 0 h.hp rfl (by kernel_rfl)) ⟨_, _, _, rfl, ?_⟩
  refine ifdf (by omega) ?_
  refine RD.of (ld 0 h.hp rfl (by kernel_rfl)) ⟨_, _, _, rfl, ?_⟩
  rw [wrap_i64 (by omega) (by omega)]
  refine ifdf (by omega) ?_
  refine ⟨fun r x w1 => ∃ i : Nat, x = (i : Int) ∧ i + r = m ∧ Kp [D] w w1 ∧ w1.heap.size = w.heap.size ∧ ∃ bs', bs'.length = bs.length ∧ RingAt w1 p D bs' a n ∧ rot bs' a = spl (rot bs a) o (xs.take i), ?_, ?_⟩
  · exact ⟨m, 0, rfl, by omega, (Kp.refl w).mono (by simp), rfl, bs, rfl, h, by simp [spl_zero]⟩
  · rintro r x w1 ⟨i, rfl, hir, k1, s1, bs1, l1, h1, hr1⟩
    refine ifd (fun hlt => ?_) fun hge => ?_
    · have hi : i < xs.length := by omega
      obtain ⟨ad, rfl, hc⟩ := (hr.kp k1 (by intro x hx hb; simp; exact hA x hx (bvs_ne hb))).byte hi
      refine ⟨by omega, ad, rfl, ?_⟩
      simp only [Int.toNat_natCast, Nat.mul_one]
      refine RD.of (ldc hc (by kernel_rfl)) ⟨_, rfl, ?_⟩
      refine leti rfl (leti rfl ?_)
      refine ⟨fun w' => RingAt w' p D bs1 a n, h1.drew, ?_⟩
      refine ⟨_, fun w' h' => ld 0 h'.hp rfl (by kernel_rfl), _, _, _, rfl, ?_⟩
      rw [wrap_i64 (by omega) (by omega)]
      refine place_ok h1.drew (by omega) (by omega) ⟨_, rfl, ?_⟩
      refine ⟨fun w' => RingAt w' p D bs1 a n, fun _ h => h, h1.drew.drew, ?_⟩
      have hj : (a + Int.toNat ((o : Int) + i)) % bs1.length < bs1.length := Nat.mod_lt _ (by omega)
      refine ⟨⟨by omega, by omega⟩, _, rfl, ?_⟩
      simp only [Int.toNat_natCast]
      have e1 : Int.toNat ((o : Int) + i) = o + i := by omega
      rw [e1] at hj ⊢
      refine st _ h1.drew.drew.hD (by kernel_rfl) rfl (by simpa using hj) fun w2 k2 s2 hD2 => ?_
      refine ⟨r - 1, by omega, i + 1, by rw [wrap_i64 (by omega) (by omega)]; simp, by omega, ?_, ?_, bs1.set ((a + (o + i)) % bs1.length) xs[i], by simpa using l1, ?_, ?_⟩
      · exact k1.then (((Kp.drew w1).then (Kp.drew _)).trans k2 (by simp) (by simp))
      · rw [s2]; exact s1
      · have hp2 := h1.drew.drew.hp.kp k2 (by simp; exact h.ne)
        refine ⟨by rw [List.length_set]; exact hp2, ?_, h.ne, by simp; omega, by simp; omega, by simp; omega, by simp; exact h1.hn⟩
        have := hD2
        rw [show (Value.int IntKind.u8 (xs[i].toNat : Int)) = bv xs[i] from rfl, bvs_set] at this
        exact this
      · have hoi : o + i < bs1.length := by omega
        rw [rot_set (by omega) hoi, hr1, spl_snoc hi (by simp; omega)]
    · have : i = m := by omega
      subst this
      refine hk w1 bs1 k1 s1 l1 h1 ?_
      rw [hr1, List.take_of_length_le (by omega)]

/-- Peeking at all that is there. -/
theorem peek_all {w : World} {p D : Nat} {bs : List UInt8} {a n : Nat} (h : RingAt w p D bs a n) {many : Int} (hm : (n : Int) ≤ many) {Q : Value → World → Prop}
    (hk : ∀ w' A c, Kp [] w w' → Row w' A (bvs ((rot bs a).take n)) → Q (.slice A n c) w') :
    CALL PG 123 [.pointer (some ⟨p, 0, none⟩), .int .i64 0, .int .i64 many] w Q := by
  by_cases hz : n = 0
  · subst hz
    exact peek_none h (by omega) (hk w none 0 (Kp.refl w) (by rw [List.take_zero]; exact Row.nil _ _))
  · refine peek_some (i := 0) (k := n) h (by omega) (by omega) (by unfold minN; split <;> omega) fun w' A c k1 ho hf => hk w' A c k1 ?_
    rw [List.drop_zero] at ho
    exact ho.row
/-- Reading all that is there. -/
theorem read_all {w : World} {p D : Nat} {bs : List UInt8} {a n : Nat} (h : RingAt w p D bs a n) {many : Int} (hm : (n : Int) ≤ many) {Q : Value → World → Prop}
    (hk : ∀ w' bs' a' A c, Kp [p, D] w w' → bs'.length = bs.length → RingAt w' p D bs' a' 0 → Row w' A (bvs ((rot bs a).take n)) → Q (.slice A n c) w') :
    CALL PG 89 [.pointer (some ⟨p, 0, none⟩), .int .i64 many] w Q := by
  by_cases hz : n = 0
  · subst hz
    exact read_none h (by omega) fun w' bs' a' k1 l1 h1 _ => hk w' bs' a' none 0 k1 l1 h1 (by rw [List.take_zero]; exact Row.nil _ _)
  · refine read_some (k := n) h (by omega) (by omega) (by unfold minN; split <;> omega) fun w' bs' a' A c k1 l1 h1 _ ho hf => hk w' bs' a' A c k1 l1 (by simpa using h1) ho.row

end Go.Br
