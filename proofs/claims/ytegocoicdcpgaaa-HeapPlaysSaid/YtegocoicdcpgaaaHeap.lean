/- What is to happen when: what a call of each of the heap's functions does. -/
import Derived.Test.YtegocoicdcpgaaaNHeap
import Derived.Test.YtegocoicdcpgaaaHeapPure
import Derived.Test.YtegocoicdcpgaaaBrSeat
set_option linter.unusedVariables false
namespace Go.Br
open Go

def it (x : It) : List Value := [.int .i64 x.time, .int .i64 x.what, .int .i64 x.seq]
theorem it_length (x : It) : (it x).length = 3 := rfl
abbrev itv (x : It) : Value := .agg #[.int .i64 x.time, .int .i64 x.what, .int .i64 x.seq]
def it0 : It := ⟨0, 0, 0⟩
theorem it_flat1 (x : It) : Flat (it x) := by intro v hv; simp [it] at hv; rcases hv with rfl | rfl | rfl <;> rfl
theorem it_flat (L : List It) : Flat (L.flatMap it) := by
  intro v hv
  simp only [List.mem_flatMap] at hv
  obtain ⟨x, _, hx⟩ := hv
  exact it_flat1 x v hx
theorem tiIt : TI PG 109 3 24 (itv it0) := tiOf (by kernel_rfl)
theorem huIt : PG.underlying 161 = some (.slice 109) := by kernel_rfl
theorem litIt (x : It) (w : World) : (Instr.buildSlice 161 1 #[(0, itv x)]).run PG w = .ok (.slice (some ⟨w.heap.size, 0, none⟩) 1 1) (w.alloc (.cells (it x).toArray 109)) := by kernel_rfl
theorem lit2 (a b : Int) (w : World) : (Instr.buildSlice 23 2 #[(0, .int .i64 a), (1, .int .i64 b)]).run PG w = .ok (.slice (some ⟨w.heap.size, 0, none⟩) 2 2) (w.alloc (.cells #[.int .i64 a, .int .i64 b] 3)) := by kernel_rfl
theorem ldIt {w : World} {a : Addr} {c : It} (h : ∀ j v, (it c)[j]? = some v → w.cell? (a.add j) = some v) : (loadVar 109 a).run PG w = .ok (itv c) w := ldAt (cs := it c) (by kernel_rfl) (by kernel_rfl) h
theorem ldItB {w : World} {B T : Nat} {c : It} (h : Blk w B T (it c)) : (loadVar 109 ⟨B, 0, none⟩).run PG w = .ok (itv c) w := ldAll h (by kernel_rfl) (by kernel_rfl)
theorem tmpIt {w : World} (c : It) {K : Addr → World → Prop} (hk : ∀ w', Kp [] w w' → w'.heap.size = w.heap.size + 1 → Blk w' w.heap.size 109 (it c) → K ⟨w.heap.size, 0, none⟩ w') :
    RUN PG (Instr.alloc 109 true (.tuple #[])) w fun v2 w2 => ∃ a, v2 = .pointer (some a) ∧ RUNU PG (storeVar 109 a (itv c)) w2 fun w3 => K a w3 :=
  tmp1 (v := itv c) tiIt rfl rfl (it_flat1 c) hk

/-- A heap in memory. -/
structure HQ (w : World) (p : Nat) (A : Option Addr) (c : Nat) (L : List It) (mo sq : Int) : Prop where
  hp : Blk w p 163 [.int .i64 mo, .int .i64 sq, .slice A L.length c]
  ho : Own w 109 3 A L.length c (L.flatMap it)
  ne : p ∉ fpA A
  big : L.length ≤ 65536
theorem HQ.kp {S : List Nat} {w w' : World} {p : Nat} {A : Option Addr} {c : Nat} {L : List It} {mo sq : Int} (h : HQ w p A c L mo sq) (k : Kp S w w') (h1 : p ∉ S) (h2 : ∀ b ∈ fpA A, b ∉ S) : HQ w' p A c L mo sq :=
  ⟨h.hp.kp k h1, h.ho.kp k h2, h.ne, h.big⟩
theorem HQ.keep {w w' : World} {p : Nat} {A : Option Addr} {c : Nat} {L : List It} {mo sq : Int} (h : HQ w p A c L mo sq) (k : Kp [] w w') : HQ w' p A c L mo sq := h.kp k (by simp) (by simp)
theorem HQ.lt {w : World} {p : Nat} {A : Option Addr} {c : Nat} {L : List It} {mo sq : Int} (h : HQ w p A c L mo sq) : p < w.heap.size ∧ ∀ b ∈ fpA A, b < w.heap.size := ⟨h.hp.lt, h.ho.lt⟩
theorem HQ.at {w : World} {p : Nat} {A : Option Addr} {c : Nat} {L : List It} {mo sq : Int} (h : HQ w p A c L mo sq) {i : Nat} {x : It} (hx : L[i]? = some x) :
    ∃ a, A = some a ∧ (∀ w', Kp [] w w' → (loadVar 109 (Addr.add a (Int.toNat (i : Int) * 3))).run PG w' = .ok (itv x) w') ∧
      ∀ w', Kp [] w w' → ∀ f v, (it x)[f]? = some v → (loadVar 3 (Addr.add (Addr.add a (Int.toNat (i : Int) * 3)) f)).run PG w' = .ok v w' := by
  obtain ⟨a, ea, hc⟩ := row_get it_length (by decide) h.ho.row hx
  exact ⟨a, ea, fun w' k => ldIt fun j v hj => cell_old k (hc j v hj), fun w' k f v hf => ldc (cell_old k (hc f v hf)) (by kernel_rfl)⟩

def cmpI (x y : Int) : Int := if x < y then -1 else if x > y then 1 else 0
theorem nan_ok {x : Int} {w : World} {Q : Value → World → Prop} (hk : Q (.bool false) w) : CALL PG 127 [.int .i64 x] w Q := by
  refine call127 ?_
  unfold N127
  exact letb (by simp) hk
theorem cmp_ok {x y : Int} {w : World} {Q : Value → World → Prop} (hk : Q (.int .i64 (cmpI x y)) w) : CALL PG 126 [.int .i64 x, .int .i64 y] w Q := by
  refine call126 ?_
  unfold N126
  unfold cmpI at hk
  refine nan_ok ⟨_, rfl, letb rfl (nan_ok ⟨_, rfl, letb rfl (iff_ rfl (iff_ rfl ?_))⟩)⟩
  refine ifd (fun h => ?_) fun h => ifd (fun h2 => ?_) fun h2 => ?_
  · rw [if_pos h] at hk; exact hk
  · rw [if_neg h, if_pos h2] at hk; exact hk
  · rw [if_neg h, if_neg h2] at hk; exact hk
theorem or_ok {a b : Int} {w : World} {p T : Nat} (hb : Blk w p T [.int .i64 a, .int .i64 b]) {Q : Value → World → Prop} (hk : Q (.int .i64 (if a ≠ 0 then a else b)) w) : CALL PG 125 [.slice (some ⟨p, 0, none⟩) 2 2] w Q := by
  refine call125 ?_
  unfold N125
  have rd : ∀ (j : Nat) (v : Value), [Value.int .i64 a, .int .i64 b][j]? = some v → (loadVar 3 (Addr.add ⟨p, 0, none⟩ (Int.toNat (j : Int) * 1))).run PG w = .ok v w := fun j v hj => by
    rw [Int.toNat_natCast, Nat.mul_one]; exact ld j hb hj (by kernel_rfl)
  refine ⟨fun m i w1 => w1 = w ∧ ((i = 0 ∧ m = 2) ∨ (i = 1 ∧ m = 1 ∧ a = 0) ∨ (i = 2 ∧ m = 0 ∧ a = 0 ∧ b = 0)), ⟨2, rfl, .inl ⟨rfl, rfl⟩⟩, ?_⟩
  rintro m i w1 ⟨rfl, h⟩
  rcases h with ⟨rfl, rfl⟩ | ⟨rfl, rfl, rfl⟩ | ⟨rfl, rfl, rfl, rfl⟩
  · refine ifdt (by decide) ⟨⟨by decide, by decide⟩, _, rfl, RD.of (rd 0 _ rfl) ⟨_, rfl, leti rfl ?_⟩⟩
    by_cases h : a = 0
    · exact iff_ (by simp [h]) ⟨1, by decide, rfl, .inr (.inl ⟨by decide, rfl, h⟩)⟩
    · rw [if_pos h] at hk; exact ift (by simpa using h) (leti rfl hk)
  · refine ifdt (by decide) ⟨⟨by decide, by decide⟩, _, rfl, RD.of (rd 1 _ rfl) ⟨_, rfl, leti rfl ?_⟩⟩
    rw [if_neg (by simp)] at hk
    by_cases h : b = 0
    · exact iff_ (by simp [h]) ⟨0, by decide, rfl, .inr (.inr ⟨by decide, rfl, rfl, h⟩)⟩
    · exact ift (by simpa using h) (leti rfl hk)
  · exact ifdf (by decide) (leti rfl (by simpa using hk))
theorem cmp_lt (x y : It) : decide ((if cmpI x.time y.time ≠ 0 then cmpI x.time y.time else cmpI x.seq y.seq) < 0) = decide (lt x y) := by
  unfold cmpI lt
  by_cases h1 : x.time < y.time
  · simp [h1]
  · by_cases h2 : x.time > y.time
    · have : ¬ x.time = y.time := by omega
      simp [h1, h2, this]
    · have e : x.time = y.time := by omega
      by_cases h3 : x.seq < y.seq
      · simp [e, h3]
      · by_cases h4 : x.seq > y.seq <;> simp [e, h3, h4]
theorem less_ok {w : World} {p : Nat} {A : Option Addr} {c : Nat} {L : List It} {mo sq : Int} (h : HQ w p A c L mo sq) {i k : Nat} {x y : It} (hx : L[i]? = some x) (hy : L[k]? = some y) {Q : Value → World → Prop}
    (hk : ∀ w', Kp [] w w' → Q (.bool (decide (lt x y))) w') : CALL PG 122 [.pointer (some ⟨p, 0, none⟩), .int .i64 (i : Int), .int .i64 (k : Int)] w Q := by
  refine call122 ?_
  unfold N122
  obtain ⟨a, rfl, _, hi⟩ := h.at hx
  obtain ⟨a', ea, _, hj⟩ := h.at hy
  injection ea with ea
  subst ea
  have li := (List.getElem?_eq_some_iff.1 hx).1
  have lk := (List.getElem?_eq_some_iff.1 hy).1
  have bi : (0 : Int) ≤ (i : Int) ∧ (i : Int) < (L.length : Int) := by omega
  have bk : (0 : Int) ≤ (k : Int) ∧ (k : Int) < (L.length : Int) := by omega
  have rl : ∀ w', Kp [] w w' → (loadVar 161 (Addr.add ⟨p, 0, none⟩ 2)).run PG w' = .ok (.slice (some a) L.length c) w' := fun w' k => ld 2 (h.hp.kp k (by simp)) rfl (by kernel_rfl)
  refine ⟨fun w' => Kp [] w w', Kp.drew w, ?_⟩
  refine ⟨_, rl, _, _, _, rfl, bi, a, rfl, ⟨_, fun w' k => hi w' k 0 _ rfl, _, rfl, ?_⟩⟩
  refine ⟨_, rl, _, _, _, rfl, bk, a, rfl, ⟨_, fun w' k => hj w' k 0 _ rfl, _, rfl, ?_⟩⟩
  refine ⟨_, rl, _, _, _, rfl, bi, a, rfl, ⟨_, fun w' k => hi w' k 2 _ rfl, _, rfl, ?_⟩⟩
  refine ⟨_, rl, _, _, _, rfl, bk, a, rfl, ⟨_, fun w' k => hj w' k 2 _ rfl, _, rfl, ?_⟩⟩
  refine cmp_ok ⟨_, rfl, fun w' => Kp [] w w', fun _ h => h, Kp.drew w, cmp_ok ⟨_, rfl, RUN.of (lit2 _ _ _) ⟨_, _, _, rfl, ?_⟩⟩⟩
  refine or_ok (Blk.new _ _ _) ⟨_, rfl, letb (cmp_lt x y) (hk _ ?_)⟩
  exact (Kp.drew w).then (alloc_kp _ _)

theorem swap_ok {w : World} {p : Nat} {a : Addr} {c : Nat} {L : List It} {mo sq : Int} (h : HQ w p (some a) c L mo sq) {i b : Nat} {u v : It} (hu : L[i]? = some u) (hv : L[b]? = some v) {K : World → Prop}
    (hk : ∀ w', Kp (fpA (some a)) w w' → HQ w' p (some a) c (swap L i b u v) mo sq → K w') :
    RUNU PG (storeVar 109 (Addr.add a (Int.toNat (i : Int) * 3)) (itv v)) w fun w3 => IDX (some a) L.length (b : Int) fun a40 => RUNU PG (storeVar 109 (Addr.add a40 (Int.toNat (b : Int) * 3)) (itv u)) w3 fun w4 => K w4 := by
  have li := (List.getElem?_eq_some_iff.1 hu).1
  have lb := (List.getElem?_eq_some_iff.1 hv).1
  have hne : p ≠ a.block := by have := h.ne; simpa [fpA] using this
  refine st_elem (v := itv v) it_length h.ho li rfl (by kernel_rfl) (it_flat1 v) fun w1 k1 s1 h1 => ⟨⟨by omega, by omega⟩, a, rfl, ?_⟩
  refine st_elem (v := itv u) it_length h1 (by rw [List.length_set]; exact lb) rfl (by kernel_rfl) (it_flat1 u) fun w2 k2 s2 h2 => ?_
  have k := k1.then k2
  have el : (swap L i b u v).length = L.length := swap_length _ _ _ _ _
  exact hk w2 k ⟨by rw [el]; exact h.hp.kp k (by simpa using hne), by rw [el]; exact h2, h.ne, by rw [el]; exact h.big⟩

theorem up_ok {w : World} {p : Nat} {A : Option Addr} {c : Nat} {L : List It} {mo sq : Int} (h : HQ w p A c L mo sq) {i : Nat} (hi : i < L.length) (hu : HpUp L i) {Q : Value → World → Prop}
    (hk : ∀ w' L', Kp (fpA A) w w' → HQ w' p A c L' mo sq → L'.Perm L → Hp L' → Q (.tuple #[]) w') : CALL PG 111 [.pointer (some ⟨p, 0, none⟩), .int .i64 (i : Int)] w Q := by
  refine call111 ?_
  unfold N111
  have hbig := h.big
  refine ⟨fun m i1 w1 => ∃ (j : Nat) (M : List It), i1 = (j : Int) ∧ m = j ∧ HQ w1 p A c M mo sq ∧ M.Perm L ∧ HpUp M j ∧ j < M.length ∧ Kp (fpA A) w w1, ⟨i, i, L, rfl, rfl, h, .refl _, hu, hi, (Kp.refl w).mono (by simp)⟩, ?_⟩
  rintro m _ w1 ⟨j, M, rfl, rfl, h1, hp, hup, hj, k1⟩
  have hM := hp.length_eq
  refine ifd (fun hpos => ?_) fun hz => hk w1 M k1 h1 hp (up_done hup (.inl (by omega)))
  refine ⟨by decide, leti (y := (((m - 1) / 2 : Nat) : Int)) ?_ ?_⟩
  · rw [wrap_i64 (n := (m : Int) - 1) (by omega) (by omega), Int.tdiv_eq_ediv_of_nonneg (by omega), wrap_i64 (by omega) (by omega)]; omega
  obtain ⟨u, hu⟩ := ex_get hj
  obtain ⟨v, hv⟩ := ex_get (L := M) (j := (m - 1) / 2) (by omega)
  refine less_ok h1 hu hv fun w2 k2 => ⟨_, rfl, ?_⟩
  have k12 : Kp (fpA A) w w2 := k1.then (k2.mono (by simp))
  by_cases hl : lt u v
  · refine iff_ (by simp [hl]) ?_
    have hd := (h1.keep k2).keep (Kp.drew w2)
    obtain ⟨a, rfl, lu, _⟩ := hd.at hu
    obtain ⟨a', ea, lv, _⟩ := hd.at hv
    injection ea with ea
    subst ea
    have rl := ld (P := PG) (t := 161) 2 hd.hp rfl (by kernel_rfl)
    refine RD.of rl ⟨_, _, _, rfl, RD.of rl ⟨_, _, _, rfl, RD.of rl ⟨_, _, _, rfl, ⟨by omega, by omega⟩, a, rfl, RD.of (lv _ (Kp.refl _)) ⟨_, _, _, rfl, ?_⟩⟩⟩⟩
    refine RD.of rl ⟨_, _, _, rfl, ⟨by omega, by omega⟩, a, rfl, RD.of (lu _ (Kp.refl _)) ⟨_, _, _, rfl, ⟨by omega, by omega⟩, a, rfl, ?_⟩⟩
    refine swap_ok hd hu hv fun w3 k3 h3 => leti rfl ⟨(m - 1) / 2, by omega, (m - 1) / 2, _, rfl, rfl, h3, (swap_perm hu hv).trans hp, up_step hup (by omega) hu hv hl, by rw [swap_length]; omega, (k12.then ((Kp.drew w2).mono (by simp))).then k3⟩
  · refine ift (by simp [hl]) (hk w2 M k12 (h1.keep k2) hp (up_done hup (.inr fun u' v' hu' hv' => ?_)))
    rw [hu] at hu'; rw [hv] at hv'
    injection hu' with hu'; injection hv' with hv'
    subst hu'; subst hv'; exact hl

theorem down_ok {w : World} {p : Nat} {A : Option Addr} {c : Nat} {L : List It} {mo sq : Int} (h : HQ w p A c L mo sq) {i : Nat} (hi : i ≤ L.length) (hu : HpDown L i) {Q : Value → World → Prop}
    (hk : ∀ w' L', Kp (fpA A) w w' → HQ w' p A c L' mo sq → L'.Perm L → Hp L' → Q (.tuple #[]) w') : CALL PG 110 [.pointer (some ⟨p, 0, none⟩), .int .i64 (i : Int)] w Q := by
  refine call110 ?_
  unfold N110
  have hbig := h.big
  refine ⟨fun m i1 w1 => ∃ (j : Nat) (M : List It), i1 = (j : Int) ∧ m + j = L.length ∧ HQ w1 p A c M mo sq ∧ M.Perm L ∧ HpDown M j ∧ Kp (fpA A) w w1, ⟨L.length - i, i, L, rfl, by omega, h, .refl _, hu, (Kp.refl w).mono (by simp)⟩, ?_⟩
  rintro m _ w1 ⟨j, M, rfl, hm, h1, hp, hdn, k1⟩
  have hM := hp.length_eq
  refine leti (y := ((2 * j + 1 : Nat) : Int)) (by rw [wrap_i64 (n := 2 * (j : Int)) (by omega) (by omega), wrap_i64 (by omega) (by omega)]; omega) ?_
  refine RD.of (ld 2 h1.hp rfl (by kernel_rfl)) ⟨_, _, _, rfl, ifd (fun hge => ?_) fun hlt => ?_⟩
  · exact hk w1 M k1 h1 hp (down_done hdn fun k x y hk0 hkp hx _ => by have := (List.getElem?_eq_some_iff.1 hx).1; omega)
  obtain ⟨x1, hx1⟩ := ex_get (L := M) (j := 2 * j + 1) (by omega)
  obtain ⟨u, hu⟩ := ex_get (L := M) (j := j) (by omega)
  -- the lesser one of those below
  refine ⟨fun k2 w3 => ∃ (k : Nat) (cc : It), k2 = (k : Int) ∧ M[k]? = some cc ∧ 0 < k ∧ (k - 1) / 2 = j ∧ (∀ s y, 0 < s → (s - 1) / 2 = j → M[s]? = some y → le cc y) ∧ Kp [] w1 w3, ?_, ?_⟩
  · refine RD.of (ld 2 h1.hp rfl (by kernel_rfl)) ⟨_, _, _, rfl, ?_⟩
    have e2 : IntKind.i64.wrap (((2 * j + 1 : Nat) : Int) + 1) = ((2 * j + 2 : Nat) : Int) := by rw [wrap_i64 (by omega) (by omega)]; omega
    rw [e2]
    refine ifd (fun hlt2 => ?_) fun hge2 => ⟨2 * j + 1, x1, rfl, hx1, by omega, by omega, fun s y hs hsp hy => ?_, Kp.refl _⟩
    · obtain ⟨x2, hx2⟩ := ex_get (L := M) (j := 2 * j + 2) (by omega)
      refine less_ok h1 hx2 hx1 fun w2 k2 => ⟨_, rfl, ?_⟩
      by_cases hl : lt x2 x1
      · refine ift (by simp [hl]) (leti rfl ⟨2 * j + 2, x2, rfl, hx2, by omega, by omega, fun s y hs hsp hy => ?_, k2⟩)
        rcases (show s = 2 * j + 1 ∨ s = 2 * j + 2 by omega) with rfl | rfl
        · rw [hx1] at hy; injection hy with hy; subst hy; exact le_of_lt hl
        · rw [hx2] at hy; injection hy with hy; subst hy; exact le_refl _
      · refine iff_ (by simp [hl]) ⟨2 * j + 1, x1, rfl, hx1, by omega, by omega, fun s y hs hsp hy => ?_, k2⟩
        rcases (show s = 2 * j + 1 ∨ s = 2 * j + 2 by omega) with rfl | rfl
        · rw [hx1] at hy; injection hy with hy; subst hy; exact le_refl _
        · rw [hx2] at hy; injection hy with hy; subst hy; exact le_of_not hl
    · have hsl := (List.getElem?_eq_some_iff.1 hy).1
      have : s = 2 * j + 1 := by omega
      subst this
      rw [hx1] at hy; injection hy with hy; subst hy; exact le_refl _
  rintro _ w3 ⟨k, cc, rfl, hc, hk0, hkp, hmin, k3⟩
  have hkl := (List.getElem?_eq_some_iff.1 hc).1
  refine less_ok (h1.keep k3) hc hu fun w4 k4 => ⟨_, rfl, ?_⟩
  have k14 : Kp (fpA A) w w4 := k1.then ((k3.then k4).mono (by simp))
  have h4 := (h1.keep k3).keep k4
  by_cases hl : lt cc u
  · refine iff_ (by simp [hl]) ?_
    have hd := h4.keep (Kp.drew w4)
    obtain ⟨a, rfl, lu, _⟩ := hd.at hu
    obtain ⟨a', ea, lc, _⟩ := hd.at hc
    injection ea with ea
    subst ea
    have rl := ld (P := PG) (t := 161) 2 hd.hp rfl (by kernel_rfl)
    refine RD.of rl ⟨_, _, _, rfl, RD.of rl ⟨_, _, _, rfl, RD.of rl ⟨_, _, _, rfl, ⟨by omega, by omega⟩, a, rfl, RD.of (lc _ (Kp.refl _)) ⟨_, _, _, rfl, ?_⟩⟩⟩⟩
    refine RD.of rl ⟨_, _, _, rfl, ⟨by omega, by omega⟩, a, rfl, RD.of (lu _ (Kp.refl _)) ⟨_, _, _, rfl, ⟨by omega, by omega⟩, a, rfl, ?_⟩⟩
    have es : swap M j k u cc = swap M k j cc u := by unfold swap; exact List.set_comm _ _ (by omega)
    refine swap_ok hd hu hc fun w5 k5 h5 => leti rfl ⟨L.length - k, by omega, k, _, rfl, by omega, h5, (swap_perm hu hc).trans hp, ?_, (k14.then ((Kp.drew w4).mono (by simp))).then k5⟩
    rw [es]
    exact down_step hdn hk0 hkp hu hc hl hmin
  · refine ift (by simp [hl]) (hk w4 M k14 h4 hp (down_done hdn fun s x y hs hsp hx hy => ?_))
    rw [hu] at hy
    injection hy with hy
    subst hy
    exact le_trans (le_of_not hl) (hmin s x hs hsp hx)

def hmo (most : Int) : Int := minN (maxN most 0) 65536
theorem hmo_ok (most : Int) : 0 ≤ hmo most ∧ hmo most ≤ 65536 := by
  have h : 0 ≤ maxN most 0 := by unfold maxN; split <;> omega
  unfold hmo minN; split <;> omega
theorem hq_new {w : World} {most : Int} {Q : Value → World → Prop} (hk : ∀ w', Kp [] w w' → w'.heap.size = w.heap.size + 1 → HQ w' w.heap.size none 0 [] (hmo most) 0 → Q (.pointer (some ⟨w.heap.size, 0, none⟩)) w') : CALL PG 63 [.int .i64 most] w Q := by
  refine call63 ?_
  unfold N63
  have e : (Instr.build 163 #[(0, .int .i64 (minN (maxN most 0) 65536))]).run PG w = .ok (.agg #[.int .i64 (minN (maxN most 0) 65536), .int .i64 0, .slice none 0 0]) w := by kernel_rfl
  exact RD.of e ⟨_, _, _, _, _, rfl, box1 fun w' k s hb => ⟨_, rfl, hk w' k s ⟨hb, Own.nil _ _ _, by simp [fpA], by simp⟩⟩⟩
theorem hq_len {w : World} {p : Nat} {A : Option Addr} {c : Nat} {L : List It} {mo sq : Int} (h : HQ w p A c L mo sq) {Q : Value → World → Prop} (hk : Q (.int .i64 (L.length : Int)) w) : CALL PG 71 [.pointer (some ⟨p, 0, none⟩)] w Q := by
  refine call71 ?_
  unfold N71
  exact RD.of (ld 2 h.hp rfl (by kernel_rfl)) ⟨_, _, _, rfl, leti rfl hk⟩
theorem hq_put {w : World} {p : Nat} {A : Option Addr} {c : Nat} {L : List It} {mo sq : Int} (h : HQ w p A c L mo sq) (hh : Hp L) (hmo : mo ≤ 65536) (hs0 : 0 ≤ sq) (hs1 : sq ≤ 1000000) {t what : Int} {Q : Value → World → Prop}
    (hno : mo ≤ (L.length : Int) → ∀ w', Kp [] w w' → Q (.bool false) w')
    (hyes : (L.length : Int) < mo → ∀ A' c' L' w', Kp (p :: fpA A) w w' → HQ w' p A' c' L' mo (sq + 1) → L'.Perm (L ++ [⟨t, what, sq + 1⟩]) → Hp L' → (A' = A ∨ ∃ a, A' = some a ∧ w.heap.size ≤ a.block) → Q (.bool true) w') :
    CALL PG 69 [.pointer (some ⟨p, 0, none⟩), .int .i64 t, .int .i64 what] w Q := by
  refine call69 ?_
  unfold N69
  have hd := h.keep (Kp.drew w)
  have hbig := h.big
  refine RD.of (ld 2 hd.hp rfl (by kernel_rfl)) ⟨_, _, _, rfl, RD.of (ld 0 hd.hp rfl (by kernel_rfl)) ⟨_, rfl, ifd (fun hge => hno (by omega) _ (Kp.drew w)) fun hlt => ?_⟩⟩
  refine RD.of (ld 1 hd.hp rfl (by kernel_rfl)) ⟨_, rfl, ?_⟩
  rw [wrap_i64 (n := sq + 1) (by omega) (by omega)]
  refine st 1 hd.hp (by kernel_rfl) rfl (by simp) fun w1 k1 s1 hb1 => ?_
  have hd1 := hb1.drew
  have pA : ∀ b ∈ fpA A, b ∉ [p] := by intro b hb hc; simp at hc; subst hc; exact h.ne hb
  have ho1 := (hd.ho.kp k1 pA).drew
  refine ⟨fun w' => Kp [] w1.drew w', Kp.refl _, ⟨_, fun w' k => ld 2 (hd1.kp k (by simp)) rfl (by kernel_rfl), _, _, _, rfl, ?_⟩⟩
  refine ⟨_, fun w' k => ld 1 (hd1.kp k (by simp)) rfl (by kernel_rfl), _, rfl, ?_⟩
  have eb : ∀ w' : World, (Instr.build 109 #[(0, .int .i64 t), (1, .int .i64 what), (2, .int .i64 (sq + 1))]).run PG w' = .ok (itv ⟨t, what, sq + 1⟩) w' := fun w' => by kernel_rfl
  refine ⟨_, fun w' _ => eb w', _, _, _, rfl, ?_⟩
  refine RUN.of (litIt ⟨t, what, sq + 1⟩ _) ⟨_, _, _, rfl, fun w' => Kp [] w1.drew w', fun _ h => h, alloc_kp _ _, ?_⟩
  have ka := alloc_kp w1.drew (.cells (it ⟨t, what, sq + 1⟩).toArray 109)
  have hrow : Row (w1.drew.alloc (.cells (it ⟨t, what, sq + 1⟩).toArray 109)) (some ⟨w1.drew.heap.size, 0, none⟩) (it ⟨t, what, sq + 1⟩) := by
    have := (Blk.new w1.drew (it ⟨t, what, sq + 1⟩).toArray 109).row 0 3
    exact this
  have sz1 : w.heap.size = w1.drew.heap.size := s1.symm
  have sza := ka.size
  refine append1 huIt tiIt rfl (by decide) (by decide) (ho1.kp ka (by simp)) (m := 1) hrow rfl (it_flat1 _) (by omega) fun A' c' w3 k3 ho3 hA3 => ⟨_, _, _, rfl, ?_⟩
  have K13 : Kp (fpA A) w1.drew w3 := (ka.mono (by simp)).then k3
  have hp3 := hd1.kp K13 h.ne
  have hA : A' = A ∨ ∃ a, A' = some a ∧ w.heap.size ≤ a.block := by
    rcases hA3 with h | ⟨a, h1, h2⟩
    · exact .inl h
    · exact .inr ⟨a, h1, by omega⟩
  refine st 2 hp3 (by kernel_rfl) rfl (by simp) fun w4 k4 s4 h4 => ?_
  have pA' : p ∉ fpA A' := fun hc => apart_of (S := [p]) pA hA (by simp; exact h.lt.1) p hc (by simp)
  have hq4 : HQ w4 p A' c' (L ++ [⟨t, what, sq + 1⟩]) mo (sq + 1) := by
    refine ⟨by rw [List.length_append]; exact h4, ?_, pA', by rw [List.length_append]; simp; omega⟩
    have := ho3.kp k4 (by intro b hb hc; simp at hc; subst hc; exact pA' hb)
    rw [List.length_append, List.flatMap_append, List.flatMap_cons, List.flatMap_nil, List.append_nil]
    exact this
  have K4 : Kp (p :: fpA A) w w4 := by
    have a1 : Kp (p :: fpA A) w w1.drew := (((Kp.drew w).mono (by simp)).then k1 |>.then ((Kp.drew w1).mono (by simp))).mono (by simp)
    exact (a1.then (K13.mono (by intro i hi; simp [hi]))).then (k4.mono (by simp))
  refine RD.of (ld 2 hq4.hp rfl (by kernel_rfl)) ⟨_, _, _, rfl, ?_⟩
  have el : IntKind.i64.wrap ((((L ++ [(⟨t, what, sq + 1⟩ : It)]).length : Nat) : Int) - 1) = (L.length : Int) := by
    rw [List.length_append]; simp; rw [wrap_i64 (by omega) (by omega)]
  rw [el]
  refine up_ok hq4 (i := L.length) (by rw [List.length_append]; simp) (up_start hh) fun w5 L' k5 h5 hp5 hh5 => ⟨rfl, ?_⟩
  refine hyes (by omega) A' c' L' w5 (kp_sub K4 k5 fun i hi => ?_) h5 hp5 hh5 hA
  rcases hA with rfl | ⟨a, rfl, h2⟩
  · exact .inl (by simp [hi])
  · simp only [fpA, List.mem_singleton] at hi; subst hi; exact .inr h2

/-- The first one, or nothing. -/
theorem hq_first {w : World} {p : Nat} {A : Option Addr} {c : Nat} {L : List It} {mo sq : Int} (h : HQ w p A c L mo sq) {Q : Value → World → Prop}
    (hk : ∀ w', Kp [] w w' → Q (.tuple #[itv (L.head?.getD it0), .bool (L.head?.isSome)]) w') : CALL PG 70 [.pointer (some ⟨p, 0, none⟩)] w Q := by
  refine call70 ?_
  unfold N70
  refine alloc1 tiIt fun w1 k1 s1 hb => ⟨_, rfl, ?_⟩
  have h1 := h.keep k1
  refine RD.of (ld 2 h1.hp rfl (by kernel_rfl)) ⟨_, _, _, rfl, ?_⟩
  cases L with
  | nil =>
    have e0 : (Instr.build 109 #[]).run PG w1 = .ok (itv it0) w1 := by kernel_rfl
    refine ift rfl (RD.of e0 ⟨_, _, _, rfl, ?_⟩)
    refine stAll (v := itv it0) hb rfl tiIt.size rfl (it_flat1 it0) fun w2 k2 s2 hb2 => RD.of (ldItB (c := it0) hb2) ⟨_, _, _, rfl, hk w2 (k1.new k2 (by simp))⟩
  | cons x L =>
    refine iff_ (by simp; omega) ?_
    obtain ⟨a, ea, lx, _⟩ := h1.at (i := 0) (x := x) rfl
    refine RD.of (ld 2 h1.hp rfl (by kernel_rfl)) ⟨_, _, _, rfl, ⟨by decide, by simp⟩, a, ea, RD.of (lx _ (Kp.refl _)) ⟨_, _, _, rfl, ?_⟩⟩
    refine stAll (v := itv x) hb rfl tiIt.size rfl (it_flat1 x) fun w2 k2 s2 hb2 => RD.of (ldItB (c := x) hb2) ⟨_, _, _, rfl, hk w2 (k1.new k2 (by simp))⟩

/-- The first one is taken. -/
theorem hq_take {w : World} {p : Nat} {A : Option Addr} {c : Nat} {L : List It} {mo sq : Int} (h : HQ w p A c L mo sq) (hh : Hp L) {Q : Value → World → Prop}
    (hno : L = [] → ∀ w', Kp [] w w' → Q (.tuple #[itv it0, .bool false]) w')
    (hyes : ∀ m, L[0]? = some m → ∀ w' L', Kp (p :: fpA A) w w' → HQ w' p A c L' mo sq → (m :: L').Perm L → Hp L' → Q (.tuple #[itv m, .bool true]) w') :
    CALL PG 64 [.pointer (some ⟨p, 0, none⟩)] w Q := by
  refine call64 ?_
  unfold N64
  have hbig := h.big
  refine alloc1 tiIt fun w1 k1 s1 hb => ⟨_, rfl, ?_⟩
  refine hq_first (h.keep k1) fun w2 k2 => ⟨_, _, _, _, rfl, ?_⟩
  refine tmpIt (L.head?.getD it0) fun w3 k3 s3 hb3 => letb rfl ?_
  have k13 := (k1.then k2).then k3
  have hb13 := hb.kp (k2.then k3) (by simp)
  cases L with
  | nil =>
    refine ift rfl (RD.of (ldItB (c := it0) hb3) ⟨_, _, _, rfl, ?_⟩)
    refine stAll (v := itv it0) hb13 rfl tiIt.size rfl (it_flat1 it0) fun w4 k4 s4 hb4 => RD.of (ldItB (c := it0) hb4) ⟨_, _, _, rfl, hno rfl w4 (k13.new k4 (by simp))⟩
  | cons x l =>
    refine iff_ rfl ?_
    have hd := (h.keep k13).keep (Kp.drew w3)
    have h3 := h.keep k13
    refine RD.of (ld 2 h3.hp rfl (by kernel_rfl)) ⟨_, _, _, rfl, ?_⟩
    refine leti (y := (l.length : Int)) (by simp at hbig ⊢; rw [wrap_i64 (by omega) (by omega)]) ?_
    obtain ⟨z, hz⟩ := ex_get (L := x :: l) (j := l.length) (by simp)
    obtain ⟨a, rfl, lz, _⟩ := hd.at hz
    have rl := ld (P := PG) (t := 161) 2 hd.hp rfl (by kernel_rfl)
    refine RD.of rl ⟨_, _, _, rfl, RD.of rl ⟨_, _, _, rfl, ⟨by omega, by simp; omega⟩, a, rfl, RD.of (lz _ (Kp.refl _)) ⟨_, _, _, rfl, ⟨by decide, by simp⟩, a, rfl, ?_⟩⟩⟩
    have hne : p ≠ a.block := by have := h.ne; simpa [fpA] using this
    refine st_elem (i := 0) (v := itv z) it_length hd.ho (by simp) rfl (by kernel_rfl) (it_flat1 z) fun w4 k4 s4 ho4 => ?_
    have hp4 := hd.hp.kp k4 (by simpa using hne)
    refine RD.of (ld 2 hp4 rfl (by kernel_rfl)) ⟨_, _, _, rfl, ?_⟩
    have hle := ho4.le
    simp only [List.length_cons] at hle
    refine ⟨⟨by omega, by omega, by omega⟩, ?_⟩
    rw [cutA_zero]
    have e1 : Int.toNat (l.length : Int) - Int.toNat (0 : Int) = l.length := by simp
    have e2 : c - Int.toNat (0 : Int) = c := by simp
    rw [e1, e2]
    have hp4' : Blk w4 p 163 [.int .i64 mo, .int .i64 sq, .slice (some a) (x :: l).length c] := hp4
    refine st 2 hp4' (by kernel_rfl) rfl (by simp) fun w5 k5 s5 hb5 => ?_
    have etl : (tip (x :: l) z).length = l.length := by simp [tip]
    have ot := own_take (j := l.length) (L := (x :: l).set 0 z) it_length (by rw [List.length_set]; exact ho4) (by simp) (by simp)
    have hq5 : HQ w5 p (some a) c (tip (x :: l) z) mo sq := by
      refine ⟨by rw [etl]; exact hb5, ?_, h.ne, by rw [etl]; simp at hbig; omega⟩
      rw [etl]
      have := ot.kp k5 (by intro b hb hc; simp [fpA] at hb hc; omega)
      exact this
    refine down_ok (i := 0) hq5 (Nat.zero_le _) (tip_down hh) fun w6 L' k6 h6 hp6 hh6 => ⟨rfl, ?_⟩
    have hbt : w.heap.size ≤ w2.heap.size := (k1.then k2).size
    have lt := h.lt
    have la : a.block < w.heap.size := lt.2 _ (by simp [fpA])
    have K36 : Kp (p :: fpA (some a)) w3 w6 := by
      have a1 : Kp (p :: fpA (some a)) w3 w4 := ((Kp.drew w3).mono (by simp)).then (k4.mono (by simp [fpA]))
      exact (a1.then (k5.mono (by simp))).then (k6.mono (by simp [fpA]))
    have hb6 := hb3.kp K36 (by simp [fpA]; omega)
    have hba := hb13.kp K36 (by simp [fpA]; omega)
    refine RD.of (ldItB (c := x) hb6) ⟨_, _, _, rfl, ?_⟩
    refine stAll (v := itv x) hba rfl tiIt.size rfl (it_flat1 x) fun w7 k7 s7 hb7 => RD.of (ldItB (c := x) hb7) ⟨_, _, _, rfl, ?_⟩
    refine hyes x rfl w7 L' ?_ (h6.kp k7 (by simp; omega) (by simp [fpA]; omega)) ?_ hh6
    · exact kp_sub ((k13.mono (by simp)).then K36) k7 fun i hi => by simp at hi; subst hi; exact .inr (Nat.le_refl _)
    · exact (List.Perm.cons x hp6).trans (tip_perm rfl (by simpa using hz))
end Go.Br
