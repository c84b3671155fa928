/- The rows of numbers: what the row's functions answer, of the program and of the document. -/
import Derived.Test.YtegocoicdcpgaaaNHist
import Derived.Test.YtegocoicdcpgaaaBrList
set_option linter.unusedVariables false
namespace Go.Br
open Go

def hL (r : Nat) : Nat := if r < 4 then r else (4 + r % 4) * 2 ^ (r / 4 - 1)
def hW (r : Nat) : Nat := if r < 8 then 1 else 2 ^ (r / 4 - 1)
theorem hL_succ : ∀ r, r < 120 → hL (r + 1) = hL r + hW r := by decide +kernel
theorem hW_pos (r : Nat) : 0 < hW r := by unfold hW; split <;> simp [Nat.pow_pos]
theorem hL_lt {r : Nat} (h : r < 120) : hL r < hL (r + 1) := by have := hL_succ r h; have := hW_pos r; omega
theorem hL_mono {r : Nat} : ∀ {d : Nat}, r + d ≤ 120 → hL r ≤ hL (r + d) := by
  intro d
  induction d with
  | zero => intro _; exact Nat.le_refl _
  | succ d ih =>
    intro h
    have := ih (by omega)
    have := hL_lt (r := r + d) (by omega)
    rw [show r + (d + 1) = r + d + 1 from rfl]; omega
theorem hL_mono' {r s : Nat} (h : r ≤ s) (hs : s ≤ 120) : hL r ≤ hL s := by
  obtain ⟨d, rfl⟩ : ∃ d, s = r + d := ⟨s - r, by omega⟩
  exact hL_mono hs
theorem hL_top : hL 120 = 2147483648 := by decide +kernel
theorem hL_big {r : Nat} (h : r ≤ 120) : hL r ≤ 2147483648 := by rw [← hL_top]; exact hL_mono' h (Nat.le_refl _)
theorem hW_big {r : Nat} (h : r < 120) : hW r ≤ 2147483648 := by have := hL_succ r h; have := hL_big (r := r + 1) (by omega); omega
def IsRow (c r : Nat) : Prop := r < 120 ∧ hL r ≤ c ∧ c < hL (r + 1)
theorem IsRow.uniq {c r s : Nat} (h : IsRow c r) (k : IsRow c s) : r = s := by
  obtain ⟨h1, h2, h3⟩ := h
  obtain ⟨k1, k2, k3⟩ := k
  rcases Nat.lt_trichotomy r s with h | h | h
  · have := hL_mono' (r := r + 1) (s := s) (by omega) (by omega); omega
  · exact h
  · have := hL_mono' (r := s + 1) (s := r) (by omega) (by omega); omega
theorem hL_at {k q : Nat} (h1 : 4 ≤ q) (h2 : q ≤ 8) : hL (4 * k + q) = q * 2 ^ k := by
  unfold hL
  rw [if_neg (by omega)]
  by_cases c : q < 8
  · rw [show (4 * k + q) % 4 = q - 4 by omega, show (4 * k + q) / 4 - 1 = k by omega, show 4 + (q - 4) = q by omega]
  · rw [show (4 * k + q) % 4 = 0 by omega, show (4 * k + q) / 4 - 1 = k + 1 by omega, show q = 8 by omega, Nat.pow_succ]; omega

theorem cl_or {c : Nat} {n t : Int} (ht : 0 ≤ t) (hc : (c : Int) = minN (maxN n 0) t) : (n < 0 ∧ (c : Int) = 0) ∨ (t < n ∧ (c : Int) = t) ∨ (0 ≤ n ∧ n ≤ t ∧ (c : Int) = n) := by
  unfold minN maxN at hc
  by_cases h1 : n < 0
  · rw [if_pos h1, if_neg (by omega)] at hc; exact .inl ⟨h1, hc⟩
  · rw [if_neg h1] at hc
    by_cases h2 : t < n
    · rw [if_pos h2] at hc; exact .inr (.inl ⟨h2, hc⟩)
    · rw [if_neg h2] at hc; exact .inr (.inr ⟨by omega, by omega, hc⟩)
theorem cl_ex (n : Int) {t : Int} (ht : 0 ≤ t) : ∃ c : Nat, (c : Int) = minN (maxN n 0) t := ⟨(minN (maxN n 0) t).toNat, by unfold minN maxN; by_cases h : n < 0 <;> simp only [gt_iff_lt, h, if_true, if_false] <;> split <;> omega⟩

/-- How often a number is halved till nothing is left. -/
def IsLen (x b : Nat) : Prop := x < 2 ^ b ∧ (0 < x → 2 ^ (b - 1) ≤ x) ∧ b ≤ 32
def tabOk8 (T : ByteArray) : Bool := T.size == 256 && (List.range 256).all fun z => z == 0 || (let t := sbyte T (z : Int); decide (1 ≤ t) && decide (t ≤ 8) && decide (2 ^ (t.toNat - 1) ≤ z) && decide (z < 2 ^ t.toNat))
theorem tab8 {T : ByteArray} (h : tabOk8 T = true) {z : Nat} (h0 : 0 < z) (h1 : z < 256) : ∃ t : Nat, sbyte T (z : Int) = (t : Int) ∧ 1 ≤ t ∧ t ≤ 8 ∧ 2 ^ (t - 1) ≤ z ∧ z < 2 ^ t := by
  unfold tabOk8 at h
  rw [Bool.and_eq_true] at h
  have := List.all_eq_true.1 h.2 z (List.mem_range.2 h1)
  have hz : (z == 0) = false := by simp; omega
  rw [hz, Bool.false_or] at this
  simp only [Bool.and_eq_true, decide_eq_true_eq] at this
  obtain ⟨⟨⟨a, b⟩, c⟩, d⟩ := this
  exact ⟨(sbyte T (z : Int)).toNat, by omega, by omega, by omega, c, d⟩
theorem two_cast (a : Nat) : ((2 : Int) ^ a) = ((2 ^ a : Nat) : Int) := by simp
theorem shrN_nat (k : IntKind) {x a : Nat} (h : a ≤ k.bits) : shrN k (x : Int) (a : Int) = ((x / 2 ^ a : Nat) : Int) := by
  unfold shrN
  rw [Int.toNat_natCast, Nat.min_eq_left h, two_cast, Int.fdiv_eq_ediv_of_nonneg _ (Int.natCast_nonneg _)]
  rfl
theorem shlN_nat (k : IntKind) {x a : Nat} (h : a ≤ k.bits) : shlN k (x : Int) (a : Int) = k.wrap ((x * 2 ^ a : Nat) : Int) := by
  unfold shlN
  rw [Int.toNat_natCast, Nat.min_eq_left h, two_cast]
  rfl
theorem wrap_u8 {n : Nat} (h : n < 256) : IntKind.u8.wrap (n : Int) = n := by
  unfold IntKind.wrap; simp [IntKind.bits, IntKind.signed] ; omega
theorem wrap_u64 {n : Nat} (h : n < 2 ^ 64) : IntKind.u64.wrap (n : Int) = n := by
  unfold IntKind.wrap; simp [IntKind.bits, IntKind.signed] ; omega

theorem len_of {x a z t : Nat} (h : x / 2 ^ a = z) (h1 : 1 ≤ t) (h2 : 2 ^ (t - 1) ≤ z) (h3 : z < 2 ^ t) : x < 2 ^ (a + t) ∧ 2 ^ (a + t - 1) ≤ x := by
  subst h
  constructor
  · rw [Nat.pow_add, Nat.mul_comm]; exact (Nat.div_lt_iff_lt_mul (Nat.two_pow_pos a)).1 h3
  · rw [show a + t - 1 = t - 1 + a by omega, Nat.pow_add]
    exact (Nat.le_div_iff_mul_le (Nat.two_pow_pos a)).1 h2

theorem len64_ok {x : Nat} (h0 : 0 < x) (hx : x < 4294967296) {w : World} {Q : Value → World → Prop} (hk : ∀ b : Nat, IsLen x b → 1 ≤ b → Q (.int .i64 (b : Int)) w) : CALL PG 118 [.int .u64 (x : Int)] w Q := by
  refine call118 ?_
  unfold N118
  refine ⟨fun x2 n w1 => x2 = (x : Int) ∧ n = 0 ∧ w1 = w, ifdf (by omega) ⟨rfl, rfl, rfl⟩, ?_⟩
  rintro _ _ w1 ⟨rfl, rfl, rfl⟩
  refine ⟨fun x4 n2 w2 => ∃ y a : Nat, x4 = (y : Int) ∧ n2 = (a : Int) ∧ a ≤ 16 ∧ 0 < y ∧ y < 65536 ∧ x / 2 ^ a = y ∧ w2 = w1, ?_, ?_⟩
  · refine ifd (fun h => ⟨by decide, leti (shrN_nat (a := 16) .u64 (by decide)) (leti rfl ⟨x / 2 ^ 16, 16, rfl, by decide, by omega, by omega, by omega, rfl, rfl⟩)⟩) fun h => ⟨x, 0, rfl, rfl, by omega, h0, by omega, by simp, rfl⟩
  rintro _ _ w2 ⟨y, a, rfl, rfl, ha, hy0, hy, hd, rfl⟩
  have fin : ∀ (z a : Nat), 0 < z → z < 256 → a ≤ 24 → x / 2 ^ a = z → ∀ (T : ByteArray), tabOk8 T = true → (0 ≤ IntKind.u8.wrap (z : Int) ∧ IntKind.u8.wrap (z : Int) < T.size) ∧ Q (.int .i64 (IntKind.i64.wrap ((a : Int) + IntKind.i64.wrap (sbyte T (IntKind.u8.wrap (z : Int)))))) w2 := by
    intro z a hz0 hz ha hd T hT
    obtain ⟨t, ht, h1, h8, h2, h3⟩ := tab8 hT hz0 hz
    have hTs : T.size = 256 := by unfold tabOk8 at hT; rw [Bool.and_eq_true] at hT; simpa using hT.1
    rw [wrap_u8 hz, ht, wrap_i64 (n := (t : Int)) (by omega) (by omega), wrap_i64 (by omega) (by omega)]
    refine ⟨⟨by omega, by omega⟩, ?_⟩
    obtain ⟨l1, l2⟩ := len_of hd h1 h2 h3
    exact hk (a + t) ⟨l1, fun _ => l2, by
      have : a + t ≤ 32 := by
        rcases Nat.lt_or_ge 32 (a + t) with hgt | hle
        · have : 2 ^ 32 ≤ 2 ^ (a + t - 1) := Nat.pow_le_pow_right (by decide) (by omega)
          omega
        · exact hle
      exact this⟩ (by omega)
  refine ifd (fun h => ⟨by decide, leti (shrN_nat (a := 8) .u64 (by decide)) (leti (wrap_i64 (by omega) (by omega)) ?_)⟩) fun h => ?_
  · obtain ⟨c1, c2⟩ := fin (y / 2 ^ 8) (a + 8) (by omega) (by omega) (by omega) (by rw [Nat.pow_add, ← Nat.div_div_eq_div_mul, hd]) _ (by kernel_rfl)
    exact ⟨c1, c2⟩
  · obtain ⟨c1, c2⟩ := fin y a hy0 (by omega) (by omega) hd _ (by kernel_rfl)
    exact ⟨c1, c2⟩
theorem lenU_ok {x : Nat} (h0 : 0 < x) (hx : x < 4294967296) {w : World} {Q : Value → World → Prop} (hk : ∀ b : Nat, IsLen x b → 1 ≤ b → Q (.int .i64 (b : Int)) w) : CALL PG 86 [.int .u64 (x : Int)] w Q := by
  refine call86 ?_
  unfold N86
  exact len64_ok h0 hx fun b h1 h2 => ⟨_, rfl, leti rfl (hk b h1 h2)⟩

theorem row_ok {n : Int} {c : Nat} (hc : (c : Int) = minN (maxN n 0) 2147483647) {w : World} {Q : Value → World → Prop} (hk : ∀ r : Nat, IsRow c r → Q (.int .i64 (r : Int)) w) : CALL PG 25 [.int .i64 n] w Q := by
  refine call25 ?_
  unfold N25
  refine leti hc.symm ?_
  have hcl : c < 2147483648 := by have := cl_or (by decide) hc; omega
  refine ifd (fun h => leti rfl (hk c ?_)) fun h => ?_
  · refine ⟨by omega, ?_, ?_⟩
    · simp [hL, show c < 4 by omega]
    · unfold hL; split <;> first | omega | (rw [show c = 3 by omega]; decide)
  rw [wrap_u64 (by omega)]
  refine lenU_ok (by omega) (by omega) fun b hb hb1 => ⟨_, rfl, ?_⟩
  obtain ⟨l1, l2, l3⟩ := hb
  have l2 := l2 (by omega)
  have hb3 : 3 ≤ b := by
    rcases Nat.lt_or_ge b 3 with hlt | hge
    · have : 2 ^ b ≤ 2 ^ 2 := Nat.pow_le_pow_right (by decide) (by omega)
      omega
    · exact hge
  have hb31 : b ≤ 31 := by
    rcases Nat.lt_or_ge 31 b with hgt | hle
    · have : 2 ^ 31 ≤ 2 ^ (b - 1) := Nat.pow_le_pow_right (by decide) (by omega)
      omega
    · exact hle
  obtain ⟨k, rfl⟩ : ∃ k, b = k + 3 := ⟨b - 3, by omega⟩
  refine leti (y := (k : Int)) (by rw [wrap_i64 (by omega) (by omega)]; omega) ⟨by omega, ?_⟩
  have hk2 : 0 < 2 ^ k := Nat.two_pow_pos k
  have q1 : 4 ≤ c / 2 ^ k := by
    rw [Nat.le_div_iff_mul_le hk2]
    have : 2 ^ (k + 3 - 1) = 4 * 2 ^ k := by rw [show k + 3 - 1 = k + 2 by omega, Nat.pow_add]; omega
    omega
  have q2 : c / 2 ^ k < 8 := by
    rw [Nat.div_lt_iff_lt_mul hk2]
    have : 2 ^ (k + 3) = 8 * 2 ^ k := by rw [Nat.pow_add]; omega
    omega
  rw [shrN_nat .i64 (by show k ≤ 64; omega)]
  generalize hq : c / 2 ^ k = q at q1 q2
  refine leti (y := ((4 * k + q : Nat) : Int)) ?_ (hk _ ?_)
  · rw [wrap_i64 (n := (k : Int) + 1) (by omega) (by omega), wrap_i64 (n := 4 * ((k : Int) + 1)) (by omega) (by omega), wrap_i64 (n := 4 * ((k : Int) + 1) + (q : Int)) (by omega) (by omega), wrap_i64 (by omega) (by omega)]
    omega
  · refine ⟨by omega, ?_, ?_⟩
    · rw [hL_at q1 (by omega)]
      exact (Nat.le_div_iff_mul_le hk2).1 (by omega)
    · rw [show 4 * k + q + 1 = 4 * k + (q + 1) from rfl, hL_at (by omega) (by omega)]
      exact (Nat.div_lt_iff_lt_mul hk2).1 (by omega)

theorem least_ok {n : Int} {d : Nat} (hd : (d : Int) = minN (maxN n 0) 120) {w : World} {Q : Value → World → Prop} (hk : d ≤ 120 → Q (.int .i64 (hL d : Int)) w) : CALL PG 27 [.int .i64 n] w Q := by
  refine call27 ?_
  unfold N27
  refine leti hd.symm ?_
  have hdl : d ≤ 120 := by have := cl_or (by decide) hd; omega
  refine ifd (fun h => leti (y := (hL d : Int)) (by simp [hL, show d < 4 by omega]) (hk hdl)) fun h => ?_
  refine ⟨by decide, leti (y := ((d / 4 - 1 : Nat) : Int)) ?_ ⟨by decide, by omega, leti (y := (hL d : Int)) ?_ (hk hdl)⟩⟩
  · rw [Int.tdiv_eq_ediv_of_nonneg (by omega), wrap_i64 (n := (d : Int) / 4) (by omega) (by omega), wrap_i64 (by omega) (by omega)]
    omega
  · have hb := hL_big hdl
    have e : hL d = (4 + d % 4) * 2 ^ (d / 4 - 1) := by unfold hL; rw [if_neg (by omega)]
    rw [Int.tmod_eq_emod_of_nonneg (by omega), wrap_i64 (n := 4 + (d : Int) % 4) (by omega) (by omega), show (4 + (d : Int) % 4) = ((4 + d % 4 : Nat) : Int) by omega,
      shlN_nat .i64 (by show d / 4 - 1 ≤ 64; omega), ← e, wrap_i64 (by omega) (by omega)]

theorem within_ok {n : Int} {c : Nat} (hc : (c : Int) = minN (maxN n 0) 2147483647) {w : World} {Q : Value → World → Prop} (hk : Q (.int .i64 (c : Int)) w) : CALL PG 87 [.int .i64 n] w Q := by
  refine call87 ?_
  unfold N87
  have := cl_or (by decide) hc
  refine ifd (fun h => ?_) fun h => ifd (fun h2 => ?_) fun h2 => ?_
  · rw [show (0 : Int) = (c : Int) by omega]; exact hk
  · rw [show (2147483647 : Int) = (c : Int) by omega]; exact hk
  · rw [show n = (c : Int) by omega]; exact hk
theorem wide_ok {r : Nat} (hr : r ≤ 120) {w : World} {Q : Value → World → Prop} (hk : Q (.int .i64 (hW r : Int)) w) : CALL PG 88 [.int .i64 (r : Int)] w Q := by
  refine call88 ?_
  unfold N88
  refine ⟨fun m n k w1 => ∃ j : Nat, j + m = 40 ∧ n = ((2 ^ j : Nat) : Int) ∧ k = 8 + 4 * (j : Int) ∧ (j = 0 ∨ 4 * j + 4 ≤ r) ∧ w1 = w, ⟨40, 0, by omega, by simp, by simp, .inl rfl, rfl⟩, ?_⟩
  rintro m _ _ _ ⟨j, hm, rfl, rfl, hj, rfl⟩
  refine ifd (fun h => ?_) fun h => leti (y := (hW r : Int)) ?_ hk
  · have hp : 2 ^ j ≤ 2 ^ 30 := Nat.pow_le_pow_right (by decide) (by omega)
    refine leti (y := ((2 ^ (j + 1) : Nat) : Int)) ?_ (leti (y := 8 + 4 * ((j + 1 : Nat) : Int)) ?_ ⟨m - 1, by omega, j + 1, by omega, rfl, rfl, .inr (by omega), rfl⟩)
    · have hp0 := Nat.two_pow_pos j
      rw [Nat.pow_succ]
      generalize 2 ^ j = y at hp hp0 ⊢
      rw [wrap_i64 (by omega) (by omega)]; omega
    · rw [wrap_i64 (by omega) (by omega)]; omega
  · unfold hW
    split
    · rw [show j = 0 by omega]
    · rw [show r / 4 - 1 = j by omega]
theorem rRow_ok {n : Int} {c : Nat} (hc : (c : Int) = minN (maxN n 0) 2147483647) {w : World} {Q : Value → World → Prop} (hk : ∀ r : Nat, IsRow c r → Q (.int .i64 (r : Int)) w) : CALL PG 26 [.int .i64 n] w Q := by
  refine call26 ?_
  unfold N26
  have hcl : c < 2147483648 := by have := cl_or (by decide) hc; omega
  refine ⟨fun m r least w1 => ∃ j : Nat, j + m = 119 ∧ r = (j : Int) ∧ least = (hL (j + 1) : Int) ∧ hL j ≤ c ∧ w1 = w, ⟨119, 0, by omega, rfl, by decide, by simp [hL], rfl⟩, ?_⟩
  rintro m _ _ _ ⟨j, hm, rfl, rfl, hj, rfl⟩
  refine ifd (fun h => ?_) fun h => leti rfl (hk j ⟨by omega, hj, by rw [show j = 119 by omega, hL_top]; omega⟩)
  refine within_ok hc ⟨_, rfl, ?_⟩
  refine ifd (fun h1 => ?_) fun h1 => leti rfl (hk j ⟨by omega, hj, by omega⟩)
  refine leti (y := ((j + 1 : Nat) : Int)) (wrap_i64 (by omega) (by omega)) (wide_ok (by omega) ⟨_, rfl, ?_⟩)
  have e := hL_succ (j + 1) (by omega)
  have := hL_big (r := j + 1) (by omega)
  have := hW_big (r := j + 1) (by omega)
  exact leti (y := (hL (j + 1 + 1) : Int)) (by rw [wrap_i64 (by omega) (by omega)]; omega) ⟨m - 1, by omega, j + 1, by omega, rfl, rfl, by omega, rfl⟩
theorem rLeast_ok {n : Int} {d : Nat} (hd : (d : Int) = minN (maxN n 0) 120) {w : World} {Q : Value → World → Prop} (hk : Q (.int .i64 (hL d : Int)) w) : CALL PG 28 [.int .i64 n] w Q := by
  refine call28 ?_
  unfold N28
  have hdl : d ≤ 120 := by have := cl_or (by decide) hd; omega
  have hdn : ∀ j : Nat, j ≤ d → (¬ ((j : Int) < n) → j = d) ∧ (¬ ((j : Int) < 120) → j = d) ∧ ((j : Int) < n → (j : Int) < 120 → j < d) := by
    intro j hj; have := cl_or (by decide) hd; omega
  clear hd
  refine ⟨fun m s r w1 => ∃ j : Nat, j + m = d ∧ r = (j : Int) ∧ s = (hL j : Int) ∧ w1 = w, ⟨d, 0, by omega, rfl, by decide, rfl⟩, ?_⟩
  rintro m _ _ _ ⟨j, hm, rfl, rfl, rfl⟩
  have hdj := hdn j (by omega)
  refine ifd (fun h1 => ifd (fun h2 => ?_) fun h2 => leti (by rw [hdj.2.1 h2]) hk) fun h1 => leti (by rw [hdj.1 h1]) hk
  have hjd := hdj.2.2 h1 h2
  refine wide_ok (by omega) ⟨_, rfl, ?_⟩
  have e := hL_succ j (by omega)
  have := hL_big (r := j) (by omega)
  have := hW_big (r := j) (by omega)
  exact leti (y := (hL (j + 1) : Int)) (by rw [wrap_i64 (by omega) (by omega)]; omega) (leti (y := ((j + 1 : Nat) : Int)) (wrap_i64 (by omega) (by omega)) ⟨m - 1, by omega, j + 1, by omega, rfl, rfl, rfl⟩)

end Go.Br
