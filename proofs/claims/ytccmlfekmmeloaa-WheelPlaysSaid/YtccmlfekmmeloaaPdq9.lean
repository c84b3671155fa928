/- slices.Sort of numbers: how long a number is, and chance. -/
import Derived.Test.YtccmlfekmmeloaaNPdq9
import Derived.Test.YtccmlfekmmeloaaPdq2
import Derived.Test.YtccmlfekmmeloaaPdq3
import Derived.Test.YtccmlfekmmeloaaPdq6
import Derived.Test.YtccmlfekmmeloaaPdq8
set_option linter.unusedVariables false
set_option linter.unusedSimpArgs false
set_option linter.unnecessarySimpa false
namespace Go.Br
open Go
instance biPdq9a : Zro PG 303 1 8 (.int .u64 0) := ⟨tiOf (by kernel_rfl)⟩
attribute [local irreducible] Addr.add RD RDS RUN RUNU NILC LETB CALL CALLX CALLV

/-- How often a number is halved till nothing is left. -/
def IsLen (x b : Nat) : Prop := x < 2 ^ b ∧ (0 < x → 2 ^ (b - 1) ≤ x) ∧ b ≤ 32
def tabOk8 (T : ByteArray) : Bool := T.size == 256 && (List.range 256).all fun z => z == 0 || (let t := sbyte T (z : Int); decide (1 ≤ t) && decide (t ≤ 8) && decide (2 ^ (t.toNat - 1) ≤ z) && decide (z < 2 ^ t.toNat))
theorem tab8 {T : ByteArray} (h : tabOk8 T = true) {z : Nat} (h0 : 0 < z) (h1 : z < 256) : ∃ t : Nat, sbyte T (z : Int) = (t : Int) ∧ 1 ≤ t ∧ t ≤ 8 ∧ 2 ^ (t - 1) ≤ z ∧ z < 2 ^ t := by
  unfold tabOk8 at h
  rw [Bool.and_eq_true] at h
  have := List.all_eq_true.1 h.2 z (List.mem_range.2 h1)
  have hz : (z == 0) = false := by simp; omega
  rw [hz, Bool.false_or] at this
  simp only [Bool.and_eq_true, decide_eq_true_eq] at this
  obtain ⟨⟨⟨a, b⟩, c⟩, d⟩ := this
  exact ⟨(sbyte T (z : Int)).toNat, by omega, by omega, by omega, c, d⟩
theorem two_cast (a : Nat) : ((2 : Int) ^ a) = ((2 ^ a : Nat) : Int) := by simp
theorem shrN_nat (k : IntKind) {x a : Nat} (h : a ≤ k.bits) : shrN k (x : Int) (a : Int) = ((x / 2 ^ a : Nat) : Int) := by
  unfold shrN
  rw [Int.toNat_natCast, Nat.min_eq_left h, two_cast, Int.fdiv_eq_ediv_of_nonneg _ (Int.natCast_nonneg _)]
  rfl
theorem shlN_nat (k : IntKind) {x a : Nat} (h : a ≤ k.bits) : shlN k (x : Int) (a : Int) = k.wrap ((x * 2 ^ a : Nat) : Int) := by
  unfold shlN
  rw [Int.toNat_natCast, Nat.min_eq_left h, two_cast]
  rfl
theorem wrap_u8 {n : Nat} (h : n < 256) : IntKind.u8.wrap (n : Int) = n := by
  unfold IntKind.wrap; simp [IntKind.bits, IntKind.signed] ; omega
theorem wrap_u64 {n : Nat} (h : n < 2 ^ 64) : IntKind.u64.wrap (n : Int) = n := by
  unfold IntKind.wrap; simp [IntKind.bits, IntKind.signed] ; omega

theorem len_of {x a z t : Nat} (h : x / 2 ^ a = z) (h1 : 1 ≤ t) (h2 : 2 ^ (t - 1) ≤ z) (h3 : z < 2 ^ t) : x < 2 ^ (a + t) ∧ 2 ^ (a + t - 1) ≤ x := by
  subst h
  constructor
  · rw [Nat.pow_add, Nat.mul_comm]; exact (Nat.div_lt_iff_lt_mul (Nat.two_pow_pos a)).1 h3
  · rw [show a + t - 1 = t - 1 + a by omega, Nat.pow_add]
    exact (Nat.le_div_iff_mul_le (Nat.two_pow_pos a)).1 h2

theorem len64E_ok {x : Nat} (h0 : 0 < x) (hx : x < 4294967296) {w : World} {Q : Value → World → Prop} (hk : ∀ b : Nat, IsLen x b → 1 ≤ b → Q (.int .i64 (b : Int)) w) : CALL PG 157 [.int .u64 (x : Int)] w Q := by
  refine call157 ?_
  unfold N157
  refine ⟨fun x2 n w1 => x2 = (x : Int) ∧ n = 0 ∧ w1 = w, ifdf (by omega) ⟨rfl, rfl, rfl⟩, ?_⟩
  rintro _ _ w1 ⟨rfl, rfl, rfl⟩
  refine ⟨fun x4 n2 w2 => ∃ y a : Nat, x4 = (y : Int) ∧ n2 = (a : Int) ∧ a ≤ 16 ∧ 0 < y ∧ y < 65536 ∧ x / 2 ^ a = y ∧ w2 = w1, ?_, ?_⟩
  · refine ifd (fun h => ⟨by decide, leti (shrN_nat (a := 16) .u64 (by decide)) (leti rfl ⟨x / 2 ^ 16, 16, rfl, by decide, by omega, by omega, by omega, rfl, rfl⟩)⟩) fun h => ⟨x, 0, rfl, rfl, by omega, h0, by omega, by simp, rfl⟩
  rintro _ _ w2 ⟨y, a, rfl, rfl, ha, hy0, hy, hd, rfl⟩
  have fin : ∀ (z a : Nat), 0 < z → z < 256 → a ≤ 24 → x / 2 ^ a = z → ∀ (T : ByteArray), tabOk8 T = true → (0 ≤ IntKind.u8.wrap (z : Int) ∧ IntKind.u8.wrap (z : Int) < T.size) ∧ Q (.int .i64 (IntKind.i64.wrap ((a : Int) + IntKind.i64.wrap (sbyte T (IntKind.u8.wrap (z : Int)))))) w2 := by
    intro z a hz0 hz ha hd T hT
    obtain ⟨t, ht, h1, h8, h2, h3⟩ := tab8 hT hz0 hz
    have hTs : T.size = 256 := by unfold tabOk8 at hT; rw [Bool.and_eq_true] at hT; simpa using hT.1
    rw [wrap_u8 hz, ht, wrap_i64 (n := (t : Int)) (by omega) (by omega), wrap_i64 (by omega) (by omega)]
    refine ⟨⟨by omega, by omega⟩, ?_⟩
    obtain ⟨l1, l2⟩ := len_of hd h1 h2 h3
    exact hk (a + t) ⟨l1, fun _ => l2, by
      have : a + t ≤ 32 := by
        rcases Nat.lt_or_ge 32 (a + t) with hgt | hle
        · have : 2 ^ 32 ≤ 2 ^ (a + t - 1) := Nat.pow_le_pow_right (by decide) (by omega)
          omega
        · exact hle
      exact this⟩ (by omega)
  refine ifd (fun h => ⟨by decide, leti (shrN_nat (a := 8) .u64 (by decide)) (leti (wrap_i64 (by omega) (by omega)) ?_)⟩) fun h => ?_
  · obtain ⟨c1, c2⟩ := fin (y / 2 ^ 8) (a + 8) (by omega) (by omega) (by omega) (by rw [Nat.pow_add, ← Nat.div_div_eq_div_mul, hd]) _ (by kernel_rfl)
    exact ⟨c1, c2⟩
  · obtain ⟨c1, c2⟩ := fin y a hy0 (by omega) (by omega) hd _ (by kernel_rfl)
    exact ⟨c1, c2⟩
theorem lenE_ok {x : Nat} (h0 : 0 < x) (hx : x < 4294967296) {w : World} {Q : Value → World → Prop} (hk : ∀ b : Nat, IsLen x b → 1 ≤ b → Q (.int .i64 (b : Int)) w) : CALL PG 131 [.int .u64 (x : Int)] w Q := by
  refine call131 ?_
  unfold N131
  exact len64E_ok h0 hx fun b h1 h2 => ⟨_, rfl, leti rfl (hk b h1 h2)⟩

theorem pow_ok {x : Nat} (h0 : 0 < x) (hx : x ≤ 1000000) {w : World} {Q : Value → World → Prop} (hk : ∀ m : Nat, 0 < m → m ≤ 2 * x → Q (.int .u64 (m : Int)) w) : CALL PG 177 [.int .i64 (x : Int)] w Q := by
  refine call177 ?_
  unfold N177
  rw [wrap_u64 (by omega)]
  refine lenE_ok h0 (by omega) fun b hb hb1 => ⟨_, rfl, by omega, ?_⟩
  obtain ⟨l1, l2, l3⟩ := hb
  have l2 := l2 h0
  have e : 2 ^ b = 2 * 2 ^ (b - 1) := by
    obtain ⟨d, rfl⟩ : ∃ d, b = d + 1 := ⟨b - 1, by omega⟩
    rw [Nat.pow_succ, Nat.add_sub_cancel]; omega
  have hp := Nat.two_pow_pos b
  refine leti (y := ((2 ^ b : Nat) : Int)) ?_ (hk (2 ^ b) hp (by omega))
  have := shlN_nat .u64 (x := 1) (a := b) (by show b ≤ 64; omega)
  rw [Nat.one_mul] at this
  rw [show (1 : Int) = ((1 : Nat) : Int) from rfl, this, wrap_u64 (by omega)]
theorem and_lt {m : Nat} {x : Int} (h0 : 0 < m) (h1 : m ≤ 2000000) : ∃ o : Nat, IntKind.i64.wrap (IntKind.u64.wrap (BitVec.ofInt (IntKind.u64.bits) x &&& BitVec.ofInt (IntKind.u64.bits) (IntKind.u64.wrap ((m : Int) - (1 : Int)))).toNat) = (o : Int) ∧ o < m := by
  have e : IntKind.u64.wrap ((m : Int) - (1 : Int)) = ((m - 1 : Nat) : Int) := by rw [wrapU64]; omega
  rw [e]
  have hle : (BitVec.ofInt (IntKind.u64.bits) x &&& BitVec.ofInt (IntKind.u64.bits) ((m - 1 : Nat) : Int)).toNat ≤ m - 1 := by
    rw [BitVec.toNat_and]
    refine Nat.le_trans Nat.and_le_right ?_
    rw [BitVec.toNat_ofInt]
    have : (2 ^ IntKind.u64.bits : Nat) = 18446744073709551616 := by decide
    rw [this]
    omega
  generalize (BitVec.ofInt (IntKind.u64.bits) x &&& BitVec.ofInt (IntKind.u64.bits) ((m - 1 : Nat) : Int)).toNat = o at *
  exact ⟨o, by rw [wrap_u64 (by omega), wrap_i64 (by omega) (by omega)], by omega⟩
section
variable {c : Ctx} {w : World} {L R : List SA} {A : Option Addr} {n k : Nat} {D : List Int}
theorem break_ok (h : St c w (own 3 1 A n k (D.flatMap iv) :: L)) (hn : D.length = n) (hb : n ≤ 1000000) {a b : Nat} (hab : a + 12 < b) (hbn : b ≤ n) {Q : Value → World → Prop}
    (hk : ∀ D' w', Mix a b D D' → St c w' (own 3 1 A n k (D'.flatMap iv) :: L) → Q (.tuple #[]) w') :
    CALL PG 149 [.slice A n k, .int .i64 (a : Int), .int .i64 (b : Int)] w Q := by
  have lD : ∀ {D' : List Int}, Mix a b D D' → D'.length = n := fun h => by rw [h.len, hn]
  refine call149 ?_
  unfold N149
  refine leti (y := ((b - a : Nat) : Int)) (by rw [wrap_i64 (by omega) (by omega)]; omega) ?_
  refine ifdt (by omega) ?_
  refine h.allocZV fun q w' h => ?_
  refine h.stV fun w' h => ?_
  refine pow_ok (by omega) (by omega) fun m hm0 hm => ?_
  (repeat (first | apply Exists.intro (α := Int) | apply Exists.intro (α := Bool) | apply Exists.intro (α := ByteArray) | (apply Exists.intro (α := Option Addr); apply Exists.intro (α := Nat); apply Exists.intro (α := Nat)) | apply Exists.intro (α := Option Addr) | apply Exists.intro (α := Value)))
  refine ⟨rfl, ?_⟩
  refine leti rfl ⟨by decide, ?_⟩
  have ed : IntKind.i64.wrap (a + (IntKind.i64.wrap ((IntKind.i64.wrap (Int.tdiv ((b - a : Nat) : Int) (4 : Int))) * (2 : Int)))) = ((a + 2 * ((b - a) / 4) : Nat) : Int) := by
    rw [Int.tdiv_eq_ediv_of_nonneg (by omega), wrap_i64 (n := ((b - a : Nat) : Int) / 4) (by omega) (by omega), wrap_i64 (n := ((b - a : Nat) : Int) / 4 * 2) (by omega) (by omega), wrap_i64 (by omega) (by omega)]
    omega
  rw [ed]
  generalize hd : (b - a) / 4 = e at *
  have he : 3 ≤ e ∧ 4 * e ≤ b - a := by omega
  refine leti (y := ((a + 2 * e - 1 : Nat) : Int)) (by rw [wrap_i64 (by omega) (by omega)]; omega) ?_
  rw [show IntKind.i64.wrap (((a + 2 * e : Nat) : Int) + 1) = ((a + 2 * e + 1 : Nat) : Int) by rw [wrap_i64 (by omega) (by omega)]; omega]
  refine ⟨fun j x w' => ∃ (i : Nat) (s : Int) (D' : List Int), x = i ∧ j = a + 2 * e + 2 - i ∧ a + 2 * e - 1 ≤ i ∧ i ≤ a + 2 * e + 2 ∧ Mix a b D D' ∧ St c w' (Br.blk q 303 [.int .u64 s] :: own 3 1 A n k (D'.flatMap iv) :: L), ⟨_, a + 2 * e - 1, _, D, rfl, rfl, by omega, by omega, .refl _ _ _, h⟩, ?_⟩
  clear h
  rintro j _ w' ⟨i, s, D', rfl, rfl, hi0, hi1, hM, h⟩
  refine ⟨by decide, ?_⟩
  refine ifd (fun hle => ?_) fun _ => hk D' _ hM h.drop
  refine xnext_ok h .head fun x w' x0 x1 h => ?_
  (repeat (first | apply Exists.intro (α := Int) | apply Exists.intro (α := Bool) | apply Exists.intro (α := ByteArray) | (apply Exists.intro (α := Option Addr); apply Exists.intro (α := Nat); apply Exists.intro (α := Nat)) | apply Exists.intro (α := Option Addr) | apply Exists.intro (α := Value)))
  refine ⟨rfl, ?_⟩
  obtain ⟨o, eo, ho⟩ := and_lt (x := x) hm0 (by omega)
  refine leti eo ?_
  refine ⟨fun y w'' => ∃ o' : Nat, y = o' ∧ o' < b - a ∧ w'' = w', ifd (fun hge => leti (y := ((o - (b - a) : Nat) : Int)) (by rw [wrap_i64 (by omega) (by omega)]; omega) ⟨_, rfl, by omega, rfl⟩) fun hlt => ⟨o, rfl, by omega, rfl⟩, ?_⟩
  rintro _ w' ⟨o', rfl, ho', rfl⟩
  rw [show IntKind.i64.wrap ((a : Int) + (o' : Int)) = ((a + o' : Nat) : Int) by rw [wrap_i64 (by omega) (by omega)]; omega]
  have h := h.swap.drew
  have l := lD hM
  refine h.arrR .head l (by omega) ?_
  refine h.arrR .head l (by omega) ?_
  refine h.arrW .head l (by omega) fun w' h => ?_
  refine h.arrW .head (by rw [List.length_set]; exact l) (by omega) fun w' h => ?_
  exact leti (y := ((i + 1 : Nat) : Int)) (by rw [wrap_i64 (by omega) (by omega)]; omega) ⟨_, by omega, i + 1, x, swp D' i (a + o'), rfl, rfl, by omega, by omega, hM.trans (Mix.swp ⟨by omega, by omega⟩ ⟨by omega, by omega⟩ (by omega)), h.swap⟩
end
end Go.Br
