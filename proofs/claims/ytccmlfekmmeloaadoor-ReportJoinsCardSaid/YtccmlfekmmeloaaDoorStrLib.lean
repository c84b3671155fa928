/- Strings: a blank so many times, blanks at the end taken away. -/
import Derived.Test.YtccmlfekmmeloaaDoorNStrLib
import Derived.Test.YtccmlfekmmeloaaDoorBrOwn
import Derived.Test.YtccmlfekmmeloaaDoorBrSeat
set_option linter.unusedVariables false
set_option linter.unusedSimpArgs false
set_option linter.unnecessarySimpa false
namespace Go.Br
open Go
instance biStrLiba : Zro PG 54 2 32 (.agg #[.pointer none, .slice none 0 0]) := ⟨tiOf (by kernel_rfl)⟩
instance biStrLibb : Zro PG 63 256 256 (.agg #[.bool false, .bool false, .bool false, .bool false, .bool false, .bool false, .bool false, .bool false, .bool false, .bool false, .bool false, .bool false, .bool false, .bool false, .bool false, .bool false, .bool false, .bool false, .bool false, .bool false, .bool false, .bool false, .bool false, .bool false, .bool false, .bool false, .bool false, .bool false, .bool false, .bool false, .bool false, .bool false, .bool false, .bool false, .bool false, .bool false, .bool false, .bool false, .bool false, .bool false, .bool false, .bool false, .bool false, .bool false, .bool false, .bool false, .bool false, .bool false, .bool false, .bool false, .bool false, .bool false, .bool false, .bool false, .bool false, .bool false, .bool false, .bool false, .bool false, .bool false, .bool false, .bool false, .bool false, .bool false, .bool false, .bool false, .bool false, .bool false, .bool false, .bool false, .bool false, .bool false, .bool false, .bool false, .bool false, .bool false, .bool false, .bool false, .bool false, .bool false, .bool false, .bool false, .bool false, .bool false, .bool false, .bool false, .bool false, .bool false, .bool false, .bool false, .bool false, .bool false, .bool false, .bool false, .bool false, .bool false, .bool false, .bool false, .bool false, .bool false, .bool false, .bool false, .bool false, .bool false, .bool false, .bool false, .bool false, .bool false, .bool false, .bool false, .bool false, .bool false, .bool false, .bool false, .bool false, .bool false, .bool false, .bool false, .bool false, .bool false, .bool false, .bool false, .bool false, .bool false, .bool false, .bool false, .bool false, .bool false, .bool false, .bool false, .bool false, .bool false, .bool false, .bool false, .bool false, .bool false, .bool false, .bool false, .bool false, .bool false, .bool false, .bool false, .bool false, .bool false, .bool false, .bool false, .bool false, .bool false, .bool false, .bool false, .bool false, .bool false, .bool false, .bool false, .bool false, .bool false, .bool false, .bool false, .bool false, .bool false, .bool false, .bool false, .bool false, .bool false, .bool false, .bool false, .bool false, .bool false, .bool false, .bool false, .bool false, .bool false, .bool false, .bool false, .bool false, .bool false, .bool false, .bool false, .bool false, .bool false, .bool false, .bool false, .bool false, .bool false, .bool false, .bool false, .bool false, .bool false, .bool false, .bool false, .bool false, .bool false, .bool false, .bool false, .bool false, .bool false, .bool false, .bool false, .bool false, .bool false, .bool false, .bool false, .bool false, .bool false, .bool false, .bool false, .bool false, .bool false, .bool false, .bool false, .bool false, .bool false, .bool false, .bool false, .bool false, .bool false, .bool false, .bool false, .bool false, .bool false, .bool false, .bool false, .bool false, .bool false, .bool false, .bool false, .bool false, .bool false, .bool false, .bool false, .bool false, .bool false, .bool false, .bool false, .bool false, .bool false, .bool false, .bool false, .bool false, .bool false, .bool false, .bool false, .bool false, .bool false, .bool false, .bool false, .bool false, .bool false, .bool false, .bool false, .bool false, .bool false, .bool false, .bool false, .bool false, .bool false]) := ⟨tiOf (by kernel_rfl)⟩
attribute [local irreducible] Addr.add RD RDS RUN RUNU NILC LETB CALL CALLX CALLV

/-- Blanks at the end are taken away. -/
def trimR (l : List UInt8) : List UInt8 := (l.reverse.dropWhile (· == 32)).reverse
theorem trimR_nil : trimR [] = [] := rfl
theorem trimR_blank (l : List UInt8) : trimR (l ++ [32]) = trimR l := by unfold trimR; simp
theorem trimR_other (l : List UInt8) {b : UInt8} (h : b ≠ 32) : trimR (l ++ [b]) = l ++ [b] := by unfold trimR; simp [h]
theorem trimR_le (l : List UInt8) : (trimR l).length ≤ l.length := by
  unfold trimR
  rw [List.length_reverse]
  have := (List.dropWhile_sublist (fun x : UInt8 => x == 32) (l := l.reverse)).length_le
  rwa [List.length_reverse] at this
theorem sbyte_strOf {l : List UInt8} {i : Nat} {b : UInt8} (h : l[i]? = some b) : sbyte (strOf l) (i : Int) = (b.toNat : Int) := by
  unfold sbyte
  have : (strOf l)[(i : Int).toNat]? = some b := by
    rw [Int.toNat_natCast]
    obtain ⟨hi, e⟩ := List.getElem?_eq_some_iff.1 h
    rw [getElem?_pos (strOf l) i (by rw [strOf_size]; exact hi)]
    show some ((strOf l).data[i]'_) = some b
    rw [← e]
    simp [strOf]
  rw [this]
theorem strOf_app (l : List UInt8) (s : ByteArray) : strOf l ++ s = strOf (l ++ s.data.toList) := by rw [← strOf_append, strOf_data]
theorem size_data (s : ByteArray) : s.data.toList.length = s.size := by rw [Array.length_toList]; rfl
theorem mask32 {x : Nat} (h : x < 4294967296) : IntKind.u64.wrap (BitVec.ofInt (IntKind.u64.bits) (x : Int) &&& BitVec.ofInt (IntKind.u64.bits) (4294967295 : Int)).toNat = (x : Int) := by
  have e : (BitVec.ofInt (IntKind.u64.bits) (x : Int) &&& BitVec.ofInt (IntKind.u64.bits) (4294967295 : Int)).toNat = x := by
    rw [BitVec.toNat_and]
    have e1 : (BitVec.ofInt (IntKind.u64.bits) (x : Int)).toNat = x := by
      rw [BitVec.toNat_ofInt]
      have : (2 ^ IntKind.u64.bits : Nat) = 18446744073709551616 := by decide
      rw [this]
      omega
    have e2 : (BitVec.ofInt (IntKind.u64.bits) (4294967295 : Int)).toNat = 2 ^ 32 - 1 := by decide
    rw [e1, e2, Nat.and_two_pow_sub_one_eq_mod]
    omega
  rw [e, wrapU64]
  omega
theorem shr32 {x : Nat} (h : x < 4294967296) : shrN .u64 (x : Int) 32 = 0 := by
  unfold shrN
  rw [show (2 : Int) ^ (min (Int.toNat 32) IntKind.u64.bits) = 4294967296 by decide, Int.fdiv_eq_ediv_of_nonneg _ (by decide)]
  omega
section
variable {c : Ctx} {w : World} {L R : List SA}
theorem mul_ok {x y : Nat} (hx : x < 4294967296) (hy : y < 4294967296) (hxy : x * y < 4294967296) {Q : Value → World → Prop} (hk : Q (.tuple #[.int .u64 0, .int .u64 ((x * y : Nat) : Int)]) w) : CALL PG 24 [.int .u64 (x : Int), .int .u64 (y : Int)] w Q := by
  refine call24 ?_
  unfold N24
  refine call46 ?_
  unfold N46
  have ep : (x : Int) * (y : Int) = ((x * y : Nat) : Int) := by simp
  have w0 : ∀ {z : Nat}, z < 4294967296 → IntKind.u64.wrap (z : Int) = z := fun h => by rw [wrapU64]; omega
  refine leti (mask32 hx) ⟨by decide, leti (shr32 hx) (leti (mask32 hy) ⟨by decide, leti (shr32 hy) (leti (by rw [ep, w0 hxy]) ⟨by decide, ?_⟩)⟩)⟩
  rw [shr32 hxy]
  refine leti (y := ((0 : Nat) : Int)) (by rw [Int.zero_mul]; rfl) (leti (mask32 (by decide)) ⟨by decide, leti (shr32 (by decide)) (leti (y := ((0 : Nat) : Int)) (by rw [Int.mul_zero]; rfl) ⟨by decide, ?_⟩)⟩)
  rw [shr32 (by decide)]
  refine leti (y := 0) (by rw [Int.zero_mul]; rfl) (leti (by rw [ep, w0 hxy]) ?_)
  (repeat (first | apply Exists.intro (α := Int) | apply Exists.intro (α := Bool) | apply Exists.intro (α := ByteArray) | (apply Exists.intro (α := Option Addr); apply Exists.intro (α := Nat); apply Exists.intro (α := Nat)) | apply Exists.intro (α := Option Addr) | apply Exists.intro (α := Value)))
  refine ⟨rfl, ?_⟩
  exact leti rfl (leti rfl (leti rfl (leti rfl hk)))
theorem hasp_ok {s p : ByteArray} (h1 : p.size ≤ s.size) (h2 : cutS s 0 ((p.size : Nat) : Int) = p) {Q : Value → World → Prop} (hk : Q (.bool true) w) : CALL PG 25 [.string s, .string p] w Q := by
  refine call25 ?_
  unfold N25
  refine call47 ?_
  unfold N47
  refine ifdt (by omega) ⟨⟨by decide, by omega, by omega⟩, letb (y := true) (by rw [h2]; simp) ?_⟩
  (repeat (first | apply Exists.intro (α := Int) | apply Exists.intro (α := Bool) | apply Exists.intro (α := ByteArray) | (apply Exists.intro (α := Option Addr); apply Exists.intro (α := Nat); apply Exists.intro (α := Nat)) | apply Exists.intro (α := Option Addr) | apply Exists.intro (α := Value)))
  refine ⟨rfl, ?_⟩
  exact letb rfl hk
theorem spaces {T : ByteArray} (h : T = strOf (List.replicate 128 32)) {n : Nat} (hn : n ≤ 128) : cutS T 0 (n : Int) = strOf (List.replicate n 32) := by
  rw [h, cutS_strOf, List.take_replicate, Nat.min_eq_left hn]
set_option maxRecDepth 10000 in
theorem repeat_ok {n : Nat} (h0 : 2 ≤ n) (hn : n ≤ 128) {Q : Value → World → Prop} (hk : Q (.string (strOf (List.replicate n 32))) w) : CALL PG 19 [.string (ByteArray.mk #[32]), .int .i64 (n : Int)] w Q := by
  refine call19 ?_
  unfold N19
  refine letb (y := false) (by simp; omega) (iff_ rfl (letb (y := false) (by simp; omega) (iff_ rfl ?_)))
  refine ⟨fun w' => w' = w, ifdf (by omega) rfl, ?_⟩
  rintro w rfl
  rw [show IntKind.u64.wrap (n : Int) = ((n : Nat) : Int) by rw [wrapU64]; omega]
  refine mul_ok (x := 1) (by decide) (by omega) (by omega) ?_
  rw [Nat.one_mul]
  (repeat (first | apply Exists.intro (α := Int) | apply Exists.intro (α := Bool) | apply Exists.intro (α := ByteArray) | (apply Exists.intro (α := Option Addr); apply Exists.intro (α := Nat); apply Exists.intro (α := Nat)) | apply Exists.intro (α := Option Addr) | apply Exists.intro (α := Value)))
  refine ⟨rfl, ?_⟩
  refine leti rfl (leti rfl ?_)
  refine ⟨fun w' => w' = w, ifdf (by omega) (ifdf (by omega) rfl), ?_⟩
  rintro w rfl
  refine leti (y := (n : Int)) (by rw [wrap_i64 (by omega) (by omega)]) (iff_ rfl ?_)
  refine ⟨fun _ => False, ⟨⟨by decide, by decide⟩, ?_⟩, fun _ h => h.elim⟩
  refine ⟨fun b w' => b = true ∧ w' = w, letb rfl (ift rfl ⟨rfl, rfl⟩), ?_⟩
  rintro _ w ⟨rfl, rfl⟩
  refine ift rfl ?_
  refine ⟨fun b w' => b = true ∧ w' = w, ifdt (by omega) ?_, ?_⟩
  · refine hasp_ok (of_decide_eq_true (by kernel_rfl)) ?_ ?_
    · exact spaces (n := 1) (by kernel_rfl) (by decide)
    · (repeat (first | apply Exists.intro (α := Int) | apply Exists.intro (α := Bool) | apply Exists.intro (α := ByteArray) | (apply Exists.intro (α := Option Addr); apply Exists.intro (α := Nat); apply Exists.intro (α := Nat)) | apply Exists.intro (α := Option Addr) | apply Exists.intro (α := Value)))
      refine ⟨rfl, ?_⟩
      exact letb rfl ⟨rfl, rfl⟩
  rintro _ w ⟨rfl, rfl⟩
  refine ift rfl ⟨⟨by decide, by omega, ?_⟩, lets (spaces (by kernel_rfl) hn) hk⟩
  show (n : Int) ≤ ((128 : Nat) : Int)
  omega
theorem trimb_ok {l : List UInt8} (hl : l.length ≤ 1000000000) {Q : Value → World → Prop} (hk : Q (.string (strOf (trimR l))) w) : CALL PG 30 [.string (strOf l), .int .u8 32] w Q := by
  refine call30 ?_
  unfold N30
  refine ⟨fun m s w' => ∃ l' : List UInt8, s = strOf l' ∧ m = l'.length ∧ l'.length ≤ l.length ∧ trimR l' = trimR l ∧ w' = w, ⟨_, l, rfl, rfl, Nat.le_refl _, rfl, rfl⟩, ?_⟩
  rintro m _ w' ⟨l', rfl, rfl, hle, ht, rfl⟩
  rw [strOf_size]
  refine ifd (fun hpos => ?_) fun hz => ?_
  rotate_left
  · have : l' = [] := List.length_eq_zero_iff.1 (by omega)
    subst this
    exact lets (by rw [← ht]; rfl) hk
  rw [show IntKind.i64.wrap (((l'.length : Nat) : Int) - 1) = ((l'.length - 1 : Nat) : Int) by rw [wrap_i64 (by omega) (by omega)]; omega]
  refine ⟨⟨by omega, by omega⟩, ?_⟩
  rcases List.eq_nil_or_concat l' with rfl | ⟨q, b, rfl⟩
  · simp at hpos
  rw [List.concat_eq_append] at *
  have lq : (q ++ [b]).length - 1 = q.length := by simp
  rw [lq, sbyte_strOf (b := b) (by simp)]
  refine ifq (fun e => ?_) fun e => ?_
  · have eb : b = 32 := by
      apply UInt8.toNat_inj.1
      show b.toNat = 32
      omega
    subst eb
    rw [trimR_blank] at ht
    refine ⟨⟨by decide, by omega, by simp; omega⟩, lets (y := strOf q) (by rw [cutS_strOf]; simp) ⟨_, by simp, q, rfl, rfl, ?_, ht, rfl⟩⟩
    simp at hle
    omega
  · have eb : b ≠ 32 := fun h => e (by rw [h]; rfl)
    rw [trimR_other q eb] at ht
    exact lets (by rw [ht]) hk
theorem trim_ok {l : List UInt8} (hl : l.length ≤ 1000000000) {Q : Value → World → Prop} (hk : Q (.string (strOf (trimR l))) w) : CALL PG 20 [.string (strOf l), .string (ByteArray.mk #[32])] w Q := by
  refine call20 ?_
  unfold N20
  refine ifb (fun e => ?_) fun _ => iff_ (by kernel_rfl) ?_
  · have : l = [] := strOf_inj.1 e
    subst this
    exact lets rfl hk
  refine ⟨fun _ => False, ?_, fun _ h => h.elim⟩
  refine ift (by kernel_rfl) ⟨⟨by decide, by decide⟩, ?_⟩
  refine ift (by kernel_rfl) ⟨⟨by decide, by decide⟩, ?_⟩
  refine trimb_ok hl ?_
  (repeat (first | apply Exists.intro (α := Int) | apply Exists.intro (α := Bool) | apply Exists.intro (α := ByteArray) | (apply Exists.intro (α := Option Addr); apply Exists.intro (α := Nat); apply Exists.intro (α := Nat)) | apply Exists.intro (α := Option Addr) | apply Exists.intro (α := Value)))
  refine ⟨rfl, ?_⟩
  exact lets rfl hk
end
end Go.Br
