/- A count in digits: of the program and of the document. -/
import Derived.Test.YtedgfhklpfmjaaaGreatNNumText
import Derived.Test.YtedgfhklpfmjaaaGreatJSegEnc
import Derived.Test.YtedgfhklpfmjaaaGreatBrOwn
import Derived.Test.YtedgfhklpfmjaaaGreatBrSeat
set_option linter.unusedVariables false
set_option linter.unusedSimpArgs false
set_option linter.unnecessarySimpa false
namespace Go.Br
open Go
instance biNumTexta : Zro PG 94 20 20 (.agg #[.int .u8 0, .int .u8 0, .int .u8 0, .int .u8 0, .int .u8 0, .int .u8 0, .int .u8 0, .int .u8 0, .int .u8 0, .int .u8 0, .int .u8 0, .int .u8 0, .int .u8 0, .int .u8 0, .int .u8 0, .int .u8 0, .int .u8 0, .int .u8 0, .int .u8 0, .int .u8 0]) := ⟨tiOf (by kernel_rfl)⟩
attribute [local irreducible] Addr.add RD RDS RUN RUNU NILC LETB CALL CALLX CALLV

theorem tiA20 : TI PG 94 20 20 (.agg #[.int .u8 0, .int .u8 0, .int .u8 0, .int .u8 0, .int .u8 0, .int .u8 0, .int .u8 0, .int .u8 0, .int .u8 0, .int .u8 0, .int .u8 0, .int .u8 0, .int .u8 0, .int .u8 0, .int .u8 0, .int .u8 0, .int .u8 0, .int .u8 0, .int .u8 0, .int .u8 0]) := tiOf (by kernel_rfl)
theorem RDL.arrFrom {P : Program} {w : World} {t e : TypeId} {N B i : Nat} {K : Option Addr → Nat → Nat → Prop} (hi : i < N) (hk : K (some (Addr.add ⟨B, 0, none⟩ i)) (N - i) (N - i)) (hu : P.underlying t = some (.array N e) := by kernel_rfl) (hz : sizeAt P e = some 1 := by kernel_rfl) :
    RDL P (Instr.sliceAt t (.pointer (some ⟨B, 0, none⟩)) (some (.int .i64 (i : Int))) none none) w K := by
  unfold sizeAt at hz
  cases hi2 : P.info? e with
  | none => simp [hi2] at hz
  | some inf =>
    have hz2 : inf.size = 1 := by simpa [hi2] using hz
    have hb : (Instr.sliceBounds false N N (some (.int .i64 (i : Int))) none none).run P w = .ok (i, N, N) w := by
      unfold Instr.sliceBounds
      simp [sliceBound_ok (P := P) (k := .i64) (show 0 ≤ (i : Int) by omega) (show (i : Int) ≤ (N : Int) by omega)]
    unfold RDL
    refine RD.of (v := .slice (some (Addr.add ⟨B, 0, none⟩ i)) (N - i) (N - i)) ?_ ⟨_, _, _, rfl, hk⟩
    simp [Instr.sliceAt, Instr.sureAddr, run_und hu, hb, sizeOf, run_info hi2, hz2, show ¬ N = i by omega]
theorem RdIn.blkFrom {L : List SA} {B i : Nat} {T : TypeId} {X Y : List Value} (hi : X.length = i) : RdIn (Br.blk B T (X ++ Y) :: L) (some (Addr.add ⟨B, 0, none⟩ i)) Y := fun c w h j v hj => by
  refine ⟨_, rfl, ?_⟩
  have hb : Blk w B T (X ++ Y) := h.blk .head
  rw [add_lit, add_lit, hb.cell, List.getElem?_append_right (by omega)]
  rw [show 0 + i + j - X.length = j by omega]
  exact hj
theorem set_rep {a : Nat} {v z : Value} {Y : List Value} : (List.replicate (a + 1) z ++ Y).set a v = List.replicate a z ++ v :: Y := by
  rw [List.set_append_left _ _ (by simp), List.replicate_succ', List.set_append_right _ _ (by simp)]
  simp
theorem digs_len : ∀ n, (digs n).length ≤ n + 1 := fun n => by
  rcases Nat.lt_or_ge n 10 with h | h
  · rw [digs_lt h]; simp
  · have := digs_len (n / 10)
    rw [digs_ge h, List.length_append, List.length_singleton]
    omega
termination_by n => n
decreasing_by omega
theorem dig10 {d : Nat} (h : d < 10) : cutS (ByteArray.mk #[48, 49, 50, 51, 52, 53, 54, 55, 56, 57]) (d : Int) ((d : Int) + 1) = strOf [UInt8.ofNat (48 + d)] := by
  match d, h with
  | 0, _ => rfl
  | 1, _ => rfl
  | 2, _ => rfl
  | 3, _ => rfl
  | 4, _ => rfl
  | 5, _ => rfl
  | 6, _ => rfl
  | 7, _ => rfl
  | 8, _ => rfl
  | 9, _ => rfl
  | n + 10, h => omega
theorem dig8 {d : Nat} (h : d < 10) : Value.int .u8 (IntKind.u8.wrap (IntKind.i64.wrap (48 + (d : Int)))) = bv (UInt8.ofNat (48 + d)) := by
  match d, h with
  | 0, _ => rfl
  | 1, _ => rfl
  | 2, _ => rfl
  | 3, _ => rfl
  | 4, _ => rfl
  | 5, _ => rfl
  | 6, _ => rfl
  | 7, _ => rfl
  | 8, _ => rfl
  | 9, _ => rfl
  | n + 10, h => omega
section
variable {c : Ctx} {w : World} {L R : List SA} {A B : Option Addr} {n C m d k : Nat}
theorem text_ok (h : St c w L) {n : Int} (hn : n ≤ 1000000000000000000) {Q : Value → World → Prop} (hk : ∀ w', St c w' L → Q (.string (strOf (digsI n))) w') : CALL PG 20 [.int .i64 n] w Q := by
  refine call20 ?_
  unfold N20
  refine h.allocG tiA20 fun p w' h => ?_
  have e0 : maxN n 0 = (n.toNat : Int) := by unfold maxN; split <;> omega
  refine leti e0 ?_
  unfold digsI at hk
  have hn2 : n.toNat ≤ 1000000000000000000 := by omega
  generalize n.toNat = N at hk hn2
  have e20 : (10 : Nat) ^ 20 = 100000000000000000000 := by decide
  refine ⟨fun m x y w' => ∃ (r a : Nat) (D : List UInt8), x = r ∧ y = a ∧ a = m ∧ r ≤ N ∧ r < 10 ^ a ∧ (1 ≤ r ∨ a = 20) ∧ digs N = digs r ++ D ∧ D.length + a = 20 ∧ St c w' (blk p 94 (List.replicate a (Value.int .u8 0) ++ bvs D) :: L), ⟨_, N, 20, [], rfl, rfl, rfl, Nat.le_refl _, by omega, .inr rfl, by simp, rfl, h⟩, ?_⟩
  clear h
  rintro m _ _ w' ⟨r, a, D, rfl, rfl, ema, hrN, hr, ha, hd, hD, h⟩
  subst ema
  obtain ⟨a, rfl⟩ : ∃ b, a = b + 1 := by
    match a, ha, hr with
    | 0, ha, hr => exfalso; rw [Nat.pow_zero] at hr; omega
    | b + 1, _, _ => exact ⟨b, rfl⟩
  have hm : Int.tmod (r : Int) 10 = ((r % 10 : Nat) : Int) := by rw [Int.tmod_eq_emod_of_nonneg (by omega)]; omega
  have hq : Int.tdiv (r : Int) 10 = ((r / 10 : Nat) : Int) := by rw [Int.tdiv_eq_ediv_of_nonneg (by omega)]; omega
  refine leti (y := (a : Int)) (by rw [wrap_i64 (by omega) (by omega)]; omega) ⟨by decide, ⟨by omega, by omega⟩, ?_⟩
  rw [hm, hq, dig8 (Nat.mod_lt _ (by decide)), Int.toNat_natCast, Nat.mul_one]
  refine h.st a (hv := rfl) (ho := by simp; omega) fun w' h => ?_
  rw [set_rep] at h
  have h : St c w' (blk p 94 (List.replicate a (Value.int .u8 0) ++ bvs (UInt8.ofNat (48 + r % 10) :: D)) :: L) := h
  refine ifd (fun hlt => ?_) fun hge => ⟨by decide, ?_⟩
  · refine RDL.arrFrom (e := 5) (i := a) (N := 20) (by omega) ?_
    refine h.bytesToString (e := 5) (bs := UInt8.ofNat (48 + r % 10) :: D) (RdIn.blkFrom (by simp)) (by simp; omega) ?_
    refine lets rfl ?_
    rw [digs_lt (n := r) (by omega)] at hd
    rw [show r % 10 = r by omega]
    rw [hd] at hk
    exact hk _ h.drop
  · have h20 : (10 : Nat) ^ (a + 1) ≤ 10 ^ 20 := Nat.pow_le_pow_right (by decide) (by omega)
    refine leti (y := ((r / 10 : Nat) : Int)) (by rw [wrap_i64 (by omega) (by omega)]) ⟨_, ?_, r / 10, a, UInt8.ofNat (48 + r % 10) :: D, rfl, rfl, rfl, by omega, ?_, .inl (by omega), ?_, by simp; omega, h⟩
    · omega
    · rw [Nat.pow_succ] at hr
      omega
    · rw [hd, digs_ge (n := r) (by omega)]
      simp
end
end Go.Br
