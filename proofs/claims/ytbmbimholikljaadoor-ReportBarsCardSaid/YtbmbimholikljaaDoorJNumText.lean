/- ParsePure, NumText -/
import Derived.Test.YtbmbimholikljaaDoorBrList
import Derived.Test.YtbmbimholikljaaDoorBrSeat
import Derived.Test.YtbmbimholikljaaDoorBrOwn
/- Bytes as numbers, options, a segment; a count in digits: plain. -/
set_option linter.unusedVariables false
set_option linter.unusedSimpArgs false
set_option linter.unnecessarySimpa false
namespace Go.Br
open Go
attribute [local irreducible] Addr.add RD RDS RUN RUNU NILC LETB CALL CALLX CALLV

/-- The number that some bytes are, the highest ahead. -/
def beN (l : List UInt8) : Nat := l.foldl (fun n b => n * 256 + b.toNat) 0
theorem beN_snoc (l : List UInt8) (b : UInt8) : beN (l ++ [b]) = beN l * 256 + b.toNat := by unfold beN; rw [List.foldl_append]; rfl
theorem beN_lt : ∀ (l : List UInt8), beN l < 256 ^ l.length := fun l => by
  rcases List.eq_nil_or_concat l with rfl | ⟨q, b, rfl⟩
  · simp [beN]
  · rw [List.concat_eq_append, beN_snoc, List.length_append, List.length_singleton, Nat.pow_succ]
    have ih := beN_lt q
    have := b.toNat_lt
    omega
termination_by l => l.length
decreasing_by subst_vars; simp
/-- The numbers of these sizes, and what is left. -/
def getS : List Nat → List UInt8 → Option (List Nat × List UInt8)
  | [], b => some ([], b)
  | n :: r, b => if n < 1 ∨ 8 < n ∨ b.length < n then none else (getS r (b.drop n)).map fun p => (beN (b.take n) :: p.1, p.2)
/-- The options of some bytes. -/
def optsS : List UInt8 → Option (List (Int × List UInt8))
  | [] => some []
  | [_] => none
  | k :: m :: r => if k = 0 ∨ r.length < m.toNat then none else (optsS (r.drop m.toNat)).map fun l => ((k.toNat : Int), r.take m.toNat) :: l
termination_by l => l.length
decreasing_by simp; omega
/-- A count in digits. -/
def digs (n : Nat) : List UInt8 := if n < 10 then [UInt8.ofNat (48 + n)] else digs (n / 10) ++ [UInt8.ofNat (48 + n % 10)]
termination_by n
decreasing_by omega
theorem digs_lt {n : Nat} (h : n < 10) : digs n = [UInt8.ofNat (48 + n)] := by rw [digs, if_pos h]
theorem digs_ge {n : Nat} (h : 10 ≤ n) : digs n = digs (n / 10) ++ [UInt8.ofNat (48 + n % 10)] := by rw [digs, if_neg (by omega)]
def digsI (n : Int) : List UInt8 := digs n.toNat
end Go.Br

/- What the code of some functions says, as the core reads it; each reading is checked by the kernel. -/
set_option linter.unusedVariables false
set_option maxRecDepth 100000
namespace Go.Br
open Go Go.Proofs

/-- brougham/num.Text -/
def N13 (n : Int) (w : World) (Q : Value → World → Prop) : Prop :=
 RUNA PG (Instr.alloc 44 true (.tuple #[])) w fun a3 w1 =>
 LETI (maxN n (0 : Int)) fun n1 =>
 ∃ I : Nat → Int → Int → World → Prop,
 (∃ m, I m n1 (20 : Int) w1) ∧
 (∀ m1 (n2 : Int) (atv : Int) (w2 : World), I m1 n2 atv w2 → (LETI (IntKind.i64.wrap (atv - (1 : Int))) fun atv1 =>
 NEED ((10 : Int) ≠ 0)
 (NEED (0 ≤ atv1 ∧ atv1 < ((20 : Nat) : Int))
 (RUNU PG (storeVar 5 (Addr.add a3 (Int.toNat atv1 * 1)) (.int .u8 (IntKind.u8.wrap (IntKind.i64.wrap ((48 : Int) + (Int.tmod n2 (10 : Int))))))) w2 fun w3 =>
 IFB (decide (n2 < (10 : Int)))
 (RDL PG (Instr.sliceAt 44 (.pointer (some a3)) (some (.int .i64 atv1)) none none) w3 fun x20 x20N x20C =>
 RDT PG (convert 45 9 (.slice x20 x20N x20C)) w3 fun x21 =>
 LETS x21 fun x2 =>
 Q (.string x2) w3)
 (NEED ((10 : Int) ≠ 0)
 (LETI (IntKind.i64.wrap (Int.tdiv n2 (10 : Int))) fun n3 =>
 ∃ m2, m2 < m1 ∧ I m2 n3 atv1 w3))))))
theorem eq13 : ∀ (n : Int) (w : World) (Q : Value → World → Prop), vcF PG TB Tryd.f13 (.s .nil (.s .nil (.s .nil (.s .nil (.u (.loop [(0, 3), (4, 3)] .nil)))))) [(.int .i64 n)] w Q = N13 n w Q := by intros; kernel_rfl
theorem call13 {n : Int} {w : World} {Q : Value → World → Prop} (hN : N13 n w Q) : CALL PG 13 [(.int .i64 n)] w Q := calls_vc tabOk Tryd.func13 (by rw [eq13]; exact hN)

/-- brougham/broughamref01.Text -/
def N15 (n : Int) (w : World) (Q : Value → World → Prop) : Prop :=
 IFB (decide (n < (10 : Int)))
 (IFB (decide (n < (0 : Int)))
 (NEED (0 ≤ (0 : Int) ∧ (0 : Int) ≤ (IntKind.i64.wrap ((0 : Int) + (1 : Int))) ∧ (IntKind.i64.wrap ((0 : Int) + (1 : Int))) ≤ (ByteArray.mk #[48, 49, 50, 51, 52, 53, 54, 55, 56, 57]).size)
 (LETS (cutS (ByteArray.mk #[48, 49, 50, 51, 52, 53, 54, 55, 56, 57]) (0 : Int) (IntKind.i64.wrap ((0 : Int) + (1 : Int)))) fun x2 =>
 Q (.string x2) w))
 (NEED (0 ≤ n ∧ n ≤ (IntKind.i64.wrap (n + (1 : Int))) ∧ (IntKind.i64.wrap (n + (1 : Int))) ≤ (ByteArray.mk #[48, 49, 50, 51, 52, 53, 54, 55, 56, 57]).size)
 (LETS (cutS (ByteArray.mk #[48, 49, 50, 51, 52, 53, 54, 55, 56, 57]) n (IntKind.i64.wrap (n + (1 : Int)))) fun x2v1 =>
 Q (.string x2v1) w)))
 (∃ S : World → Prop, S (w.drew) ∧
 (NEED ((10 : Int) ≠ 0)
 (NEED ((10 : Int) ≠ 0)
 (NEED ((10 : Int) ≠ 0)
 (NEED (0 ≤ (Int.tmod n (10 : Int)) ∧ (Int.tmod n (10 : Int)) ≤ (IntKind.i64.wrap ((Int.tmod n (10 : Int)) + (1 : Int))) ∧ (IntKind.i64.wrap ((Int.tmod n (10 : Int)) + (1 : Int))) ≤ (ByteArray.mk #[48, 49, 50, 51, 52, 53, 54, 55, 56, 57]).size)
 (CALL PG 15 [(.int .i64 (IntKind.i64.wrap (Int.tdiv n (10 : Int))))] (w.drew) fun v w1 =>
 ∃ x13 : ByteArray, v = (.string x13) ∧
 (∃ S1 : World → Prop, (∀ x, S1 x → S x) ∧ S1 w1 ∧
 (NEED (((x13.size + (cutS (ByteArray.mk #[48, 49, 50, 51, 52, 53, 54, 55, 56, 57]) (Int.tmod n (10 : Int)) (IntKind.i64.wrap ((Int.tmod n (10 : Int)) + (1 : Int)))).size : Nat) : Int) ≤ IntKind.i64.max)
 (LETS (x13 ++ (cutS (ByteArray.mk #[48, 49, 50, 51, 52, 53, 54, 55, 56, 57]) (Int.tmod n (10 : Int)) (IntKind.i64.wrap ((Int.tmod n (10 : Int)) + (1 : Int))))) fun x2v2 =>
 Q (.string x2v2) w1)))))))))
theorem eq15 : ∀ (n : Int) (w : World) (Q : Value → World → Prop), vcF PG TB Tryd.f15 .nil [(.int .i64 n)] w Q = N15 n w Q := by intros; kernel_rfl
theorem call15 {n : Int} {w : World} {Q : Value → World → Prop} (hN : N15 n w Q) : CALL PG 15 [(.int .i64 n)] w Q := calls_vc tabOk Tryd.func15 (by rw [eq15]; exact hN)

end Go.Br

/- A count in digits: of the program and of the document. -/
set_option linter.unusedVariables false
set_option linter.unusedSimpArgs false
set_option linter.unnecessarySimpa false
namespace Go.Br
open Go
instance biNumTexta : Zro PG 44 20 20 (.agg #[.int .u8 0, .int .u8 0, .int .u8 0, .int .u8 0, .int .u8 0, .int .u8 0, .int .u8 0, .int .u8 0, .int .u8 0, .int .u8 0, .int .u8 0, .int .u8 0, .int .u8 0, .int .u8 0, .int .u8 0, .int .u8 0, .int .u8 0, .int .u8 0, .int .u8 0, .int .u8 0]) := ⟨tiOf (by kernel_rfl)⟩
attribute [local irreducible] Addr.add RD RDS RUN RUNU NILC LETB CALL CALLX CALLV

theorem tiA20 : TI PG 44 20 20 (.agg #[.int .u8 0, .int .u8 0, .int .u8 0, .int .u8 0, .int .u8 0, .int .u8 0, .int .u8 0, .int .u8 0, .int .u8 0, .int .u8 0, .int .u8 0, .int .u8 0, .int .u8 0, .int .u8 0, .int .u8 0, .int .u8 0, .int .u8 0, .int .u8 0, .int .u8 0, .int .u8 0]) := tiOf (by kernel_rfl)
theorem RDL.arrFrom {P : Program} {w : World} {t e : TypeId} {N B i : Nat} {K : Option Addr → Nat → Nat → Prop} (hi : i < N) (hk : K (some (Addr.add ⟨B, 0, none⟩ i)) (N - i) (N - i)) (hu : P.underlying t = some (.array N e) := by kernel_rfl) (hz : sizeAt P e = some 1 := by kernel_rfl) :
    RDL P (Instr.sliceAt t (.pointer (some ⟨B, 0, none⟩)) (some (.int .i64 (i : Int))) none none) w K := by
  unfold sizeAt at hz
  cases hi2 : P.info? e with
  | none => simp [hi2] at hz
  | some inf =>
    have hz2 : inf.size = 1 := by simpa [hi2] using hz
    have hb : (Instr.sliceBounds false N N (some (.int .i64 (i : Int))) none none).run P w = .ok (i, N, N) w := by
      unfold Instr.sliceBounds
      simp [sliceBound_ok (P := P) (k := .i64) (show 0 ≤ (i : Int) by omega) (show (i : Int) ≤ (N : Int) by omega)]
    unfold RDL
    refine RD.of (v := .slice (some (Addr.add ⟨B, 0, none⟩ i)) (N - i) (N - i)) ?_ ⟨_, _, _, rfl, hk⟩
    simp [Instr.sliceAt, Instr.sureAddr, run_und hu, hb, sizeOf, run_info hi2, hz2, show ¬ N = i by omega]
theorem RdIn.blkFrom {L : List SA} {B i : Nat} {T : TypeId} {X Y : List Value} (hi : X.length = i) : RdIn (Br.blk B T (X ++ Y) :: L) (some (Addr.add ⟨B, 0, none⟩ i)) Y := fun c w h j v hj => by
  refine ⟨_, rfl, ?_⟩
  have hb : Blk w B T (X ++ Y) := h.blk .head
  rw [add_lit, add_lit, hb.cell, List.getElem?_append_right (by omega)]
  rw [show 0 + i + j - X.length = j by omega]
  exact hj
theorem set_rep {a : Nat} {v z : Value} {Y : List Value} : (List.replicate (a + 1) z ++ Y).set a v = List.replicate a z ++ v :: Y := by
  rw [List.set_append_left _ _ (by simp), List.replicate_succ', List.set_append_right _ _ (by simp)]
  simp
theorem digs_len : ∀ n, (digs n).length ≤ n + 1 := fun n => by
  rcases Nat.lt_or_ge n 10 with h | h
  · rw [digs_lt h]; simp
  · have := digs_len (n / 10)
    rw [digs_ge h, List.length_append, List.length_singleton]
    omega
termination_by n => n
decreasing_by omega
theorem dig10 {d : Nat} (h : d < 10) : cutS (ByteArray.mk #[48, 49, 50, 51, 52, 53, 54, 55, 56, 57]) (d : Int) ((d : Int) + 1) = strOf [UInt8.ofNat (48 + d)] := by
  match d, h with
  | 0, _ => rfl
  | 1, _ => rfl
  | 2, _ => rfl
  | 3, _ => rfl
  | 4, _ => rfl
  | 5, _ => rfl
  | 6, _ => rfl
  | 7, _ => rfl
  | 8, _ => rfl
  | 9, _ => rfl
  | n + 10, h => omega
theorem dig8 {d : Nat} (h : d < 10) : Value.int .u8 (IntKind.u8.wrap (IntKind.i64.wrap (48 + (d : Int)))) = bv (UInt8.ofNat (48 + d)) := by
  match d, h with
  | 0, _ => rfl
  | 1, _ => rfl
  | 2, _ => rfl
  | 3, _ => rfl
  | 4, _ => rfl
  | 5, _ => rfl
  | 6, _ => rfl
  | 7, _ => rfl
  | 8, _ => rfl
  | 9, _ => rfl
  | n + 10, h => omega
section
variable {c : Ctx} {w : World} {L R : List SA} {A B : Option Addr} {n C m d k : Nat}
theorem text_ok (h : St c w L) {n : Int} (hn : n ≤ 1000000000000000000) {Q : Value → World → Prop} (hk : ∀ w', St c w' L → Q (.string (strOf (digsI n))) w') : CALL PG 13 [.int .i64 n] w Q := by
  refine call13 ?_
  unfold N13
  refine h.allocG tiA20 fun p w' h => ?_
  have e0 : maxN n 0 = (n.toNat : Int) := by unfold maxN; split <;> omega
  refine leti e0 ?_
  unfold digsI at hk
  have hn2 : n.toNat ≤ 1000000000000000000 := by omega
  generalize n.toNat = N at hk hn2
  have e20 : (10 : Nat) ^ 20 = 100000000000000000000 := by decide
  refine ⟨fun m x y w' => ∃ (r a : Nat) (D : List UInt8), x = r ∧ y = a ∧ a = m ∧ r ≤ N ∧ r < 10 ^ a ∧ (1 ≤ r ∨ a = 20) ∧ digs N = digs r ++ D ∧ D.length + a = 20 ∧ St c w' (blk p 44 (List.replicate a (Value.int .u8 0) ++ bvs D) :: L), ⟨_, N, 20, [], rfl, rfl, rfl, Nat.le_refl _, by omega, .inr rfl, by simp, rfl, h⟩, ?_⟩
  clear h
  rintro m _ _ w' ⟨r, a, D, rfl, rfl, ema, hrN, hr, ha, hd, hD, h⟩
  subst ema
  obtain ⟨a, rfl⟩ : ∃ b, a = b + 1 := by
    match a, ha, hr with
    | 0, ha, hr => exfalso; rw [Nat.pow_zero] at hr; omega
    | b + 1, _, _ => exact ⟨b, rfl⟩
  have hm : Int.tmod (r : Int) 10 = ((r % 10 : Nat) : Int) := by rw [Int.tmod_eq_emod_of_nonneg (by omega)]; omega
  have hq : Int.tdiv (r : Int) 10 = ((r / 10 : Nat) : Int) := by rw [Int.tdiv_eq_ediv_of_nonneg (by omega)]; omega
  refine leti (y := (a : Int)) (by rw [wrap_i64 (by omega) (by omega)]; omega) ⟨by decide, ⟨by omega, by omega⟩, ?_⟩
  rw [hm, hq, dig8 (Nat.mod_lt _ (by decide)), Int.toNat_natCast, Nat.mul_one]
  refine h.st a (hv := rfl) (ho := by simp; omega) fun w' h => ?_
  rw [set_rep] at h
  have h : St c w' (blk p 44 (List.replicate a (Value.int .u8 0) ++ bvs (UInt8.ofNat (48 + r % 10) :: D)) :: L) := h
  refine ifd (fun hlt => ?_) fun hge => ⟨by decide, ?_⟩
  · refine RDL.arrFrom (e := 5) (i := a) (N := 20) (by omega) ?_
    refine h.bytesToString (e := 5) (bs := UInt8.ofNat (48 + r % 10) :: D) (RdIn.blkFrom (by simp)) (by simp; omega) ?_
    refine lets rfl ?_
    rw [digs_lt (n := r) (by omega)] at hd
    rw [show r % 10 = r by omega]
    rw [hd] at hk
    exact hk _ h.drop
  · have h20 : (10 : Nat) ^ (a + 1) ≤ 10 ^ 20 := Nat.pow_le_pow_right (by decide) (by omega)
    refine leti (y := ((r / 10 : Nat) : Int)) (by rw [wrap_i64 (by omega) (by omega)]) ⟨_, ?_, r / 10, a, UInt8.ofNat (48 + r % 10) :: D, rfl, rfl, rfl, by omega, ?_, .inl (by omega), ?_, by simp; omega, h⟩
    · omega
    · rw [Nat.pow_succ] at hr
      omega
    · rw [hd, digs_ge (n := r) (by omega)]
      simp
theorem rtext_ok : ∀ {w : World} {L : List SA} (h : St c w L) {n : Int} (hn : n ≤ 1000000000000000000) {Q : Value → World → Prop} (hk : ∀ w', St c w' L → Q (.string (strOf (digsI n))) w'), CALL PG 15 [.int .i64 n] w Q := fun {w L} h {n} hn {Q} hk => by
  refine call15 ?_
  unfold N15
  have es : (ByteArray.mk #[48, 49, 50, 51, 52, 53, 54, 55, 56, 57]).size = 10 := rfl
  refine ifd (fun hlt => ?_) fun hge => ?_
  · refine ifd (fun hneg => ?_) fun hpos => ?_
    · refine ⟨⟨by decide, by decide, by decide⟩, lets rfl ?_⟩
      have e : digsI n = [48] := by unfold digsI; rw [show n.toNat = 0 by omega, digs_lt (by decide)]; rfl
      rw [e] at hk
      exact hk _ h
    · obtain ⟨d, rfl⟩ : ∃ d : Nat, n = d := ⟨n.toNat, by omega⟩
      rw [wrap_i64 (by omega) (by omega)]
      refine ⟨⟨by omega, by omega, by rw [es]; omega⟩, lets (dig10 (by omega)) ?_⟩
      have e : digsI (d : Int) = [UInt8.ofNat (48 + d)] := by unfold digsI; rw [Int.toNat_natCast, digs_lt (by omega)]
      rw [e] at hk
      exact hk _ h
  · obtain ⟨N, rfl⟩ : ∃ d : Nat, n = d := ⟨n.toNat, by omega⟩
    have hm : Int.tmod (N : Int) 10 = ((N % 10 : Nat) : Int) := by rw [Int.tmod_eq_emod_of_nonneg (by omega)]; omega
    have hq : Int.tdiv (N : Int) 10 = ((N / 10 : Nat) : Int) := by rw [Int.tdiv_eq_ediv_of_nonneg (by omega)]; omega
    rw [hm, hq, wrap_i64 (n := ((N % 10 : Nat) : Int) + 1) (by omega) (by omega), wrap_i64 (n := ((N / 10 : Nat) : Int)) (by omega) (by omega), dig10 (Nat.mod_lt _ (by decide))]
    refine ⟨fun _ => True, trivial, by decide, by decide, by decide, ⟨by omega, by omega, by rw [es]; omega⟩, ?_⟩
    refine rtext_ok h.drew (n := ((N / 10 : Nat) : Int)) (by omega) fun w' h => ?_
    (repeat (first | apply Exists.intro (α := Int) | apply Exists.intro (α := Bool) | apply Exists.intro (α := ByteArray) | (apply Exists.intro (α := Option Addr); apply Exists.intro (α := Nat); apply Exists.intro (α := Nat)) | apply Exists.intro (α := Option Addr) | apply Exists.intro (α := Value)))
    refine ⟨rfl, ?_⟩
    have hlen := digs_len (N / 10)
    have e : digsI (N : Int) = digsI ((N / 10 : Nat) : Int) ++ [UInt8.ofNat (48 + N % 10)] := by
      unfold digsI
      rw [Int.toNat_natCast, Int.toNat_natCast, digs_ge (by omega)]
    have e2 : digsI ((N / 10 : Nat) : Int) = digs (N / 10) := by unfold digsI; rw [Int.toNat_natCast]
    have e3 : IntKind.i64.max = 9223372036854775807 := by decide
    refine ⟨fun _ => True, fun _ h => h, trivial, ?_, lets rfl ?_⟩
    · rw [strOf_size, strOf_size, e3, e2, List.length_singleton]
      omega
    · rw [strOf_append, ← e]
      exact hk _ h
termination_by w L h n => n.toNat
decreasing_by omega
end
end Go.Br
