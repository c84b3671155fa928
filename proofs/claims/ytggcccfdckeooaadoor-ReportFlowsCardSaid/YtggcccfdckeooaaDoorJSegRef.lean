/- ParsePure, SegRep, SegGet, SegParse, SegRef -/
import Derived.Test.YtggcccfdckeooaaDoorBrList
import Derived.Test.YtggcccfdckeooaaDoorBrOwn
import Derived.Test.YtggcccfdckeooaaDoorBrSeat
/- Bytes as numbers, options, a segment; a count in digits: plain. -/
set_option linter.unusedVariables false
set_option linter.unusedSimpArgs false
set_option linter.unnecessarySimpa false
namespace Go.Br
open Go
attribute [local irreducible] Addr.add RD RDS RUN RUNU NILC LETB CALL CALLX CALLV

/-- The number that some bytes are, the highest ahead. -/
def beN (l : List UInt8) : Nat := l.foldl (fun n b => n * 256 + b.toNat) 0
theorem beN_snoc (l : List UInt8) (b : UInt8) : beN (l ++ [b]) = beN l * 256 + b.toNat := by unfold beN; rw [List.foldl_append]; rfl
theorem beN_lt : ∀ (l : List UInt8), beN l < 256 ^ l.length := fun l => by
  rcases List.eq_nil_or_concat l with rfl | ⟨q, b, rfl⟩
  · simp [beN]
  · rw [List.concat_eq_append, beN_snoc, List.length_append, List.length_singleton, Nat.pow_succ]
    have ih := beN_lt q
    have := b.toNat_lt
    omega
termination_by l => l.length
decreasing_by subst_vars; simp
/-- The numbers of these sizes, and what is left. -/
def getS : List Nat → List UInt8 → Option (List Nat × List UInt8)
  | [], b => some ([], b)
  | n :: r, b => if n < 1 ∨ 8 < n ∨ b.length < n then none else (getS r (b.drop n)).map fun p => (beN (b.take n) :: p.1, p.2)
/-- The options of some bytes. -/
def optsS : List UInt8 → Option (List (Int × List UInt8))
  | [] => some []
  | [_] => none
  | k :: m :: r => if k = 0 ∨ r.length < m.toNat then none else (optsS (r.drop m.toNat)).map fun l => ((k.toNat : Int), r.take m.toNat) :: l
termination_by l => l.length
decreasing_by simp; omega
/-- A count in digits. -/
def digs (n : Nat) : List UInt8 := if n < 10 then [UInt8.ofNat (48 + n)] else digs (n / 10) ++ [UInt8.ofNat (48 + n % 10)]
termination_by n
decreasing_by omega
theorem digs_lt {n : Nat} (h : n < 10) : digs n = [UInt8.ofNat (48 + n)] := by rw [digs, if_pos h]
theorem digs_ge {n : Nat} (h : 10 ≤ n) : digs n = digs (n / 10) ++ [UInt8.ofNat (48 + n % 10)] := by rw [digs, if_neg (by omega)]
def digsI (n : Int) : List UInt8 := digs n.toNat
end Go.Br

/- A segment in memory. -/
set_option linter.unusedVariables false
set_option linter.unusedSimpArgs false
set_option linter.unnecessarySimpa false
namespace Go.Br
open Go
attribute [local irreducible] Addr.add RD RDS RUN RUNU NILC LETB CALL CALLX CALLV

theorem tiOpx : TI PG 97 2 32 (.agg #[.int .u8 0, .slice none 0 0]) := tiOf (by kernel_rfl)
theorem tiU8 : TI PG 5 1 1 (.int .u8 0) := tiOf (by kernel_rfl)
theorem huOpx : PG.underlying 64 = some (.slice 97) := by kernel_rfl
theorem huBytes : PG.underlying 33 = some (.slice 5) := by kernel_rfl
structure Opx where
  kind : Int
  body : Option Addr
  bodyC : Nat
  bodys : List UInt8
def opx (x : Opx) : List Value := [.int .u8 x.kind, .slice x.body x.bodys.length x.bodyC]
abbrev opxv (x : Opx) : Value := .agg #[.int .u8 x.kind, .slice x.body x.bodys.length x.bodyC]
theorem opx_length (x : Opx) : (opx x).length = 2 := rfl
theorem opx_flat1 (x : Opx) : Flat (opx x) := by intro v hv; simp [opx] at hv; rcases hv with rfl | rfl <;> rfl
theorem opx_flat (L : List Opx) : Flat (L.flatMap opx) := by
  intro v hv
  simp only [List.mem_flatMap] at hv
  obtain ⟨x, _, hx⟩ := hv
  exact opx_flat1 x v hx
/-- A segment as it is held. -/
structure Sg where
  src : Int
  dst : Int
  seq : Int
  ack : Int
  flags : Int
  oA : Option Addr
  oC : Nat
  os : List Opx
  dA : Option Addr
  dC : Nat
  ds : List UInt8
abbrev sgv (s : Sg) : Value := .agg #[.int .u16 s.src, .int .u16 s.dst, .int .u32 s.seq, .int .u32 s.ack, .int .u8 s.flags, .slice s.oA s.os.length s.oC, .slice s.dA s.ds.length s.dC]
def SgAt (s : Sg) (w : World) : Prop := Row w s.oA (s.os.flatMap opx) ∧ (∀ o ∈ s.os, Row w o.body (bvs o.bodys)) ∧ Row w s.dA (bvs s.ds)
abbrev sgp (s : Sg) : SA := Br.ro (SgAt s)
/-- What a segment says. -/
structure SgP where
  src : Int
  dst : Int
  seq : Int
  ack : Int
  flags : Int
  os : List (Int × List UInt8)
  ds : List UInt8
def opl (o : Opx) : Int × List UInt8 := (o.kind, o.bodys)
def Sg.pl (s : Sg) : SgP := ⟨s.src, s.dst, s.seq, s.ack, s.flags, s.os.map opl, s.ds⟩
/-- The segment of some bytes, or the error. -/
def parseS (b : List UInt8) : Except Int SgP :=
  if b.length < 14 ∨ 7 < (b.getD 12 0).toNat then .error 70
  else if 200 < (b.getD 13 0).toNat ∨ b.length - 14 < (b.getD 13 0).toNat then .error 71
  else match optsS ((b.drop 14).take (b.getD 13 0).toNat) with
    | none => .error 71
    | some os => if 1024 < b.length - 14 - (b.getD 13 0).toNat then .error 72
      else .ok ⟨beN (b.take 2), beN ((b.drop 2).take 2), beN ((b.drop 4).take 4), beN ((b.drop 8).take 4), ((b.getD 12 0).toNat : Int), os, b.drop (14 + (b.getD 13 0).toNat)⟩
section
variable {c : Ctx} {w : World} {L R : List SA}
theorem St.ro2 {φ ψ : World → Prop} (h : St c w (Br.ro φ :: Br.ro ψ :: L)) : St c w (Br.ro (fun w => φ w ∧ ψ w) :: L) := by
  refine h.ent fun F G w h => ?_
  rw [all_cons] at h
  obtain ⟨F1, G1, F2, G2, rfl, rfl, h1, h2, h3, h4⟩ := h
  rw [all_cons] at h2
  obtain ⟨F3, G3, F4, G4, rfl, rfl, k1, k2, k3, k4⟩ := h2
  rw [ro_p] at h1 k1
  obtain ⟨rfl, a1, a2⟩ := h1
  obtain ⟨rfl, b1, b2⟩ := k1
  refine ⟨[] ++ F4, (G1 ++ G3) ++ G4, all_cons.2 ⟨[], G1 ++ G3, F4, G4, rfl, rfl, ro_p.2 ⟨rfl, fun i hi => ?_, fun w' hw => ⟨a2 w' fun i hi => hw i (by simp [hi]), b2 w' fun i hi => hw i (by simp [hi])⟩⟩, k2, by simp, fun i hi hc => ?_⟩, by simp, fun i hi => ?_⟩
  · rw [List.mem_append] at hi
    exact hi.elim (a1 i) (b1 i)
  · rw [List.mem_append] at hc
    rcases hc with hc | hc
    · exact h4 i (by simp [hi]) hc
    · exact k4 i hi hc
  · simp only [List.mem_append] at hi ⊢
    rcases hi with (hi | hi) | hi <;> simp [hi]
theorem St.roW {φ ψ : World → Prop} (h : St c w (Br.ro φ :: L)) (hi : ∀ w, φ w → ψ w) : St c w (Br.ro ψ :: L) := (h.addRo .head hi).swap.drop
theorem St.ownRows {e z n k : Nat} {A : Option Addr} {cs : List Value} (h : St c w (Br.own e z A n k cs :: L)) : St c w (rows A cs :: L) := h.enth own_rows
theorem pick_app0 {A : SA} {L : List SA} : ∀ {M : List SA}, Pick A (M ++ A :: L) (M ++ L)
  | [] => .head
  | B :: M => .tail pick_app0
theorem St.dropM : ∀ {M : List SA} {w : World} {L : List SA}, St c w (M ++ L) → St c w L
  | [], w, L, h => h
  | A :: M, w, L, h => St.dropM (M := M) (St.drop h)
end
end Go.Br

/- What the code of some functions says, as the core reads it; each reading is checked by the kernel. -/
set_option linter.unusedVariables false
set_option maxRecDepth 100000
namespace Go.Br
open Go Go.Proofs

/-- brougham/pack.Get -/
def N53 (b : Option Addr) (bN bC : Nat) (sizes : Option Addr) (sizesN sizesC : Nat) (w : World) (Q : Value → World → Prop) : Prop :=
 ∃ I : Nat → Option Addr → Nat → Nat → Option Addr → Nat → Nat → Int → World → Prop,
 (∃ m, I m b bN bC none 0 0 (0 : Int) w) ∧
 (∀ m1 (b1 : Option Addr) (bN1 bC1 : Nat) (out : Option Addr) (outN outC : Nat) (x15 : Int) (w1 : World), I m1 b1 bN1 bC1 out outN outC x15 w1 → (IFB (decide (x15 < (sizesN : Int)))
 (IDX sizes sizesN x15 fun a17 =>
 RDI PG (loadVar 3 (Addr.add a17 (Int.toNat x15 * 1))) .i64 w1 fun x18 =>
 LETI x18 fun n =>
 IFB (decide (n < (1 : Int)))
 (Q (.tuple #[(.slice none 0 0), (.slice none 0 0), (.bool false)]) w1)
 (IFB (decide (n > (8 : Int)))
 (Q (.tuple #[(.slice none 0 0), (.slice none 0 0), (.bool false)]) w1)
 (IFB (decide (n > (bN1 : Int)))
 (Q (.tuple #[(.slice none 0 0), (.slice none 0 0), (.bool false)]) w1)
 (NEED (0 ≤ (0 : Int) ∧ (0 : Int) ≤ n ∧ n ≤ ((bC1 : Nat) : Int))
 (∃ I1 : Nat → Int → Int → World → Prop,
 (∃ m2, I1 m2 (0 : Int) (0 : Int) w1) ∧
 (∀ m3 (x : Int) (x35 : Int) (w2 : World), I1 m3 x x35 w2 → (IFB (decide (x35 < (((Int.toNat n - Int.toNat (0 : Int)) : Nat) : Int)))
 (IDX (cutA b1 bC1 1 (0 : Int)) (Int.toNat n - Int.toNat (0 : Int)) x35 fun a37 =>
 RDI PG (loadVar 5 (Addr.add a37 (Int.toNat x35 * 1))) .u8 w2 fun x38 =>
 LETI x38 fun c =>
 NEED (0 ≤ (8 : Int))
 (LETI (IntKind.u64.wrap (BitVec.ofInt (IntKind.u64.bits) (shlN .u64 x (8 : Int)) ||| BitVec.ofInt (IntKind.u64.bits) (IntKind.u64.wrap c)).toNat) fun x1 =>
 ∃ m4, m4 < m3 ∧ I1 m4 x1 (IntKind.i64.wrap (x35 + (1 : Int))) w2))
 (RUNL PG (Instr.buildSlice 92 1 #[(0, (.int .u64 x))]) w2 fun x47 x47N x47C w3 =>
 RUNL PG (Builtin.append_ #[92, 92] 92 #[(.slice out outN outC), (.slice x47 x47N x47C)]) w3 fun x48 x48N x48C w4 =>
 NEED (0 ≤ n ∧ n ≤ ((bN1 : Nat) : Int) ∧ ((bN1 : Nat) : Int) ≤ ((bC1 : Nat) : Int))
 (∃ m5, m5 < m1 ∧ I m5 (cutA b1 bC1 1 n) (Int.toNat ((bN1 : Nat) : Int) - Int.toNat n) (bC1 - Int.toNat n) x48 x48N x48C (IntKind.i64.wrap (x15 + (1 : Int))) w4)))))))))
 (RUNL PG (Builtin.append_ #[33, 33] 33 #[(.slice none 0 0), (.slice b1 bN1 bC1)]) w1 fun x55 x55N x55C w5 =>
 Q (.tuple #[(.slice out outN outC), (.slice x55 x55N x55C), (.bool true)]) w5)))
theorem eq53 : ∀ (b : Option Addr) (bN bC : Nat) (sizes : Option Addr) (sizesN sizesC : Nat) (w : World) (Q : Value → World → Prop), vcF PG TB Tryd.f53 (.s .nil (.s .nil (.s (.s .nil (.u (.loop [(0, 33), (7, 92), (15, 3)] (.s .nil (.s .nil (.s (.u (.s .nil (.s .nil (.s .nil (.s (.s .nil (.u (.loop [(10, 95), (35, 3)] .nil))) .nil))))) .nil)))))) .nil))) [(.slice b bN bC), (.slice sizes sizesN sizesC)] w Q = N53 b bN bC sizes sizesN sizesC w Q := by intros; kernel_rfl
theorem call53 {b : Option Addr} {bN bC : Nat} {sizes : Option Addr} {sizesN sizesC : Nat} {w : World} {Q : Value → World → Prop} (hN : N53 b bN bC sizes sizesN sizesC w Q) : CALL PG 53 [(.slice b bN bC), (.slice sizes sizesN sizesC)] w Q := calls_vc tabOk Tryd.func53 (by rw [eq53]; exact hN)

/-- brougham/seg.options -/
def N54 (b : Option Addr) (bN bC : Nat) (w : World) (Q : Value → World → Prop) : Prop :=
 ∃ I : Nat → Option Addr → Nat → Nat → Option Addr → Nat → Nat → World → Prop,
 (∃ m, I m b bN bC none 0 0 w) ∧
 (∀ m1 (b1 : Option Addr) (bN1 bC1 : Nat) (out : Option Addr) (outN outC : Nat) (w1 : World), I m1 b1 bN1 bC1 out outN outC w1 → (IFB (decide ((bN1 : Int) > (0 : Int)))
 (IFB (decide ((bN1 : Int) < (2 : Int)))
 (Q (.tuple #[(.slice none 0 0), (.bool false)]) w1)
 (IDX b1 bN1 (0 : Int) fun a14 =>
 RDI PG (loadVar 5 (Addr.add a14 (Int.toNat (0 : Int) * 1))) .u8 w1 fun x15 =>
 IFB (x15 == (0 : Int))
 (Q (.tuple #[(.slice none 0 0), (.bool false)]) w1)
 (IDX b1 bN1 (1 : Int) fun a20 =>
 RDI PG (loadVar 5 (Addr.add a20 (Int.toNat (1 : Int) * 1))) .u8 w1 fun x21 =>
 IFB (decide ((IntKind.i64.wrap x21) > (IntKind.i64.wrap ((bN1 : Int) - (2 : Int)))))
 (Q (.tuple #[(.slice none 0 0), (.bool false)]) w1)
 (IDX b1 bN1 (1 : Int) fun a29 =>
 RDI PG (loadVar 5 (Addr.add a29 (Int.toNat (1 : Int) * 1))) .u8 w1 fun x30 =>
 LETI (IntKind.i64.wrap ((2 : Int) + (IntKind.i64.wrap x30))) fun n =>
 ∃ S : World → Prop, S (w1.drew) ∧
 (IDX b1 bN1 (0 : Int) fun a35 =>
 RDSI PG (loadVar 5 (Addr.add a35 (Int.toNat (0 : Int) * 1))) .u8 S fun x36 =>
 NEED (0 ≤ (2 : Int) ∧ (2 : Int) ≤ n ∧ n ≤ ((bC1 : Nat) : Int))
 (RUNL PG (Builtin.append_ #[33, 33] 33 #[(.slice none 0 0), (.slice (cutA b1 bC1 1 (2 : Int)) (Int.toNat n - Int.toNat (2 : Int)) (bC1 - Int.toNat (2 : Int)))]) (w1.drew) fun x40 x40N x40C w2 =>
 ∃ S1 : World → Prop, (∀ x, S1 x → S x) ∧ S1 w2 ∧
 (RDS PG (Instr.build 97 #[(0, (.int .u8 x36)), (1, (.slice x40 x40N x40C))]) S1 fun v =>
 ∃ x41 : Int, ∃ (x41v1 : Option Addr) (x41N x41C : Nat), v = (.agg #[(.int .u8 x41), (.slice x41v1 x41N x41C)]) ∧
 (RUNL PG (Instr.buildSlice 64 1 #[(0, (.agg #[(.int .u8 x41), (.slice x41v1 x41N x41C)]))]) w2 fun x42 x42N x42C w3 =>
 RUNL PG (Builtin.append_ #[64, 64] 64 #[(.slice out outN outC), (.slice x42 x42N x42C)]) w3 fun x43 x43N x43C w4 =>
 NEED (0 ≤ n ∧ n ≤ ((bN1 : Nat) : Int) ∧ ((bN1 : Nat) : Int) ≤ ((bC1 : Nat) : Int))
 (∃ m2, m2 < m1 ∧ I m2 (cutA b1 bC1 1 n) (Int.toNat ((bN1 : Nat) : Int) - Int.toNat n) (bC1 - Int.toNat n) x43 x43N x43C w4)))))))))
 (Q (.tuple #[(.slice out outN outC), (.bool true)]) w1)))
theorem eq54 : ∀ (b : Option Addr) (bN bC : Nat) (w : World) (Q : Value → World → Prop), vcF PG TB Tryd.f54 (.s .nil (.s .nil (.s (.u (.loop [(0, 33), (4, 64)] .nil)) .nil))) [(.slice b bN bC)] w Q = N54 b bN bC w Q := by intros; kernel_rfl
theorem call54 {b : Option Addr} {bN bC : Nat} {w : World} {Q : Value → World → Prop} (hN : N54 b bN bC w Q) : CALL PG 54 [(.slice b bN bC)] w Q := calls_vc tabOk Tryd.func54 (by rw [eq54]; exact hN)

end Go.Br

/- Bytes are taken up as numbers; options. -/
set_option linter.unusedVariables false
set_option linter.unusedSimpArgs false
set_option linter.unnecessarySimpa false
namespace Go.Br
open Go
instance biSegGeta (x0 : Int) (x1 : Option Addr) (n1 c1 : Nat) : Bld PG (Instr.build 97 #[(0, .int .u8 x0), (1, .slice x1 n1 c1)]) (.agg #[.int .u8 x0, .slice x1 n1 c1]) := ⟨fun w => by kernel_rfl⟩
attribute [local irreducible] Addr.add RD RDS RUN RUNU NILC LETB CALL CALLX CALLV

theorem tiU64 : TI PG 95 1 8 (.int .u64 0) := tiOf (by kernel_rfl)
theorem huU64s : PG.underlying 92 = some (.slice 95) := by kernel_rfl
def uv (x : Nat) : List Value := [.int .u64 (x : Int)]
theorem uv_flat1 (x : Nat) : Flat (uv x) := by intro v hv; simp [uv] at hv; rw [hv]; rfl
def nv (x : Nat) : List Value := [.int .i64 (x : Int)]
def byteAt (bs : List UInt8) (i : Nat) : Nat := (bs.getD i 0).toNat
theorem byteAt_get {bs : List UInt8} {i : Nat} (h : i < bs.length) : bs[i]? = some (bs.getD i 0) := by
  rw [List.getD_eq_getElem?_getD, List.getElem?_eq_getElem h]; rfl
theorem byteAt_lt (bs : List UInt8) (i : Nat) : byteAt bs i < 256 := (bs.getD i 0).toNat_lt
theorem beN_take {bs : List UInt8} {i : Nat} (h : i < bs.length) : beN (bs.take (i + 1)) = beN (bs.take i) * 256 + byteAt bs i := by rw [take_snoc' (byteAt_get h), beN_snoc]; rfl
theorem or8 {x b : Nat} (hb : b < 256) (hx : x < 72057594037927936) : IntKind.u64.wrap (BitVec.ofInt (IntKind.u64.bits) (shlN .u64 (x : Int) (8 : Int)) ||| BitVec.ofInt (IntKind.u64.bits) (IntKind.u64.wrap (b : Int))).toNat = ((x * 256 + b : Nat) : Int) := by
  have e1 : shlN .u64 (x : Int) 8 = ((x * 256 : Nat) : Int) := by
    unfold shlN
    rw [show (2 : Int) ^ (min (Int.toNat 8) IntKind.u64.bits) = 256 by decide, wrapU64]
    omega
  have e2 : IntKind.u64.wrap (b : Int) = (b : Int) := by rw [wrapU64]; omega
  have e3 : ∀ {y : Nat}, y < 18446744073709551616 → (BitVec.ofInt (IntKind.u64.bits) (y : Int)).toNat = y := fun {y} hy => by
    rw [BitVec.toNat_ofInt]
    have : (2 ^ IntKind.u64.bits : Nat) = 18446744073709551616 := by decide
    rw [this]
    omega
  rw [e1, e2]
  have e4 : (BitVec.ofInt (IntKind.u64.bits) ((x * 256 : Nat) : Int) ||| BitVec.ofInt (IntKind.u64.bits) (b : Int)).toNat = x * 256 + b := by
    rw [BitVec.toNat_or, e3 (by omega), e3 (by omega)]
    have := Nat.shiftLeft_add_eq_or_of_lt (a := x) (b := b) (i := 8) (by omega)
    rw [Nat.shiftLeft_eq] at this
    exact this.symm
  rw [e4, wrapU64]
  omega
section
variable {c : Ctx} {w : World} {L R : List SA} {A B : Option Addr} {n C m d : Nat}
theorem St.byteR {bs : List UInt8} {K : Int → Prop} (h : St c w L) (hr : RdIn L A (bvs bs)) (hn : bs.length = n) {i : Nat} (hi : i < n) (hk : K (byteAt bs i : Int)) :
    IDX A n (i : Int) fun a => RDI PG (loadVar 5 (Addr.add a (Int.toNat (i : Int) * 1))) .u8 w K := by
  rw [bvs_flat] at hr
  exact h.ix (z := 0) hr (byteAt_get (by omega)) (fun a ha => by subst ha; exact h.rdWI hr (byteAt_get (by omega)) hk) hi
theorem cut_rd {bs : List UInt8} (hr : RdIn L A (bvs bs)) (hC : bs.length ≤ C) (k : Nat) : RdIn L (cutA A C 1 (k : Int)) (bvs (bs.drop k)) := by
  have := hr.cut (c := C) (z := 1) (by rw [bvs_length]; omega) (k : Int)
  rw [Int.toNat_natCast, Nat.mul_one, bvs_drop] at this
  exact this
theorem get_ok (h : St c w L) {bs : List UInt8} (hr : RdIn L A (bvs bs)) (hn : bs.length = n) (hC : n ≤ C) (hb : n ≤ 1000000) {Sz : List Nat} (hrs : RdIn L B (Sz.flatMap nv)) (hm : Sz.length = m) (hm2 : m ≤ 1000) (hz : ∀ x ∈ Sz, x ≤ 1000) {Q : Value → World → Prop}
    (hno : getS Sz bs = none → ∀ w', St c w' L → Q (.tuple #[.slice none 0 0, .slice none 0 0, .bool false]) w')
    (hyes : ∀ l rest, getS Sz bs = some (l, rest) → ∀ w' O d1 O2 d2, St c w' (own 5 1 O2 rest.length d2 (bvs rest) :: own 95 1 O l.length d1 (l.flatMap uv) :: L) → rest.length ≤ d2 → Q (.tuple #[.slice O l.length d1, .slice O2 rest.length d2, .bool true]) w') :
    CALL PG 53 [.slice A n C, .slice B m d] w Q := by
  refine call53 ?_
  unfold N53
  have h := h.addOwnNil 95 1
  refine ⟨fun mm b bN bC O oN oC x w' => ∃ (j : Nat) (acc : List Nat) (rest : List UInt8), x = j ∧ mm = m - j ∧ j ≤ m ∧ getS Sz bs = (getS (Sz.drop j) rest).map (fun p => (acc ++ p.1, p.2)) ∧ rest.length = bN ∧ bN ≤ bC ∧ bN ≤ 1000000 ∧ RdIn L b (bvs rest) ∧ acc.length = oN ∧ acc.length = j ∧ St c w' (own 95 1 O oN oC (acc.flatMap uv) :: L),
    ⟨_, 0, [], bs, rfl, rfl, by omega, by simp, hn, hC, hb, hr, rfl, rfl, h⟩, ?_⟩
  clear h
  rintro mm b bN bC O oN oC _ w' ⟨j, acc, rest, rfl, rfl, hj, hg, rfl, hbC, hb1, hrb, rfl, haj, h⟩
  refine ifd (fun hlt => ?_) fun hge => ?_
  rotate_left
  · have ej : Sz.drop j = [] := List.drop_eq_nil_of_le (by omega)
    rw [ej] at hg
    simp only [getS, Option.map_some, List.append_nil] at hg
    have h := h.addOwnNil 5 1
    refine h.append huBytes tiU8 .head hrb.more.more (m := rest.length) (by rw [bvs_length]; omega) (Flat.bvs rest) (by omega) fun O2 d2 w' h => ?_
    simp only [Nat.zero_add, List.nil_append] at h ⊢
    exact hyes acc rest hg w' _ _ _ _ h (h.own .head).le
  obtain ⟨s, hs⟩ := ex_get (L := Sz) (j := j) (by omega)
  have hsz := hz s (List.mem_of_getElem? hs)
  have ed := drop_cons' hs
  rw [ed] at hg
  have bad : (s < 1 ∨ 8 < s ∨ rest.length < s) → getS Sz bs = none := fun hx => by rw [hg, getS, if_pos hx]; rfl
  refine h.ix (z := 0) (i := j) hrs.more hs (fun a ha => ?_) (by omega)
  have hrs1 := hrs
  rw [ha] at hrs1
  refine h.rdWI (i := j) hrs1.more hs (leti rfl ?_)
  refine ifd (fun h1 => hno (bad (by omega)) _ h.drop) fun h1 => ifd (fun h2 => hno (bad (by omega)) _ h.drop) fun h2 => ifd (fun h3 => hno (bad (by omega)) _ h.drop) fun h3 => ⟨by omega, ?_⟩
  have hg2 : getS Sz bs = (getS (Sz.drop (j + 1)) (rest.drop s)).map fun p => (acc ++ beN (rest.take s) :: p.1, p.2) := by
    rw [hg, getS, if_neg (by omega), Option.map_map]
    rfl
  rw [cutA_zero]
  simp only [Int.toNat_natCast, Int.toNat_zero, Nat.sub_zero]
  refine ⟨fun m3 x y w' => ∃ q : Nat, y = q ∧ m3 = s - q ∧ q ≤ s ∧ x = (beN (rest.take q) : Int) ∧ St c w' (own 95 1 O acc.length oC (acc.flatMap uv) :: L), ⟨_, 0, rfl, rfl, by omega, rfl, h⟩, ?_⟩
  clear h
  rintro m3 _ _ w' ⟨q, rfl, rfl, hq, rfl, h⟩
  refine ifd (fun hlt2 => ?_) fun hge2 => ?_
  · have hr2 : RdIn (own 95 1 O acc.length oC (acc.flatMap uv) :: L) b (bvs (rest.take s)) := by
      have := hrb.more (X := own 95 1 O acc.length oC (acc.flatMap uv)) |>.take s
      rwa [bvs_take] at this
    have etk : byteAt (rest.take s) q = byteAt rest q := by
      unfold byteAt
      rw [List.getD_eq_getElem?_getD, List.getD_eq_getElem?_getD, List.getElem?_take, if_pos (by omega)]
    refine h.byteR hr2 (by rw [List.length_take]; omega) (by omega) (leti rfl ⟨by decide, ?_⟩)
    rw [etk]
    have hlt3 := beN_lt (rest.take q)
    rw [List.length_take, Nat.min_eq_left (by omega)] at hlt3
    have h7 : 256 ^ q ≤ 256 ^ 7 := Nat.pow_le_pow_right (by decide) (by omega)
    have hbl := byteAt_lt rest q
    refine leti (or8 hbl (by have : (256 : Nat) ^ 7 = 72057594037927936 := by decide
                             omega)) ⟨_, by omega, q + 1, by rw [wrap_i64 (by omega) (by omega)]; omega, rfl, by omega, by rw [beN_take (by omega)], h⟩
  have eq : q = s := by omega
  rw [eq]
  refine h.app1 huU64s tiU64 (uv (beN (rest.take s))) .head (uv_flat1 _) (by omega) fun O2 d2 w' h => ?_
  refine ⟨by omega, _, by omega, j + 1, acc ++ [beN (rest.take s)], rest.drop s, by rw [wrap_i64 (by omega) (by omega)]; omega, rfl, by omega, by rw [hg2]; congr 1; funext p; simp, by rw [List.length_drop], by omega, by omega, cut_rd hrb hbC s, by simp, by simp; omega, ?_⟩
  rw [List.flatMap_append]
  simpa using h
theorem St.addRo0 (h : St c w L) {φ : World → Prop} (hφ : ∀ w, φ w) : St c w (Br.ro φ :: L) := h.new (F := []) (G := []) (Kp.refl w) (ro_p.2 ⟨rfl, by simp, fun w _ => hφ w⟩) (by simp) (by simp)
abbrev bods (os : List Opx) : SA := Br.ro fun w => ∀ o ∈ os, Row w o.body (bvs o.bodys)
theorem optsS_two (k m : UInt8) (r : List UInt8) : optsS (k :: m :: r) = if k = 0 ∨ r.length < m.toNat then none else (optsS (r.drop m.toNat)).map fun l => ((k.toNat : Int), r.take m.toNat) :: l := by rw [optsS]
theorem options_ok (h : St c w L) {bs : List UInt8} (hr : RdIn L A (bvs bs)) (hn : bs.length = n) (hC : n ≤ C) (hb : n ≤ 1000000) {Q : Value → World → Prop}
    (hno : optsS bs = none → ∀ w', St c w' L → Q (.tuple #[.slice none 0 0, .bool false]) w')
    (hyes : ∀ os : List Opx, optsS bs = some (os.map opl) → ∀ w' O d, St c w' (bods os :: own 97 2 O os.length d (os.flatMap opx) :: L) → Q (.tuple #[.slice O os.length d, .bool true]) w') :
    CALL PG 54 [.slice A n C] w Q := by
  refine call54 ?_
  unfold N54
  have h := (h.addOwnNil 97 2).addRo0 (φ := fun w => ∀ o ∈ ([] : List Opx), Row w o.body (bvs o.bodys)) (fun w o ho => by cases ho)
  refine ⟨fun mm b bN bC O oN oC w' => ∃ (acc : List Opx) (rest : List UInt8), mm = rest.length ∧ optsS bs = (optsS rest).map (fun l => acc.map opl ++ l) ∧ rest.length = bN ∧ bN ≤ bC ∧ RdIn L b (bvs rest) ∧ acc.length = oN ∧ acc.length + rest.length ≤ n ∧ St c w' (bods acc :: own 97 2 O oN oC (acc.flatMap opx) :: L),
    ⟨_, [], bs, rfl, by simp, hn, hC, hr, rfl, by simp; omega, h⟩, ?_⟩
  clear h
  rintro mm b bN bC O oN oC w' ⟨acc, rest, rfl, hg, rfl, hbC, hrb, rfl, hle, h⟩
  refine ifd (fun hpos => ?_) fun hz => ?_
  rotate_left
  · have e : rest = [] := List.length_eq_zero_iff.1 (by omega)
    subst e
    rw [optsS] at hg
    simp only [Option.map_some, List.append_nil] at hg
    exact hyes acc hg _ _ _ h
  refine ifd (fun h1 => hno ?_ _ h.drop.drop) fun h1 => ?_
  · obtain ⟨x, rfl⟩ : ∃ x, rest = [x] := by
      match rest, hpos, h1 with
      | [x], _, _ => exact ⟨x, rfl⟩
      | _ :: _ :: _, _, h1 => simp at h1; omega
    rw [hg, optsS]
    rfl
  obtain ⟨k, m, r, rfl⟩ : ∃ k m r, rest = k :: m :: r := by
    match rest, h1 with
    | k :: m :: r, _ => exact ⟨k, m, r, rfl⟩
    | [x], h1 => simp at h1
    | [], h1 => simp at hpos
  have hlr : (k :: m :: r).length = r.length + 2 := rfl
  have b0 : byteAt (k :: m :: r) 0 = k.toNat := rfl
  have b1 : byteAt (k :: m :: r) 1 = m.toNat := rfl
  have hml := m.toNat_lt
  rw [optsS_two] at hg
  refine h.byteR (i := 0) hrb.more.more rfl (by omega) ?_
  rw [b0]
  refine ifq (fun e0 => hno ?_ _ h.drop.drop) fun e0 => ?_
  · have ek : k = 0 := by apply UInt8.toNat_inj.1; show k.toNat = 0; omega
    rw [hg, if_pos (.inl ek)]
    rfl
  refine h.byteR (i := 1) hrb.more.more rfl (by omega) ?_
  rw [b1, wrap_i64 (n := (m.toNat : Int)) (by omega) (by omega), wrap_i64 (n := ((k :: m :: r).length : Int) - 2) (by omega) (by omega)]
  refine ifd (fun e1 => hno ?_ _ h.drop.drop) fun e1 => ?_
  · rw [hg, if_pos (.inr (by omega))]
    rfl
  have ek : k ≠ 0 := fun e => e0 (by rw [e]; rfl)
  rw [if_neg (by rintro (e | e) <;> first | exact ek e | omega)] at hg
  refine h.byteR (i := 1) hrb.more.more rfl (by omega) ?_
  rw [b1, wrap_i64 (n := (m.toNat : Int)) (by omega) (by omega)]
  refine leti (y := ((m.toNat + 2 : Nat) : Int)) (by rw [wrap_i64 (by omega) (by omega)]; omega) ?_
  have h := h.drew
  refine ⟨fun w => St c w L, h.drop.drop, ?_⟩
  have hrb2 := hrb
  rw [bvs_flat] at hrb2
  refine h.ix (z := 0) (i := 0) (y := k) hrb2.more.more rfl (fun a ha => ?_) (by omega)
  rw [ha] at hrb2
  refine St.rdsWI (i := 0) (y := k) hrb2 rfl ⟨⟨by decide, by omega, by omega⟩, ?_⟩
  have hbody : RdIn L (cutA b bC 1 ((2 : Nat) : Int)) (bvs (r.take m.toNat)) := by
    have := (cut_rd hrb hbC 2).take m.toNat
    rw [bvs_take] at this
    exact this
  have h := h.addOwnNil 5 1
  have el : Int.toNat ((m.toNat + 2 : Nat) : Int) - Int.toNat (2 : Int) = m.toNat := by omega
  rw [el]
  have ltk : (r.take m.toNat).length = m.toNat := by rw [List.length_take]; omega
  refine h.append huBytes tiU8 .head hbody.more.more.more (m := m.toNat) (by rw [bvs_length]; omega) (Flat.bvs _) (by omega) fun O2 d2 w' h => ?_
  simp only [Nat.zero_add, List.nil_append] at h ⊢
  refine ⟨_, fun _ h => h, h.drop.drop.drop, ?_⟩
  refine RDS.bld ?_
  (repeat (first | apply Exists.intro (α := Int) | apply Exists.intro (α := Bool) | apply Exists.intro (α := ByteArray) | (apply Exists.intro (α := Option Addr); apply Exists.intro (α := Nat); apply Exists.intro (α := Nat)) | apply Exists.intro (α := Option Addr) | apply Exists.intro (α := Value)))
  refine ⟨rfl, ?_⟩
  have h := (h.ownRows.ro2).roW (ψ := fun w => ∀ o ∈ acc ++ [(⟨k.toNat, O2, d2, r.take m.toNat⟩ : Opx)], Row w o.body (bvs o.bodys)) (fun w ⟨h1, h2⟩ o ho => by
    rw [List.mem_append, List.mem_singleton] at ho
    rcases ho with ho | rfl
    · exact h2 o ho
    · exact h1)
  have eo : opx (⟨k.toNat, O2, d2, r.take m.toNat⟩ : Opx) = [.int .u8 (k.toNat : Int), .slice O2 m.toNat d2] := by
    show [Value.int .u8 (k.toNat : Int), .slice O2 (r.take m.toNat).length d2] = _
    rw [ltk]
  refine h.app1 huOpx tiOpx [.int .u8 (k.toNat : Int), .slice O2 m.toNat d2] (.tail .head) (by rw [← eo]; exact opx_flat1 _) (by omega) fun O3 d3 w' h => ?_
  rw [← eo] at h
  refine ⟨by omega, _, ?_, acc ++ [⟨k.toNat, O2, d2, r.take m.toNat⟩], r.drop m.toNat, rfl, ?_, by rw [List.length_drop]; omega, by omega, ?_, by simp, ?_, ?_⟩
  · rw [List.length_drop]; omega
  · rw [hg, Option.map_map]
    congr 1
    funext l
    simp [opl]
  · have := cut_rd hrb hbC (m.toNat + 2)
    exact this
  · rw [List.length_append, List.length_singleton, List.length_drop]; omega
  · rw [List.flatMap_append]
    have e2 : ([⟨k.toNat, O2, d2, r.take m.toNat⟩] : List Opx).flatMap opx = opx ⟨k.toNat, O2, d2, r.take m.toNat⟩ := by simp
    rw [e2]
    exact h.swap
end
end Go.Br

/- What the code of some functions says, as the core reads it; each reading is checked by the kernel. -/
set_option linter.unusedVariables false
set_option maxRecDepth 100000
namespace Go.Br
open Go Go.Proofs

/-- brougham/seg.Parse -/
def N39 (b : Option Addr) (bN bC : Nat) (w : World) (Q : Value → World → Prop) : Prop :=
 RUNA PG (Instr.alloc 66 true (.tuple #[])) w fun a2 w1 =>
 RUNL PG (Instr.buildSlice 22 6 #[(0, (.int .i64 (2 : Int))), (1, (.int .i64 (2 : Int))), (2, (.int .i64 (4 : Int))), (3, (.int .i64 (4 : Int))), (4, (.int .i64 (1 : Int))), (5, (.int .i64 (1 : Int)))]) w1 fun x12 x12N x12C w2 =>
 CALL PG 53 [(.slice b bN bC), (.slice x12 x12N x12C)] w2 fun v w3 =>
 ∃ (x13 : Option Addr) (x13N x13C : Nat), ∃ (x13v1 : Option Addr) (x13N1 x13C1 : Nat), ∃ x13v2 : Bool, v = (.tuple #[(.slice x13 x13N x13C), (.slice x13v1 x13N1 x13C1), (.bool x13v2)]) ∧
 (LETB x13v2 fun okv =>
 IFB (!okv)
 (RD PG (Instr.build 66 #[]) w3 fun v1 =>
 ∃ x25 : Int, ∃ x25v1 : Int, ∃ x25v2 : Int, ∃ x25v3 : Int, ∃ x25v4 : Int, ∃ (x25v5 : Option Addr) (x25N x25C : Nat), ∃ (x25v6 : Option Addr) (x25N1 x25C1 : Nat), v1 = (.agg #[(.int .u16 x25), (.int .u16 x25v1), (.int .u32 x25v2), (.int .u32 x25v3), (.int .u8 x25v4), (.slice x25v5 x25N x25C), (.slice x25v6 x25N1 x25C1)]) ∧
 (RUNU PG (storeVar 66 a2 (.agg #[(.int .u16 x25), (.int .u16 x25v1), (.int .u32 x25v2), (.int .u32 x25v3), (.int .u8 x25v4), (.slice x25v5 x25N x25C), (.slice x25v6 x25N1 x25C1)])) w3 fun w4 =>
 RD PG (loadVar 66 a2) w4 fun v3 =>
 ∃ r : Int, ∃ r1 : Int, ∃ r2 : Int, ∃ r3 : Int, ∃ r4 : Int, ∃ (r5 : Option Addr) (rN rC : Nat), ∃ (r6 : Option Addr) (rN1 rC1 : Nat), v3 = (.agg #[(.int .u16 r), (.int .u16 r1), (.int .u32 r2), (.int .u32 r3), (.int .u8 r4), (.slice r5 rN rC), (.slice r6 rN1 rC1)]) ∧
 (Q (.tuple #[(.agg #[(.int .u16 r), (.int .u16 r1), (.int .u32 r2), (.int .u32 r3), (.int .u8 r4), (.slice r5 rN rC), (.slice r6 rN1 rC1)]), (.int .i64 (70 : Int))]) w4)))
 (IDX x13 x13N (4 : Int) fun a21 =>
 RDI PG (loadVar 95 (Addr.add a21 (Int.toNat (4 : Int) * 1))) .u64 w3 fun x22 =>
 IFB (decide (x22 > (7 : Int)))
 (RD PG (Instr.build 66 #[]) w3 fun v4 =>
 ∃ x25v7 : Int, ∃ x25v8 : Int, ∃ x25v9 : Int, ∃ x25v10 : Int, ∃ x25v11 : Int, ∃ (x25v12 : Option Addr) (x25N2 x25C2 : Nat), ∃ (x25v13 : Option Addr) (x25N3 x25C3 : Nat), v4 = (.agg #[(.int .u16 x25v7), (.int .u16 x25v8), (.int .u32 x25v9), (.int .u32 x25v10), (.int .u8 x25v11), (.slice x25v12 x25N2 x25C2), (.slice x25v13 x25N3 x25C3)]) ∧
 (RUNU PG (storeVar 66 a2 (.agg #[(.int .u16 x25v7), (.int .u16 x25v8), (.int .u32 x25v9), (.int .u32 x25v10), (.int .u8 x25v11), (.slice x25v12 x25N2 x25C2), (.slice x25v13 x25N3 x25C3)])) w3 fun w5 =>
 RD PG (loadVar 66 a2) w5 fun v6 =>
 ∃ r7 : Int, ∃ r8 : Int, ∃ r9 : Int, ∃ r10 : Int, ∃ r11 : Int, ∃ (r12 : Option Addr) (rN2 rC2 : Nat), ∃ (r13 : Option Addr) (rN3 rC3 : Nat), v6 = (.agg #[(.int .u16 r7), (.int .u16 r8), (.int .u32 r9), (.int .u32 r10), (.int .u8 r11), (.slice r12 rN2 rC2), (.slice r13 rN3 rC3)]) ∧
 (Q (.tuple #[(.agg #[(.int .u16 r7), (.int .u16 r8), (.int .u32 r9), (.int .u32 r10), (.int .u8 r11), (.slice r12 rN2 rC2), (.slice r13 rN3 rC3)]), (.int .i64 (70 : Int))]) w5)))
 (∃ S : World → Prop, S (w3.drew) ∧
 (IDX x13 x13N (0 : Int) fun a27 =>
 RDSI PG (loadVar 95 (Addr.add a27 (Int.toNat (0 : Int) * 1))) .u64 S fun x28 =>
 IDX x13 x13N (1 : Int) fun a31 =>
 RDSI PG (loadVar 95 (Addr.add a31 (Int.toNat (1 : Int) * 1))) .u64 S fun x32 =>
 IDX x13 x13N (2 : Int) fun a35 =>
 RDSI PG (loadVar 95 (Addr.add a35 (Int.toNat (2 : Int) * 1))) .u64 S fun x36 =>
 IDX x13 x13N (3 : Int) fun a39 =>
 RDSI PG (loadVar 95 (Addr.add a39 (Int.toNat (3 : Int) * 1))) .u64 S fun x40 =>
 IDX x13 x13N (4 : Int) fun a43 =>
 RDSI PG (loadVar 95 (Addr.add a43 (Int.toNat (4 : Int) * 1))) .u64 S fun x44 =>
 RDS PG (Instr.build 66 #[(0, (.int .u16 (IntKind.u16.wrap x28))), (1, (.int .u16 (IntKind.u16.wrap x32))), (2, (.int .u32 (IntKind.u32.wrap x36))), (3, (.int .u32 (IntKind.u32.wrap x40))), (4, (.int .u8 (IntKind.u8.wrap x44)))]) S fun v7 =>
 ∃ x46 : Int, ∃ x46v1 : Int, ∃ x46v2 : Int, ∃ x46v3 : Int, ∃ x46v4 : Int, ∃ (x46v5 : Option Addr) (x46N x46C : Nat), ∃ (x46v6 : Option Addr) (x46N1 x46C1 : Nat), v7 = (.agg #[(.int .u16 x46), (.int .u16 x46v1), (.int .u32 x46v2), (.int .u32 x46v3), (.int .u8 x46v4), (.slice x46v5 x46N x46C), (.slice x46v6 x46N1 x46C1)]) ∧
 (RUNA PG (Instr.alloc 66 true (.tuple #[])) (w3.drew) fun a7 w6 =>
 ∃ S1 : World → Prop, (∀ x, S1 x → S x) ∧ S1 w6 ∧
 (RUNU PG (storeVar 66 a7 (.agg #[(.int .u16 x46), (.int .u16 x46v1), (.int .u32 x46v2), (.int .u32 x46v3), (.int .u8 x46v4), (.slice x46v5 x46N x46C), (.slice x46v6 x46N1 x46C1)])) w6 fun w7 =>
 IDX x13 x13N (5 : Int) fun a48 =>
 RDI PG (loadVar 95 (Addr.add a48 (Int.toNat (5 : Int) * 1))) .u64 w7 fun x49 =>
 LETI (IntKind.i64.wrap x49) fun n =>
 IFB (decide (n > (200 : Int)))
 (RD PG (Instr.build 66 #[]) w7 fun v8 =>
 ∃ x59 : Int, ∃ x59v1 : Int, ∃ x59v2 : Int, ∃ x59v3 : Int, ∃ x59v4 : Int, ∃ (x59v5 : Option Addr) (x59N x59C : Nat), ∃ (x59v6 : Option Addr) (x59N1 x59C1 : Nat), v8 = (.agg #[(.int .u16 x59), (.int .u16 x59v1), (.int .u32 x59v2), (.int .u32 x59v3), (.int .u8 x59v4), (.slice x59v5 x59N x59C), (.slice x59v6 x59N1 x59C1)]) ∧
 (RUNU PG (storeVar 66 a2 (.agg #[(.int .u16 x59), (.int .u16 x59v1), (.int .u32 x59v2), (.int .u32 x59v3), (.int .u8 x59v4), (.slice x59v5 x59N x59C), (.slice x59v6 x59N1 x59C1)])) w7 fun w8 =>
 RD PG (loadVar 66 a2) w8 fun v10 =>
 ∃ r14 : Int, ∃ r15 : Int, ∃ r16 : Int, ∃ r17 : Int, ∃ r18 : Int, ∃ (r19 : Option Addr) (rN4 rC4 : Nat), ∃ (r20 : Option Addr) (rN5 rC5 : Nat), v10 = (.agg #[(.int .u16 r14), (.int .u16 r15), (.int .u32 r16), (.int .u32 r17), (.int .u8 r18), (.slice r19 rN4 rC4), (.slice r20 rN5 rC5)]) ∧
 (Q (.tuple #[(.agg #[(.int .u16 r14), (.int .u16 r15), (.int .u32 r16), (.int .u32 r17), (.int .u8 r18), (.slice r19 rN4 rC4), (.slice r20 rN5 rC5)]), (.int .i64 (71 : Int))]) w8)))
 (IFB (decide (n > (x13N1 : Int)))
 (RD PG (Instr.build 66 #[]) w7 fun v11 =>
 ∃ x59v7 : Int, ∃ x59v8 : Int, ∃ x59v9 : Int, ∃ x59v10 : Int, ∃ x59v11 : Int, ∃ (x59v12 : Option Addr) (x59N2 x59C2 : Nat), ∃ (x59v13 : Option Addr) (x59N3 x59C3 : Nat), v11 = (.agg #[(.int .u16 x59v7), (.int .u16 x59v8), (.int .u32 x59v9), (.int .u32 x59v10), (.int .u8 x59v11), (.slice x59v12 x59N2 x59C2), (.slice x59v13 x59N3 x59C3)]) ∧
 (RUNU PG (storeVar 66 a2 (.agg #[(.int .u16 x59v7), (.int .u16 x59v8), (.int .u32 x59v9), (.int .u32 x59v10), (.int .u8 x59v11), (.slice x59v12 x59N2 x59C2), (.slice x59v13 x59N3 x59C3)])) w7 fun w9 =>
 RD PG (loadVar 66 a2) w9 fun v13 =>
 ∃ r21 : Int, ∃ r22 : Int, ∃ r23 : Int, ∃ r24 : Int, ∃ r25 : Int, ∃ (r26 : Option Addr) (rN6 rC6 : Nat), ∃ (r27 : Option Addr) (rN7 rC7 : Nat), v13 = (.agg #[(.int .u16 r21), (.int .u16 r22), (.int .u32 r23), (.int .u32 r24), (.int .u8 r25), (.slice r26 rN6 rC6), (.slice r27 rN7 rC7)]) ∧
 (Q (.tuple #[(.agg #[(.int .u16 r21), (.int .u16 r22), (.int .u32 r23), (.int .u32 r24), (.int .u8 r25), (.slice r26 rN6 rC6), (.slice r27 rN7 rC7)]), (.int .i64 (71 : Int))]) w9)))
 (RDL PG (Instr.sliceAt 33 (.slice x13v1 x13N1 x13C1) none (some (.int .i64 n)) (some (.int .i64 n))) w7 fun x64 x64N x64C =>
 CALL PG 54 [(.slice x64 x64N x64C)] w7 fun v14 w10 =>
 ∃ (x65 : Option Addr) (x65N x65C : Nat), ∃ x65v1 : Bool, v14 = (.tuple #[(.slice x65 x65N x65C), (.bool x65v1)]) ∧
 (LETB x65v1 fun okv1 =>
 IFB (!okv1)
 (RD PG (Instr.build 66 #[]) w10 fun v15 =>
 ∃ x70 : Int, ∃ x70v1 : Int, ∃ x70v2 : Int, ∃ x70v3 : Int, ∃ x70v4 : Int, ∃ (x70v5 : Option Addr) (x70N x70C : Nat), ∃ (x70v6 : Option Addr) (x70N1 x70C1 : Nat), v15 = (.agg #[(.int .u16 x70), (.int .u16 x70v1), (.int .u32 x70v2), (.int .u32 x70v3), (.int .u8 x70v4), (.slice x70v5 x70N x70C), (.slice x70v6 x70N1 x70C1)]) ∧
 (RUNU PG (storeVar 66 a2 (.agg #[(.int .u16 x70), (.int .u16 x70v1), (.int .u32 x70v2), (.int .u32 x70v3), (.int .u8 x70v4), (.slice x70v5 x70N x70C), (.slice x70v6 x70N1 x70C1)])) w10 fun w11 =>
 RD PG (loadVar 66 a2) w11 fun v17 =>
 ∃ r28 : Int, ∃ r29 : Int, ∃ r30 : Int, ∃ r31 : Int, ∃ r32 : Int, ∃ (r33 : Option Addr) (rN8 rC8 : Nat), ∃ (r34 : Option Addr) (rN9 rC9 : Nat), v17 = (.agg #[(.int .u16 r28), (.int .u16 r29), (.int .u32 r30), (.int .u32 r31), (.int .u8 r32), (.slice r33 rN8 rC8), (.slice r34 rN9 rC9)]) ∧
 (Q (.tuple #[(.agg #[(.int .u16 r28), (.int .u16 r29), (.int .u32 r30), (.int .u32 r31), (.int .u8 r32), (.slice r33 rN8 rC8), (.slice r34 rN9 rC9)]), (.int .i64 (71 : Int))]) w11)))
 (IFB (decide ((IntKind.i64.wrap ((x13N1 : Int) - n)) > (1024 : Int)))
 (RD PG (Instr.build 66 #[]) w10 fun v18 =>
 ∃ x76 : Int, ∃ x76v1 : Int, ∃ x76v2 : Int, ∃ x76v3 : Int, ∃ x76v4 : Int, ∃ (x76v5 : Option Addr) (x76N x76C : Nat), ∃ (x76v6 : Option Addr) (x76N1 x76C1 : Nat), v18 = (.agg #[(.int .u16 x76), (.int .u16 x76v1), (.int .u32 x76v2), (.int .u32 x76v3), (.int .u8 x76v4), (.slice x76v5 x76N x76C), (.slice x76v6 x76N1 x76C1)]) ∧
 (RUNU PG (storeVar 66 a2 (.agg #[(.int .u16 x76), (.int .u16 x76v1), (.int .u32 x76v2), (.int .u32 x76v3), (.int .u8 x76v4), (.slice x76v5 x76N x76C), (.slice x76v6 x76N1 x76C1)])) w10 fun w12 =>
 RD PG (loadVar 66 a2) w12 fun v20 =>
 ∃ r35 : Int, ∃ r36 : Int, ∃ r37 : Int, ∃ r38 : Int, ∃ r39 : Int, ∃ (r40 : Option Addr) (rN10 rC10 : Nat), ∃ (r41 : Option Addr) (rN11 rC11 : Nat), v20 = (.agg #[(.int .u16 r35), (.int .u16 r36), (.int .u32 r37), (.int .u32 r38), (.int .u8 r39), (.slice r40 rN10 rC10), (.slice r41 rN11 rC11)]) ∧
 (Q (.tuple #[(.agg #[(.int .u16 r35), (.int .u16 r36), (.int .u32 r37), (.int .u32 r38), (.int .u8 r39), (.slice r40 rN10 rC10), (.slice r41 rN11 rC11)]), (.int .i64 (72 : Int))]) w12)))
 (NEED (0 ≤ n ∧ n ≤ ((x13N1 : Nat) : Int) ∧ ((x13N1 : Nat) : Int) ≤ ((x13C1 : Nat) : Int))
 (RUNL PG (Builtin.append_ #[33, 33] 33 #[(.slice none 0 0), (.slice (cutA x13v1 x13C1 1 n) (Int.toNat ((x13N1 : Nat) : Int) - Int.toNat n) (x13C1 - Int.toNat n))]) w10 fun x81 x81N x81C w13 =>
 RUNU PG (storeVar 64 (Addr.add a7 5) (.slice x65 x65N x65C)) w13 fun w14 =>
 RUNU PG (storeVar 33 (Addr.add a7 6) (.slice x81 x81N x81C)) w14 fun w15 =>
 RD PG (loadVar 66 a7) w15 fun v21 =>
 ∃ x84 : Int, ∃ x84v1 : Int, ∃ x84v2 : Int, ∃ x84v3 : Int, ∃ x84v4 : Int, ∃ (x84v5 : Option Addr) (x84N x84C : Nat), ∃ (x84v6 : Option Addr) (x84N1 x84C1 : Nat), v21 = (.agg #[(.int .u16 x84), (.int .u16 x84v1), (.int .u32 x84v2), (.int .u32 x84v3), (.int .u8 x84v4), (.slice x84v5 x84N x84C), (.slice x84v6 x84N1 x84C1)]) ∧
 (RUNU PG (storeVar 66 a2 (.agg #[(.int .u16 x84), (.int .u16 x84v1), (.int .u32 x84v2), (.int .u32 x84v3), (.int .u8 x84v4), (.slice x84v5 x84N x84C), (.slice x84v6 x84N1 x84C1)])) w15 fun w16 =>
 RD PG (loadVar 66 a2) w16 fun v23 =>
 ∃ r42 : Int, ∃ r43 : Int, ∃ r44 : Int, ∃ r45 : Int, ∃ r46 : Int, ∃ (r47 : Option Addr) (rN12 rC12 : Nat), ∃ (r48 : Option Addr) (rN13 rC13 : Nat), v23 = (.agg #[(.int .u16 r42), (.int .u16 r43), (.int .u32 r44), (.int .u32 r45), (.int .u8 r46), (.slice r47 rN12 rC12), (.slice r48 rN13 rC13)]) ∧
 (Q (.tuple #[(.agg #[(.int .u16 r42), (.int .u16 r43), (.int .u32 r44), (.int .u32 r45), (.int .u8 r46), (.slice r47 rN12 rC12), (.slice r48 rN13 rC13)]), (.int .i64 (0 : Int))]) w16))))))))))))))
theorem eq39 : ∀ (b : Option Addr) (bN bC : Nat) (w : World) (Q : Value → World → Prop), vcF PG TB Tryd.f39 .nil [(.slice b bN bC)] w Q = N39 b bN bC w Q := by intros; kernel_rfl
theorem call39 {b : Option Addr} {bN bC : Nat} {w : World} {Q : Value → World → Prop} (hN : N39 b bN bC w Q) : CALL PG 39 [(.slice b bN bC)] w Q := calls_vc tabOk Tryd.func39 (by rw [eq39]; exact hN)

end Go.Br

/- The segment of some bytes. -/
set_option linter.unusedVariables false
set_option linter.unusedSimpArgs false
set_option linter.unnecessarySimpa false
namespace Go.Br
open Go
instance biSegParsea : Bld PG (Instr.build 66 #[]) (.agg #[.int .u16 0, .int .u16 0, .int .u32 0, .int .u32 0, .int .u8 0, .slice none 0 0, .slice none 0 0]) := ⟨fun w => by kernel_rfl⟩
instance biSegParseb (x0 : Int) (x1 : Int) (x2 : Int) (x3 : Int) (x4 : Int) : Bld PG (Instr.build 66 #[(0, .int .u16 x0), (1, .int .u16 x1), (2, .int .u32 x2), (3, .int .u32 x3), (4, .int .u8 x4)]) (.agg #[.int .u16 x0, .int .u16 x1, .int .u32 x2, .int .u32 x3, .int .u8 x4, .slice none 0 0, .slice none 0 0]) := ⟨fun w => by kernel_rfl⟩
instance biSegParsec : Zro PG 66 7 64 (.agg #[.int .u16 0, .int .u16 0, .int .u32 0, .int .u32 0, .int .u8 0, .slice none 0 0, .slice none 0 0]) := ⟨tiOf (by kernel_rfl)⟩
attribute [local irreducible] Addr.add RD RDS RUN RUNU NILC LETB CALL CALLX CALLV

theorem getS_short : ∀ (Sz : List Nat) (b : List UInt8), b.length < Sz.sum → getS Sz b = none
  | [], b, h => by simp at h
  | n :: r, b, h => by
    rw [getS]
    split
    · rfl
    · rename_i hn
      rw [getS_short r (b.drop n) (by rw [List.length_drop]; rw [List.sum_cons] at h; omega)]
      rfl
theorem beN_one {bs : List UInt8} {i : Nat} (h : i < bs.length) : beN ((bs.drop i).take 1) = byteAt bs i := by
  rw [drop_cons' (byteAt_get h)]
  simp [beN, byteAt]
theorem get6 {bs : List UInt8} (h : 14 ≤ bs.length) : getS [2, 2, 4, 4, 1, 1] bs = some ([beN (bs.take 2), beN ((bs.drop 2).take 2), beN ((bs.drop 4).take 4), beN ((bs.drop 8).take 4), byteAt bs 12, byteAt bs 13], bs.drop 14) := by
  simp only [getS, List.drop_drop, List.length_drop]
  rw [if_neg (by omega), if_neg (by omega), if_neg (by omega), if_neg (by omega), if_neg (by omega), if_neg (by omega)]
  simp only [Option.map_some]
  rw [show 2 + 2 + 4 + 4 = 12 by rfl, beN_one (by omega), show 12 + 1 = 13 by rfl, beN_one (by omega)]
abbrev zsg : List Value := [.int .u16 0, .int .u16 0, .int .u32 0, .int .u32 0, .int .u8 0, .slice none 0 0, .slice none 0 0]
section
variable {c : Ctx} {w : World} {L R : List SA} {A B : Option Addr} {n C m d : Nat}
theorem own_takeI {X : SA} {O : Option Addr} {m d : Nat} {rest : List UInt8} (k : Nat) : RdIn (X :: own 5 1 O m d (bvs rest) :: L) O (bvs (rest.take k)) := by
  have := (RdIn.own (L := X :: own 5 1 O m d (bvs rest) :: L) (.tail .head)).take k
  rwa [bvs_take] at this
theorem own_cutI {X Y Z V : SA} {O : Option Addr} {m d : Nat} {rest : List UInt8} (hd : rest.length ≤ d) (k : Nat) : RdIn (X :: Y :: Z :: V :: own 5 1 O m d (bvs rest) :: L) (cutA O d 1 (k : Int)) (bvs (rest.drop k)) := cut_rd (RdIn.own (.tail (.tail (.tail (.tail .head))))) hd k
theorem parse_ok (h : St c w L) {bs : List UInt8} (hr : RdIn L A (bvs bs)) (hn : bs.length = n) (hC : n ≤ C) (hb : n ≤ 1000000) {Q : Value → World → Prop}
    (hno : ∀ e, parseS bs = .error e → ∀ w', St c w' L → Q (.tuple #[.agg #[.int .u16 0, .int .u16 0, .int .u32 0, .int .u32 0, .int .u8 0, .slice none 0 0, .slice none 0 0], .int .i64 e]) w')
    (hyes : ∀ s : Sg, parseS bs = .ok s.pl → ∀ w', St c w' (sgp s :: L) → Q (.tuple #[sgv s, .int .i64 0]) w') :
    CALL PG 39 [.slice A n C] w Q := by
  refine call39 ?_
  unfold N39
  refine h.allocZ fun p w' h => ?_
  refine h.lit (n := 6) 3 1 (([2, 2, 4, 4, 1, 1] : List Nat).flatMap nv) fun q w' h => ?_
  have bad : ∀ {e : Int} {w' : World} {M : List SA}, parseS bs = .error e → St c w' (M ++ blk p 66 zsg :: L) → RD PG (Instr.build 66 #[]) w' fun v => ∃ (a b x y z : Int) (s : Option Addr) (sn sd : Nat) (t : Option Addr) (tn td : Nat), v = .agg #[.int .u16 a, .int .u16 b, .int .u32 x, .int .u32 y, .int .u8 z, .slice s sn sd, .slice t tn td] ∧
      RUNU PG (storeVar 66 ⟨p, 0, none⟩ (.agg #[.int .u16 a, .int .u16 b, .int .u32 x, .int .u32 y, .int .u8 z, .slice s sn sd, .slice t tn td])) w' fun w'' => RD PG (loadVar 66 ⟨p, 0, none⟩) w'' fun v => ∃ (a b x y z : Int) (s : Option Addr) (sn sd : Nat) (t : Option Addr) (tn td : Nat), v = .agg #[.int .u16 a, .int .u16 b, .int .u32 x, .int .u32 y, .int .u8 z, .slice s sn sd, .slice t tn td] ∧
        Q (.tuple #[.agg #[.int .u16 a, .int .u16 b, .int .u32 x, .int .u32 y, .int .u8 z, .slice s sn sd, .slice t tn td], .int .i64 e]) w'' := fun {e w' M} he h => by
    refine RD.bld ⟨_, _, _, _, _, _, _, _, _, _, _, rfl, ?_⟩
    have h := h.pick pick_app0
    refine h.stG fun w' h => ?_
    refine h.rdG ⟨_, _, _, _, _, _, _, _, _, _, _, rfl, ?_⟩
    exact hno e he _ (h.drop.dropM)
  have hlt13 := byteAt_lt bs 13
  refine get_ok h hr.more.more hn hC hb (Sz := [2, 2, 4, 4, 1, 1]) (RdIn.own .head) rfl (by decide) (by decide) (fun hg w' h => ?_) fun l rest hg w' O d1 O2 d2 h hd2 => ?_
  · (repeat (first | apply Exists.intro (α := Int) | apply Exists.intro (α := Bool) | apply Exists.intro (α := ByteArray) | (apply Exists.intro (α := Option Addr); apply Exists.intro (α := Nat); apply Exists.intro (α := Nat)) | apply Exists.intro (α := Option Addr) | apply Exists.intro (α := Value)))
    refine ⟨rfl, ?_⟩
    refine letb rfl (ift rfl ?_)
    refine bad (M := [_]) ?_ h
    unfold parseS
    rw [if_pos]
    left
    rcases Nat.lt_or_ge bs.length 14 with hl | hl
    · exact hl
    · rw [get6 hl] at hg; cases hg
  have h14 : 14 ≤ bs.length := by
    rcases Nat.lt_or_ge bs.length 14 with hl | hl
    · rw [getS_short _ _ (by simpa using hl)] at hg; cases hg
    · exact hl
  rw [get6 h14] at hg
  injection hg with hg
  injection hg with e1 e2
  subst e1
  subst e2
  have hbl12 := byteAt_lt bs 12
  have p12 : (bs.getD 12 0).toNat = byteAt bs 12 := rfl
  have p13 : (bs.getD 13 0).toNat = byteAt bs 13 := rfl
  (repeat (first | apply Exists.intro (α := Int) | apply Exists.intro (α := Bool) | apply Exists.intro (α := ByteArray) | (apply Exists.intro (α := Option Addr); apply Exists.intro (α := Nat); apply Exists.intro (α := Nat)) | apply Exists.intro (α := Option Addr) | apply Exists.intro (α := Value)))
  refine ⟨rfl, ?_⟩
  refine letb rfl (iff_ rfl ?_)
  refine h.ix (z := 0) (i := 4) (y := byteAt bs 12) (RdIn.own (.tail .head)) rfl (fun a ha => ?_) (by simp)
  subst ha
  refine h.rdWI (i := 4) (y := byteAt bs 12) (RdIn.own (.tail .head)) rfl ?_
  refine ifd (fun hbig => ?_) fun hsm => ?_
  · refine bad (M := [_, _, _]) ?_ h
    unfold parseS
    rw [if_pos (.inr (by omega))]
  have h := h.drew
  refine ⟨fun w => St c w [own 95 1 _ _ d1 _], h.sub (.cons (.tail .head) .nil), ?_⟩
  refine h.ix (z := 0) (i := 0) (y := beN (bs.take 2)) (RdIn.own (.tail .head)) rfl (fun a ha => ?_) (by simp)
  injection ha with ha
  subst ha
  refine St.rdsWI (i := 0) (y := beN (bs.take 2)) (RdIn.own .head) rfl ?_
  refine h.ix (z := 0) (i := 1) (y := beN ((bs.drop 2).take 2)) (RdIn.own (.tail .head)) rfl (fun a ha => ?_) (by simp)
  injection ha with ha
  subst ha
  refine St.rdsWI (i := 1) (y := beN ((bs.drop 2).take 2)) (RdIn.own .head) rfl ?_
  refine h.ix (z := 0) (i := 2) (y := beN ((bs.drop 4).take 4)) (RdIn.own (.tail .head)) rfl (fun a ha => ?_) (by simp)
  injection ha with ha
  subst ha
  refine St.rdsWI (i := 2) (y := beN ((bs.drop 4).take 4)) (RdIn.own .head) rfl ?_
  refine h.ix (z := 0) (i := 3) (y := beN ((bs.drop 8).take 4)) (RdIn.own (.tail .head)) rfl (fun a ha => ?_) (by simp)
  injection ha with ha
  subst ha
  refine St.rdsWI (i := 3) (y := beN ((bs.drop 8).take 4)) (RdIn.own .head) rfl ?_
  refine h.ix (z := 0) (i := 4) (y := byteAt bs 12) (RdIn.own (.tail .head)) rfl (fun a ha => ?_) (by simp)
  injection ha with ha
  subst ha
  refine St.rdsWI (i := 4) (y := byteAt bs 12) (RdIn.own .head) rfl ?_
  have b2 := beN_lt (bs.take 2)
  have b4 := beN_lt ((bs.drop 2).take 2)
  have b8 := beN_lt ((bs.drop 4).take 4)
  have b12 := beN_lt ((bs.drop 8).take 4)
  rw [List.length_take, Nat.min_eq_left (by omega)] at b2
  rw [List.length_take, List.length_drop, Nat.min_eq_left (by omega)] at b4 b8 b12
  rw [show IntKind.u16.wrap (beN (bs.take 2) : Int) = (beN (bs.take 2) : Int) by rw [wrapU16]; omega, show IntKind.u16.wrap (beN ((bs.drop 2).take 2) : Int) = (beN ((bs.drop 2).take 2) : Int) by rw [wrapU16]; omega,
    show IntKind.u32.wrap (beN ((bs.drop 4).take 4) : Int) = (beN ((bs.drop 4).take 4) : Int) by rw [wrapU32]; omega, show IntKind.u32.wrap (beN ((bs.drop 8).take 4) : Int) = (beN ((bs.drop 8).take 4) : Int) by rw [wrapU32]; omega,
    show IntKind.u8.wrap (byteAt bs 12 : Int) = (byteAt bs 12 : Int) by rw [wrapU8]; omega]
  refine RDS.bld ?_
  (repeat (first | apply Exists.intro (α := Int) | apply Exists.intro (α := Bool) | apply Exists.intro (α := ByteArray) | (apply Exists.intro (α := Option Addr); apply Exists.intro (α := Nat); apply Exists.intro (α := Nat)) | apply Exists.intro (α := Option Addr) | apply Exists.intro (α := Value)))
  refine ⟨rfl, ?_⟩
  refine h.allocZ fun p2 w' h => ?_
  refine ⟨_, fun _ h => h, h.sub (.cons (.tail (.tail .head)) .nil), ?_⟩
  refine h.stG fun w' h => ?_
  refine h.ix (z := 0) (i := 5) (y := byteAt bs 13) (RdIn.own (.tail (.tail .head))) rfl (fun a ha => ?_) (by simp)
  injection ha with ha
  subst ha
  refine h.rdWI (i := 5) (y := byteAt bs 13) (RdIn.own (.tail (.tail .head))) rfl ?_
  refine leti (y := (byteAt bs 13 : Int)) (by rw [wrap_i64 (by omega) (by omega)]) ?_
  refine ifd (fun hbig => ?_) fun hsm2 => ?_
  · refine bad (M := [_, _, _, _]) ?_ h
    unfold parseS
    rw [if_neg (by omega), if_pos (.inl (by omega))]
  have hdl : (bs.drop 14).length = bs.length - 14 := by rw [List.length_drop]
  refine ifd (fun hbig => ?_) fun hsm3 => ?_
  · refine bad (M := [_, _, _, _]) ?_ h
    unfold parseS
    rw [if_neg (by omega), if_pos (.inr (by omega))]
  refine RDL.slice0 huBytes (z := 1) (by kernel_rfl) (Nat.le_refl _) (by omega) ?_
  refine options_ok h (own_takeI (byteAt bs 13)) (by rw [List.length_take]; omega) (Nat.le_refl _) (by omega) (fun hos w' h => ?_) fun os hos w' O3 d3 h => ?_
  · (repeat (first | apply Exists.intro (α := Int) | apply Exists.intro (α := Bool) | apply Exists.intro (α := ByteArray) | (apply Exists.intro (α := Option Addr); apply Exists.intro (α := Nat); apply Exists.intro (α := Nat)) | apply Exists.intro (α := Option Addr) | apply Exists.intro (α := Value)))
    refine ⟨rfl, ?_⟩
    refine letb rfl (ift rfl ?_)
    refine bad (M := [_, _, _, _]) ?_ h
    unfold parseS
    rw [if_neg (by omega), if_neg (by omega), p13, hos]
  (repeat (first | apply Exists.intro (α := Int) | apply Exists.intro (α := Bool) | apply Exists.intro (α := ByteArray) | (apply Exists.intro (α := Option Addr); apply Exists.intro (α := Nat); apply Exists.intro (α := Nat)) | apply Exists.intro (α := Option Addr) | apply Exists.intro (α := Value)))
  refine ⟨rfl, ?_⟩
  refine letb rfl (iff_ rfl ?_)
  rw [wrap_i64 (n := ((bs.drop 14).length : Int) - (byteAt bs 13 : Int)) (by omega) (by omega)]
  refine ifd (fun hbig => ?_) fun hsm4 => ⟨by omega, ?_⟩
  · refine bad (M := [_, _, _, _, _, _]) ?_ h
    unfold parseS
    rw [if_neg (by omega), if_neg (by omega), p13, hos]
    simp only
    rw [if_pos (by omega)]
  have h := h.addOwnNil 5 1
  have el : Int.toNat ((bs.drop 14).length : Int) - Int.toNat (byteAt bs 13 : Int) = ((bs.drop 14).drop (byteAt bs 13)).length := by simp only [Int.toNat_natCast, List.length_drop]
  rw [el]
  have hdd : ((bs.drop 14).drop (byteAt bs 13)).length ≤ bs.length := by simp only [List.length_drop]; omega
  have hdd2 : ((bs.drop 14).drop (byteAt bs 13)).length ≤ 1000000 := by omega
  refine h.append huBytes tiU8 .head (own_cutI hd2 (byteAt bs 13)) (m := ((bs.drop 14).drop (byteAt bs 13)).length) (by rw [bvs_length]; omega) (Flat.bvs _) (by omega) fun O4 d4 w' h => ?_
  simp only [Nat.zero_add, List.nil_append] at h ⊢
  refine h.st 5 fun w' h => ?_
  refine h.st 6 fun w' h => ?_
  refine h.rdG ?_
  (repeat (first | apply Exists.intro (α := Int) | apply Exists.intro (α := Bool) | apply Exists.intro (α := ByteArray) | (apply Exists.intro (α := Option Addr); apply Exists.intro (α := Nat); apply Exists.intro (α := Nat)) | apply Exists.intro (α := Option Addr) | apply Exists.intro (α := Value)))
  refine ⟨rfl, ?_⟩
  refine h.stG fun w' h => ?_
  refine h.rdG ?_
  (repeat (first | apply Exists.intro (α := Int) | apply Exists.intro (α := Bool) | apply Exists.intro (α := ByteArray) | (apply Exists.intro (α := Option Addr); apply Exists.intro (α := Nat); apply Exists.intro (α := Nat)) | apply Exists.intro (α := Option Addr) | apply Exists.intro (α := Value)))
  refine ⟨rfl, ?_⟩
  have h : St c w' (own 5 1 O4 _ d4 (bvs ((bs.drop 14).drop (byteAt bs 13))) :: bods os :: own 97 2 O3 os.length d3 (os.flatMap opx) :: L) := h.sub (.cons (.tail (.tail .head)) (.cons (.tail (.tail .head)) (.cons (.tail (.tail .head)) (Sub.same _).more.more.more.more.more)))
  have h := h.ownRows.ro2
  have h := h.swap.ownRows.ro2
  let s : Sg := ⟨beN (bs.take 2), beN ((bs.drop 2).take 2), beN ((bs.drop 4).take 4), beN ((bs.drop 8).take 4), (byteAt bs 12 : Int), O3, d3, os, O4, d4, (bs.drop 14).drop (byteAt bs 13)⟩
  have h : St c w' (sgp s :: L) := h.roW fun w ⟨h1, h2, h3⟩ => ⟨h1, h3, h2⟩
  refine hyes s ?_ _ h
  unfold parseS
  rw [if_neg (by omega), if_neg (by omega), p13, hos]
  simp only
  rw [if_neg (by omega)]
  show _ = Except.ok (SgP.mk _ _ _ _ _ _ ((bs.drop 14).drop (byteAt bs 13)))
  rw [List.drop_drop]
  rfl
end
end Go.Br

/- What the code of some functions says, as the core reads it; each reading is checked by the kernel. -/
set_option linter.unusedVariables false
set_option maxRecDepth 100000
namespace Go.Br
open Go Go.Proofs

/-- brougham/broughamref07.Parse -/
def N27 (b : Option Addr) (bN bC : Nat) (w : World) (Q : Value → World → Prop) : Prop :=
 RUNA PG (Instr.alloc 66 true (.tuple #[])) w fun a2 w1 =>
 IFB (decide ((bN : Int) < (14 : Int)))
 (RD PG (Instr.build 66 #[]) w1 fun v =>
 ∃ x20 : Int, ∃ x20v1 : Int, ∃ x20v2 : Int, ∃ x20v3 : Int, ∃ x20v4 : Int, ∃ (x20v5 : Option Addr) (x20N x20C : Nat), ∃ (x20v6 : Option Addr) (x20N1 x20C1 : Nat), v = (.agg #[(.int .u16 x20), (.int .u16 x20v1), (.int .u32 x20v2), (.int .u32 x20v3), (.int .u8 x20v4), (.slice x20v5 x20N x20C), (.slice x20v6 x20N1 x20C1)]) ∧
 (RUNU PG (storeVar 66 a2 (.agg #[(.int .u16 x20), (.int .u16 x20v1), (.int .u32 x20v2), (.int .u32 x20v3), (.int .u8 x20v4), (.slice x20v5 x20N x20C), (.slice x20v6 x20N1 x20C1)])) w1 fun w2 =>
 RD PG (loadVar 66 a2) w2 fun v2 =>
 ∃ r : Int, ∃ r1 : Int, ∃ r2 : Int, ∃ r3 : Int, ∃ r4 : Int, ∃ (r5 : Option Addr) (rN rC : Nat), ∃ (r6 : Option Addr) (rN1 rC1 : Nat), v2 = (.agg #[(.int .u16 r), (.int .u16 r1), (.int .u32 r2), (.int .u32 r3), (.int .u8 r4), (.slice r5 rN rC), (.slice r6 rN1 rC1)]) ∧
 (Q (.tuple #[(.agg #[(.int .u16 r), (.int .u16 r1), (.int .u32 r2), (.int .u32 r3), (.int .u8 r4), (.slice r5 rN rC), (.slice r6 rN1 rC1)]), (.int .i64 (70 : Int))]) w2)))
 (IDX b bN (12 : Int) fun a16 =>
 RDI PG (loadVar 5 (Addr.add a16 (Int.toNat (12 : Int) * 1))) .u8 w1 fun x17 =>
 IFB (decide (x17 > (7 : Int)))
 (RD PG (Instr.build 66 #[]) w1 fun v3 =>
 ∃ x20v7 : Int, ∃ x20v8 : Int, ∃ x20v9 : Int, ∃ x20v10 : Int, ∃ x20v11 : Int, ∃ (x20v12 : Option Addr) (x20N2 x20C2 : Nat), ∃ (x20v13 : Option Addr) (x20N3 x20C3 : Nat), v3 = (.agg #[(.int .u16 x20v7), (.int .u16 x20v8), (.int .u32 x20v9), (.int .u32 x20v10), (.int .u8 x20v11), (.slice x20v12 x20N2 x20C2), (.slice x20v13 x20N3 x20C3)]) ∧
 (RUNU PG (storeVar 66 a2 (.agg #[(.int .u16 x20v7), (.int .u16 x20v8), (.int .u32 x20v9), (.int .u32 x20v10), (.int .u8 x20v11), (.slice x20v12 x20N2 x20C2), (.slice x20v13 x20N3 x20C3)])) w1 fun w3 =>
 RD PG (loadVar 66 a2) w3 fun v5 =>
 ∃ r7 : Int, ∃ r8 : Int, ∃ r9 : Int, ∃ r10 : Int, ∃ r11 : Int, ∃ (r12 : Option Addr) (rN2 rC2 : Nat), ∃ (r13 : Option Addr) (rN3 rC3 : Nat), v5 = (.agg #[(.int .u16 r7), (.int .u16 r8), (.int .u32 r9), (.int .u32 r10), (.int .u8 r11), (.slice r12 rN2 rC2), (.slice r13 rN3 rC3)]) ∧
 (Q (.tuple #[(.agg #[(.int .u16 r7), (.int .u16 r8), (.int .u32 r9), (.int .u32 r10), (.int .u8 r11), (.slice r12 rN2 rC2), (.slice r13 rN3 rC3)]), (.int .i64 (70 : Int))]) w3)))
 (IDX b bN (13 : Int) fun a22 =>
 RDI PG (loadVar 5 (Addr.add a22 (Int.toNat (13 : Int) * 1))) .u8 w1 fun x23 =>
 LETI (IntKind.i64.wrap x23) fun n =>
 IFB (decide (n > (200 : Int)))
 (RD PG (Instr.build 66 #[]) w1 fun v6 =>
 ∃ x34 : Int, ∃ x34v1 : Int, ∃ x34v2 : Int, ∃ x34v3 : Int, ∃ x34v4 : Int, ∃ (x34v5 : Option Addr) (x34N x34C : Nat), ∃ (x34v6 : Option Addr) (x34N1 x34C1 : Nat), v6 = (.agg #[(.int .u16 x34), (.int .u16 x34v1), (.int .u32 x34v2), (.int .u32 x34v3), (.int .u8 x34v4), (.slice x34v5 x34N x34C), (.slice x34v6 x34N1 x34C1)]) ∧
 (RUNU PG (storeVar 66 a2 (.agg #[(.int .u16 x34), (.int .u16 x34v1), (.int .u32 x34v2), (.int .u32 x34v3), (.int .u8 x34v4), (.slice x34v5 x34N x34C), (.slice x34v6 x34N1 x34C1)])) w1 fun w4 =>
 RD PG (loadVar 66 a2) w4 fun v8 =>
 ∃ r14 : Int, ∃ r15 : Int, ∃ r16 : Int, ∃ r17 : Int, ∃ r18 : Int, ∃ (r19 : Option Addr) (rN4 rC4 : Nat), ∃ (r20 : Option Addr) (rN5 rC5 : Nat), v8 = (.agg #[(.int .u16 r14), (.int .u16 r15), (.int .u32 r16), (.int .u32 r17), (.int .u8 r18), (.slice r19 rN4 rC4), (.slice r20 rN5 rC5)]) ∧
 (Q (.tuple #[(.agg #[(.int .u16 r14), (.int .u16 r15), (.int .u32 r16), (.int .u32 r17), (.int .u8 r18), (.slice r19 rN4 rC4), (.slice r20 rN5 rC5)]), (.int .i64 (71 : Int))]) w4)))
 (IFB (decide (n > (IntKind.i64.wrap ((bN : Int) - (14 : Int)))))
 (RD PG (Instr.build 66 #[]) w1 fun v9 =>
 ∃ x34v7 : Int, ∃ x34v8 : Int, ∃ x34v9 : Int, ∃ x34v10 : Int, ∃ x34v11 : Int, ∃ (x34v12 : Option Addr) (x34N2 x34C2 : Nat), ∃ (x34v13 : Option Addr) (x34N3 x34C3 : Nat), v9 = (.agg #[(.int .u16 x34v7), (.int .u16 x34v8), (.int .u32 x34v9), (.int .u32 x34v10), (.int .u8 x34v11), (.slice x34v12 x34N2 x34C2), (.slice x34v13 x34N3 x34C3)]) ∧
 (RUNU PG (storeVar 66 a2 (.agg #[(.int .u16 x34v7), (.int .u16 x34v8), (.int .u32 x34v9), (.int .u32 x34v10), (.int .u8 x34v11), (.slice x34v12 x34N2 x34C2), (.slice x34v13 x34N3 x34C3)])) w1 fun w5 =>
 RD PG (loadVar 66 a2) w5 fun v11 =>
 ∃ r21 : Int, ∃ r22 : Int, ∃ r23 : Int, ∃ r24 : Int, ∃ r25 : Int, ∃ (r26 : Option Addr) (rN6 rC6 : Nat), ∃ (r27 : Option Addr) (rN7 rC7 : Nat), v11 = (.agg #[(.int .u16 r21), (.int .u16 r22), (.int .u32 r23), (.int .u32 r24), (.int .u8 r25), (.slice r26 rN6 rC6), (.slice r27 rN7 rC7)]) ∧
 (Q (.tuple #[(.agg #[(.int .u16 r21), (.int .u16 r22), (.int .u32 r23), (.int .u32 r24), (.int .u8 r25), (.slice r26 rN6 rC6), (.slice r27 rN7 rC7)]), (.int .i64 (71 : Int))]) w5)))
 (RUNL PG (Instr.buildSlice 22 4 #[(0, (.int .i64 (2 : Int))), (1, (.int .i64 (2 : Int))), (2, (.int .i64 (4 : Int))), (3, (.int .i64 (4 : Int)))]) w1 fun x37 x37N x37C w6 =>
 CALL PG 40 [(.slice b bN bC), (.slice x37 x37N x37C)] w6 fun v12 w7 =>
 ∃ (x38 : Option Addr) (x38N x38C : Nat), ∃ (x38v1 : Option Addr) (x38N1 x38C1 : Nat), ∃ x38v2 : Bool, v12 = (.tuple #[(.slice x38 x38N x38C), (.slice x38v1 x38N1 x38C1), (.bool x38v2)]) ∧
 (LETB x38v2 fun x =>
 ∃ S : World → Prop, S (w7.drew) ∧
 (IDX x38 x38N (0 : Int) fun a43 =>
 RDSI PG (loadVar 95 (Addr.add a43 (Int.toNat (0 : Int) * 1))) .u64 S fun x44 =>
 IDX x38 x38N (1 : Int) fun a47 =>
 RDSI PG (loadVar 95 (Addr.add a47 (Int.toNat (1 : Int) * 1))) .u64 S fun x48 =>
 IDX x38 x38N (2 : Int) fun a51 =>
 RDSI PG (loadVar 95 (Addr.add a51 (Int.toNat (2 : Int) * 1))) .u64 S fun x52 =>
 IDX x38 x38N (3 : Int) fun a55 =>
 RDSI PG (loadVar 95 (Addr.add a55 (Int.toNat (3 : Int) * 1))) .u64 S fun x56 =>
 IDX b bN (12 : Int) fun a59 =>
 RDSI PG (loadVar 5 (Addr.add a59 (Int.toNat (12 : Int) * 1))) .u8 S fun x60 =>
 RDS PG (Instr.build 66 #[(0, (.int .u16 (IntKind.u16.wrap x44))), (1, (.int .u16 (IntKind.u16.wrap x48))), (2, (.int .u32 (IntKind.u32.wrap x52))), (3, (.int .u32 (IntKind.u32.wrap x56))), (4, (.int .u8 x60))]) S fun v13 =>
 ∃ x61 : Int, ∃ x61v1 : Int, ∃ x61v2 : Int, ∃ x61v3 : Int, ∃ x61v4 : Int, ∃ (x61v5 : Option Addr) (x61N x61C : Nat), ∃ (x61v6 : Option Addr) (x61N1 x61C1 : Nat), v13 = (.agg #[(.int .u16 x61), (.int .u16 x61v1), (.int .u32 x61v2), (.int .u32 x61v3), (.int .u8 x61v4), (.slice x61v5 x61N x61C), (.slice x61v6 x61N1 x61C1)]) ∧
 (RUNA PG (Instr.alloc 66 true (.tuple #[])) (w7.drew) fun a8 w8 =>
 ∃ S1 : World → Prop, (∀ x, S1 x → S x) ∧ S1 w8 ∧
 (RUNU PG (storeVar 66 a8 (.agg #[(.int .u16 x61), (.int .u16 x61v1), (.int .u32 x61v2), (.int .u32 x61v3), (.int .u8 x61v4), (.slice x61v5 x61N x61C), (.slice x61v6 x61N1 x61C1)])) w8 fun w9 =>
 ∃ I : Nat → Int → World → Prop,
 (∃ m, I m (14 : Int) w9) ∧
 (∀ m1 (atv : Int) (w10 : World), I m1 atv w10 → (IFB (decide (atv < (IntKind.i64.wrap ((14 : Int) + n))))
 (IFB (decide ((IntKind.i64.wrap (atv + (2 : Int))) > (IntKind.i64.wrap ((14 : Int) + n))))
 (RD PG (Instr.build 66 #[]) w10 fun v14 =>
 ∃ x92 : Int, ∃ x92v1 : Int, ∃ x92v2 : Int, ∃ x92v3 : Int, ∃ x92v4 : Int, ∃ (x92v5 : Option Addr) (x92N x92C : Nat), ∃ (x92v6 : Option Addr) (x92N1 x92C1 : Nat), v14 = (.agg #[(.int .u16 x92), (.int .u16 x92v1), (.int .u32 x92v2), (.int .u32 x92v3), (.int .u8 x92v4), (.slice x92v5 x92N x92C), (.slice x92v6 x92N1 x92C1)]) ∧
 (RUNU PG (storeVar 66 a2 (.agg #[(.int .u16 x92), (.int .u16 x92v1), (.int .u32 x92v2), (.int .u32 x92v3), (.int .u8 x92v4), (.slice x92v5 x92N x92C), (.slice x92v6 x92N1 x92C1)])) w10 fun w11 =>
 RD PG (loadVar 66 a2) w11 fun v16 =>
 ∃ r28 : Int, ∃ r29 : Int, ∃ r30 : Int, ∃ r31 : Int, ∃ r32 : Int, ∃ (r33 : Option Addr) (rN8 rC8 : Nat), ∃ (r34 : Option Addr) (rN9 rC9 : Nat), v16 = (.agg #[(.int .u16 r28), (.int .u16 r29), (.int .u32 r30), (.int .u32 r31), (.int .u8 r32), (.slice r33 rN8 rC8), (.slice r34 rN9 rC9)]) ∧
 (Q (.tuple #[(.agg #[(.int .u16 r28), (.int .u16 r29), (.int .u32 r30), (.int .u32 r31), (.int .u8 r32), (.slice r33 rN8 rC8), (.slice r34 rN9 rC9)]), (.int .i64 (71 : Int))]) w11)))
 (IDX b bN atv fun a74 =>
 RDI PG (loadVar 5 (Addr.add a74 (Int.toNat atv * 1))) .u8 w10 fun x75 =>
 IFB (x75 == (0 : Int))
 (RD PG (Instr.build 66 #[]) w10 fun v17 =>
 ∃ x92v7 : Int, ∃ x92v8 : Int, ∃ x92v9 : Int, ∃ x92v10 : Int, ∃ x92v11 : Int, ∃ (x92v12 : Option Addr) (x92N2 x92C2 : Nat), ∃ (x92v13 : Option Addr) (x92N3 x92C3 : Nat), v17 = (.agg #[(.int .u16 x92v7), (.int .u16 x92v8), (.int .u32 x92v9), (.int .u32 x92v10), (.int .u8 x92v11), (.slice x92v12 x92N2 x92C2), (.slice x92v13 x92N3 x92C3)]) ∧
 (RUNU PG (storeVar 66 a2 (.agg #[(.int .u16 x92v7), (.int .u16 x92v8), (.int .u32 x92v9), (.int .u32 x92v10), (.int .u8 x92v11), (.slice x92v12 x92N2 x92C2), (.slice x92v13 x92N3 x92C3)])) w10 fun w12 =>
 RD PG (loadVar 66 a2) w12 fun v19 =>
 ∃ r35 : Int, ∃ r36 : Int, ∃ r37 : Int, ∃ r38 : Int, ∃ r39 : Int, ∃ (r40 : Option Addr) (rN10 rC10 : Nat), ∃ (r41 : Option Addr) (rN11 rC11 : Nat), v19 = (.agg #[(.int .u16 r35), (.int .u16 r36), (.int .u32 r37), (.int .u32 r38), (.int .u8 r39), (.slice r40 rN10 rC10), (.slice r41 rN11 rC11)]) ∧
 (Q (.tuple #[(.agg #[(.int .u16 r35), (.int .u16 r36), (.int .u32 r37), (.int .u32 r38), (.int .u8 r39), (.slice r40 rN10 rC10), (.slice r41 rN11 rC11)]), (.int .i64 (71 : Int))]) w12)))
 (IDX b bN (IntKind.i64.wrap (atv + (1 : Int))) fun a84 =>
 RDI PG (loadVar 5 (Addr.add a84 (Int.toNat (IntKind.i64.wrap (atv + (1 : Int))) * 1))) .u8 w10 fun x85 =>
 IFB (decide ((IntKind.i64.wrap ((IntKind.i64.wrap (atv + (2 : Int))) + (IntKind.i64.wrap x85))) > (IntKind.i64.wrap ((14 : Int) + n))))
 (RD PG (Instr.build 66 #[]) w10 fun v20 =>
 ∃ x92v14 : Int, ∃ x92v15 : Int, ∃ x92v16 : Int, ∃ x92v17 : Int, ∃ x92v18 : Int, ∃ (x92v19 : Option Addr) (x92N4 x92C4 : Nat), ∃ (x92v20 : Option Addr) (x92N5 x92C5 : Nat), v20 = (.agg #[(.int .u16 x92v14), (.int .u16 x92v15), (.int .u32 x92v16), (.int .u32 x92v17), (.int .u8 x92v18), (.slice x92v19 x92N4 x92C4), (.slice x92v20 x92N5 x92C5)]) ∧
 (RUNU PG (storeVar 66 a2 (.agg #[(.int .u16 x92v14), (.int .u16 x92v15), (.int .u32 x92v16), (.int .u32 x92v17), (.int .u8 x92v18), (.slice x92v19 x92N4 x92C4), (.slice x92v20 x92N5 x92C5)])) w10 fun w13 =>
 RD PG (loadVar 66 a2) w13 fun v22 =>
 ∃ r42 : Int, ∃ r43 : Int, ∃ r44 : Int, ∃ r45 : Int, ∃ r46 : Int, ∃ (r47 : Option Addr) (rN12 rC12 : Nat), ∃ (r48 : Option Addr) (rN13 rC13 : Nat), v22 = (.agg #[(.int .u16 r42), (.int .u16 r43), (.int .u32 r44), (.int .u32 r45), (.int .u8 r46), (.slice r47 rN12 rC12), (.slice r48 rN13 rC13)]) ∧
 (Q (.tuple #[(.agg #[(.int .u16 r42), (.int .u16 r43), (.int .u32 r44), (.int .u32 r45), (.int .u8 r46), (.slice r47 rN12 rC12), (.slice r48 rN13 rC13)]), (.int .i64 (71 : Int))]) w13)))
 (IDX b bN (IntKind.i64.wrap (atv + (1 : Int))) fun a96 =>
 RDI PG (loadVar 5 (Addr.add a96 (Int.toNat (IntKind.i64.wrap (atv + (1 : Int))) * 1))) .u8 w10 fun x97 =>
 LETI (IntKind.i64.wrap x97) fun long =>
 ∃ S2 : World → Prop, S2 (w10.drew) ∧
 (RDSL PG (loadVar 64 (Addr.add a8 5)) S2 fun x100 x100N x100C =>
 IDX b bN atv fun a103 =>
 RDSI PG (loadVar 5 (Addr.add a103 (Int.toNat atv * 1))) .u8 S2 fun x104 =>
 NEED (0 ≤ (IntKind.i64.wrap (atv + (2 : Int))) ∧ (IntKind.i64.wrap (atv + (2 : Int))) ≤ (IntKind.i64.wrap ((IntKind.i64.wrap (atv + (2 : Int))) + long)) ∧ (IntKind.i64.wrap ((IntKind.i64.wrap (atv + (2 : Int))) + long)) ≤ ((bC : Nat) : Int))
 (RUNL PG (Instr.buildSlice 33 0 #[]) (w10.drew) fun x105 x105N x105C w14 =>
 ∃ S3 : World → Prop, (∀ x, S3 x → S2 x) ∧ S3 w14 ∧
 (RUNL PG (Builtin.append_ #[33, 33] 33 #[(.slice x105 x105N x105C), (.slice (cutA b bC 1 (IntKind.i64.wrap (atv + (2 : Int)))) (Int.toNat (IntKind.i64.wrap ((IntKind.i64.wrap (atv + (2 : Int))) + long)) - Int.toNat (IntKind.i64.wrap (atv + (2 : Int)))) (bC - Int.toNat (IntKind.i64.wrap (atv + (2 : Int)))))]) w14 fun x114 x114N x114C w15 =>
 ∃ S4 : World → Prop, (∀ x, S4 x → S3 x) ∧ S4 w15 ∧
 (RDS PG (Instr.build 97 #[(0, (.int .u8 x104)), (1, (.slice x114 x114N x114C))]) S4 fun v23 =>
 ∃ x115 : Int, ∃ (x115v1 : Option Addr) (x115N x115C : Nat), v23 = (.agg #[(.int .u8 x115), (.slice x115v1 x115N x115C)]) ∧
 (RUNL PG (Instr.buildSlice 64 1 #[(0, (.agg #[(.int .u8 x115), (.slice x115v1 x115N x115C)]))]) w15 fun x116 x116N x116C w16 =>
 ∃ S5 : World → Prop, (∀ x, S5 x → S4 x) ∧ S5 w16 ∧
 (RUNL PG (Builtin.append_ #[64, 64] 64 #[(.slice x100 x100N x100C), (.slice x116 x116N x116C)]) w16 fun x117 x117N x117C w17 =>
 RUNU PG (storeVar 64 (Addr.add a8 5) (.slice x117 x117N x117C)) w17 fun w18 =>
 LETI (IntKind.i64.wrap (atv + (IntKind.i64.wrap ((2 : Int) + long)))) fun atv1 =>
 ∃ m2, m2 < m1 ∧ I m2 atv1 w18))))))))))
 (IFB (decide ((IntKind.i64.wrap ((bN : Int) - atv)) > (1024 : Int)))
 (RD PG (Instr.build 66 #[]) w10 fun v24 =>
 ∃ x128 : Int, ∃ x128v1 : Int, ∃ x128v2 : Int, ∃ x128v3 : Int, ∃ x128v4 : Int, ∃ (x128v5 : Option Addr) (x128N x128C : Nat), ∃ (x128v6 : Option Addr) (x128N1 x128C1 : Nat), v24 = (.agg #[(.int .u16 x128), (.int .u16 x128v1), (.int .u32 x128v2), (.int .u32 x128v3), (.int .u8 x128v4), (.slice x128v5 x128N x128C), (.slice x128v6 x128N1 x128C1)]) ∧
 (RUNU PG (storeVar 66 a2 (.agg #[(.int .u16 x128), (.int .u16 x128v1), (.int .u32 x128v2), (.int .u32 x128v3), (.int .u8 x128v4), (.slice x128v5 x128N x128C), (.slice x128v6 x128N1 x128C1)])) w10 fun w19 =>
 RD PG (loadVar 66 a2) w19 fun v26 =>
 ∃ r49 : Int, ∃ r50 : Int, ∃ r51 : Int, ∃ r52 : Int, ∃ r53 : Int, ∃ (r54 : Option Addr) (rN14 rC14 : Nat), ∃ (r55 : Option Addr) (rN15 rC15 : Nat), v26 = (.agg #[(.int .u16 r49), (.int .u16 r50), (.int .u32 r51), (.int .u32 r52), (.int .u8 r53), (.slice r54 rN14 rC14), (.slice r55 rN15 rC15)]) ∧
 (Q (.tuple #[(.agg #[(.int .u16 r49), (.int .u16 r50), (.int .u32 r51), (.int .u32 r52), (.int .u8 r53), (.slice r54 rN14 rC14), (.slice r55 rN15 rC15)]), (.int .i64 (72 : Int))]) w19)))
 (RUNL PG (Instr.buildSlice 33 0 #[]) w10 fun x129 x129N x129C w20 =>
 NEED (0 ≤ atv ∧ atv ≤ ((bN : Nat) : Int) ∧ ((bN : Nat) : Int) ≤ ((bC : Nat) : Int))
 (RUNL PG (Builtin.append_ #[33, 33] 33 #[(.slice x129 x129N x129C), (.slice (cutA b bC 1 atv) (Int.toNat ((bN : Nat) : Int) - Int.toNat atv) (bC - Int.toNat atv))]) w20 fun x133 x133N x133C w21 =>
 RUNU PG (storeVar 33 (Addr.add a8 6) (.slice x133 x133N x133C)) w21 fun w22 =>
 RD PG (loadVar 66 a8) w22 fun v27 =>
 ∃ x135 : Int, ∃ x135v1 : Int, ∃ x135v2 : Int, ∃ x135v3 : Int, ∃ x135v4 : Int, ∃ (x135v5 : Option Addr) (x135N x135C : Nat), ∃ (x135v6 : Option Addr) (x135N1 x135C1 : Nat), v27 = (.agg #[(.int .u16 x135), (.int .u16 x135v1), (.int .u32 x135v2), (.int .u32 x135v3), (.int .u8 x135v4), (.slice x135v5 x135N x135C), (.slice x135v6 x135N1 x135C1)]) ∧
 (RUNU PG (storeVar 66 a2 (.agg #[(.int .u16 x135), (.int .u16 x135v1), (.int .u32 x135v2), (.int .u32 x135v3), (.int .u8 x135v4), (.slice x135v5 x135N x135C), (.slice x135v6 x135N1 x135C1)])) w22 fun w23 =>
 RD PG (loadVar 66 a2) w23 fun v29 =>
 ∃ r56 : Int, ∃ r57 : Int, ∃ r58 : Int, ∃ r59 : Int, ∃ r60 : Int, ∃ (r61 : Option Addr) (rN16 rC16 : Nat), ∃ (r62 : Option Addr) (rN17 rC17 : Nat), v29 = (.agg #[(.int .u16 r56), (.int .u16 r57), (.int .u32 r58), (.int .u32 r59), (.int .u8 r60), (.slice r61 rN16 rC16), (.slice r62 rN17 rC17)]) ∧
 (Q (.tuple #[(.agg #[(.int .u16 r56), (.int .u16 r57), (.int .u32 r58), (.int .u32 r59), (.int .u8 r60), (.slice r61 rN16 rC16), (.slice r62 rN17 rC17)]), (.int .i64 (0 : Int))]) w23)))))))))))))))
theorem eq27 : ∀ (b : Option Addr) (bN bC : Nat) (w : World) (Q : Value → World → Prop), vcF PG TB Tryd.f27 (.s .nil (.s .nil (.s .nil (.s .nil (.s .nil (.s .nil (.s .nil (.s (.u (.loop [(9, 3)] .nil)) .nil)))))))) [(.slice b bN bC)] w Q = N27 b bN bC w Q := by intros; kernel_rfl
theorem call27 {b : Option Addr} {bN bC : Nat} {w : World} {Q : Value → World → Prop} (hN : N27 b bN bC w Q) : CALL PG 27 [(.slice b bN bC)] w Q := calls_vc tabOk Tryd.func27 (by rw [eq27]; exact hN)

/-- brougham/broughamref02.All -/
def N40 (b : Option Addr) (bN bC : Nat) (sizes : Option Addr) (sizesN sizesC : Nat) (w : World) (Q : Value → World → Prop) : Prop :=
 ∃ I : Nat → Option Addr → Nat → Nat → Option Addr → Nat → Nat → Int → World → Prop,
 (∃ m, I m b bN bC none 0 0 (0 : Int) w) ∧
 (∀ m1 (b1 : Option Addr) (bN1 bC1 : Nat) (out : Option Addr) (outN outC : Nat) (i : Int) (w1 : World), I m1 b1 bN1 bC1 out outN outC i w1 → (IFB (decide (i < (sizesN : Int)))
 (IDX sizes sizesN i fun a22 =>
 RDI PG (loadVar 3 (Addr.add a22 (Int.toNat i * 1))) .i64 w1 fun x23 =>
 CALL PG 55 [(.slice b1 bN1 bC1), (.int .i64 x23)] w1 fun v w2 =>
 ∃ x24 : Int, ∃ (x24v1 : Option Addr) (x24N x24C : Nat), ∃ x24v2 : Bool, v = (.tuple #[(.int .u64 x24), (.slice x24v1 x24N x24C), (.bool x24v2)]) ∧
 (LETI x24 fun n =>
 LETB x24v2 fun okv =>
 IFB (!okv)
 (Q (.tuple #[(.slice none 0 0), (.slice none 0 0), (.bool false)]) w2)
 (RUNL PG (Instr.buildSlice 92 1 #[(0, (.int .u64 n))]) w2 fun x32 x32N x32C w3 =>
 RUNL PG (Builtin.append_ #[92, 92] 92 #[(.slice out outN outC), (.slice x32 x32N x32C)]) w3 fun x33 x33N x33C w4 =>
 LETI (IntKind.i64.wrap (i + (1 : Int))) fun i1 =>
 ∃ m2, m2 < m1 ∧ I m2 x24v1 x24N x24C x33 x33N x33C i1 w4)))
 (Q (.tuple #[(.slice out outN outC), (.slice b1 bN1 bC1), (.bool true)]) w1)))
theorem eq40 : ∀ (b : Option Addr) (bN bC : Nat) (sizes : Option Addr) (sizesN sizesC : Nat) (w : World) (Q : Value → World → Prop), vcF PG TB Tryd.f40 (.s .nil (.s .nil (.s (.s .nil (.u (.loop [(0, 33), (7, 92), (8, 3)] .nil))) .nil))) [(.slice b bN bC), (.slice sizes sizesN sizesC)] w Q = N40 b bN bC sizes sizesN sizesC w Q := by intros; kernel_rfl
theorem call40 {b : Option Addr} {bN bC : Nat} {sizes : Option Addr} {sizesN sizesC : Nat} {w : World} {Q : Value → World → Prop} (hN : N40 b bN bC sizes sizesN sizesC w Q) : CALL PG 40 [(.slice b bN bC), (.slice sizes sizesN sizesC)] w Q := calls_vc tabOk Tryd.func40 (by rw [eq40]; exact hN)

/-- brougham/broughamref02.Get -/
def N55 (b : Option Addr) (bN bC : Nat) (bytes : Int) (w : World) (Q : Value → World → Prop) : Prop :=
 IFB (decide (bytes < (1 : Int)))
 (Q (.tuple #[(.int .u64 (0 : Int)), (.slice none 0 0), (.bool false)]) w)
 (IFB (decide (bytes > (8 : Int)))
 (Q (.tuple #[(.int .u64 (0 : Int)), (.slice none 0 0), (.bool false)]) w)
 (IFB (decide ((bN : Int) < bytes))
 (Q (.tuple #[(.int .u64 (0 : Int)), (.slice none 0 0), (.bool false)]) w)
 (∃ I : Nat → Int → Int → World → Prop,
 (∃ m, I m (0 : Int) (0 : Int) w) ∧
 (∀ m1 (n : Int) (i : Int) (w1 : World), I m1 n i w1 → (IFB (decide (i < bytes))
 (IDX b bN i fun a30 =>
 RDI PG (loadVar 5 (Addr.add a30 (Int.toNat i * 1))) .u8 w1 fun x31 =>
 LETI (IntKind.u64.wrap ((IntKind.u64.wrap (n * (256 : Int))) + (IntKind.u64.wrap x31))) fun n1 =>
 LETI (IntKind.i64.wrap (i + (1 : Int))) fun i1 =>
 ∃ m2, m2 < m1 ∧ I m2 n1 i1 w1)
 (NEED (0 ≤ bytes ∧ bytes ≤ ((bN : Nat) : Int) ∧ ((bN : Nat) : Int) ≤ ((bC : Nat) : Int))
 (LETI n fun x4 =>
 Q (.tuple #[(.int .u64 x4), (.slice (cutA b bC 1 bytes) (Int.toNat ((bN : Nat) : Int) - Int.toNat bytes) (bC - Int.toNat bytes)), (.bool true)]) (w1.drew))))))))
theorem eq55 : ∀ (b : Option Addr) (bN bC : Nat) (bytes : Int) (w : World) (Q : Value → World → Prop), vcF PG TB Tryd.f55 (.s .nil (.s .nil (.s .nil (.s (.s .nil (.u (.loop [(7, 95), (8, 3)] .nil))) .nil)))) [(.slice b bN bC), (.int .i64 bytes)] w Q = N55 b bN bC bytes w Q := by intros; kernel_rfl
theorem call55 {b : Option Addr} {bN bC : Nat} {bytes : Int} {w : World} {Q : Value → World → Prop} (hN : N55 b bN bC bytes w Q) : CALL PG 55 [(.slice b bN bC), (.int .i64 bytes)] w Q := calls_vc tabOk Tryd.func55 (by rw [eq55]; exact hN)

end Go.Br

/- The document's segment of some bytes. -/
set_option linter.unusedVariables false
set_option linter.unusedSimpArgs false
set_option linter.unnecessarySimpa false
namespace Go.Br
open Go
instance biSegRefa : Bld PG (Instr.build 66 #[]) (.agg #[.int .u16 0, .int .u16 0, .int .u32 0, .int .u32 0, .int .u8 0, .slice none 0 0, .slice none 0 0]) := ⟨fun w => by kernel_rfl⟩
instance biSegRefb (x0 : Int) (x1 : Int) (x2 : Int) (x3 : Int) (x4 : Int) : Bld PG (Instr.build 66 #[(0, .int .u16 x0), (1, .int .u16 x1), (2, .int .u32 x2), (3, .int .u32 x3), (4, .int .u8 x4)]) (.agg #[.int .u16 x0, .int .u16 x1, .int .u32 x2, .int .u32 x3, .int .u8 x4, .slice none 0 0, .slice none 0 0]) := ⟨fun w => by kernel_rfl⟩
instance biSegRefc (x0 : Int) (x1 : Option Addr) (n1 c1 : Nat) : Bld PG (Instr.build 97 #[(0, .int .u8 x0), (1, .slice x1 n1 c1)]) (.agg #[.int .u8 x0, .slice x1 n1 c1]) := ⟨fun w => by kernel_rfl⟩
instance biSegRefd : Zro PG 66 7 64 (.agg #[.int .u16 0, .int .u16 0, .int .u32 0, .int .u32 0, .int .u8 0, .slice none 0 0, .slice none 0 0]) := ⟨tiOf (by kernel_rfl)⟩
attribute [local irreducible] Addr.add RD RDS RUN RUNU NILC LETB CALL CALLX CALLV

def perr (bs : List UInt8) : Int := match parseS bs with | .error e => e | .ok _ => 0
def pdat (bs : List UInt8) : Nat := match parseS bs with | .error _ => 0 | .ok s => s.ds.length
theorem perr_err {bs e} (h : parseS bs = .error e) : perr bs = e ∧ pdat bs = 0 := by unfold perr pdat; rw [h]; exact ⟨rfl, rfl⟩
theorem perr_ok {bs s} (h : parseS bs = .ok s) : perr bs = 0 ∧ pdat bs = s.ds.length := by unfold perr pdat; rw [h]; exact ⟨rfl, rfl⟩
theorem opt_step {X : List UInt8} {k : Nat} (h : k + 2 ≤ X.length) : (optsS (X.drop k)).isSome = if byteAt X k = 0 ∨ X.length < k + 2 + byteAt X (k + 1) then false else (optsS (X.drop (k + 2 + byteAt X (k + 1)))).isSome := by
  rw [drop_cons' (byteAt_get (bs := X) (i := k) (by omega)), drop_cons' (byteAt_get (bs := X) (i := k + 1) (by omega)), optsS_two]
  have e1 : (X.getD (k + 1) 0).toNat = byteAt X (k + 1) := rfl
  have e0 : (X.getD k 0 = 0) ↔ byteAt X k = 0 := by
    unfold byteAt
    rw [← UInt8.toNat_inj]
    rfl
  rw [e1]
  have el : (X.drop (k + 1 + 1)).length = X.length - (k + 2) := by rw [List.length_drop]
  rw [el]
  by_cases hc : byteAt X k = 0 ∨ X.length < k + 2 + byteAt X (k + 1)
  · rw [if_pos hc, if_pos (by rw [e0]; omega)]
    rfl
  · rw [if_neg hc, if_neg (by rw [e0]; omega), List.drop_drop, Option.isSome_map]
section
variable {c : Ctx} {w : World} {L R : List SA} {A B : Option Addr} {n C m d : Nat}
theorem or9 {x b : Nat} (hb : b < 256) (hx : x < 72057594037927936) : IntKind.u64.wrap (IntKind.u64.wrap ((x : Int) * 256) + IntKind.u64.wrap (b : Int)) = ((x * 256 + b : Nat) : Int) := by
  have e1 : IntKind.u64.wrap ((x : Int) * 256) = (x : Int) * 256 := by rw [wrapU64]; omega
  have e2 : IntKind.u64.wrap (b : Int) = (b : Int) := by rw [wrapU64]; omega
  rw [e1, e2, wrapU64]
  omega
theorem rget_ok (h : St c w L) {bs : List UInt8} (hr : RdIn L A (bvs bs)) (hn : bs.length = n) (hC : n ≤ C) (hb : n ≤ 1000000) {s : Nat} (hs : 1 ≤ s ∧ s ≤ 8 ∧ s ≤ n) {Q : Value → World → Prop}
    (hyes : ∀ w', St c w' L → Q (.tuple #[.int .u64 (beN (bs.take s) : Int), .slice (cutA A C 1 (s : Int)) (n - s) (C - s), .bool true]) w') :
    CALL PG 55 [.slice A n C, .int .i64 (s : Int)] w Q := by
  refine call55 ?_
  unfold N55
  obtain ⟨h1, h2, h3⟩ := hs
  refine ifd (fun _ => by omega) fun _ => ifd (fun _ => by omega) fun _ => ifd (fun _ => by omega) fun _ => ?_
  refine ⟨fun m3 x y w' => ∃ q : Nat, y = q ∧ m3 = s - q ∧ q ≤ s ∧ x = (beN (bs.take q) : Int) ∧ St c w' L, ⟨_, 0, rfl, rfl, by omega, rfl, h⟩, ?_⟩
  clear h
  rintro m3 _ _ w' ⟨q, rfl, rfl, hq, rfl, h⟩
  refine ifd (fun hlt2 => ?_) fun hge2 => ?_
  · refine h.byteR hr hn (by omega) (leti rfl ?_)
    have hlt3 := beN_lt (bs.take q)
    rw [List.length_take, Nat.min_eq_left (by omega)] at hlt3
    have h7 : 256 ^ q ≤ 256 ^ 7 := Nat.pow_le_pow_right (by decide) (by omega)
    have hbl := byteAt_lt bs q
    rw [or9 hbl (by have : (256 : Nat) ^ 7 = 72057594037927936 := by decide
                    omega)]
    refine leti rfl ⟨_, by omega, q + 1, by rw [wrap_i64 (by omega) (by omega)]; omega, rfl, by omega, by rw [beN_take (by omega)], h⟩
  have eq : q = s := by omega
  subst eq
  refine ⟨by omega, leti rfl ?_⟩
  rw [Int.toNat_natCast, Int.toNat_natCast]
  exact hyes _ h.drew
theorem rall_ok (h : St c w L) {bs : List UInt8} (hr : RdIn L A (bvs bs)) (hn : bs.length = n) (hC : n ≤ C) (hb : n ≤ 1000000) {Sz : List Nat} (hrs : RdIn L B (Sz.flatMap nv)) (hm : Sz.length = m) (hm2 : m ≤ 1000) {l : List Nat} {rest : List UInt8} (hg : getS Sz bs = some (l, rest)) {Q : Value → World → Prop}
    (hyes : ∀ w' O d1 A2 n2 C2, St c w' (own 95 1 O l.length d1 (l.flatMap uv) :: L) → Q (.tuple #[.slice O l.length d1, .slice A2 n2 C2, .bool true]) w') :
    CALL PG 40 [.slice A n C, .slice B m d] w Q := by
  refine call40 ?_
  unfold N40
  have h := h.addOwnNil 95 1
  refine ⟨fun mm b bN bC O oN oC x w' => ∃ (j : Nat) (acc l2 : List Nat) (r : List UInt8), x = j ∧ mm = m - j ∧ j ≤ m ∧ getS (Sz.drop j) r = some (l2, rest) ∧ l = acc ++ l2 ∧ r.length = bN ∧ bN ≤ bC ∧ bN ≤ 1000000 ∧ RdIn L b (bvs r) ∧ acc.length = oN ∧ acc.length = j ∧ St c w' (own 95 1 O oN oC (acc.flatMap uv) :: L),
    ⟨_, 0, [], l, bs, rfl, rfl, by omega, hg, rfl, hn, hC, hb, hr, rfl, rfl, h⟩, ?_⟩
  clear h hg
  rintro mm b bN bC O oN oC _ w' ⟨j, acc, l2, r, rfl, rfl, hj, hg, hl, rfl, hbC, hb1, hrb, rfl, haj, h⟩
  refine ifd (fun hlt => ?_) fun hge => ?_
  rotate_left
  · have ej : Sz.drop j = [] := List.drop_eq_nil_of_le (by omega)
    rw [ej] at hg
    simp only [getS, Option.some.injEq, Prod.mk.injEq] at hg
    rw [← hg.1, List.append_nil] at hl
    subst hl
    exact hyes _ _ _ _ _ _ h
  obtain ⟨s, hs⟩ := ex_get (L := Sz) (j := j) (by omega)
  have ed := drop_cons' hs
  rw [ed, getS] at hg
  split at hg
  · cases hg
  rename_i hok
  obtain ⟨⟨l3, r3⟩, hg3, he⟩ := Option.map_eq_some_iff.1 hg
  simp only [Prod.mk.injEq] at he
  obtain ⟨he1, rfl⟩ := he
  refine h.ix (z := 0) (i := j) hrs.more hs (fun a ha => ?_) (by omega)
  have hrs1 := hrs
  rw [ha] at hrs1
  refine h.rdWI (i := j) hrs1.more hs ?_
  refine rget_ok h hrb.more rfl hbC hb1 (s := s) (by omega) fun w' h => ?_
  (repeat (first | apply Exists.intro (α := Int) | apply Exists.intro (α := Bool) | apply Exists.intro (α := ByteArray) | (apply Exists.intro (α := Option Addr); apply Exists.intro (α := Nat); apply Exists.intro (α := Nat)) | apply Exists.intro (α := Option Addr) | apply Exists.intro (α := Value)))
  refine ⟨rfl, ?_⟩
  refine leti rfl (letb rfl (iff_ rfl ?_))
  refine h.app1 huU64s tiU64 (uv (beN (r.take s))) .head (uv_flat1 _) (by omega) fun O2 d2 w' h => ?_
  refine leti (y := ((j + 1 : Nat) : Int)) (by rw [wrap_i64 (by omega) (by omega)]; omega) ⟨_, ?_, j + 1, acc ++ [beN (r.take s)], l3, r.drop s, rfl, rfl, by omega, hg3, by rw [hl, ← he1]; simp, by rw [List.length_drop], by omega, by omega, cut_rd hrb hbC s, by simp, by simp; omega, ?_⟩
  · omega
  · rw [List.flatMap_append]
    simpa using h
theorem bad7 {p : Nat} {e : Int} {w' : World} {M : List SA} {Q : Value → World → Prop} (h : St c w' (M ++ blk p 66 zsg :: L))
    (hno : ∀ w', St c w' L → Q (.tuple #[.agg #[.int .u16 0, .int .u16 0, .int .u32 0, .int .u32 0, .int .u8 0, .slice none 0 0, .slice none 0 0], .int .i64 e]) w') :
    RD PG (Instr.build 66 #[]) w' fun v => ∃ (a b x y z : Int) (s : Option Addr) (sn sd : Nat) (t : Option Addr) (tn td : Nat), v = .agg #[.int .u16 a, .int .u16 b, .int .u32 x, .int .u32 y, .int .u8 z, .slice s sn sd, .slice t tn td] ∧
      RUNU PG (storeVar 66 ⟨p, 0, none⟩ (.agg #[.int .u16 a, .int .u16 b, .int .u32 x, .int .u32 y, .int .u8 z, .slice s sn sd, .slice t tn td])) w' fun w'' => RD PG (loadVar 66 ⟨p, 0, none⟩) w'' fun v => ∃ (a b x y z : Int) (s : Option Addr) (sn sd : Nat) (t : Option Addr) (tn td : Nat), v = .agg #[.int .u16 a, .int .u16 b, .int .u32 x, .int .u32 y, .int .u8 z, .slice s sn sd, .slice t tn td] ∧
        Q (.tuple #[.agg #[.int .u16 a, .int .u16 b, .int .u32 x, .int .u32 y, .int .u8 z, .slice s sn sd, .slice t tn td], .int .i64 e]) w'' := by
  refine RD.bld ⟨_, _, _, _, _, _, _, _, _, _, _, rfl, ?_⟩
  have h := h.pick pick_app0
  refine h.stG fun w' h => ?_
  refine h.rdG ⟨_, _, _, _, _, _, _, _, _, _, _, rfl, ?_⟩
  exact hno _ (h.drop.dropM)
theorem rparse_ok (h : St c w L) {bs : List UInt8} (hr : RdIn L A (bvs bs)) (hn : bs.length = n) (hC : n ≤ C) (hb : n ≤ 1000000) {Q : Value → World → Prop}
    (hq : ∀ (a b x y z : Int) (s : Option Addr) (sn sd : Nat) (t : Option Addr) (tn td : Nat) w', St c w' L → tn = pdat bs → Q (.tuple #[.agg #[.int .u16 a, .int .u16 b, .int .u32 x, .int .u32 y, .int .u8 z, .slice s sn sd, .slice t tn td], .int .i64 (perr bs)]) w') :
    CALL PG 27 [.slice A n C] w Q := by
  refine call27 ?_
  unfold N27
  refine h.allocZ fun p w' h => ?_
  have no : ∀ {e : Int}, parseS bs = .error e → ∀ w', St c w' L → Q (.tuple #[.agg #[.int .u16 0, .int .u16 0, .int .u32 0, .int .u32 0, .int .u8 0, .slice none 0 0, .slice none 0 0], .int .i64 e]) w' := fun {e} he w' h => by
    have := perr_err he
    rw [← this.1]
    exact hq _ _ _ _ _ _ _ _ _ _ _ w' h this.2.symm
  have p12 : (bs.getD 12 0).toNat = byteAt bs 12 := rfl
  have p13 : (bs.getD 13 0).toNat = byteAt bs 13 := rfl
  have hlt13 := byteAt_lt bs 13
  refine ifd (fun hl => ?_) fun hl => ?_
  · refine bad7 (M := []) h (no ?_)
    unfold parseS
    rw [if_pos (.inl (by omega))]
  refine h.byteR hr.more hn (i := 12) (by omega) ?_
  refine ifd (fun hbig => ?_) fun hsm => ?_
  · refine bad7 (M := []) h (no ?_)
    unfold parseS
    rw [if_pos (.inr (by omega))]
  refine h.byteR hr.more hn (i := 13) (by omega) ?_
  refine leti (y := (byteAt bs 13 : Int)) (by rw [wrap_i64 (by omega) (by omega)]) ?_
  refine ifd (fun hbig => ?_) fun hsm2 => ?_
  · refine bad7 (M := []) h (no ?_)
    unfold parseS
    rw [if_neg (by omega), if_pos (.inl (by omega))]
  rw [wrap_i64 (n := (n : Int) - 14) (by omega) (by omega)]
  refine ifd (fun hbig => ?_) fun hsm3 => ?_
  · refine bad7 (M := []) h (no ?_)
    unfold parseS
    rw [if_neg (by omega), if_pos (.inr (by omega))]
  refine h.lit (n := 4) 3 1 (([2, 2, 4, 4] : List Nat).flatMap nv) fun q w' h => ?_
  have hg : getS [2, 2, 4, 4] bs = some ([beN (bs.take 2), beN ((bs.drop 2).take 2), beN ((bs.drop 4).take 4), beN ((bs.drop 8).take 4)], bs.drop 12) := by
    simp only [getS, List.drop_drop, List.length_drop]
    rw [if_neg (by omega), if_neg (by omega), if_neg (by omega), if_neg (by omega)]
    rfl
  refine rall_ok h hr.more.more hn hC hb (RdIn.own .head) rfl (by decide) hg fun w' O d1 A2 n2 C2 h => ?_
  (repeat (first | apply Exists.intro (α := Int) | apply Exists.intro (α := Bool) | apply Exists.intro (α := ByteArray) | (apply Exists.intro (α := Option Addr); apply Exists.intro (α := Nat); apply Exists.intro (α := Nat)) | apply Exists.intro (α := Option Addr) | apply Exists.intro (α := Value)))
  refine ⟨rfl, ?_⟩
  refine letb rfl ?_
  have h := h.drew
  refine ⟨fun w => St c w (own 95 1 O _ d1 (([beN (bs.take 2), beN ((bs.drop 2).take 2), beN ((bs.drop 4).take 4), beN ((bs.drop 8).take 4)] : List Nat).flatMap uv) :: L), h.sub (.cons .head (Sub.same _).more.more), ?_⟩
  refine h.ix (z := 0) (i := 0) (y := beN (bs.take 2)) (RdIn.own .head) rfl (fun a ha => ?_) (by simp)
  subst ha
  refine St.rdsWI (i := 0) (y := beN (bs.take 2)) (RdIn.own .head) rfl ?_
  refine h.ix (z := 0) (i := 1) (y := beN ((bs.drop 2).take 2)) (RdIn.own .head) rfl (fun a ha => ?_) (by simp)
  injection ha with ha
  subst ha
  refine St.rdsWI (i := 1) (y := beN ((bs.drop 2).take 2)) (RdIn.own .head) rfl ?_
  refine h.ix (z := 0) (i := 2) (y := beN ((bs.drop 4).take 4)) (RdIn.own .head) rfl (fun a ha => ?_) (by simp)
  injection ha with ha
  subst ha
  refine St.rdsWI (i := 2) (y := beN ((bs.drop 4).take 4)) (RdIn.own .head) rfl ?_
  refine h.ix (z := 0) (i := 3) (y := beN ((bs.drop 8).take 4)) (RdIn.own .head) rfl (fun a ha => ?_) (by simp)
  injection ha with ha
  subst ha
  refine St.rdsWI (i := 3) (y := beN ((bs.drop 8).take 4)) (RdIn.own .head) rfl ?_
  have hrb := hr
  rw [bvs_flat] at hrb
  refine h.ix (z := 0) (i := 12) hrb.more.more.more (byteAt_get (i := 12) (by omega)) (fun a ha => ?_) (by omega)
  have hrb2 := hrb
  rw [ha] at hrb2
  refine St.rdsWI (i := 12) hrb2.more (byteAt_get (i := 12) (by omega)) ?_
  refine RDS.bld ?_
  (repeat (first | apply Exists.intro (α := Int) | apply Exists.intro (α := Bool) | apply Exists.intro (α := ByteArray) | (apply Exists.intro (α := Option Addr); apply Exists.intro (α := Nat); apply Exists.intro (α := Nat)) | apply Exists.intro (α := Option Addr) | apply Exists.intro (α := Value)))
  refine ⟨rfl, ?_⟩
  refine h.allocZ fun p2 w' h => ?_
  refine ⟨_, fun _ h => h, h.sub (.cons (.tail .head) (Sub.same _).more.more.more), ?_⟩
  refine h.stG fun w' h => ?_
  have hXl : ((bs.drop 14).take (byteAt bs 13)).length = byteAt bs 13 := by rw [List.length_take, List.length_drop]; omega
  have hXb : ∀ k, k < byteAt bs 13 → byteAt ((bs.drop 14).take (byteAt bs 13)) k = byteAt bs (14 + k) := fun k hk => by
    show (List.getD _ k (0 : UInt8)).toNat = (bs.getD (14 + k) 0).toNat
    simp [List.getD_eq_getElem?_getD, List.getElem?_take, hk, List.getElem?_drop]
  have h := (h.addOwnNil 97 2).sub (show Sub _ (own 97 2 none 0 0 [] :: blk p2 66 _ :: blk p 66 zsg :: L) from .cons .head (.cons .head (.cons (.tail (.tail .head)) (Sub.same _).more.more)))
  generalize hX : (bs.drop 14).take (byteAt bs 13) = X at hXl hXb
  refine ⟨fun mm atv w' => ∃ (k : Nat) (a b x y z : Int) (O : Option Addr) (oN oC : Nat) (cs : List Value), atv = ((14 + k : Nat) : Int) ∧ mm = n - k ∧ k ≤ byteAt bs 13 ∧ oN ≤ k ∧ (optsS X).isSome = (optsS (X.drop k)).isSome ∧ St c w' (own 97 2 O oN oC cs :: blk p2 66 [.int .u16 a, .int .u16 b, .int .u32 x, .int .u32 y, .int .u8 z, .slice O oN oC, .slice none 0 0] :: blk p 66 zsg :: L),
    ⟨_, 0, _, _, _, _, _, none, 0, 0, [], rfl, rfl, by omega, by omega, rfl, h⟩, ?_⟩
  clear h
  rintro mm _ w' ⟨k, a, b, x, y, z, O, oN, oC, cs, rfl, rfl, hk, hoN, hos, h⟩
  rw [wrap_i64 (n := (14 : Int) + (byteAt bs 13 : Int)) (by omega) (by omega)]
  refine ifd (fun hlt => ?_) fun hge => ?_
  · have hbad : (optsS X).isSome = false → parseS bs = .error 71 := fun hf => by
      unfold parseS
      rw [if_neg (by omega), if_neg (by omega), p13, hX]
      cases ho : optsS X with
      | none => rfl
      | some v => rw [ho] at hf; cases hf
    rw [wrap_i64 (n := ((14 + k : Nat) : Int) + 2) (by omega) (by omega)]
    refine ifd (fun h1 => ?_) fun h1 => ?_
    · refine bad7 (M := [_, _]) h (no (hbad ?_))
      rw [hos]
      have hl1 : (X.drop k).length = 1 := by rw [List.length_drop]; omega
      obtain ⟨x1, e1⟩ := List.length_eq_one_iff.1 hl1
      rw [e1, optsS]
      rfl
    have hst := opt_step (X := X) (k := k) (by omega)
    rw [hXb k (by omega), hXb (k + 1) (by omega), hXl] at hst
    have hb1 := byteAt_lt bs (14 + k)
    have hb2 := byteAt_lt bs (14 + (k + 1))
    refine h.byteR hr.more.more.more hn (i := 14 + k) (by omega) ?_
    refine ifq (fun e0 => ?_) fun e0 => ?_
    · refine bad7 (M := [_, _]) h (no (hbad ?_))
      rw [hos, hst, if_pos (.inl (by omega))]
    rw [wrap_i64 (n := ((14 + k : Nat) : Int) + 1) (by omega) (by omega), show ((14 + k : Nat) : Int) + 1 = ((14 + (k + 1) : Nat) : Int) by omega]
    refine h.byteR hr.more.more.more hn (i := 14 + (k + 1)) (by omega) ?_
    rw [wrap_i64 (n := (byteAt bs (14 + (k + 1)) : Int)) (by omega) (by omega), wrap_i64 (n := ((14 + k : Nat) : Int) + 2 + (byteAt bs (14 + (k + 1)) : Int)) (by omega) (by omega)]
    refine ifd (fun e1 => ?_) fun e1 => ?_
    · refine bad7 (M := [_, _]) h (no (hbad ?_))
      rw [hos, hst, if_pos (.inr (by omega))]
    rw [if_neg (by omega)] at hst
    refine h.byteR hr.more.more.more hn (i := 14 + (k + 1)) (by omega) ?_
    rw [wrap_i64 (n := (byteAt bs (14 + (k + 1)) : Int)) (by omega) (by omega)]
    refine leti rfl ?_
    have h := h.drew
    refine ⟨fun w => St c w (blk p2 66 [.int .u16 a, .int .u16 b, .int .u32 x, .int .u32 y, .int .u8 z, .slice O oN oC, .slice none 0 0] :: blk p 66 zsg :: L), h.drop, ?_⟩
    refine St.rdsL 5 ?_
    have hrb := hr
    rw [bvs_flat] at hrb
    refine h.ix (z := 0) (i := 14 + k) hrb.more.more.more (byteAt_get (i := 14 + k) (by omega)) (fun a9 ha => ?_) (by omega)
    have hrb2 := hrb
    rw [ha] at hrb2
    refine St.rdsWI (i := 14 + k) hrb2.more.more (byteAt_get (i := 14 + k) (by omega)) ?_
    rw [wrap_i64 (n := ((14 + k : Nat) : Int) + 2 + (byteAt bs (14 + (k + 1)) : Int)) (by omega) (by omega)]
    refine ⟨⟨by omega, by omega, by omega⟩, ?_⟩
    refine h.lit (n := 0) 5 1 [] fun q0 w' h => ?_
    refine ⟨_, fun _ h => h, h.drop.drop, ?_⟩
    have e2 : ((14 + k : Nat) : Int) + 2 = ((14 + k + 2 : Nat) : Int) := by omega
    rw [e2]
    have el : Int.toNat (((14 + k + 2 : Nat) : Int) + (byteAt bs (14 + (k + 1)) : Int)) - Int.toNat ((14 + k + 2 : Nat) : Int) = byteAt bs (14 + (k + 1)) := by omega
    rw [el]
    have hbody : RdIn L (cutA A C 1 ((14 + k + 2 : Nat) : Int)) (bvs ((bs.drop (14 + k + 2)).take (byteAt bs (14 + (k + 1))))) := by
      have := (cut_rd hr (by omega : bs.length ≤ C) (14 + k + 2)).take (byteAt bs (14 + (k + 1)))
      rw [bvs_take] at this
      exact this
    refine h.append huBytes tiU8 .head hbody.more.more.more.more (m := byteAt bs (14 + (k + 1))) (by rw [bvs_length, List.length_take, List.length_drop]; omega) (Flat.bvs _) (by omega) fun O2 d2 w' h => ?_
    refine ⟨_, fun _ h => h, h.drop.drop, ?_⟩
    refine RDS.bld ?_
    (repeat (first | apply Exists.intro (α := Int) | apply Exists.intro (α := Bool) | apply Exists.intro (α := ByteArray) | (apply Exists.intro (α := Option Addr); apply Exists.intro (α := Nat); apply Exists.intro (α := Nat)) | apply Exists.intro (α := Option Addr) | apply Exists.intro (α := Value)))
    refine ⟨rfl, ?_⟩
    refine h.lit (n := 1) 97 2 [.int .u8 (byteAt bs (14 + k) : Int), .slice O2 (0 + byteAt bs (14 + (k + 1))) d2] fun q1 w' h => ?_
    refine ⟨_, fun _ h => h, h.drop.drop.drop, ?_⟩
    refine h.append huOpx tiOpx (.tail (.tail .head)) (RdIn.own .head) (m := 1) rfl (by intro v hv; simp at hv; rcases hv with rfl | rfl <;> rfl) (by omega) fun O3 d3 w' h => ?_
    refine h.st 5 fun w' h => ?_
    rw [wrap_i64 (n := (2 : Int) + (byteAt bs (14 + (k + 1)) : Int)) (by omega) (by omega)]
    refine leti (y := ((14 + (k + 2 + byteAt bs (14 + (k + 1))) : Nat) : Int)) (by rw [wrap_i64 (by omega) (by omega)]; omega) ⟨_, ?_, k + 2 + byteAt bs (14 + (k + 1)), a, b, x, y, z, O3, oN + 1, d3, cs ++ [.int .u8 (byteAt bs (14 + k) : Int), .slice O2 (0 + byteAt bs (14 + (k + 1))) d2], rfl, rfl, by omega, by omega, by rw [hos, hst], ?_⟩
    · omega
    · exact h.sub (.cons (.tail .head) (.cons .head (Sub.same _).more.more))
  have ek : k = byteAt bs 13 := by omega
  have hsome : (optsS X).isSome = true := by
    rw [hos, ek, List.drop_eq_nil_of_le (by omega), optsS]
    rfl
  obtain ⟨os, ho⟩ := Option.isSome_iff_exists.1 hsome
  rw [wrap_i64 (n := (n : Int) - ((14 + k : Nat) : Int)) (by omega) (by omega)]
  refine ifd (fun hbig => ?_) fun hsm4 => ?_
  · refine bad7 (M := [_, _]) h (no ?_)
    unfold parseS
    rw [if_neg (by omega), if_neg (by omega), p13, hX, ho]
    simp only
    rw [if_pos (by omega)]
  have hpar : perr bs = 0 ∧ pdat bs = n - (14 + k) := by
    have hp : ∃ s, parseS bs = .ok s ∧ s.ds = bs.drop (14 + byteAt bs 13) := by
      unfold parseS
      rw [if_neg (by omega), if_neg (by omega), p13, hX, ho]
      simp only
      rw [if_neg (by omega)]
      exact ⟨_, rfl, rfl⟩
    obtain ⟨s, h1, h2⟩ := hp
    have := perr_ok h1
    rw [h2, List.length_drop, hn, ← ek] at this
    exact this
  refine h.lit (n := 0) 5 1 [] fun q0 w' h => ?_
  refine ⟨by omega, ?_⟩
  rw [Int.toNat_natCast, Int.toNat_natCast]
  refine h.append huBytes tiU8 .head (cut_rd hr (by omega) (14 + k)).more.more.more.more (m := n - (14 + k)) (by rw [bvs_length, List.length_drop, hn]; omega) (Flat.bvs _) (by omega) fun O2 d2 w' h => ?_
  refine h.st 6 fun w' h => ?_
  refine h.rdG ?_
  (repeat (first | apply Exists.intro (α := Int) | apply Exists.intro (α := Bool) | apply Exists.intro (α := ByteArray) | (apply Exists.intro (α := Option Addr); apply Exists.intro (α := Nat); apply Exists.intro (α := Nat)) | apply Exists.intro (α := Option Addr) | apply Exists.intro (α := Value)))
  refine ⟨rfl, ?_⟩
  refine h.stG fun w' h => ?_
  refine h.rdG ?_
  (repeat (first | apply Exists.intro (α := Int) | apply Exists.intro (α := Bool) | apply Exists.intro (α := ByteArray) | (apply Exists.intro (α := Option Addr); apply Exists.intro (α := Nat); apply Exists.intro (α := Nat)) | apply Exists.intro (α := Option Addr) | apply Exists.intro (α := Value)))
  refine ⟨rfl, ?_⟩
  rw [← hpar.1]
  exact hq _ _ _ _ _ _ _ _ _ _ _ _ h.drop.drop.drop.drop (by omega)
end
end Go.Br
