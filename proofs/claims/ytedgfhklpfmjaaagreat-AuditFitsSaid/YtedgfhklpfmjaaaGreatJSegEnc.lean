/- Pack, ParsePure, SegRep, SegEnc -/
import Derived.Test.YtedgfhklpfmjaaaGreatBrSeat
import Derived.Test.YtedgfhklpfmjaaaGreatBrOwn
import Derived.Test.YtedgfhklpfmjaaaGreatBrList
/- What the code of some functions says, as the core reads it; each reading is checked by the kernel. -/
set_option linter.unusedVariables false
set_option maxRecDepth 100000
namespace Go.Br
open Go Go.Proofs

/-- brougham/pack.Put -/
def N55 (b : Option Addr) (bN bC : Nat) (l : Option Addr) (lN lC : Nat) (w : World) (Q : Value → World → Prop) : Prop :=
 RUNL PG (Builtin.append_ #[95, 95] 95 #[(.slice none 0 0), (.slice b bN bC)]) w fun x10 x10N x10C w1 =>
 ∃ I : Nat → Option Addr → Nat → Nat → Int → World → Prop,
 (∃ m, I m x10 x10N x10C (0 : Int) w1) ∧
 (∀ m1 (out : Option Addr) (outN outC : Nat) (x13 : Int) (w2 : World), I m1 out outN outC x13 w2 → (IFB (decide (x13 < (lN : Int)))
 (IDX l lN x13 fun a15 =>
 RD PG (loadVar 148 (Addr.add a15 (Int.toNat x13 * 2))) w2 fun v =>
 ∃ x16 : Int, ∃ x16v1 : Int, v = (.agg #[(.int .i64 x16), (.int .u64 x16v1)]) ∧
 (RUNA PG (Instr.alloc 148 true (.tuple #[])) w2 fun a7 w3 =>
 RUNU PG (storeVar 148 a7 (.agg #[(.int .i64 x16), (.int .u64 x16v1)])) w3 fun w4 =>
 RDI PG (loadVar 3 (Addr.add a7 0)) .i64 w4 fun x18 =>
 IFB (decide (x18 < (1 : Int)))
 (∃ m2, m2 < m1 ∧ I m2 out outN outC (IntKind.i64.wrap (x13 + (1 : Int))) w4)
 (RDI PG (loadVar 3 (Addr.add a7 0)) .i64 w4 fun x22 =>
 IFB (decide (x22 > (8 : Int)))
 (∃ m3, m3 < m1 ∧ I m3 out outN outC (IntKind.i64.wrap (x13 + (1 : Int))) w4)
 (RDI PG (loadVar 3 (Addr.add a7 0)) .i64 w4 fun x26 =>
 LETI (IntKind.i64.wrap (x26 - (1 : Int))) fun i =>
 ∃ I1 : Nat → Option Addr → Nat → Nat → Int → World → Prop,
 (∃ m4, I1 m4 out outN outC i w4) ∧
 (∀ m5 (out1 : Option Addr) (outN1 outC1 : Nat) (i1 : Int) (w5 : World), I1 m5 out1 outN1 outC1 i1 w5 → (IFB (decide (i1 ≥ (0 : Int)))
 (RDI PG (loadVar 25 (Addr.add a7 1)) .u64 w5 fun x34 =>
 NEED (0 ≤ (IntKind.i64.wrap ((8 : Int) * i1)))
 (RUNL PG (Instr.buildSlice 95 1 #[(0, (.int .u8 (IntKind.u8.wrap (shrN .u64 x34 (IntKind.i64.wrap ((8 : Int) * i1))))))]) w5 fun x39 x39N x39C w6 =>
 RUNL PG (Builtin.append_ #[95, 95] 95 #[(.slice out1 outN1 outC1), (.slice x39 x39N x39C)]) w6 fun x40 x40N x40C w7 =>
 LETI (IntKind.i64.wrap (i1 - (1 : Int))) fun i2 =>
 ∃ m6, m6 < m5 ∧ I1 m6 x40 x40N x40C i2 w7))
 (∃ m7, m7 < m1 ∧ I m7 out1 outN1 outC1 (IntKind.i64.wrap (x13 + (1 : Int))) w5)))))))
 (Q (.slice out outN outC) w2)))
theorem eq55 : ∀ (b : Option Addr) (bN bC : Nat) (l : Option Addr) (lN lC : Nat) (w : World) (Q : Value → World → Prop), vcF PG TB Tryz.f55 (.s .nil (.s .nil (.s (.s .nil (.u (.loop [(5, 95), (13, 3)] (.s .nil (.s .nil (.s (.u (.s .nil (.s .nil (.s .nil (.u (.loop [(5, 95), (8, 3)] .nil)))))) .nil)))))) .nil))) [(.slice b bN bC), (.slice l lN lC)] w Q = N55 b bN bC l lN lC w Q := by intros; kernel_rfl
theorem call55 {b : Option Addr} {bN bC : Nat} {l : Option Addr} {lN lC : Nat} {w : World} {Q : Value → World → Prop} (hN : N55 b bN bC l lN lC w Q) : CALL PG 55 [(.slice b bN bC), (.slice l lN lC)] w Q := calls_vc tabOk Tryz.func55 (by rw [eq55]; exact hN)

/-- brougham/pack.Q -/
def N56 (n : Int) (w : World) (Q : Value → World → Prop) : Prop :=
 RUNA PG (Instr.alloc 148 true (.tuple #[])) w fun a2 w1 =>
 RD PG (Instr.build 148 #[(0, (.int .i64 (8 : Int))), (1, (.int .u64 n))]) w1 fun v =>
 ∃ x4 : Int, ∃ x4v1 : Int, v = (.agg #[(.int .i64 x4), (.int .u64 x4v1)]) ∧
 (RUNU PG (storeVar 148 a2 (.agg #[(.int .i64 x4), (.int .u64 x4v1)])) w1 fun w2 =>
 RD PG (loadVar 148 a2) w2 fun v2 =>
 ∃ r : Int, ∃ r1 : Int, v2 = (.agg #[(.int .i64 r), (.int .u64 r1)]) ∧
 (Q (.agg #[(.int .i64 r), (.int .u64 r1)]) w2))
theorem eq56 : ∀ (n : Int) (w : World) (Q : Value → World → Prop), vcF PG TB Tryz.f56 .nil [(.int .u64 n)] w Q = N56 n w Q := by intros; kernel_rfl
theorem call56 {n : Int} {w : World} {Q : Value → World → Prop} (hN : N56 n w Q) : CALL PG 56 [(.int .u64 n)] w Q := calls_vc tabOk Tryz.func56 (by rw [eq56]; exact hN)

/-- brougham/pack.W -/
def N89 (n : Int) (w : World) (Q : Value → World → Prop) : Prop :=
 RUNA PG (Instr.alloc 148 true (.tuple #[])) w fun a2 w1 =>
 RD PG (Instr.build 148 #[(0, (.int .i64 (4 : Int))), (1, (.int .u64 (IntKind.u64.wrap n)))]) w1 fun v =>
 ∃ x5 : Int, ∃ x5v1 : Int, v = (.agg #[(.int .i64 x5), (.int .u64 x5v1)]) ∧
 (RUNU PG (storeVar 148 a2 (.agg #[(.int .i64 x5), (.int .u64 x5v1)])) w1 fun w2 =>
 RD PG (loadVar 148 a2) w2 fun v2 =>
 ∃ r : Int, ∃ r1 : Int, v2 = (.agg #[(.int .i64 r), (.int .u64 r1)]) ∧
 (Q (.agg #[(.int .i64 r), (.int .u64 r1)]) w2))
theorem eq89 : ∀ (n : Int) (w : World) (Q : Value → World → Prop), vcF PG TB Tryz.f89 .nil [(.int .u32 n)] w Q = N89 n w Q := by intros; kernel_rfl
theorem call89 {n : Int} {w : World} {Q : Value → World → Prop} (hN : N89 n w Q) : CALL PG 89 [(.int .u32 n)] w Q := calls_vc tabOk Tryz.func89 (by rw [eq89]; exact hN)

/-- brougham/pack.B -/
def N90 (n : Int) (w : World) (Q : Value → World → Prop) : Prop :=
 RUNA PG (Instr.alloc 148 true (.tuple #[])) w fun a2 w1 =>
 RD PG (Instr.build 148 #[(0, (.int .i64 (1 : Int))), (1, (.int .u64 (IntKind.u64.wrap n)))]) w1 fun v =>
 ∃ x5 : Int, ∃ x5v1 : Int, v = (.agg #[(.int .i64 x5), (.int .u64 x5v1)]) ∧
 (RUNU PG (storeVar 148 a2 (.agg #[(.int .i64 x5), (.int .u64 x5v1)])) w1 fun w2 =>
 RD PG (loadVar 148 a2) w2 fun v2 =>
 ∃ r : Int, ∃ r1 : Int, v2 = (.agg #[(.int .i64 r), (.int .u64 r1)]) ∧
 (Q (.agg #[(.int .i64 r), (.int .u64 r1)]) w2))
theorem eq90 : ∀ (n : Int) (w : World) (Q : Value → World → Prop), vcF PG TB Tryz.f90 .nil [(.int .u8 n)] w Q = N90 n w Q := by intros; kernel_rfl
theorem call90 {n : Int} {w : World} {Q : Value → World → Prop} (hN : N90 n w Q) : CALL PG 90 [(.int .u8 n)] w Q := calls_vc tabOk Tryz.func90 (by rw [eq90]; exact hN)

/-- brougham/pack.Flag -/
def N91 (isv : Bool) (w : World) (Q : Value → World → Prop) : Prop :=
 RUNA PG (Instr.alloc 148 true (.tuple #[])) w fun a2 w1 =>
 IFB isv
 (CALL PG 90 [(.int .u8 (1 : Int))] w1 fun v w2 =>
 ∃ x4 : Int, ∃ x4v1 : Int, v = (.agg #[(.int .i64 x4), (.int .u64 x4v1)]) ∧
 (RUNU PG (storeVar 148 a2 (.agg #[(.int .i64 x4), (.int .u64 x4v1)])) w2 fun w3 =>
 RD PG (loadVar 148 a2) w3 fun v2 =>
 ∃ r : Int, ∃ r1 : Int, v2 = (.agg #[(.int .i64 r), (.int .u64 r1)]) ∧
 (Q (.agg #[(.int .i64 r), (.int .u64 r1)]) w3)))
 (CALL PG 90 [(.int .u8 (0 : Int))] w1 fun v3 w4 =>
 ∃ x5 : Int, ∃ x5v1 : Int, v3 = (.agg #[(.int .i64 x5), (.int .u64 x5v1)]) ∧
 (RUNU PG (storeVar 148 a2 (.agg #[(.int .i64 x5), (.int .u64 x5v1)])) w4 fun w5 =>
 RD PG (loadVar 148 a2) w5 fun v5 =>
 ∃ r2 : Int, ∃ r3 : Int, v5 = (.agg #[(.int .i64 r2), (.int .u64 r3)]) ∧
 (Q (.agg #[(.int .i64 r2), (.int .u64 r3)]) w5)))
theorem eq91 : ∀ (isv : Bool) (w : World) (Q : Value → World → Prop), vcF PG TB Tryz.f91 .nil [(.bool isv)] w Q = N91 isv w Q := by intros; kernel_rfl
theorem call91 {isv : Bool} {w : World} {Q : Value → World → Prop} (hN : N91 isv w Q) : CALL PG 91 [(.bool isv)] w Q := calls_vc tabOk Tryz.func91 (by rw [eq91]; exact hN)

/-- brougham/pack.H -/
def N108 (n : Int) (w : World) (Q : Value → World → Prop) : Prop :=
 RUNA PG (Instr.alloc 148 true (.tuple #[])) w fun a2 w1 =>
 RD PG (Instr.build 148 #[(0, (.int .i64 (2 : Int))), (1, (.int .u64 (IntKind.u64.wrap n)))]) w1 fun v =>
 ∃ x5 : Int, ∃ x5v1 : Int, v = (.agg #[(.int .i64 x5), (.int .u64 x5v1)]) ∧
 (RUNU PG (storeVar 148 a2 (.agg #[(.int .i64 x5), (.int .u64 x5v1)])) w1 fun w2 =>
 RD PG (loadVar 148 a2) w2 fun v2 =>
 ∃ r : Int, ∃ r1 : Int, v2 = (.agg #[(.int .i64 r), (.int .u64 r1)]) ∧
 (Q (.agg #[(.int .i64 r), (.int .u64 r1)]) w2))
theorem eq108 : ∀ (n : Int) (w : World) (Q : Value → World → Prop), vcF PG TB Tryz.f108 .nil [(.int .u16 n)] w Q = N108 n w Q := by intros; kernel_rfl
theorem call108 {n : Int} {w : World} {Q : Value → World → Prop} (hN : N108 n w Q) : CALL PG 108 [(.int .u16 n)] w Q := calls_vc tabOk Tryz.func108 (by rw [eq108]; exact hN)

end Go.Br

/- Packing: fields, and numbers as bytes. -/
set_option linter.unusedVariables false
set_option linter.unusedSimpArgs false
set_option linter.unnecessarySimpa false
namespace Go.Br
open Go
instance biPacka : Zro PG 148 2 16 (.agg #[.int .i64 0, .int .u64 0]) := ⟨tiOf (by kernel_rfl)⟩
instance biPackb (x0 : Int) (x1 : Int) : Bld PG (Instr.build 148 #[(0, .int .i64 x0), (1, .int .u64 x1)]) (.agg #[.int .i64 x0, .int .u64 x1]) := ⟨fun w => by kernel_rfl⟩
attribute [local irreducible] Addr.add RD RDS RUN RUNU NILC LETB CALL CALLX CALLV

theorem tiPkU8 : TI PG 5 1 1 (.int .u8 0) := tiOf (by kernel_rfl)
theorem huPk : PG.underlying 95 = some (.slice 5) := by kernel_rfl
structure Fd where
  b : Int
  n : Int
def fd (x : Fd) : List Value := [.int .i64 x.b, .int .u64 x.n]
abbrev fdv (x : Fd) : Value := .agg #[.int .i64 x.b, .int .u64 x.n]
theorem fd_length (x : Fd) : (fd x).length = 2 := rfl
theorem fd_flat1 (x : Fd) : Flat (fd x) := by intro v hv; simp [fd] at hv; rcases hv with rfl | rfl <;> rfl
theorem fd_flat (L : List Fd) : Flat (L.flatMap fd) := by
  intro v hv
  simp only [List.mem_flatMap] at hv
  obtain ⟨x, _, hx⟩ := hv
  exact fd_flat1 x v hx
/-- A number's lowest bytes, the highest ahead. -/
def beB (n : Int) : Nat → List UInt8
  | 0 => []
  | k + 1 => beB (n / 256) k ++ [byteOf n]
theorem beB_length : ∀ (k : Nat) (n : Int), (beB n k).length = k
  | 0, _ => rfl
  | k + 1, n => by simp [beB, beB_length k]
def fdb (f : Fd) : List UInt8 := beB f.n f.b.toNat
def FdOk (f : Fd) : Prop := 1 ≤ f.b ∧ f.b ≤ 8 ∧ 0 ≤ f.n ∧ f.n < 18446744073709551616
theorem fdb_le {f : Fd} (h : FdOk f) : (fdb f).length ≤ 8 := by unfold fdb; rw [beB_length]; have := h.2.1; omega
theorem fdbs_le : ∀ {fs : List Fd}, (∀ f ∈ fs, FdOk f) → (fs.flatMap fdb).length ≤ 8 * fs.length
  | [], _ => by simp
  | f :: fs, h => by
    have h1 := fdb_le (h f (by simp))
    have h2 := fdbs_le (fs := fs) fun x hx => h x (by simp [hx])
    simp only [List.flatMap_cons, List.length_append, List.length_cons]; omega
section
variable {c : Ctx} {w : World} {L R : List SA}
theorem packB_ok (h : St c w L) {n : Int} (h0 : 0 ≤ n) (h1 : n < 256) {Q : Value → World → Prop} (hk : ∀ w', St c w' L → Q (.agg #[.int .i64 1, .int .u64 n]) w') : CALL PG 90 [.int .u8 n] w Q := by
  refine call90 ?_
  unfold N90
  rw [show IntKind.u64.wrap n = n by rw [wrapU64]; omega]
  repeat' (first
    | refine nilc ?_
    | refine h.rdI _ ?_
    | refine h.rdB _ ?_
    | refine h.rdP _ ?_
    | refine h.rdL _ ?_
    | refine h.rdT _ ?_
    | refine h.rdI2 _ _ ?_
    | refine h.rdB2 _ _ ?_
    | refine h.rdP2 _ _ ?_
    | refine h.rdL2 _ _ ?_
    | refine h.st2 _ _ fun w' h => ?_
    | refine h.st _ fun w' h => ?_
    | refine h.rdvI ?_
    | refine h.rdvB ?_
    | refine h.rdvP ?_
    | refine h.rdvL ?_
    | refine h.rdvT ?_
    | (refine h.rdG ?_; (repeat (first | apply Exists.intro (α := Int) | apply Exists.intro (α := Bool) | apply Exists.intro (α := ByteArray) | (apply Exists.intro (α := Option Addr); apply Exists.intro (α := Nat); apply Exists.intro (α := Nat)) | apply Exists.intro (α := Option Addr) | apply Exists.intro (α := Value))); refine ⟨rfl, ?_⟩)
    | refine h.stG fun w' h => ?_
    | refine h.stV fun w' h => ?_
    | refine h.box fun p w' h => ?_
    | refine h.boxV fun p w' h => ?_
    | refine h.allocZ fun p w' h => ?_
    | refine h.allocZV fun p w' h => ?_
    | (refine RD.bld ?_; (repeat (first | apply Exists.intro (α := Int) | apply Exists.intro (α := Bool) | apply Exists.intro (α := ByteArray) | (apply Exists.intro (α := Option Addr); apply Exists.intro (α := Nat); apply Exists.intro (α := Nat)) | apply Exists.intro (α := Option Addr) | apply Exists.intro (α := Value))); refine ⟨rfl, ?_⟩)
    | (refine RDS.bld ?_; (repeat (first | apply Exists.intro (α := Int) | apply Exists.intro (α := Bool) | apply Exists.intro (α := ByteArray) | (apply Exists.intro (α := Option Addr); apply Exists.intro (α := Nat); apply Exists.intro (α := Nat)) | apply Exists.intro (α := Option Addr) | apply Exists.intro (α := Value))); refine ⟨rfl, ?_⟩)
    | refine St.rdsI _ ?_
    | refine St.rdsB _ ?_
    | refine St.rdsP _ ?_
    | refine St.rdsL _ ?_
    | refine St.rdsT _ ?_
    | refine St.rdsI2 _ _ ?_
    | refine St.rdsB2 _ _ ?_
    | (refine St.rdsG ?_; (repeat (first | apply Exists.intro (α := Int) | apply Exists.intro (α := Bool) | apply Exists.intro (α := ByteArray) | (apply Exists.intro (α := Option Addr); apply Exists.intro (α := Nat); apply Exists.intro (α := Nat)) | apply Exists.intro (α := Option Addr) | apply Exists.intro (α := Value))); refine ⟨rfl, ?_⟩)
    | refine letb rfl ?_
    | refine sat h ?_
    | (have h := h.drew; refine sat h ?_)
    | refine sat1 h (fun _ h => h.to) ?_)
  exact hk _ h.drop
theorem packH_ok (h : St c w L) {n : Int} (h0 : 0 ≤ n) (h1 : n < 65536) {Q : Value → World → Prop} (hk : ∀ w', St c w' L → Q (.agg #[.int .i64 2, .int .u64 n]) w') : CALL PG 108 [.int .u16 n] w Q := by
  refine call108 ?_
  unfold N108
  rw [show IntKind.u64.wrap n = n by rw [wrapU64]; omega]
  repeat' (first
    | refine nilc ?_
    | refine h.rdI _ ?_
    | refine h.rdB _ ?_
    | refine h.rdP _ ?_
    | refine h.rdL _ ?_
    | refine h.rdT _ ?_
    | refine h.rdI2 _ _ ?_
    | refine h.rdB2 _ _ ?_
    | refine h.rdP2 _ _ ?_
    | refine h.rdL2 _ _ ?_
    | refine h.st2 _ _ fun w' h => ?_
    | refine h.st _ fun w' h => ?_
    | refine h.rdvI ?_
    | refine h.rdvB ?_
    | refine h.rdvP ?_
    | refine h.rdvL ?_
    | refine h.rdvT ?_
    | (refine h.rdG ?_; (repeat (first | apply Exists.intro (α := Int) | apply Exists.intro (α := Bool) | apply Exists.intro (α := ByteArray) | (apply Exists.intro (α := Option Addr); apply Exists.intro (α := Nat); apply Exists.intro (α := Nat)) | apply Exists.intro (α := Option Addr) | apply Exists.intro (α := Value))); refine ⟨rfl, ?_⟩)
    | refine h.stG fun w' h => ?_
    | refine h.stV fun w' h => ?_
    | refine h.box fun p w' h => ?_
    | refine h.boxV fun p w' h => ?_
    | refine h.allocZ fun p w' h => ?_
    | refine h.allocZV fun p w' h => ?_
    | (refine RD.bld ?_; (repeat (first | apply Exists.intro (α := Int) | apply Exists.intro (α := Bool) | apply Exists.intro (α := ByteArray) | (apply Exists.intro (α := Option Addr); apply Exists.intro (α := Nat); apply Exists.intro (α := Nat)) | apply Exists.intro (α := Option Addr) | apply Exists.intro (α := Value))); refine ⟨rfl, ?_⟩)
    | (refine RDS.bld ?_; (repeat (first | apply Exists.intro (α := Int) | apply Exists.intro (α := Bool) | apply Exists.intro (α := ByteArray) | (apply Exists.intro (α := Option Addr); apply Exists.intro (α := Nat); apply Exists.intro (α := Nat)) | apply Exists.intro (α := Option Addr) | apply Exists.intro (α := Value))); refine ⟨rfl, ?_⟩)
    | refine St.rdsI _ ?_
    | refine St.rdsB _ ?_
    | refine St.rdsP _ ?_
    | refine St.rdsL _ ?_
    | refine St.rdsT _ ?_
    | refine St.rdsI2 _ _ ?_
    | refine St.rdsB2 _ _ ?_
    | (refine St.rdsG ?_; (repeat (first | apply Exists.intro (α := Int) | apply Exists.intro (α := Bool) | apply Exists.intro (α := ByteArray) | (apply Exists.intro (α := Option Addr); apply Exists.intro (α := Nat); apply Exists.intro (α := Nat)) | apply Exists.intro (α := Option Addr) | apply Exists.intro (α := Value))); refine ⟨rfl, ?_⟩)
    | refine letb rfl ?_
    | refine sat h ?_
    | (have h := h.drew; refine sat h ?_)
    | refine sat1 h (fun _ h => h.to) ?_)
  exact hk _ h.drop
theorem packW_ok (h : St c w L) {n : Int} (h0 : 0 ≤ n) (h1 : n < 4294967296) {Q : Value → World → Prop} (hk : ∀ w', St c w' L → Q (.agg #[.int .i64 4, .int .u64 n]) w') : CALL PG 89 [.int .u32 n] w Q := by
  refine call89 ?_
  unfold N89
  rw [show IntKind.u64.wrap n = n by rw [wrapU64]; omega]
  repeat' (first
    | refine nilc ?_
    | refine h.rdI _ ?_
    | refine h.rdB _ ?_
    | refine h.rdP _ ?_
    | refine h.rdL _ ?_
    | refine h.rdT _ ?_
    | refine h.rdI2 _ _ ?_
    | refine h.rdB2 _ _ ?_
    | refine h.rdP2 _ _ ?_
    | refine h.rdL2 _ _ ?_
    | refine h.st2 _ _ fun w' h => ?_
    | refine h.st _ fun w' h => ?_
    | refine h.rdvI ?_
    | refine h.rdvB ?_
    | refine h.rdvP ?_
    | refine h.rdvL ?_
    | refine h.rdvT ?_
    | (refine h.rdG ?_; (repeat (first | apply Exists.intro (α := Int) | apply Exists.intro (α := Bool) | apply Exists.intro (α := ByteArray) | (apply Exists.intro (α := Option Addr); apply Exists.intro (α := Nat); apply Exists.intro (α := Nat)) | apply Exists.intro (α := Option Addr) | apply Exists.intro (α := Value))); refine ⟨rfl, ?_⟩)
    | refine h.stG fun w' h => ?_
    | refine h.stV fun w' h => ?_
    | refine h.box fun p w' h => ?_
    | refine h.boxV fun p w' h => ?_
    | refine h.allocZ fun p w' h => ?_
    | refine h.allocZV fun p w' h => ?_
    | (refine RD.bld ?_; (repeat (first | apply Exists.intro (α := Int) | apply Exists.intro (α := Bool) | apply Exists.intro (α := ByteArray) | (apply Exists.intro (α := Option Addr); apply Exists.intro (α := Nat); apply Exists.intro (α := Nat)) | apply Exists.intro (α := Option Addr) | apply Exists.intro (α := Value))); refine ⟨rfl, ?_⟩)
    | (refine RDS.bld ?_; (repeat (first | apply Exists.intro (α := Int) | apply Exists.intro (α := Bool) | apply Exists.intro (α := ByteArray) | (apply Exists.intro (α := Option Addr); apply Exists.intro (α := Nat); apply Exists.intro (α := Nat)) | apply Exists.intro (α := Option Addr) | apply Exists.intro (α := Value))); refine ⟨rfl, ?_⟩)
    | refine St.rdsI _ ?_
    | refine St.rdsB _ ?_
    | refine St.rdsP _ ?_
    | refine St.rdsL _ ?_
    | refine St.rdsT _ ?_
    | refine St.rdsI2 _ _ ?_
    | refine St.rdsB2 _ _ ?_
    | (refine St.rdsG ?_; (repeat (first | apply Exists.intro (α := Int) | apply Exists.intro (α := Bool) | apply Exists.intro (α := ByteArray) | (apply Exists.intro (α := Option Addr); apply Exists.intro (α := Nat); apply Exists.intro (α := Nat)) | apply Exists.intro (α := Option Addr) | apply Exists.intro (α := Value))); refine ⟨rfl, ?_⟩)
    | refine letb rfl ?_
    | refine sat h ?_
    | (have h := h.drew; refine sat h ?_)
    | refine sat1 h (fun _ h => h.to) ?_)
  exact hk _ h.drop
theorem packQ_ok (h : St c w L) {n : Int} {Q : Value → World → Prop} (hk : ∀ w', St c w' L → Q (.agg #[.int .i64 8, .int .u64 n]) w') : CALL PG 56 [.int .u64 n] w Q := by
  refine call56 ?_
  unfold N56
  repeat' (first
    | refine nilc ?_
    | refine h.rdI _ ?_
    | refine h.rdB _ ?_
    | refine h.rdP _ ?_
    | refine h.rdL _ ?_
    | refine h.rdT _ ?_
    | refine h.rdI2 _ _ ?_
    | refine h.rdB2 _ _ ?_
    | refine h.rdP2 _ _ ?_
    | refine h.rdL2 _ _ ?_
    | refine h.st2 _ _ fun w' h => ?_
    | refine h.st _ fun w' h => ?_
    | refine h.rdvI ?_
    | refine h.rdvB ?_
    | refine h.rdvP ?_
    | refine h.rdvL ?_
    | refine h.rdvT ?_
    | (refine h.rdG ?_; (repeat (first | apply Exists.intro (α := Int) | apply Exists.intro (α := Bool) | apply Exists.intro (α := ByteArray) | (apply Exists.intro (α := Option Addr); apply Exists.intro (α := Nat); apply Exists.intro (α := Nat)) | apply Exists.intro (α := Option Addr) | apply Exists.intro (α := Value))); refine ⟨rfl, ?_⟩)
    | refine h.stG fun w' h => ?_
    | refine h.stV fun w' h => ?_
    | refine h.box fun p w' h => ?_
    | refine h.boxV fun p w' h => ?_
    | refine h.allocZ fun p w' h => ?_
    | refine h.allocZV fun p w' h => ?_
    | (refine RD.bld ?_; (repeat (first | apply Exists.intro (α := Int) | apply Exists.intro (α := Bool) | apply Exists.intro (α := ByteArray) | (apply Exists.intro (α := Option Addr); apply Exists.intro (α := Nat); apply Exists.intro (α := Nat)) | apply Exists.intro (α := Option Addr) | apply Exists.intro (α := Value))); refine ⟨rfl, ?_⟩)
    | (refine RDS.bld ?_; (repeat (first | apply Exists.intro (α := Int) | apply Exists.intro (α := Bool) | apply Exists.intro (α := ByteArray) | (apply Exists.intro (α := Option Addr); apply Exists.intro (α := Nat); apply Exists.intro (α := Nat)) | apply Exists.intro (α := Option Addr) | apply Exists.intro (α := Value))); refine ⟨rfl, ?_⟩)
    | refine St.rdsI _ ?_
    | refine St.rdsB _ ?_
    | refine St.rdsP _ ?_
    | refine St.rdsL _ ?_
    | refine St.rdsT _ ?_
    | refine St.rdsI2 _ _ ?_
    | refine St.rdsB2 _ _ ?_
    | (refine St.rdsG ?_; (repeat (first | apply Exists.intro (α := Int) | apply Exists.intro (α := Bool) | apply Exists.intro (α := ByteArray) | (apply Exists.intro (α := Option Addr); apply Exists.intro (α := Nat); apply Exists.intro (α := Nat)) | apply Exists.intro (α := Option Addr) | apply Exists.intro (α := Value))); refine ⟨rfl, ?_⟩)
    | refine letb rfl ?_
    | refine sat h ?_
    | (have h := h.drew; refine sat h ?_)
    | refine sat1 h (fun _ h => h.to) ?_)
  exact hk _ h.drop
def bI (b : Bool) : Int := if b then 1 else 0
theorem packFlag_ok (h : St c w L) {b : Bool} {Q : Value → World → Prop} (hk : ∀ w', St c w' L → Q (.agg #[.int .i64 1, .int .u64 (bI b)]) w') : CALL PG 91 [.bool b] w Q := by
  refine call91 ?_
  unfold N91
  repeat' (first
    | refine nilc ?_
    | refine h.rdI _ ?_
    | refine h.rdB _ ?_
    | refine h.rdP _ ?_
    | refine h.rdL _ ?_
    | refine h.rdT _ ?_
    | refine h.rdI2 _ _ ?_
    | refine h.rdB2 _ _ ?_
    | refine h.rdP2 _ _ ?_
    | refine h.rdL2 _ _ ?_
    | refine h.st2 _ _ fun w' h => ?_
    | refine h.st _ fun w' h => ?_
    | refine h.rdvI ?_
    | refine h.rdvB ?_
    | refine h.rdvP ?_
    | refine h.rdvL ?_
    | refine h.rdvT ?_
    | (refine h.rdG ?_; (repeat (first | apply Exists.intro (α := Int) | apply Exists.intro (α := Bool) | apply Exists.intro (α := ByteArray) | (apply Exists.intro (α := Option Addr); apply Exists.intro (α := Nat); apply Exists.intro (α := Nat)) | apply Exists.intro (α := Option Addr) | apply Exists.intro (α := Value))); refine ⟨rfl, ?_⟩)
    | refine h.stG fun w' h => ?_
    | refine h.stV fun w' h => ?_
    | refine h.box fun p w' h => ?_
    | refine h.boxV fun p w' h => ?_
    | refine h.allocZ fun p w' h => ?_
    | refine h.allocZV fun p w' h => ?_
    | (refine RD.bld ?_; (repeat (first | apply Exists.intro (α := Int) | apply Exists.intro (α := Bool) | apply Exists.intro (α := ByteArray) | (apply Exists.intro (α := Option Addr); apply Exists.intro (α := Nat); apply Exists.intro (α := Nat)) | apply Exists.intro (α := Option Addr) | apply Exists.intro (α := Value))); refine ⟨rfl, ?_⟩)
    | (refine RDS.bld ?_; (repeat (first | apply Exists.intro (α := Int) | apply Exists.intro (α := Bool) | apply Exists.intro (α := ByteArray) | (apply Exists.intro (α := Option Addr); apply Exists.intro (α := Nat); apply Exists.intro (α := Nat)) | apply Exists.intro (α := Option Addr) | apply Exists.intro (α := Value))); refine ⟨rfl, ?_⟩)
    | refine St.rdsI _ ?_
    | refine St.rdsB _ ?_
    | refine St.rdsP _ ?_
    | refine St.rdsL _ ?_
    | refine St.rdsT _ ?_
    | refine St.rdsI2 _ _ ?_
    | refine St.rdsB2 _ _ ?_
    | (refine St.rdsG ?_; (repeat (first | apply Exists.intro (α := Int) | apply Exists.intro (α := Bool) | apply Exists.intro (α := ByteArray) | (apply Exists.intro (α := Option Addr); apply Exists.intro (α := Nat); apply Exists.intro (α := Nat)) | apply Exists.intro (α := Option Addr) | apply Exists.intro (α := Value))); refine ⟨rfl, ?_⟩)
    | refine letb rfl ?_
    | refine sat h ?_
    | (have h := h.drew; refine sat h ?_)
    | refine sat1 h (fun _ h => h.to) ?_)
  refine ifb (fun hb => ?_) fun hb => ?_
  · subst hb
    refine packB_ok h (by decide) (by decide) fun w' h => ?_
    (repeat (first | apply Exists.intro (α := Int) | apply Exists.intro (α := Bool) | apply Exists.intro (α := ByteArray) | (apply Exists.intro (α := Option Addr); apply Exists.intro (α := Nat); apply Exists.intro (α := Nat)) | apply Exists.intro (α := Option Addr) | apply Exists.intro (α := Value)))
    refine ⟨rfl, ?_⟩
    repeat' (first
      | refine nilc ?_
      | refine h.rdI _ ?_
      | refine h.rdB _ ?_
      | refine h.rdP _ ?_
      | refine h.rdL _ ?_
      | refine h.rdT _ ?_
      | refine h.rdI2 _ _ ?_
      | refine h.rdB2 _ _ ?_
      | refine h.rdP2 _ _ ?_
      | refine h.rdL2 _ _ ?_
      | refine h.st2 _ _ fun w' h => ?_
      | refine h.st _ fun w' h => ?_
      | refine h.rdvI ?_
      | refine h.rdvB ?_
      | refine h.rdvP ?_
      | refine h.rdvL ?_
      | refine h.rdvT ?_
      | (refine h.rdG ?_; (repeat (first | apply Exists.intro (α := Int) | apply Exists.intro (α := Bool) | apply Exists.intro (α := ByteArray) | (apply Exists.intro (α := Option Addr); apply Exists.intro (α := Nat); apply Exists.intro (α := Nat)) | apply Exists.intro (α := Option Addr) | apply Exists.intro (α := Value))); refine ⟨rfl, ?_⟩)
      | refine h.stG fun w' h => ?_
      | refine h.stV fun w' h => ?_
      | refine h.box fun p w' h => ?_
      | refine h.boxV fun p w' h => ?_
      | refine h.allocZ fun p w' h => ?_
      | refine h.allocZV fun p w' h => ?_
      | (refine RD.bld ?_; (repeat (first | apply Exists.intro (α := Int) | apply Exists.intro (α := Bool) | apply Exists.intro (α := ByteArray) | (apply Exists.intro (α := Option Addr); apply Exists.intro (α := Nat); apply Exists.intro (α := Nat)) | apply Exists.intro (α := Option Addr) | apply Exists.intro (α := Value))); refine ⟨rfl, ?_⟩)
      | (refine RDS.bld ?_; (repeat (first | apply Exists.intro (α := Int) | apply Exists.intro (α := Bool) | apply Exists.intro (α := ByteArray) | (apply Exists.intro (α := Option Addr); apply Exists.intro (α := Nat); apply Exists.intro (α := Nat)) | apply Exists.intro (α := Option Addr) | apply Exists.intro (α := Value))); refine ⟨rfl, ?_⟩)
      | refine St.rdsI _ ?_
      | refine St.rdsB _ ?_
      | refine St.rdsP _ ?_
      | refine St.rdsL _ ?_
      | refine St.rdsT _ ?_
      | refine St.rdsI2 _ _ ?_
      | refine St.rdsB2 _ _ ?_
      | (refine St.rdsG ?_; (repeat (first | apply Exists.intro (α := Int) | apply Exists.intro (α := Bool) | apply Exists.intro (α := ByteArray) | (apply Exists.intro (α := Option Addr); apply Exists.intro (α := Nat); apply Exists.intro (α := Nat)) | apply Exists.intro (α := Option Addr) | apply Exists.intro (α := Value))); refine ⟨rfl, ?_⟩)
      | refine letb rfl ?_
      | refine sat h ?_
      | (have h := h.drew; refine sat h ?_)
      | refine sat1 h (fun _ h => h.to) ?_)
    exact hk _ h.drop
  · subst hb
    refine packB_ok h (by decide) (by decide) fun w' h => ?_
    (repeat (first | apply Exists.intro (α := Int) | apply Exists.intro (α := Bool) | apply Exists.intro (α := ByteArray) | (apply Exists.intro (α := Option Addr); apply Exists.intro (α := Nat); apply Exists.intro (α := Nat)) | apply Exists.intro (α := Option Addr) | apply Exists.intro (α := Value)))
    refine ⟨rfl, ?_⟩
    repeat' (first
      | refine nilc ?_
      | refine h.rdI _ ?_
      | refine h.rdB _ ?_
      | refine h.rdP _ ?_
      | refine h.rdL _ ?_
      | refine h.rdT _ ?_
      | refine h.rdI2 _ _ ?_
      | refine h.rdB2 _ _ ?_
      | refine h.rdP2 _ _ ?_
      | refine h.rdL2 _ _ ?_
      | refine h.st2 _ _ fun w' h => ?_
      | refine h.st _ fun w' h => ?_
      | refine h.rdvI ?_
      | refine h.rdvB ?_
      | refine h.rdvP ?_
      | refine h.rdvL ?_
      | refine h.rdvT ?_
      | (refine h.rdG ?_; (repeat (first | apply Exists.intro (α := Int) | apply Exists.intro (α := Bool) | apply Exists.intro (α := ByteArray) | (apply Exists.intro (α := Option Addr); apply Exists.intro (α := Nat); apply Exists.intro (α := Nat)) | apply Exists.intro (α := Option Addr) | apply Exists.intro (α := Value))); refine ⟨rfl, ?_⟩)
      | refine h.stG fun w' h => ?_
      | refine h.stV fun w' h => ?_
      | refine h.box fun p w' h => ?_
      | refine h.boxV fun p w' h => ?_
      | refine h.allocZ fun p w' h => ?_
      | refine h.allocZV fun p w' h => ?_
      | (refine RD.bld ?_; (repeat (first | apply Exists.intro (α := Int) | apply Exists.intro (α := Bool) | apply Exists.intro (α := ByteArray) | (apply Exists.intro (α := Option Addr); apply Exists.intro (α := Nat); apply Exists.intro (α := Nat)) | apply Exists.intro (α := Option Addr) | apply Exists.intro (α := Value))); refine ⟨rfl, ?_⟩)
      | (refine RDS.bld ?_; (repeat (first | apply Exists.intro (α := Int) | apply Exists.intro (α := Bool) | apply Exists.intro (α := ByteArray) | (apply Exists.intro (α := Option Addr); apply Exists.intro (α := Nat); apply Exists.intro (α := Nat)) | apply Exists.intro (α := Option Addr) | apply Exists.intro (α := Value))); refine ⟨rfl, ?_⟩)
      | refine St.rdsI _ ?_
      | refine St.rdsB _ ?_
      | refine St.rdsP _ ?_
      | refine St.rdsL _ ?_
      | refine St.rdsT _ ?_
      | refine St.rdsI2 _ _ ?_
      | refine St.rdsB2 _ _ ?_
      | (refine St.rdsG ?_; (repeat (first | apply Exists.intro (α := Int) | apply Exists.intro (α := Bool) | apply Exists.intro (α := ByteArray) | (apply Exists.intro (α := Option Addr); apply Exists.intro (α := Nat); apply Exists.intro (α := Nat)) | apply Exists.intro (α := Option Addr) | apply Exists.intro (α := Value))); refine ⟨rfl, ?_⟩)
      | refine letb rfl ?_
      | refine sat h ?_
      | (have h := h.drew; refine sat h ?_)
      | refine sat1 h (fun _ h => h.to) ?_)
    exact hk _ h.drop
/-- The byte that is laid. -/
theorem laid {n : Int} {q : Nat} (hq : q < 8) : IntKind.u8.wrap (shrN .u64 n (IntKind.i64.wrap ((8 : Int) * (q : Int)))) = ((byteOf (n / 256 ^ q)).toNat : Int) := by
  rw [wrap_i64 (by omega) (by omega), show (8 : Int) * (q : Int) = ((8 * q : Nat) : Int) by omega, shrU64 (by omega), wrapU8, byteOf_val, Int.pow_mul]
  rfl
theorem pput_ok (h : St c w L) {A F : Option Addr} {C K : Nat} {bs : List UInt8} {fs : List Fd} (hb : RdIn L A (bvs bs)) (hf : RdIn L F (fs.flatMap fd)) (hfs : ∀ f ∈ fs, FdOk f) (hbl : bs.length ≤ 10000) (hfl : fs.length ≤ 100) {Q : Value → World → Prop}
    (hk : ∀ O k w', St c w' (own 5 1 O (bs ++ fs.flatMap fdb).length k (bvs (bs ++ fs.flatMap fdb)) :: L) → Q (.slice O (bs ++ fs.flatMap fdb).length k) w') : CALL PG 55 [.slice A bs.length C, .slice F fs.length K] w Q := by
  refine call55 ?_
  unfold N55
  refine (h.addOwnNil 5 1).append huPk tiPkU8 .head hb.more (m := bs.length) (by simp [bvs]) (Flat.bvs bs) (by omega) fun O k w' h => ?_
  simp only [Nat.zero_add, List.nil_append] at h ⊢
  refine ⟨fun m O n k i w' => ∃ j : Nat, j + m = fs.length ∧ i = (j : Int) ∧ (bs ++ (fs.take j).flatMap fdb).length = n ∧ St c w' (own 5 1 O n k (bvs (bs ++ (fs.take j).flatMap fdb)) :: L), ⟨fs.length, 0, by omega, rfl, by simp, by simpa using h⟩, ?_⟩
  clear h
  rintro m O _ k _ w' ⟨j, hj, rfl, rfl, h⟩
  have hlen := fdbs_le (fs := fs.take j) fun f hf => hfs f (List.mem_of_mem_take hf)
  rw [List.length_take] at hlen
  refine ifd (fun hlt => ?_) fun hge => ?_
  · obtain ⟨x, hx⟩ := ex_get (L := fs) (j := j) (by omega)
    obtain ⟨x1, x2, x3, x4⟩ := hfs x (List.mem_of_getElem? hx)
    refine h.ix (z := 1) hf.more hx fun a ha => ?_
    subst ha
    refine h.rdEG hf.more hx ⟨_, _, rfl, ?_⟩
    refine h.allocZ fun q w' h => ?_
    refine h.stG fun w' h => ?_
    refine h.rdI 0 ?_
    refine ifdf (by omega) ?_
    refine h.rdI 0 ?_
    refine ifdf (by omega) ?_
    refine h.rdI 0 ?_
    refine letw ?_
    refine ⟨fun m2 O n k i w' => ∃ t : Nat, t = m2 ∧ i = (t : Int) - 1 ∧ t ≤ x.b.toNat ∧ (bs ++ (fs.take j).flatMap fdb ++ beB (x.n / 256 ^ t) (x.b.toNat - t)).length = n ∧
      St c w' (own 5 1 O n k (bvs (bs ++ (fs.take j).flatMap fdb ++ beB (x.n / 256 ^ t) (x.b.toNat - t))) :: blk q 148 [.int .i64 x.b, .int .u64 x.n] :: L),
      ⟨x.b.toNat, x.b.toNat, rfl, by omega, by omega, by simp [beB], by simpa [beB] using h.swap⟩, ?_⟩
    clear h
    rintro m2 O _ k _ w' ⟨t, rfl, rfl, ht, rfl, h⟩
    have hl2 := beB_length (x.b.toNat - t) (x.n / 256 ^ t)
    refine ifd (fun hlt2 => ?_) fun hge2 => ?_
    · refine h.rdI 1 ?_
      have ht1 : ((t : Int) - 1) = ((t - 1 : Nat) : Int) := by omega
      rw [ht1]
      refine ⟨by rw [wrap_i64 (by omega) (by omega)]; omega, ?_⟩
      rw [laid (by omega)]
      refine h.app1 huPk tiPkU8 (bvs [byteOf (x.n / 256 ^ (t - 1))]) .head (Flat.bvs _) (by simp only [List.length_append, hl2]; omega) fun O' k' w' h => ?_
      refine letw ?_
      have e : beB (x.n / 256 ^ t) (x.b.toNat - t) ++ [byteOf (x.n / 256 ^ (t - 1))] = beB (x.n / 256 ^ (t - 1)) (x.b.toNat - (t - 1)) := by
        obtain ⟨s, rfl⟩ : ∃ s, t = s + 1 := ⟨t - 1, by omega⟩
        rw [show x.b.toNat - (s + 1 - 1) = (x.b.toNat - (s + 1)) + 1 by omega, Nat.add_sub_cancel, beB, Int.ediv_ediv_of_nonneg (by exact Int.le_of_lt (Int.pow_pos (by decide))), Int.pow_succ]
      refine ⟨t - 1, by omega, t - 1, rfl, rfl, by omega, ?_, ?_⟩
      · rw [← e]; simp only [List.length_append, List.length_singleton]; omega
      · rw [← e, ← List.append_assoc, ← bvs_append]
        exact h
    · have ht0 : t = 0 := by omega
      subst ht0
      have e : bs ++ List.flatMap fdb (List.take j fs) ++ beB (x.n / 256 ^ 0) (x.b.toNat - 0) = bs ++ (fs.take (j + 1)).flatMap fdb := by
        rw [take_snoc' hx, List.flatMap_append, List.append_assoc]
        simp [fdb]
      rw [e] at h ⊢
      exact ⟨m - 1, by omega, j + 1, by omega, wrap_i64 (by omega) (by omega), rfl, h.swap.drop⟩
  · have hjl : j = fs.length := by omega
    subst hjl
    rw [List.take_length] at h ⊢
    exact hk O k w' h
end
end Go.Br

/- Bytes as numbers, options, a segment; a count in digits: plain. -/
set_option linter.unusedVariables false
set_option linter.unusedSimpArgs false
set_option linter.unnecessarySimpa false
namespace Go.Br
open Go
attribute [local irreducible] Addr.add RD RDS RUN RUNU NILC LETB CALL CALLX CALLV

/-- The number that some bytes are, the highest ahead. -/
def beN (l : List UInt8) : Nat := l.foldl (fun n b => n * 256 + b.toNat) 0
theorem beN_snoc (l : List UInt8) (b : UInt8) : beN (l ++ [b]) = beN l * 256 + b.toNat := by unfold beN; rw [List.foldl_append]; rfl
theorem beN_lt : ∀ (l : List UInt8), beN l < 256 ^ l.length := fun l => by
  rcases List.eq_nil_or_concat l with rfl | ⟨q, b, rfl⟩
  · simp [beN]
  · rw [List.concat_eq_append, beN_snoc, List.length_append, List.length_singleton, Nat.pow_succ]
    have ih := beN_lt q
    have := b.toNat_lt
    omega
termination_by l => l.length
decreasing_by subst_vars; simp
/-- The numbers of these sizes, and what is left. -/
def getS : List Nat → List UInt8 → Option (List Nat × List UInt8)
  | [], b => some ([], b)
  | n :: r, b => if n < 1 ∨ 8 < n ∨ b.length < n then none else (getS r (b.drop n)).map fun p => (beN (b.take n) :: p.1, p.2)
/-- The options of some bytes. -/
def optsS : List UInt8 → Option (List (Int × List UInt8))
  | [] => some []
  | [_] => none
  | k :: m :: r => if k = 0 ∨ r.length < m.toNat then none else (optsS (r.drop m.toNat)).map fun l => ((k.toNat : Int), r.take m.toNat) :: l
termination_by l => l.length
decreasing_by simp; omega
/-- A count in digits. -/
def digs (n : Nat) : List UInt8 := if n < 10 then [UInt8.ofNat (48 + n)] else digs (n / 10) ++ [UInt8.ofNat (48 + n % 10)]
termination_by n
decreasing_by omega
theorem digs_lt {n : Nat} (h : n < 10) : digs n = [UInt8.ofNat (48 + n)] := by rw [digs, if_pos h]
theorem digs_ge {n : Nat} (h : 10 ≤ n) : digs n = digs (n / 10) ++ [UInt8.ofNat (48 + n % 10)] := by rw [digs, if_neg (by omega)]
def digsI (n : Int) : List UInt8 := digs n.toNat
end Go.Br

/- A segment in memory. -/
set_option linter.unusedVariables false
set_option linter.unusedSimpArgs false
set_option linter.unnecessarySimpa false
namespace Go.Br
open Go
attribute [local irreducible] Addr.add RD RDS RUN RUNU NILC LETB CALL CALLX CALLV

theorem tiOpx : TI PG 160 2 32 (.agg #[.int .u8 0, .slice none 0 0]) := tiOf (by kernel_rfl)
theorem tiU8 : TI PG 5 1 1 (.int .u8 0) := tiOf (by kernel_rfl)
theorem huOpx : PG.underlying 170 = some (.slice 160) := by kernel_rfl
theorem huBytes : PG.underlying 95 = some (.slice 5) := by kernel_rfl
structure Opx where
  kind : Int
  body : Option Addr
  bodyC : Nat
  bodys : List UInt8
def opx (x : Opx) : List Value := [.int .u8 x.kind, .slice x.body x.bodys.length x.bodyC]
abbrev opxv (x : Opx) : Value := .agg #[.int .u8 x.kind, .slice x.body x.bodys.length x.bodyC]
theorem opx_length (x : Opx) : (opx x).length = 2 := rfl
theorem opx_flat1 (x : Opx) : Flat (opx x) := by intro v hv; simp [opx] at hv; rcases hv with rfl | rfl <;> rfl
theorem opx_flat (L : List Opx) : Flat (L.flatMap opx) := by
  intro v hv
  simp only [List.mem_flatMap] at hv
  obtain ⟨x, _, hx⟩ := hv
  exact opx_flat1 x v hx
/-- A segment as it is held. -/
structure Sg where
  src : Int
  dst : Int
  seq : Int
  ack : Int
  flags : Int
  oA : Option Addr
  oC : Nat
  os : List Opx
  dA : Option Addr
  dC : Nat
  ds : List UInt8
abbrev sgv (s : Sg) : Value := .agg #[.int .u16 s.src, .int .u16 s.dst, .int .u32 s.seq, .int .u32 s.ack, .int .u8 s.flags, .slice s.oA s.os.length s.oC, .slice s.dA s.ds.length s.dC]
def SgAt (s : Sg) (w : World) : Prop := Row w s.oA (s.os.flatMap opx) ∧ (∀ o ∈ s.os, Row w o.body (bvs o.bodys)) ∧ Row w s.dA (bvs s.ds)
abbrev sgp (s : Sg) : SA := Br.ro (SgAt s)
/-- What a segment says. -/
structure SgP where
  src : Int
  dst : Int
  seq : Int
  ack : Int
  flags : Int
  os : List (Int × List UInt8)
  ds : List UInt8
def opl (o : Opx) : Int × List UInt8 := (o.kind, o.bodys)
def Sg.pl (s : Sg) : SgP := ⟨s.src, s.dst, s.seq, s.ack, s.flags, s.os.map opl, s.ds⟩
/-- The segment of some bytes, or the error. -/
def parseS (b : List UInt8) : Except Int SgP :=
  if b.length < 14 ∨ 7 < (b.getD 12 0).toNat then .error 70
  else if 200 < (b.getD 13 0).toNat ∨ b.length - 14 < (b.getD 13 0).toNat then .error 71
  else match optsS ((b.drop 14).take (b.getD 13 0).toNat) with
    | none => .error 71
    | some os => if 1024 < b.length - 14 - (b.getD 13 0).toNat then .error 72
      else .ok ⟨beN (b.take 2), beN ((b.drop 2).take 2), beN ((b.drop 4).take 4), beN ((b.drop 8).take 4), ((b.getD 12 0).toNat : Int), os, b.drop (14 + (b.getD 13 0).toNat)⟩
section
variable {c : Ctx} {w : World} {L R : List SA}
theorem St.ro2 {φ ψ : World → Prop} (h : St c w (Br.ro φ :: Br.ro ψ :: L)) : St c w (Br.ro (fun w => φ w ∧ ψ w) :: L) := by
  refine h.ent fun F G w h => ?_
  rw [all_cons] at h
  obtain ⟨F1, G1, F2, G2, rfl, rfl, h1, h2, h3, h4⟩ := h
  rw [all_cons] at h2
  obtain ⟨F3, G3, F4, G4, rfl, rfl, k1, k2, k3, k4⟩ := h2
  rw [ro_p] at h1 k1
  obtain ⟨rfl, a1, a2⟩ := h1
  obtain ⟨rfl, b1, b2⟩ := k1
  refine ⟨[] ++ F4, (G1 ++ G3) ++ G4, all_cons.2 ⟨[], G1 ++ G3, F4, G4, rfl, rfl, ro_p.2 ⟨rfl, fun i hi => ?_, fun w' hw => ⟨a2 w' fun i hi => hw i (by simp [hi]), b2 w' fun i hi => hw i (by simp [hi])⟩⟩, k2, by simp, fun i hi hc => ?_⟩, by simp, fun i hi => ?_⟩
  · rw [List.mem_append] at hi
    exact hi.elim (a1 i) (b1 i)
  · rw [List.mem_append] at hc
    rcases hc with hc | hc
    · exact h4 i (by simp [hi]) hc
    · exact k4 i hi hc
  · simp only [List.mem_append] at hi ⊢
    rcases hi with (hi | hi) | hi <;> simp [hi]
theorem St.roW {φ ψ : World → Prop} (h : St c w (Br.ro φ :: L)) (hi : ∀ w, φ w → ψ w) : St c w (Br.ro ψ :: L) := (h.addRo .head hi).swap.drop
theorem St.ownRows {e z n k : Nat} {A : Option Addr} {cs : List Value} (h : St c w (Br.own e z A n k cs :: L)) : St c w (rows A cs :: L) := h.enth own_rows
theorem pick_app0 {A : SA} {L : List SA} : ∀ {M : List SA}, Pick A (M ++ A :: L) (M ++ L)
  | [] => .head
  | B :: M => .tail pick_app0
theorem St.dropM : ∀ {M : List SA} {w : World} {L : List SA}, St c w (M ++ L) → St c w L
  | [], w, L, h => h
  | A :: M, w, L, h => St.dropM (M := M) (St.drop h)
end
end Go.Br

/- What the code of some functions says, as the core reads it; each reading is checked by the kernel. -/
set_option linter.unusedVariables false
set_option maxRecDepth 100000
namespace Go.Br
open Go Go.Proofs

/-- (brougham/opt.Key).Option -/
def N64 (k : Int) (k1 : Bool) (k2 : Int) (w : World) (Q : Value → World → Prop) : Prop :=
 RUNA PG (Instr.box 164 (.agg #[(.int .u64 k), (.bool k1), (.int .u64 k2)])) w fun a1 w1 =>
 RUNA PG (Instr.alloc 160 true (.tuple #[])) w1 fun a2 w2 =>
 RDI PG (loadVar 25 (Addr.add a1 0)) .u64 w2 fun x5 =>
 CALL PG 56 [(.int .u64 x5)] w2 fun v w3 =>
 ∃ x6 : Int, ∃ x6v1 : Int, v = (.agg #[(.int .i64 x6), (.int .u64 x6v1)]) ∧
 (RUNL PG (Instr.buildSlice 196 1 #[(0, (.agg #[(.int .i64 x6), (.int .u64 x6v1)]))]) w3 fun x7 x7N x7C w4 =>
 CALL PG 55 [(.slice none 0 0), (.slice x7 x7N x7C)] w4 fun v1 w5 =>
 ∃ (x8 : Option Addr) (x8N x8C : Nat), v1 = (.slice x8 x8N x8C) ∧
 (RDB PG (loadVar 4 (Addr.add a1 1)) w5 fun x10 =>
 IFB x10
 (RDI PG (loadVar 25 (Addr.add (Addr.add a1 2) 0)) .u64 w5 fun x14 =>
 CALL PG 56 [(.int .u64 x14)] w5 fun v2 w6 =>
 ∃ x15 : Int, ∃ x15v1 : Int, v2 = (.agg #[(.int .i64 x15), (.int .u64 x15v1)]) ∧
 (RUNL PG (Instr.buildSlice 196 1 #[(0, (.agg #[(.int .i64 x15), (.int .u64 x15v1)]))]) w6 fun x16 x16N x16C w7 =>
 CALL PG 55 [(.slice x8 x8N x8C), (.slice x16 x16N x16C)] w7 fun v3 w8 =>
 ∃ (x17 : Option Addr) (x17N x17C : Nat), v3 = (.slice x17 x17N x17C) ∧
 (RD PG (Instr.build 160 #[(0, (.int .u8 (1 : Int))), (1, (.slice x17 x17N x17C))]) w8 fun v4 =>
 ∃ x19 : Int, ∃ (x19v1 : Option Addr) (x19N x19C : Nat), v4 = (.agg #[(.int .u8 x19), (.slice x19v1 x19N x19C)]) ∧
 (RUNU PG (storeVar 160 a2 (.agg #[(.int .u8 x19), (.slice x19v1 x19N x19C)])) w8 fun w9 =>
 RD PG (loadVar 160 a2) w9 fun v6 =>
 ∃ r : Int, ∃ (r1 : Option Addr) (rN rC : Nat), v6 = (.agg #[(.int .u8 r), (.slice r1 rN rC)]) ∧
 (Q (.agg #[(.int .u8 r), (.slice r1 rN rC)]) w9)))))
 (RD PG (Instr.build 160 #[(0, (.int .u8 (1 : Int))), (1, (.slice x8 x8N x8C))]) w5 fun v7 =>
 ∃ x19v2 : Int, ∃ (x19v3 : Option Addr) (x19N1 x19C1 : Nat), v7 = (.agg #[(.int .u8 x19v2), (.slice x19v3 x19N1 x19C1)]) ∧
 (RUNU PG (storeVar 160 a2 (.agg #[(.int .u8 x19v2), (.slice x19v3 x19N1 x19C1)])) w5 fun w10 =>
 RD PG (loadVar 160 a2) w10 fun v9 =>
 ∃ r2 : Int, ∃ (r3 : Option Addr) (rN1 rC1 : Nat), v9 = (.agg #[(.int .u8 r2), (.slice r3 rN1 rC1)]) ∧
 (Q (.agg #[(.int .u8 r2), (.slice r3 rN1 rC1)]) w10)))))
theorem eq64 : ∀ (k : Int) (k1 : Bool) (k2 : Int) (w : World) (Q : Value → World → Prop), vcF PG TB Tryz.f64 .nil [(.agg #[(.int .u64 k), (.bool k1), (.int .u64 k2)])] w Q = N64 k k1 k2 w Q := by intros; kernel_rfl
theorem call64 {k : Int} {k1 : Bool} {k2 : Int} {w : World} {Q : Value → World → Prop} (hN : N64 k k1 k2 w Q) : CALL PG 64 [(.agg #[(.int .u64 k), (.bool k1), (.int .u64 k2)])] w Q := calls_vc tabOk Tryz.func64 (by rw [eq64]; exact hN)

/-- brougham/seg.Encode -/
def N92 (s : Int) (s1 : Int) (s2 : Int) (s3 : Int) (s4 : Int) (s5 : Option Addr) (sN sC : Nat) (s6 : Option Addr) (sN1 sC1 : Nat) (w : World) (Q : Value → World → Prop) : Prop :=
 RUNA PG (Instr.box 172 (.agg #[(.int .u16 s), (.int .u16 s1), (.int .u32 s2), (.int .u32 s3), (.int .u8 s4), (.slice s5 sN sC), (.slice s6 sN1 sC1)])) w fun a1 w1 =>
 RD PG (loadVar 172 a1) w1 fun v =>
 ∃ x9 : Int, ∃ x9v1 : Int, ∃ x9v2 : Int, ∃ x9v3 : Int, ∃ x9v4 : Int, ∃ (x9v5 : Option Addr) (x9N x9C : Nat), ∃ (x9v6 : Option Addr) (x9N1 x9C1 : Nat), v = (.agg #[(.int .u16 x9), (.int .u16 x9v1), (.int .u32 x9v2), (.int .u32 x9v3), (.int .u8 x9v4), (.slice x9v5 x9N x9C), (.slice x9v6 x9N1 x9C1)]) ∧
 (CALL PG 104 [(.agg #[(.int .u16 x9), (.int .u16 x9v1), (.int .u32 x9v2), (.int .u32 x9v3), (.int .u8 x9v4), (.slice x9v5 x9N x9C), (.slice x9v6 x9N1 x9C1)])] w1 fun v1 w2 =>
 ∃ x10 : Int, v1 = (.int .i64 x10) ∧
 (LETI x10 fun e =>
 IFB (e != (0 : Int))
 (LETI e fun x3 =>
 Q (.tuple #[(.slice none 0 0), (.int .i64 x3)]) w2)
 (RDL PG (loadVar 170 (Addr.add a1 5)) w2 fun x15 x15N x15C =>
 ∃ I : Nat → Option Addr → Nat → Nat → Int → World → Prop,
 (∃ m, I m none 0 0 (0 : Int) w2) ∧
 (∀ m1 (opts : Option Addr) (optsN optsC : Nat) (x17 : Int) (w3 : World), I m1 opts optsN optsC x17 w3 → (IFB (decide (x17 < (x15N : Int)))
 (IDX x15 x15N x17 fun a19 =>
 RD PG (loadVar 160 (Addr.add a19 (Int.toNat x17 * 2))) w3 fun v2 =>
 ∃ x20 : Int, ∃ (x20v1 : Option Addr) (x20N x20C : Nat), v2 = (.agg #[(.int .u8 x20), (.slice x20v1 x20N x20C)]) ∧
 (RUNA PG (Instr.alloc 160 true (.tuple #[])) w3 fun a7 w4 =>
 RUNU PG (storeVar 160 a7 (.agg #[(.int .u8 x20), (.slice x20v1 x20N x20C)])) w4 fun w5 =>
 RDI PG (loadVar 5 (Addr.add a7 0)) .u8 w5 fun x23 =>
 RDL PG (loadVar 95 (Addr.add a7 1)) w5 fun x25 x25N x25C =>
 RUNL PG (Instr.buildSlice 95 2 #[(0, (.int .u8 x23)), (1, (.int .u8 (IntKind.u8.wrap (x25N : Int))))]) w5 fun x28 x28N x28C w6 =>
 RUNL PG (Builtin.append_ #[95, 95] 95 #[(.slice opts optsN optsC), (.slice x28 x28N x28C)]) w6 fun x29 x29N x29C w7 =>
 RDL PG (loadVar 95 (Addr.add a7 1)) w7 fun x32 x32N x32C =>
 RUNL PG (Builtin.append_ #[95, 95] 95 #[(.slice x29 x29N x29C), (.slice x32 x32N x32C)]) w7 fun x33 x33N x33C w8 =>
 ∃ m2, m2 < m1 ∧ I m2 x33 x33N x33C (IntKind.i64.wrap (x17 + (1 : Int))) w8))
 (RD PG (loadVar 172 a1) w3 fun v3 =>
 ∃ x35 : Int, ∃ x35v1 : Int, ∃ x35v2 : Int, ∃ x35v3 : Int, ∃ x35v4 : Int, ∃ (x35v5 : Option Addr) (x35N x35C : Nat), ∃ (x35v6 : Option Addr) (x35N1 x35C1 : Nat), v3 = (.agg #[(.int .u16 x35), (.int .u16 x35v1), (.int .u32 x35v2), (.int .u32 x35v3), (.int .u8 x35v4), (.slice x35v5 x35N x35C), (.slice x35v6 x35N1 x35C1)]) ∧
 (CALL PG 105 [(.agg #[(.int .u16 x35), (.int .u16 x35v1), (.int .u32 x35v2), (.int .u32 x35v3), (.int .u8 x35v4), (.slice x35v5 x35N x35C), (.slice x35v6 x35N1 x35C1)])] w3 fun v4 w9 =>
 ∃ (x36 : Option Addr) (x36N x36C : Nat), v4 = (.slice x36 x36N x36C) ∧
 (CALL PG 90 [(.int .u8 (IntKind.u8.wrap (optsN : Int)))] w9 fun v5 w10 =>
 ∃ x40 : Int, ∃ x40v1 : Int, v5 = (.agg #[(.int .i64 x40), (.int .u64 x40v1)]) ∧
 (RUNL PG (Instr.buildSlice 196 1 #[(0, (.agg #[(.int .i64 x40), (.int .u64 x40v1)]))]) w10 fun x41 x41N x41C w11 =>
 CALL PG 55 [(.slice x36 x36N x36C), (.slice x41 x41N x41C)] w11 fun v6 w12 =>
 ∃ (x42 : Option Addr) (x42N x42C : Nat), v6 = (.slice x42 x42N x42C) ∧
 (∃ S : World → Prop, S (w12.drew) ∧
 (RDSL PG (loadVar 95 (Addr.add a1 6)) S fun x47 x47N x47C =>
 RUNL PG (Builtin.append_ #[95, 95] 95 #[(.slice x42 x42N x42C), (.slice opts optsN optsC)]) (w12.drew) fun x45 x45N x45C w13 =>
 ∃ S1 : World → Prop, (∀ x, S1 x → S x) ∧ S1 w13 ∧
 (RUNL PG (Builtin.append_ #[95, 95] 95 #[(.slice x45 x45N x45C), (.slice x47 x47N x47C)]) w13 fun x48 x48N x48C w14 =>
 Q (.tuple #[(.slice x48 x48N x48C), (.int .i64 (0 : Int))]) w14))))))))))))
theorem eq92 : ∀ (s : Int) (s1 : Int) (s2 : Int) (s3 : Int) (s4 : Int) (s5 : Option Addr) (sN sC : Nat) (s6 : Option Addr) (sN1 sC1 : Nat) (w : World) (Q : Value → World → Prop), vcF PG TB Tryz.f92 (.s .nil (.s .nil (.s .nil (.s (.s .nil (.u (.loop [(5, 95), (17, 3)] .nil))) .nil)))) [(.agg #[(.int .u16 s), (.int .u16 s1), (.int .u32 s2), (.int .u32 s3), (.int .u8 s4), (.slice s5 sN sC), (.slice s6 sN1 sC1)])] w Q = N92 s s1 s2 s3 s4 s5 sN sC s6 sN1 sC1 w Q := by intros; kernel_rfl
theorem call92 {s : Int} {s1 : Int} {s2 : Int} {s3 : Int} {s4 : Int} {s5 : Option Addr} {sN sC : Nat} {s6 : Option Addr} {sN1 sC1 : Nat} {w : World} {Q : Value → World → Prop} (hN : N92 s s1 s2 s3 s4 s5 sN sC s6 sN1 sC1 w Q) : CALL PG 92 [(.agg #[(.int .u16 s), (.int .u16 s1), (.int .u32 s2), (.int .u32 s3), (.int .u8 s4), (.slice s5 sN sC), (.slice s6 sN1 sC1)])] w Q := calls_vc tabOk Tryz.func92 (by rw [eq92]; exact hN)

/-- brougham/seg.Of -/
def N93 (s : Int) (s1 : Int) (s2 : Int) (s3 : Int) (s4 : Int) (s5 : Option Addr) (sN sC : Nat) (s6 : Option Addr) (sN1 sC1 : Nat) (l : Option Addr) (lN lC : Nat) (w : World) (Q : Value → World → Prop) : Prop :=
 RUNA PG (Instr.box 172 (.agg #[(.int .u16 s), (.int .u16 s1), (.int .u32 s2), (.int .u32 s3), (.int .u8 s4), (.slice s5 sN sC), (.slice s6 sN1 sC1)])) w fun a2 w1 =>
 RUNA PG (Instr.alloc 172 true (.tuple #[])) w1 fun a4 w2 =>
 RUNL PG (Builtin.append_ #[170, 170] 170 #[(.slice none 0 0), (.slice l lN lC)]) w2 fun x6 x6N x6C w3 =>
 RUNU PG (storeVar 170 (Addr.add a2 5) (.slice x6 x6N x6C)) w3 fun w4 =>
 RD PG (loadVar 172 a2) w4 fun v =>
 ∃ x8 : Int, ∃ x8v1 : Int, ∃ x8v2 : Int, ∃ x8v3 : Int, ∃ x8v4 : Int, ∃ (x8v5 : Option Addr) (x8N x8C : Nat), ∃ (x8v6 : Option Addr) (x8N1 x8C1 : Nat), v = (.agg #[(.int .u16 x8), (.int .u16 x8v1), (.int .u32 x8v2), (.int .u32 x8v3), (.int .u8 x8v4), (.slice x8v5 x8N x8C), (.slice x8v6 x8N1 x8C1)]) ∧
 (RUNU PG (storeVar 172 a4 (.agg #[(.int .u16 x8), (.int .u16 x8v1), (.int .u32 x8v2), (.int .u32 x8v3), (.int .u8 x8v4), (.slice x8v5 x8N x8C), (.slice x8v6 x8N1 x8C1)])) w4 fun w5 =>
 RD PG (loadVar 172 a4) w5 fun v2 =>
 ∃ r : Int, ∃ r1 : Int, ∃ r2 : Int, ∃ r3 : Int, ∃ r4 : Int, ∃ (r5 : Option Addr) (rN rC : Nat), ∃ (r6 : Option Addr) (rN1 rC1 : Nat), v2 = (.agg #[(.int .u16 r), (.int .u16 r1), (.int .u32 r2), (.int .u32 r3), (.int .u8 r4), (.slice r5 rN rC), (.slice r6 rN1 rC1)]) ∧
 (Q (.agg #[(.int .u16 r), (.int .u16 r1), (.int .u32 r2), (.int .u32 r3), (.int .u8 r4), (.slice r5 rN rC), (.slice r6 rN1 rC1)]) w5))
theorem eq93 : ∀ (s : Int) (s1 : Int) (s2 : Int) (s3 : Int) (s4 : Int) (s5 : Option Addr) (sN sC : Nat) (s6 : Option Addr) (sN1 sC1 : Nat) (l : Option Addr) (lN lC : Nat) (w : World) (Q : Value → World → Prop), vcF PG TB Tryz.f93 .nil [(.agg #[(.int .u16 s), (.int .u16 s1), (.int .u32 s2), (.int .u32 s3), (.int .u8 s4), (.slice s5 sN sC), (.slice s6 sN1 sC1)]), (.slice l lN lC)] w Q = N93 s s1 s2 s3 s4 s5 sN sC s6 sN1 sC1 l lN lC w Q := by intros; kernel_rfl
theorem call93 {s : Int} {s1 : Int} {s2 : Int} {s3 : Int} {s4 : Int} {s5 : Option Addr} {sN sC : Nat} {s6 : Option Addr} {sN1 sC1 : Nat} {l : Option Addr} {lN lC : Nat} {w : World} {Q : Value → World → Prop} (hN : N93 s s1 s2 s3 s4 s5 sN sC s6 sN1 sC1 l lN lC w Q) : CALL PG 93 [(.agg #[(.int .u16 s), (.int .u16 s1), (.int .u32 s2), (.int .u32 s3), (.int .u8 s4), (.slice s5 sN sC), (.slice s6 sN1 sC1)]), (.slice l lN lC)] w Q := calls_vc tabOk Tryz.func93 (by rw [eq93]; exact hN)

/-- brougham/seg.Right -/
def N104 (s : Int) (s1 : Int) (s2 : Int) (s3 : Int) (s4 : Int) (s5 : Option Addr) (sN sC : Nat) (s6 : Option Addr) (sN1 sC1 : Nat) (w : World) (Q : Value → World → Prop) : Prop :=
 RUNA PG (Instr.box 172 (.agg #[(.int .u16 s), (.int .u16 s1), (.int .u32 s2), (.int .u32 s3), (.int .u8 s4), (.slice s5 sN sC), (.slice s6 sN1 sC1)])) w fun a1 w1 =>
 RDI PG (loadVar 5 (Addr.add a1 4)) .u8 w1 fun x7 =>
 IFB (decide (x7 > (7 : Int)))
 (Q (.int .i64 (70 : Int)) w1)
 (RDL PG (loadVar 170 (Addr.add a1 5)) w1 fun x10 x10N x10C =>
 ∃ I : Nat → Int → Int → World → Prop,
 (∃ m, I m (0 : Int) (0 : Int) w1) ∧
 (∀ m1 (n : Int) (x12 : Int) (w2 : World), I m1 n x12 w2 → (IFB (decide (x12 < (x10N : Int)))
 (IDX x10 x10N x12 fun a14 =>
 RD PG (loadVar 160 (Addr.add a14 (Int.toNat x12 * 2))) w2 fun v =>
 ∃ x15 : Int, ∃ (x15v1 : Option Addr) (x15N x15C : Nat), v = (.agg #[(.int .u8 x15), (.slice x15v1 x15N x15C)]) ∧
 (RUNA PG (Instr.alloc 160 true (.tuple #[])) w2 fun a5 w3 =>
 RUNU PG (storeVar 160 a5 (.agg #[(.int .u8 x15), (.slice x15v1 x15N x15C)])) w3 fun w4 =>
 RDI PG (loadVar 5 (Addr.add a5 0)) .u8 w4 fun x17 =>
 IFB (x17 == (0 : Int))
 (Q (.int .i64 (71 : Int)) w4)
 (RDL PG (loadVar 95 (Addr.add a5 1)) w4 fun x21 x21N x21C =>
 IFB (decide ((x21N : Int) > (255 : Int)))
 (Q (.int .i64 (71 : Int)) w4)
 (RDL PG (loadVar 95 (Addr.add a5 1)) w4 fun x27 x27N x27C =>
 LETI (IntKind.i64.wrap (n + (IntKind.i64.wrap ((2 : Int) + (x27N : Int))))) fun n1 =>
 IFB (decide (n1 > (200 : Int)))
 (Q (.int .i64 (71 : Int)) w4)
 (∃ m2, m2 < m1 ∧ I m2 n1 (IntKind.i64.wrap (x12 + (1 : Int))) w4)))))
 (RDL PG (loadVar 95 (Addr.add a1 6)) w2 fun x35 x35N x35C =>
 IFB (decide ((x35N : Int) > (1024 : Int)))
 (Q (.int .i64 (72 : Int)) w2)
 (Q (.int .i64 (0 : Int)) w2)))))
theorem eq104 : ∀ (s : Int) (s1 : Int) (s2 : Int) (s3 : Int) (s4 : Int) (s5 : Option Addr) (sN sC : Nat) (s6 : Option Addr) (sN1 sC1 : Nat) (w : World) (Q : Value → World → Prop), vcF PG TB Tryz.f104 (.s .nil (.s .nil (.s .nil (.s (.s .nil (.u (.loop [(3, 3), (12, 3)] .nil))) .nil)))) [(.agg #[(.int .u16 s), (.int .u16 s1), (.int .u32 s2), (.int .u32 s3), (.int .u8 s4), (.slice s5 sN sC), (.slice s6 sN1 sC1)])] w Q = N104 s s1 s2 s3 s4 s5 sN sC s6 sN1 sC1 w Q := by intros; kernel_rfl
theorem call104 {s : Int} {s1 : Int} {s2 : Int} {s3 : Int} {s4 : Int} {s5 : Option Addr} {sN sC : Nat} {s6 : Option Addr} {sN1 sC1 : Nat} {w : World} {Q : Value → World → Prop} (hN : N104 s s1 s2 s3 s4 s5 sN sC s6 sN1 sC1 w Q) : CALL PG 104 [(.agg #[(.int .u16 s), (.int .u16 s1), (.int .u32 s2), (.int .u32 s3), (.int .u8 s4), (.slice s5 sN sC), (.slice s6 sN1 sC1)])] w Q := calls_vc tabOk Tryz.func104 (by rw [eq104]; exact hN)

/-- brougham/seg.Header -/
def N105 (s : Int) (s1 : Int) (s2 : Int) (s3 : Int) (s4 : Int) (s5 : Option Addr) (sN sC : Nat) (s6 : Option Addr) (sN1 sC1 : Nat) (w : World) (Q : Value → World → Prop) : Prop :=
 RUNA PG (Instr.box 172 (.agg #[(.int .u16 s), (.int .u16 s1), (.int .u32 s2), (.int .u32 s3), (.int .u8 s4), (.slice s5 sN sC), (.slice s6 sN1 sC1)])) w fun a1 w1 =>
 ∃ S : World → Prop, S (w1.drew) ∧
 (RDSI PG (loadVar 28 (Addr.add a1 0)) .u16 S fun x4 =>
 RDSI PG (loadVar 28 (Addr.add a1 1)) .u16 S fun x7 =>
 RDSI PG (loadVar 86 (Addr.add a1 2)) .u32 S fun x10 =>
 RDSI PG (loadVar 86 (Addr.add a1 3)) .u32 S fun x13 =>
 RDSI PG (loadVar 5 (Addr.add a1 4)) .u8 S fun x16 =>
 CALL PG 108 [(.int .u16 x4)] (w1.drew) fun v w2 =>
 ∃ x5 : Int, ∃ x5v1 : Int, v = (.agg #[(.int .i64 x5), (.int .u64 x5v1)]) ∧
 (∃ S1 : World → Prop, (∀ x, S1 x → S x) ∧ S1 w2 ∧
 (CALL PG 108 [(.int .u16 x7)] w2 fun v1 w3 =>
 ∃ x8 : Int, ∃ x8v1 : Int, v1 = (.agg #[(.int .i64 x8), (.int .u64 x8v1)]) ∧
 (∃ S2 : World → Prop, (∀ x, S2 x → S1 x) ∧ S2 w3 ∧
 (CALL PG 89 [(.int .u32 x10)] w3 fun v2 w4 =>
 ∃ x11 : Int, ∃ x11v1 : Int, v2 = (.agg #[(.int .i64 x11), (.int .u64 x11v1)]) ∧
 (∃ S3 : World → Prop, (∀ x, S3 x → S2 x) ∧ S3 w4 ∧
 (CALL PG 89 [(.int .u32 x13)] w4 fun v3 w5 =>
 ∃ x14 : Int, ∃ x14v1 : Int, v3 = (.agg #[(.int .i64 x14), (.int .u64 x14v1)]) ∧
 (∃ S4 : World → Prop, (∀ x, S4 x → S3 x) ∧ S4 w5 ∧
 (CALL PG 90 [(.int .u8 x16)] w5 fun v4 w6 =>
 ∃ x17 : Int, ∃ x17v1 : Int, v4 = (.agg #[(.int .i64 x17), (.int .u64 x17v1)]) ∧
 (RUNL PG (Instr.buildSlice 196 5 #[(0, (.agg #[(.int .i64 x5), (.int .u64 x5v1)])), (1, (.agg #[(.int .i64 x8), (.int .u64 x8v1)])), (2, (.agg #[(.int .i64 x11), (.int .u64 x11v1)])), (3, (.agg #[(.int .i64 x14), (.int .u64 x14v1)])), (4, (.agg #[(.int .i64 x17), (.int .u64 x17v1)]))]) w6 fun x18 x18N x18C w7 =>
 CALL PG 55 [(.slice none 0 0), (.slice x18 x18N x18C)] w7 fun v5 w8 =>
 ∃ (x19 : Option Addr) (x19N x19C : Nat), v5 = (.slice x19 x19N x19C) ∧
 (Q (.slice x19 x19N x19C) w8)))))))))))
theorem eq105 : ∀ (s : Int) (s1 : Int) (s2 : Int) (s3 : Int) (s4 : Int) (s5 : Option Addr) (sN sC : Nat) (s6 : Option Addr) (sN1 sC1 : Nat) (w : World) (Q : Value → World → Prop), vcF PG TB Tryz.f105 .nil [(.agg #[(.int .u16 s), (.int .u16 s1), (.int .u32 s2), (.int .u32 s3), (.int .u8 s4), (.slice s5 sN sC), (.slice s6 sN1 sC1)])] w Q = N105 s s1 s2 s3 s4 s5 sN sC s6 sN1 sC1 w Q := by intros; kernel_rfl
theorem call105 {s : Int} {s1 : Int} {s2 : Int} {s3 : Int} {s4 : Int} {s5 : Option Addr} {sN sC : Nat} {s6 : Option Addr} {sN1 sC1 : Nat} {w : World} {Q : Value → World → Prop} (hN : N105 s s1 s2 s3 s4 s5 sN sC s6 sN1 sC1 w Q) : CALL PG 105 [(.agg #[(.int .u16 s), (.int .u16 s1), (.int .u32 s2), (.int .u32 s3), (.int .u8 s4), (.slice s5 sN sC), (.slice s6 sN1 sC1)])] w Q := calls_vc tabOk Tryz.func105 (by rw [eq105]; exact hN)

end Go.Br

/- A segment's bytes: of the program and of the document. -/
set_option linter.unusedVariables false
set_option linter.unusedSimpArgs false
set_option linter.unnecessarySimpa false
namespace Go.Br
open Go
instance biSegEnca (x0 : Int) (x1 : Option Addr) (n1 c1 : Nat) : Bld PG (Instr.build 160 #[(0, .int .u8 x0), (1, .slice x1 n1 c1)]) (.agg #[.int .u8 x0, .slice x1 n1 c1]) := ⟨fun w => by kernel_rfl⟩
instance biSegEncb : Zro PG 160 2 32 (.agg #[.int .u8 0, .slice none 0 0]) := ⟨tiOf (by kernel_rfl)⟩
instance biSegEncc : Zro PG 172 7 64 (.agg #[.int .u16 0, .int .u16 0, .int .u32 0, .int .u32 0, .int .u8 0, .slice none 0 0, .slice none 0 0]) := ⟨tiOf (by kernel_rfl)⟩
attribute [local irreducible] Addr.add RD RDS RUN RUNU NILC LETB CALL CALLX CALLV

def SgIn (L : List SA) (s : Sg) : Prop := ∀ c w, St c w L → SgAt s w
theorem SgIn.more {L : List SA} {s : Sg} {X : SA} (h : SgIn L s) : SgIn (X :: L) s := fun c w hs => h c w hs.drop
theorem SgIn.here {L R : List SA} {s : Sg} (hp : Pick (sgp s) L R) : SgIn L s := fun c w hs => hs.ro hp
theorem SgIn.opts {L : List SA} {s : Sg} (h : SgIn L s) : RdIn L s.oA (s.os.flatMap opx) := fun c w hs => (h c w hs).1
theorem SgIn.opt {L : List SA} {s : Sg} (h : SgIn L s) {o : Opx} (ho : o ∈ s.os) : RdIn L o.body (bvs o.bodys) := fun c w hs => (h c w hs).2.1 o ho
theorem SgIn.data {L : List SA} {s : Sg} (h : SgIn L s) : RdIn L s.dA (bvs s.ds) := fun c w hs => (h c w hs).2.2
def keyB (key tag : Int) (answer : Bool) : List UInt8 := if answer then beB key 8 ++ beB tag 8 else beB key 8
/-- An option's bytes. -/
def obP (o : Int × List UInt8) : List UInt8 := byteOf o.1 :: UInt8.ofNat o.2.length :: o.2
def obs (os : List (Int × List UInt8)) : List UInt8 := os.flatMap obP
def hdB (s : SgP) : List UInt8 := beB s.src 2 ++ beB s.dst 2 ++ beB s.seq 4 ++ beB s.ack 4 ++ beB s.flags 1
/-- A segment's bytes. -/
def encB (s : SgP) : List UInt8 := hdB s ++ [UInt8.ofNat (obs s.os).length] ++ obs s.os ++ s.ds
/-- A segment that may be. -/
structure SgOk (s : SgP) : Prop where
  src : 0 ≤ s.src ∧ s.src < 65536
  dst : 0 ≤ s.dst ∧ s.dst < 65536
  seq : 0 ≤ s.seq ∧ s.seq < 4294967296
  ack : 0 ≤ s.ack ∧ s.ack < 4294967296
  flags : 0 ≤ s.flags ∧ s.flags ≤ 7
  opts : ∀ o ∈ s.os, (1 ≤ o.1 ∧ o.1 < 256) ∧ o.2.length ≤ 255
  room : (obs s.os).length ≤ 200
  data : s.ds.length ≤ 1024
theorem obs_take {os : List Opx} {j : Nat} {o : Opx} (h : os[j]? = some o) : obs ((os.take (j + 1)).map opl) = obs ((os.take j).map opl) ++ obP (opl o) := by
  unfold obs
  rw [take_snoc' h]
  simp
theorem obs_le {os : List Opx} (j : Nat) : (obs ((os.take j).map opl)).length ≤ (obs (os.map opl)).length := by
  have e : obs (os.map opl) = obs ((os.take j).map opl) ++ obs ((os.drop j).map opl) := by
    unfold obs
    rw [← List.flatMap_append, ← List.map_append, List.take_append_drop]
  rw [e, List.length_append]
  omega
theorem obP_length (o : Int × List UInt8) : (obP o).length = 2 + o.2.length := by simp [obP]; omega
theorem obs_two : ∀ os : List (Int × List UInt8), 2 * os.length ≤ (obs os).length
  | [] => by simp
  | o :: r => by
    have := obs_two r
    have h := obP_length o
    unfold obs at this ⊢
    rw [List.flatMap_cons, List.length_append, List.length_cons]
    omega
theorem hdB_length (s : SgP) : (hdB s).length = 13 := by simp [hdB, beB_length]
theorem bv_of {n : Int} (h0 : 0 ≤ n) (h1 : n < 256) : Value.int .u8 n = bv (byteOf n) := by
  unfold bv
  rw [byteOf_val]
  congr 1
  omega
theorem bv_nat {n : Nat} (h1 : n < 256) : Value.int .u8 (n : Int) = bv (UInt8.ofNat n) := by
  unfold bv
  congr 1
  rw [UInt8.toNat_ofNat']
  omega
section
variable {c : Ctx} {w : World} {L R : List SA}
abbrev opp (o : Opx) : SA := rows o.body (bvs o.bodys)
theorem okey_ok (h : St c w L) {key tag : Int} {ans : Bool} (h0 : 0 ≤ key) (h1 : key < 18446744073709551616) (h2 : 0 ≤ tag) (h3 : tag < 18446744073709551616) {Q : Value → World → Prop}
    (hk : ∀ o w', opl o = (1, keyB key tag ans) → St c w' (opp o :: L) → Q (opxv o) w') : CALL PG 64 [.agg #[.int .u64 key, .bool ans, .int .u64 tag]] w Q := by
  refine call64 ?_
  unfold N64
  repeat' (first
    | refine nilc ?_
    | refine h.rdI _ ?_
    | refine h.rdB _ ?_
    | refine h.rdP _ ?_
    | refine h.rdL _ ?_
    | refine h.rdT _ ?_
    | refine h.rdI2 _ _ ?_
    | refine h.rdB2 _ _ ?_
    | refine h.rdP2 _ _ ?_
    | refine h.rdL2 _ _ ?_
    | refine h.st2 _ _ fun w' h => ?_
    | refine h.st _ fun w' h => ?_
    | refine h.rdvI ?_
    | refine h.rdvB ?_
    | refine h.rdvP ?_
    | refine h.rdvL ?_
    | refine h.rdvT ?_
    | (refine h.rdG ?_; (repeat (first | apply Exists.intro (α := Int) | apply Exists.intro (α := Bool) | apply Exists.intro (α := ByteArray) | (apply Exists.intro (α := Option Addr); apply Exists.intro (α := Nat); apply Exists.intro (α := Nat)) | apply Exists.intro (α := Option Addr) | apply Exists.intro (α := Value))); refine ⟨rfl, ?_⟩)
    | refine h.stG fun w' h => ?_
    | refine h.stV fun w' h => ?_
    | refine h.box fun p w' h => ?_
    | refine h.boxV fun p w' h => ?_
    | refine h.allocZ fun p w' h => ?_
    | refine h.allocZV fun p w' h => ?_
    | (refine RD.bld ?_; (repeat (first | apply Exists.intro (α := Int) | apply Exists.intro (α := Bool) | apply Exists.intro (α := ByteArray) | (apply Exists.intro (α := Option Addr); apply Exists.intro (α := Nat); apply Exists.intro (α := Nat)) | apply Exists.intro (α := Option Addr) | apply Exists.intro (α := Value))); refine ⟨rfl, ?_⟩)
    | (refine RDS.bld ?_; (repeat (first | apply Exists.intro (α := Int) | apply Exists.intro (α := Bool) | apply Exists.intro (α := ByteArray) | (apply Exists.intro (α := Option Addr); apply Exists.intro (α := Nat); apply Exists.intro (α := Nat)) | apply Exists.intro (α := Option Addr) | apply Exists.intro (α := Value))); refine ⟨rfl, ?_⟩)
    | refine St.rdsI _ ?_
    | refine St.rdsB _ ?_
    | refine St.rdsP _ ?_
    | refine St.rdsL _ ?_
    | refine St.rdsT _ ?_
    | refine St.rdsI2 _ _ ?_
    | refine St.rdsB2 _ _ ?_
    | (refine St.rdsG ?_; (repeat (first | apply Exists.intro (α := Int) | apply Exists.intro (α := Bool) | apply Exists.intro (α := ByteArray) | (apply Exists.intro (α := Option Addr); apply Exists.intro (α := Nat); apply Exists.intro (α := Nat)) | apply Exists.intro (α := Option Addr) | apply Exists.intro (α := Value))); refine ⟨rfl, ?_⟩)
    | refine letb rfl ?_
    | refine sat h ?_
    | (have h := h.drew; refine sat h ?_)
    | refine sat1 h (fun _ h => h.to) ?_)
  refine packQ_ok h fun w' h => ?_
  (repeat (first | apply Exists.intro (α := Int) | apply Exists.intro (α := Bool) | apply Exists.intro (α := ByteArray) | (apply Exists.intro (α := Option Addr); apply Exists.intro (α := Nat); apply Exists.intro (α := Nat)) | apply Exists.intro (α := Option Addr) | apply Exists.intro (α := Value)))
  refine ⟨rfl, ?_⟩
  refine h.lit (n := 1) 148 2 ([(⟨8, key⟩ : Fd)].flatMap fd) fun q w' h => ?_
  refine pput_ok h (A := none) (bs := []) (C := 0) (fs := [⟨8, key⟩]) RdIn.nil (RdIn.own .head) (by simp [FdOk]; omega) (by simp) (by simp) fun O k w' h => ⟨_, _, _, rfl, ?_⟩
  have e1 : ([] : List UInt8) ++ [(⟨8, key⟩ : Fd)].flatMap fdb = beB key 8 := by simp [fdb]
  rw [e1] at h ⊢
  repeat' (first
    | refine nilc ?_
    | refine h.rdI _ ?_
    | refine h.rdB _ ?_
    | refine h.rdP _ ?_
    | refine h.rdL _ ?_
    | refine h.rdT _ ?_
    | refine h.rdI2 _ _ ?_
    | refine h.rdB2 _ _ ?_
    | refine h.rdP2 _ _ ?_
    | refine h.rdL2 _ _ ?_
    | refine h.st2 _ _ fun w' h => ?_
    | refine h.st _ fun w' h => ?_
    | refine h.rdvI ?_
    | refine h.rdvB ?_
    | refine h.rdvP ?_
    | refine h.rdvL ?_
    | refine h.rdvT ?_
    | (refine h.rdG ?_; (repeat (first | apply Exists.intro (α := Int) | apply Exists.intro (α := Bool) | apply Exists.intro (α := ByteArray) | (apply Exists.intro (α := Option Addr); apply Exists.intro (α := Nat); apply Exists.intro (α := Nat)) | apply Exists.intro (α := Option Addr) | apply Exists.intro (α := Value))); refine ⟨rfl, ?_⟩)
    | refine h.stG fun w' h => ?_
    | refine h.stV fun w' h => ?_
    | refine h.box fun p w' h => ?_
    | refine h.boxV fun p w' h => ?_
    | refine h.allocZ fun p w' h => ?_
    | refine h.allocZV fun p w' h => ?_
    | (refine RD.bld ?_; (repeat (first | apply Exists.intro (α := Int) | apply Exists.intro (α := Bool) | apply Exists.intro (α := ByteArray) | (apply Exists.intro (α := Option Addr); apply Exists.intro (α := Nat); apply Exists.intro (α := Nat)) | apply Exists.intro (α := Option Addr) | apply Exists.intro (α := Value))); refine ⟨rfl, ?_⟩)
    | (refine RDS.bld ?_; (repeat (first | apply Exists.intro (α := Int) | apply Exists.intro (α := Bool) | apply Exists.intro (α := ByteArray) | (apply Exists.intro (α := Option Addr); apply Exists.intro (α := Nat); apply Exists.intro (α := Nat)) | apply Exists.intro (α := Option Addr) | apply Exists.intro (α := Value))); refine ⟨rfl, ?_⟩)
    | refine St.rdsI _ ?_
    | refine St.rdsB _ ?_
    | refine St.rdsP _ ?_
    | refine St.rdsL _ ?_
    | refine St.rdsT _ ?_
    | refine St.rdsI2 _ _ ?_
    | refine St.rdsB2 _ _ ?_
    | (refine St.rdsG ?_; (repeat (first | apply Exists.intro (α := Int) | apply Exists.intro (α := Bool) | apply Exists.intro (α := ByteArray) | (apply Exists.intro (α := Option Addr); apply Exists.intro (α := Nat); apply Exists.intro (α := Nat)) | apply Exists.intro (α := Option Addr) | apply Exists.intro (α := Value))); refine ⟨rfl, ?_⟩)
    | refine letb rfl ?_
    | refine sat h ?_
    | (have h := h.drew; refine sat h ?_)
    | refine sat1 h (fun _ h => h.to) ?_)
  refine ifb (fun ha => ?_) fun ha => ?_
  · repeat' (first
      | refine nilc ?_
      | refine h.rdI _ ?_
      | refine h.rdB _ ?_
      | refine h.rdP _ ?_
      | refine h.rdL _ ?_
      | refine h.rdT _ ?_
      | refine h.rdI2 _ _ ?_
      | refine h.rdB2 _ _ ?_
      | refine h.rdP2 _ _ ?_
      | refine h.rdL2 _ _ ?_
      | refine h.st2 _ _ fun w' h => ?_
      | refine h.st _ fun w' h => ?_
      | refine h.rdvI ?_
      | refine h.rdvB ?_
      | refine h.rdvP ?_
      | refine h.rdvL ?_
      | refine h.rdvT ?_
      | (refine h.rdG ?_; (repeat (first | apply Exists.intro (α := Int) | apply Exists.intro (α := Bool) | apply Exists.intro (α := ByteArray) | (apply Exists.intro (α := Option Addr); apply Exists.intro (α := Nat); apply Exists.intro (α := Nat)) | apply Exists.intro (α := Option Addr) | apply Exists.intro (α := Value))); refine ⟨rfl, ?_⟩)
      | refine h.stG fun w' h => ?_
      | refine h.stV fun w' h => ?_
      | refine h.box fun p w' h => ?_
      | refine h.boxV fun p w' h => ?_
      | refine h.allocZ fun p w' h => ?_
      | refine h.allocZV fun p w' h => ?_
      | (refine RD.bld ?_; (repeat (first | apply Exists.intro (α := Int) | apply Exists.intro (α := Bool) | apply Exists.intro (α := ByteArray) | (apply Exists.intro (α := Option Addr); apply Exists.intro (α := Nat); apply Exists.intro (α := Nat)) | apply Exists.intro (α := Option Addr) | apply Exists.intro (α := Value))); refine ⟨rfl, ?_⟩)
      | (refine RDS.bld ?_; (repeat (first | apply Exists.intro (α := Int) | apply Exists.intro (α := Bool) | apply Exists.intro (α := ByteArray) | (apply Exists.intro (α := Option Addr); apply Exists.intro (α := Nat); apply Exists.intro (α := Nat)) | apply Exists.intro (α := Option Addr) | apply Exists.intro (α := Value))); refine ⟨rfl, ?_⟩)
      | refine St.rdsI _ ?_
      | refine St.rdsB _ ?_
      | refine St.rdsP _ ?_
      | refine St.rdsL _ ?_
      | refine St.rdsT _ ?_
      | refine St.rdsI2 _ _ ?_
      | refine St.rdsB2 _ _ ?_
      | (refine St.rdsG ?_; (repeat (first | apply Exists.intro (α := Int) | apply Exists.intro (α := Bool) | apply Exists.intro (α := ByteArray) | (apply Exists.intro (α := Option Addr); apply Exists.intro (α := Nat); apply Exists.intro (α := Nat)) | apply Exists.intro (α := Option Addr) | apply Exists.intro (α := Value))); refine ⟨rfl, ?_⟩)
      | refine letb rfl ?_
      | refine sat h ?_
      | (have h := h.drew; refine sat h ?_)
      | refine sat1 h (fun _ h => h.to) ?_)
    refine packQ_ok h fun w' h => ?_
    (repeat (first | apply Exists.intro (α := Int) | apply Exists.intro (α := Bool) | apply Exists.intro (α := ByteArray) | (apply Exists.intro (α := Option Addr); apply Exists.intro (α := Nat); apply Exists.intro (α := Nat)) | apply Exists.intro (α := Option Addr) | apply Exists.intro (α := Value)))
    refine ⟨rfl, ?_⟩
    refine h.lit (n := 1) 148 2 ([(⟨8, tag⟩ : Fd)].flatMap fd) fun q w' h => ?_
    refine pput_ok h (bs := beB key 8) (fs := [⟨8, tag⟩]) (RdIn.own (.tail .head)) (RdIn.own .head) (by simp [FdOk]; omega) (by rw [beB_length]; decide) (by simp) fun O2 k2 w' h => ⟨_, _, _, rfl, ?_⟩
    have e2 : beB key 8 ++ [(⟨8, tag⟩ : Fd)].flatMap fdb = keyB key tag ans := by simp [fdb, keyB, ha]
    rw [e2] at h ⊢
    repeat' (first
      | refine nilc ?_
      | refine h.rdI _ ?_
      | refine h.rdB _ ?_
      | refine h.rdP _ ?_
      | refine h.rdL _ ?_
      | refine h.rdT _ ?_
      | refine h.rdI2 _ _ ?_
      | refine h.rdB2 _ _ ?_
      | refine h.rdP2 _ _ ?_
      | refine h.rdL2 _ _ ?_
      | refine h.st2 _ _ fun w' h => ?_
      | refine h.st _ fun w' h => ?_
      | refine h.rdvI ?_
      | refine h.rdvB ?_
      | refine h.rdvP ?_
      | refine h.rdvL ?_
      | refine h.rdvT ?_
      | (refine h.rdG ?_; (repeat (first | apply Exists.intro (α := Int) | apply Exists.intro (α := Bool) | apply Exists.intro (α := ByteArray) | (apply Exists.intro (α := Option Addr); apply Exists.intro (α := Nat); apply Exists.intro (α := Nat)) | apply Exists.intro (α := Option Addr) | apply Exists.intro (α := Value))); refine ⟨rfl, ?_⟩)
      | refine h.stG fun w' h => ?_
      | refine h.stV fun w' h => ?_
      | refine h.box fun p w' h => ?_
      | refine h.boxV fun p w' h => ?_
      | refine h.allocZ fun p w' h => ?_
      | refine h.allocZV fun p w' h => ?_
      | (refine RD.bld ?_; (repeat (first | apply Exists.intro (α := Int) | apply Exists.intro (α := Bool) | apply Exists.intro (α := ByteArray) | (apply Exists.intro (α := Option Addr); apply Exists.intro (α := Nat); apply Exists.intro (α := Nat)) | apply Exists.intro (α := Option Addr) | apply Exists.intro (α := Value))); refine ⟨rfl, ?_⟩)
      | (refine RDS.bld ?_; (repeat (first | apply Exists.intro (α := Int) | apply Exists.intro (α := Bool) | apply Exists.intro (α := ByteArray) | (apply Exists.intro (α := Option Addr); apply Exists.intro (α := Nat); apply Exists.intro (α := Nat)) | apply Exists.intro (α := Option Addr) | apply Exists.intro (α := Value))); refine ⟨rfl, ?_⟩)
      | refine St.rdsI _ ?_
      | refine St.rdsB _ ?_
      | refine St.rdsP _ ?_
      | refine St.rdsL _ ?_
      | refine St.rdsT _ ?_
      | refine St.rdsI2 _ _ ?_
      | refine St.rdsB2 _ _ ?_
      | (refine St.rdsG ?_; (repeat (first | apply Exists.intro (α := Int) | apply Exists.intro (α := Bool) | apply Exists.intro (α := ByteArray) | (apply Exists.intro (α := Option Addr); apply Exists.intro (α := Nat); apply Exists.intro (α := Nat)) | apply Exists.intro (α := Option Addr) | apply Exists.intro (α := Value))); refine ⟨rfl, ?_⟩)
      | refine letb rfl ?_
      | refine sat h ?_
      | (have h := h.drew; refine sat h ?_)
      | refine sat1 h (fun _ h => h.to) ?_)
    exact hk ⟨1, O2, k2, keyB key tag ans⟩ _ rfl (h.to : St c _ (own 5 1 O2 (keyB key tag ans).length k2 (bvs (keyB key tag ans)) :: L)).ownRows
  · have e2 : beB key 8 = keyB key tag ans := by simp [keyB, ha]
    rw [e2] at h ⊢
    repeat' (first
      | refine nilc ?_
      | refine h.rdI _ ?_
      | refine h.rdB _ ?_
      | refine h.rdP _ ?_
      | refine h.rdL _ ?_
      | refine h.rdT _ ?_
      | refine h.rdI2 _ _ ?_
      | refine h.rdB2 _ _ ?_
      | refine h.rdP2 _ _ ?_
      | refine h.rdL2 _ _ ?_
      | refine h.st2 _ _ fun w' h => ?_
      | refine h.st _ fun w' h => ?_
      | refine h.rdvI ?_
      | refine h.rdvB ?_
      | refine h.rdvP ?_
      | refine h.rdvL ?_
      | refine h.rdvT ?_
      | (refine h.rdG ?_; (repeat (first | apply Exists.intro (α := Int) | apply Exists.intro (α := Bool) | apply Exists.intro (α := ByteArray) | (apply Exists.intro (α := Option Addr); apply Exists.intro (α := Nat); apply Exists.intro (α := Nat)) | apply Exists.intro (α := Option Addr) | apply Exists.intro (α := Value))); refine ⟨rfl, ?_⟩)
      | refine h.stG fun w' h => ?_
      | refine h.stV fun w' h => ?_
      | refine h.box fun p w' h => ?_
      | refine h.boxV fun p w' h => ?_
      | refine h.allocZ fun p w' h => ?_
      | refine h.allocZV fun p w' h => ?_
      | (refine RD.bld ?_; (repeat (first | apply Exists.intro (α := Int) | apply Exists.intro (α := Bool) | apply Exists.intro (α := ByteArray) | (apply Exists.intro (α := Option Addr); apply Exists.intro (α := Nat); apply Exists.intro (α := Nat)) | apply Exists.intro (α := Option Addr) | apply Exists.intro (α := Value))); refine ⟨rfl, ?_⟩)
      | (refine RDS.bld ?_; (repeat (first | apply Exists.intro (α := Int) | apply Exists.intro (α := Bool) | apply Exists.intro (α := ByteArray) | (apply Exists.intro (α := Option Addr); apply Exists.intro (α := Nat); apply Exists.intro (α := Nat)) | apply Exists.intro (α := Option Addr) | apply Exists.intro (α := Value))); refine ⟨rfl, ?_⟩)
      | refine St.rdsI _ ?_
      | refine St.rdsB _ ?_
      | refine St.rdsP _ ?_
      | refine St.rdsL _ ?_
      | refine St.rdsT _ ?_
      | refine St.rdsI2 _ _ ?_
      | refine St.rdsB2 _ _ ?_
      | (refine St.rdsG ?_; (repeat (first | apply Exists.intro (α := Int) | apply Exists.intro (α := Bool) | apply Exists.intro (α := ByteArray) | (apply Exists.intro (α := Option Addr); apply Exists.intro (α := Nat); apply Exists.intro (α := Nat)) | apply Exists.intro (α := Option Addr) | apply Exists.intro (α := Value))); refine ⟨rfl, ?_⟩)
      | refine letb rfl ?_
      | refine sat h ?_
      | (have h := h.drew; refine sat h ?_)
      | refine sat1 h (fun _ h => h.to) ?_)
    exact hk ⟨1, O, k, keyB key tag ans⟩ _ rfl (h.to : St c _ (own 5 1 O (keyB key tag ans).length k (bvs (keyB key tag ans)) :: L)).ownRows
/-- A segment with these options. -/
theorem sof_ok (h : St c w L) {s : Sg} {A : Option Addr} {K : Nat} {os : List Opx} (hr : RdIn L A (os.flatMap opx)) (hn : os.length ≤ 1000) {Q : Value → World → Prop}
    (hk : ∀ O k w', St c w' (own 160 2 O os.length k (os.flatMap opx) :: L) → Q (sgv { s with oA := O, oC := k, os := os }) w') : CALL PG 93 [sgv s, .slice A os.length K] w Q := by
  refine call93 ?_
  unfold N93
  repeat' (first
    | refine nilc ?_
    | refine h.rdI _ ?_
    | refine h.rdB _ ?_
    | refine h.rdP _ ?_
    | refine h.rdL _ ?_
    | refine h.rdT _ ?_
    | refine h.rdI2 _ _ ?_
    | refine h.rdB2 _ _ ?_
    | refine h.rdP2 _ _ ?_
    | refine h.rdL2 _ _ ?_
    | refine h.st2 _ _ fun w' h => ?_
    | refine h.st _ fun w' h => ?_
    | refine h.rdvI ?_
    | refine h.rdvB ?_
    | refine h.rdvP ?_
    | refine h.rdvL ?_
    | refine h.rdvT ?_
    | (refine h.rdG ?_; (repeat (first | apply Exists.intro (α := Int) | apply Exists.intro (α := Bool) | apply Exists.intro (α := ByteArray) | (apply Exists.intro (α := Option Addr); apply Exists.intro (α := Nat); apply Exists.intro (α := Nat)) | apply Exists.intro (α := Option Addr) | apply Exists.intro (α := Value))); refine ⟨rfl, ?_⟩)
    | refine h.stG fun w' h => ?_
    | refine h.stV fun w' h => ?_
    | refine h.box fun p w' h => ?_
    | refine h.boxV fun p w' h => ?_
    | refine h.allocZ fun p w' h => ?_
    | refine h.allocZV fun p w' h => ?_
    | (refine RD.bld ?_; (repeat (first | apply Exists.intro (α := Int) | apply Exists.intro (α := Bool) | apply Exists.intro (α := ByteArray) | (apply Exists.intro (α := Option Addr); apply Exists.intro (α := Nat); apply Exists.intro (α := Nat)) | apply Exists.intro (α := Option Addr) | apply Exists.intro (α := Value))); refine ⟨rfl, ?_⟩)
    | (refine RDS.bld ?_; (repeat (first | apply Exists.intro (α := Int) | apply Exists.intro (α := Bool) | apply Exists.intro (α := ByteArray) | (apply Exists.intro (α := Option Addr); apply Exists.intro (α := Nat); apply Exists.intro (α := Nat)) | apply Exists.intro (α := Option Addr) | apply Exists.intro (α := Value))); refine ⟨rfl, ?_⟩)
    | refine St.rdsI _ ?_
    | refine St.rdsB _ ?_
    | refine St.rdsP _ ?_
    | refine St.rdsL _ ?_
    | refine St.rdsT _ ?_
    | refine St.rdsI2 _ _ ?_
    | refine St.rdsB2 _ _ ?_
    | (refine St.rdsG ?_; (repeat (first | apply Exists.intro (α := Int) | apply Exists.intro (α := Bool) | apply Exists.intro (α := ByteArray) | (apply Exists.intro (α := Option Addr); apply Exists.intro (α := Nat); apply Exists.intro (α := Nat)) | apply Exists.intro (α := Option Addr) | apply Exists.intro (α := Value))); refine ⟨rfl, ?_⟩)
    | refine letb rfl ?_
    | refine sat h ?_
    | (have h := h.drew; refine sat h ?_)
    | refine sat1 h (fun _ h => h.to) ?_)
  refine (h.addOwnNil 160 2).append huOpx tiOpx .head hr.more.more.more (m := os.length) (flat_length opx_length os) (opx_flat os) (by omega) fun O k w' h => ?_
  simp only [Nat.zero_add, List.nil_append] at h ⊢
  repeat' (first
    | refine nilc ?_
    | refine h.rdI _ ?_
    | refine h.rdB _ ?_
    | refine h.rdP _ ?_
    | refine h.rdL _ ?_
    | refine h.rdT _ ?_
    | refine h.rdI2 _ _ ?_
    | refine h.rdB2 _ _ ?_
    | refine h.rdP2 _ _ ?_
    | refine h.rdL2 _ _ ?_
    | refine h.st2 _ _ fun w' h => ?_
    | refine h.st _ fun w' h => ?_
    | refine h.rdvI ?_
    | refine h.rdvB ?_
    | refine h.rdvP ?_
    | refine h.rdvL ?_
    | refine h.rdvT ?_
    | (refine h.rdG ?_; (repeat (first | apply Exists.intro (α := Int) | apply Exists.intro (α := Bool) | apply Exists.intro (α := ByteArray) | (apply Exists.intro (α := Option Addr); apply Exists.intro (α := Nat); apply Exists.intro (α := Nat)) | apply Exists.intro (α := Option Addr) | apply Exists.intro (α := Value))); refine ⟨rfl, ?_⟩)
    | refine h.stG fun w' h => ?_
    | refine h.stV fun w' h => ?_
    | refine h.box fun p w' h => ?_
    | refine h.boxV fun p w' h => ?_
    | refine h.allocZ fun p w' h => ?_
    | refine h.allocZV fun p w' h => ?_
    | (refine RD.bld ?_; (repeat (first | apply Exists.intro (α := Int) | apply Exists.intro (α := Bool) | apply Exists.intro (α := ByteArray) | (apply Exists.intro (α := Option Addr); apply Exists.intro (α := Nat); apply Exists.intro (α := Nat)) | apply Exists.intro (α := Option Addr) | apply Exists.intro (α := Value))); refine ⟨rfl, ?_⟩)
    | (refine RDS.bld ?_; (repeat (first | apply Exists.intro (α := Int) | apply Exists.intro (α := Bool) | apply Exists.intro (α := ByteArray) | (apply Exists.intro (α := Option Addr); apply Exists.intro (α := Nat); apply Exists.intro (α := Nat)) | apply Exists.intro (α := Option Addr) | apply Exists.intro (α := Value))); refine ⟨rfl, ?_⟩)
    | refine St.rdsI _ ?_
    | refine St.rdsB _ ?_
    | refine St.rdsP _ ?_
    | refine St.rdsL _ ?_
    | refine St.rdsT _ ?_
    | refine St.rdsI2 _ _ ?_
    | refine St.rdsB2 _ _ ?_
    | (refine St.rdsG ?_; (repeat (first | apply Exists.intro (α := Int) | apply Exists.intro (α := Bool) | apply Exists.intro (α := ByteArray) | (apply Exists.intro (α := Option Addr); apply Exists.intro (α := Nat); apply Exists.intro (α := Nat)) | apply Exists.intro (α := Option Addr) | apply Exists.intro (α := Value))); refine ⟨rfl, ?_⟩)
    | refine letb rfl ?_
    | refine sat h ?_
    | (have h := h.drew; refine sat h ?_)
    | refine sat1 h (fun _ h => h.to) ?_)
  exact hk O k _ h.to
theorem segright_ok (h : St c w L) {s : Sg} (hs : SgIn L s) (ok : SgOk s.pl) {Q : Value → World → Prop} (hk : ∀ w', St c w' L → Q (.int .i64 0) w') : CALL PG 104 [sgv s] w Q := by
  have hf : 0 ≤ s.flags ∧ s.flags ≤ 7 := ok.flags
  have hd : s.ds.length ≤ 1024 := ok.data
  have hr : (obs (s.os.map opl)).length ≤ 200 := ok.room
  have hol := obs_two (s.os.map opl)
  rw [List.length_map] at hol
  refine call104 ?_
  unfold N104
  refine h.box fun q w' h => ?_
  refine h.rdI 4 ?_
  refine ifdf (by omega) ?_
  refine h.rdL 5 ?_
  refine ⟨fun m n x w' => ∃ j : Nat, x = j ∧ m = s.os.length - j ∧ j ≤ s.os.length ∧ n = ((obs ((s.os.take j).map opl)).length : Int) ∧ St c w' (blk q 172 [.int .u16 s.src, .int .u16 s.dst, .int .u32 s.seq, .int .u32 s.ack, .int .u8 s.flags, .slice s.oA s.os.length s.oC, .slice s.dA s.ds.length s.dC] :: L), ⟨_, 0, rfl, rfl, by omega, rfl, h⟩, ?_⟩
  clear h
  rintro m _ _ w' ⟨j, rfl, rfl, hj, rfl, h⟩
  refine ifd (fun hlt => ?_) fun hge => ?_
  · obtain ⟨o, hy⟩ := ex_get (L := s.os) (j := j) (by omega)
    have ho := ok.opts (opl o) (List.mem_map_of_mem (List.mem_of_getElem? hy))
    have ho1 : 1 ≤ o.kind ∧ o.kind < 256 := ho.1
    have ho2 : o.bodys.length ≤ 255 := ho.2
    have hT := obs_take hy
    have hle := obs_le (os := s.os) (j + 1)
    rw [hT, List.length_append, obP_length] at hle
    have hl2 : (opl o).2.length = o.bodys.length := rfl
    refine h.ix (z := 1) hs.opts.more hy (fun a ha => ?_) (by omega)
    have hr1 := hs.opts
    rw [ha] at hr1
    refine h.rdEG hr1.more hy ?_
    (repeat (first | apply Exists.intro (α := Int) | apply Exists.intro (α := Bool) | apply Exists.intro (α := ByteArray) | (apply Exists.intro (α := Option Addr); apply Exists.intro (α := Nat); apply Exists.intro (α := Nat)) | apply Exists.intro (α := Option Addr) | apply Exists.intro (α := Value)))
    refine ⟨rfl, ?_⟩
    refine h.allocZ fun p w' h => ?_
    refine h.stG fun w' h => ?_
    refine h.rdI 0 ?_
    refine ifq (fun e => by omega) fun _ => ?_
    refine h.rdL 1 ?_
    refine ifdf (by omega) ?_
    refine h.rdL 1 ?_
    rw [wrap_i64 (n := (2 : Int) + (o.bodys.length : Int)) (by omega) (by omega)]
    refine leti (y := (((obs ((s.os.take (j + 1)).map opl)).length : Nat) : Int)) (by rw [hT, List.length_append, obP_length, wrap_i64 (by omega) (by omega)]; omega) ?_
    refine ifdf (by rw [hT, List.length_append, obP_length]; omega) ⟨_, ?_, j + 1, by rw [wrap_i64 (by omega) (by omega)]; omega, rfl, by omega, rfl, h.drop⟩
    omega
  · refine h.rdL 6 ?_
    refine ifdf (by omega) ?_
    exact hk _ h.drop
theorem seghead_ok (h : St c w L) {s : Sg} (ok : SgOk s.pl) {Q : Value → World → Prop} (hk : ∀ O k w', St c w' (own 5 1 O (hdB s.pl).length k (bvs (hdB s.pl)) :: L) → Q (.slice O (hdB s.pl).length k) w') : CALL PG 105 [sgv s] w Q := by
  have h1 : 0 ≤ s.src ∧ s.src < 65536 := ok.src
  have h2 : 0 ≤ s.dst ∧ s.dst < 65536 := ok.dst
  have h3 : 0 ≤ s.seq ∧ s.seq < 4294967296 := ok.seq
  have h4 : 0 ≤ s.ack ∧ s.ack < 4294967296 := ok.ack
  have h5 : 0 ≤ s.flags ∧ s.flags ≤ 7 := ok.flags
  refine call105 ?_
  unfold N105
  refine h.box fun q w' h => ?_
  have h := h.drew
  refine ⟨fun w => St c w _, h, ?_⟩
  refine St.rdsI 0 (St.rdsI 1 (St.rdsI 2 (St.rdsI 3 (St.rdsI 4 ?_))))
  refine packH_ok h h1.1 h1.2 fun w' h => ?_
  (repeat (first | apply Exists.intro (α := Int) | apply Exists.intro (α := Bool) | apply Exists.intro (α := ByteArray) | (apply Exists.intro (α := Option Addr); apply Exists.intro (α := Nat); apply Exists.intro (α := Nat)) | apply Exists.intro (α := Option Addr) | apply Exists.intro (α := Value)))
  refine ⟨rfl, ?_⟩
  refine ⟨_, fun _ h => h, h, ?_⟩
  refine packH_ok h h2.1 h2.2 fun w' h => ?_
  (repeat (first | apply Exists.intro (α := Int) | apply Exists.intro (α := Bool) | apply Exists.intro (α := ByteArray) | (apply Exists.intro (α := Option Addr); apply Exists.intro (α := Nat); apply Exists.intro (α := Nat)) | apply Exists.intro (α := Option Addr) | apply Exists.intro (α := Value)))
  refine ⟨rfl, ?_⟩
  refine ⟨_, fun _ h => h, h, ?_⟩
  refine packW_ok h h3.1 h3.2 fun w' h => ?_
  (repeat (first | apply Exists.intro (α := Int) | apply Exists.intro (α := Bool) | apply Exists.intro (α := ByteArray) | (apply Exists.intro (α := Option Addr); apply Exists.intro (α := Nat); apply Exists.intro (α := Nat)) | apply Exists.intro (α := Option Addr) | apply Exists.intro (α := Value)))
  refine ⟨rfl, ?_⟩
  refine ⟨_, fun _ h => h, h, ?_⟩
  refine packW_ok h h4.1 h4.2 fun w' h => ?_
  (repeat (first | apply Exists.intro (α := Int) | apply Exists.intro (α := Bool) | apply Exists.intro (α := ByteArray) | (apply Exists.intro (α := Option Addr); apply Exists.intro (α := Nat); apply Exists.intro (α := Nat)) | apply Exists.intro (α := Option Addr) | apply Exists.intro (α := Value)))
  refine ⟨rfl, ?_⟩
  refine ⟨_, fun _ h => h, h, ?_⟩
  refine packB_ok h h5.1 (by omega) fun w' h => ?_
  (repeat (first | apply Exists.intro (α := Int) | apply Exists.intro (α := Bool) | apply Exists.intro (α := ByteArray) | (apply Exists.intro (α := Option Addr); apply Exists.intro (α := Nat); apply Exists.intro (α := Nat)) | apply Exists.intro (α := Option Addr) | apply Exists.intro (α := Value)))
  refine ⟨rfl, ?_⟩
  refine h.lit (n := 5) 148 2 (([⟨2, s.src⟩, ⟨2, s.dst⟩, ⟨4, s.seq⟩, ⟨4, s.ack⟩, ⟨1, s.flags⟩] : List Fd).flatMap fd) fun q2 w' h => ?_
  refine pput_ok h (A := none) (bs := []) (C := 0) (fs := [⟨2, s.src⟩, ⟨2, s.dst⟩, ⟨4, s.seq⟩, ⟨4, s.ack⟩, ⟨1, s.flags⟩]) RdIn.nil (RdIn.own .head) (fun f hf => ?_) (by simp) (by simp) fun O k w' h => ⟨_, _, _, rfl, ?_⟩
  · simp only [List.mem_cons, List.not_mem_nil, or_false] at hf
    rcases hf with rfl | rfl | rfl | rfl | rfl <;> (unfold FdOk; simp only; omega)
  have e : ([] : List UInt8) ++ ([⟨2, s.src⟩, ⟨2, s.dst⟩, ⟨4, s.seq⟩, ⟨4, s.ack⟩, ⟨1, s.flags⟩] : List Fd).flatMap fdb = hdB s.pl := by simp [fdb, hdB, Sg.pl]
  rw [e] at h ⊢
  exact hk _ _ _ (h.sub (.cons .head (Sub.same _).more.more))
theorem senc_ok (h : St c w L) {s : Sg} (hs : SgIn L s) (ok : SgOk s.pl) {Q : Value → World → Prop}
    (hk : ∀ O k w', St c w' (own 5 1 O (encB s.pl).length k (bvs (encB s.pl)) :: L) → Q (.tuple #[.slice O (encB s.pl).length k, .int .i64 0]) w') : CALL PG 92 [sgv s] w Q := by
  have hd : s.ds.length ≤ 1024 := ok.data
  have hr : (obs (s.os.map opl)).length ≤ 200 := ok.room
  have hol := obs_two (s.os.map opl)
  rw [List.length_map] at hol
  refine call92 ?_
  unfold N92
  refine h.box fun q w' h => ?_
  refine h.rdG ?_
  (repeat (first | apply Exists.intro (α := Int) | apply Exists.intro (α := Bool) | apply Exists.intro (α := ByteArray) | (apply Exists.intro (α := Option Addr); apply Exists.intro (α := Nat); apply Exists.intro (α := Nat)) | apply Exists.intro (α := Option Addr) | apply Exists.intro (α := Value)))
  refine ⟨rfl, ?_⟩
  refine segright_ok h hs.more ok fun w' h => ?_
  (repeat (first | apply Exists.intro (α := Int) | apply Exists.intro (α := Bool) | apply Exists.intro (α := ByteArray) | (apply Exists.intro (α := Option Addr); apply Exists.intro (α := Nat); apply Exists.intro (α := Nat)) | apply Exists.intro (α := Option Addr) | apply Exists.intro (α := Value)))
  refine ⟨rfl, ?_⟩
  refine leti rfl (ifnsame rfl (h.rdL 5 ?_))
  have h := h.addOwnNil 5 1
  refine ⟨fun m O oN oC x w' => ∃ j : Nat, x = j ∧ m = s.os.length - j ∧ j ≤ s.os.length ∧ oN = (obs ((s.os.take j).map opl)).length ∧ St c w' (own 5 1 O oN oC (bvs (obs ((s.os.take j).map opl))) :: blk q 172 [.int .u16 s.src, .int .u16 s.dst, .int .u32 s.seq, .int .u32 s.ack, .int .u8 s.flags, .slice s.oA s.os.length s.oC, .slice s.dA s.ds.length s.dC] :: L), ⟨_, 0, rfl, rfl, by omega, rfl, h⟩, ?_⟩
  clear h
  rintro m O oN oC _ w' ⟨j, rfl, rfl, hj, rfl, h⟩
  have hle0 := obs_le (os := s.os) j
  refine ifd (fun hlt => ?_) fun hge => ?_
  · obtain ⟨o, hy⟩ := ex_get (L := s.os) (j := j) (by omega)
    have hm := List.mem_of_getElem? hy
    have ho := ok.opts (opl o) (List.mem_map_of_mem hm)
    have ho1 : 1 ≤ o.kind ∧ o.kind < 256 := ho.1
    have ho2 : o.bodys.length ≤ 255 := ho.2
    have hT := obs_take hy
    refine h.ix (z := 1) hs.opts.more.more hy (fun a ha => ?_) (by omega)
    have hr1 := hs.opts
    rw [ha] at hr1
    refine h.rdEG hr1.more.more hy ?_
    (repeat (first | apply Exists.intro (α := Int) | apply Exists.intro (α := Bool) | apply Exists.intro (α := ByteArray) | (apply Exists.intro (α := Option Addr); apply Exists.intro (α := Nat); apply Exists.intro (α := Nat)) | apply Exists.intro (α := Option Addr) | apply Exists.intro (α := Value)))
    refine ⟨rfl, ?_⟩
    refine h.allocZ fun p w' h => ?_
    refine h.stG fun w' h => ?_
    refine h.rdI 0 (h.rdL 1 ?_)
    rw [show IntKind.u8.wrap (o.bodys.length : Int) = (o.bodys.length : Int) by rw [wrapU8]; omega, bv_of (n := o.kind) (by omega) (by omega), bv_nat (n := o.bodys.length) (by omega)]
    refine h.lit (n := 2) 5 1 (bvs [byteOf o.kind, UInt8.ofNat o.bodys.length]) fun p2 w' h => ?_
    refine h.append huPk tiPkU8 (.tail (.tail .head)) (RdIn.own .head) (m := 2) rfl (Flat.bvs _) (by omega) fun O2 d2 w' h => ?_
    refine h.rdL (B := p) 1 ?_
    refine h.append huPk tiPkU8 .head (hs.opt hm).more.more.more.more (m := o.bodys.length) (by rw [bvs_length]; omega) (Flat.bvs _) (by omega) fun O3 d3 w' h => ?_
    refine ⟨_, by omega, j + 1, by rw [wrap_i64 (by omega) (by omega)]; omega, rfl, by omega, ?_, ?_⟩
    · rw [hT, List.length_append, obP_length]
      show _ = _ + (2 + o.bodys.length)
      omega
    · rw [hT, ← bvs_append]
      have e : bvs (obP (opl o)) = bvs [byteOf o.kind, UInt8.ofNat o.bodys.length] ++ bvs o.bodys := by rw [bvs_append]; rfl
      rw [e, ← List.append_assoc]
      exact h.sub (.cons .head (.cons (.tail (.tail .head)) (Sub.same _).more.more))
  have ej : s.os.take j = s.os := List.take_of_length_le (by omega)
  rw [ej] at h ⊢
  refine h.rdG (B := q) ?_
  (repeat (first | apply Exists.intro (α := Int) | apply Exists.intro (α := Bool) | apply Exists.intro (α := ByteArray) | (apply Exists.intro (α := Option Addr); apply Exists.intro (α := Nat); apply Exists.intro (α := Nat)) | apply Exists.intro (α := Option Addr) | apply Exists.intro (α := Value)))
  refine ⟨rfl, ?_⟩
  refine seghead_ok h ok fun O4 k4 w' h => ?_
  (repeat (first | apply Exists.intro (α := Int) | apply Exists.intro (α := Bool) | apply Exists.intro (α := ByteArray) | (apply Exists.intro (α := Option Addr); apply Exists.intro (α := Nat); apply Exists.intro (α := Nat)) | apply Exists.intro (α := Option Addr) | apply Exists.intro (α := Value)))
  refine ⟨rfl, ?_⟩
  rw [show IntKind.u8.wrap ((obs (s.os.map opl)).length : Int) = ((obs (s.os.map opl)).length : Int) by rw [wrapU8]; omega]
  refine packB_ok h (by omega) (by omega) fun w' h => ?_
  (repeat (first | apply Exists.intro (α := Int) | apply Exists.intro (α := Bool) | apply Exists.intro (α := ByteArray) | (apply Exists.intro (α := Option Addr); apply Exists.intro (α := Nat); apply Exists.intro (α := Nat)) | apply Exists.intro (α := Option Addr) | apply Exists.intro (α := Value)))
  refine ⟨rfl, ?_⟩
  refine h.lit (n := 1) 148 2 (([⟨1, ((obs (s.os.map opl)).length : Int)⟩] : List Fd).flatMap fd) fun q2 w' h => ?_
  refine pput_ok h (bs := hdB s.pl) (fs := [⟨1, ((obs (s.os.map opl)).length : Int)⟩]) (RdIn.own (.tail .head)) (RdIn.own .head) (fun f hf => ?_) (by rw [hdB_length]; decide) (by simp) fun O5 k5 w' h => ⟨_, _, _, rfl, ?_⟩
  · rw [List.mem_singleton] at hf
    subst hf
    unfold FdOk
    simp only
    omega
  have e1 : hdB s.pl ++ ([⟨1, ((obs (s.os.map opl)).length : Int)⟩] : List Fd).flatMap fdb = hdB s.pl ++ [UInt8.ofNat (obs (s.os.map opl)).length] := by
    have : byteOf (((obs (s.os.map opl)).length : Nat) : Int) = UInt8.ofNat (obs (s.os.map opl)).length := by
      apply UInt8.toNat_inj.1
      have e1 := byteOf_val (((obs (s.os.map opl)).length : Nat) : Int)
      rw [UInt8.toNat_ofNat']
      omega
    simp [fdb, beB, this]
  rw [e1] at h ⊢
  have hl13 := hdB_length s.pl
  have h := h.drew
  refine ⟨fun w => St c w (blk q 172 [.int .u16 s.src, .int .u16 s.dst, .int .u32 s.seq, .int .u32 s.ack, .int .u8 s.flags, .slice s.oA s.os.length s.oC, .slice s.dA s.ds.length s.dC] :: L), h.sub (.cons (.tail (.tail (.tail (.tail .head)))) (Sub.same _).more.more.more.more), ?_⟩
  refine St.rdsL 6 ?_
  refine h.append huPk tiPkU8 .head (RdIn.own (.tail (.tail (.tail .head)))) (m := (obs (s.os.map opl)).length) (by rw [bvs_length]; omega) (Flat.bvs _) (by simp only [List.length_append, List.length_singleton]; omega) fun O6 d6 w' h => ?_
  refine ⟨_, fun _ h => h, h.sub (.cons (.tail (.tail (.tail (.tail .head)))) (Sub.same _).more.more.more.more), ?_⟩
  refine h.append huPk tiPkU8 .head hs.data.more.more.more.more.more (m := s.ds.length) (by rw [bvs_length]; omega) (Flat.bvs _) (by simp only [List.length_append, List.length_singleton]; omega) fun O7 d7 w' h => ?_
  have e2 : (hdB s.pl ++ [UInt8.ofNat (obs (s.os.map opl)).length]).length + (obs (s.os.map opl)).length + s.ds.length = (encB s.pl).length := by
    unfold encB
    simp only [Sg.pl, List.length_append]
  rw [e2] at h ⊢
  refine hk _ _ _ ?_
  have e3 : bvs (encB s.pl) = bvs (hdB s.pl ++ [UInt8.ofNat (obs (s.os.map opl)).length]) ++ bvs (obs (s.os.map opl)) ++ bvs s.ds := by rw [bvs_append, bvs_append]; rfl
  rw [e3]
  exact h.sub (.cons .head (Sub.same _).more.more.more.more)
end
end Go.Br
