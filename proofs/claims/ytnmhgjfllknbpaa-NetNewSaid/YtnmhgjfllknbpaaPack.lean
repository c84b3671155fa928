/- Packing: fields, and numbers as bytes. -/
import Derived.Test.YtnmhgjfllknbpaaNPack
import Derived.Test.YtnmhgjfllknbpaaBrOwn
import Derived.Test.YtnmhgjfllknbpaaBrSeat
set_option linter.unusedVariables false
set_option linter.unusedSimpArgs false
set_option linter.unnecessarySimpa false
namespace Go.Br
open Go
instance biPacka : Zro PG 127 2 16 (.agg #[.int .i64 0, .int .u64 0]) := ⟨tiOf (by kernel_rfl)⟩
instance biPackb (x0 : Int) (x1 : Int) : Bld PG (Instr.build 127 #[(0, .int .i64 x0), (1, .int .u64 x1)]) (.agg #[.int .i64 x0, .int .u64 x1]) := ⟨fun w => by kernel_rfl⟩
attribute [local irreducible] Addr.add RD RDS RUN RUNU NILC LETB CALL CALLX CALLV

theorem tiPkU8 : TI PG 5 1 1 (.int .u8 0) := tiOf (by kernel_rfl)
theorem huPk : PG.underlying 80 = some (.slice 5) := by kernel_rfl
structure Fd where
  b : Int
  n : Int
def fd (x : Fd) : List Value := [.int .i64 x.b, .int .u64 x.n]
abbrev fdv (x : Fd) : Value := .agg #[.int .i64 x.b, .int .u64 x.n]
theorem fd_length (x : Fd) : (fd x).length = 2 := rfl
theorem fd_flat1 (x : Fd) : Flat (fd x) := by intro v hv; simp [fd] at hv; rcases hv with rfl | rfl <;> rfl
theorem fd_flat (L : List Fd) : Flat (L.flatMap fd) := by
  intro v hv
  simp only [List.mem_flatMap] at hv
  obtain ⟨x, _, hx⟩ := hv
  exact fd_flat1 x v hx
/-- A number's lowest bytes, the highest ahead. -/
def beB (n : Int) : Nat → List UInt8
  | 0 => []
  | k + 1 => beB (n / 256) k ++ [byteOf n]
theorem beB_length : ∀ (k : Nat) (n : Int), (beB n k).length = k
  | 0, _ => rfl
  | k + 1, n => by simp [beB, beB_length k]
def fdb (f : Fd) : List UInt8 := beB f.n f.b.toNat
def FdOk (f : Fd) : Prop := 1 ≤ f.b ∧ f.b ≤ 8 ∧ 0 ≤ f.n ∧ f.n < 18446744073709551616
theorem fdb_le {f : Fd} (h : FdOk f) : (fdb f).length ≤ 8 := by unfold fdb; rw [beB_length]; have := h.2.1; omega
theorem fdbs_le : ∀ {fs : List Fd}, (∀ f ∈ fs, FdOk f) → (fs.flatMap fdb).length ≤ 8 * fs.length
  | [], _ => by simp
  | f :: fs, h => by
    have h1 := fdb_le (h f (by simp))
    have h2 := fdbs_le (fs := fs) fun x hx => h x (by simp [hx])
    simp only [List.flatMap_cons, List.length_append, List.length_cons]; omega
section
variable {c : Ctx} {w : World} {L R : List SA}
theorem packB_ok (h : St c w L) {n : Int} (h0 : 0 ≤ n) (h1 : n < 256) {Q : Value → World → Prop} (hk : ∀ w', St c w' L → Q (.agg #[.int .i64 1, .int .u64 n]) w') : CALL PG 67 [.int .u8 n] w Q := by
  refine call67 ?_
  unfold N67
  rw [show IntKind.u64.wrap n = n by rw [wrapU64]; omega]
  repeat' (first
    | refine nilc ?_
    | refine h.rdI _ ?_
    | refine h.rdB _ ?_
    | refine h.rdP _ ?_
    | refine h.rdL _ ?_
    | refine h.rdT _ ?_
    | refine h.rdI2 _ _ ?_
    | refine h.rdB2 _ _ ?_
    | refine h.rdP2 _ _ ?_
    | refine h.rdL2 _ _ ?_
    | refine h.st2 _ _ fun w' h => ?_
    | refine h.st _ fun w' h => ?_
    | refine h.rdvI ?_
    | refine h.rdvB ?_
    | refine h.rdvP ?_
    | refine h.rdvL ?_
    | refine h.rdvT ?_
    | (refine h.rdG ?_; (repeat (first | apply Exists.intro (α := Int) | apply Exists.intro (α := Bool) | apply Exists.intro (α := ByteArray) | (apply Exists.intro (α := Option Addr); apply Exists.intro (α := Nat); apply Exists.intro (α := Nat)) | apply Exists.intro (α := Option Addr) | apply Exists.intro (α := Value))); refine ⟨rfl, ?_⟩)
    | refine h.stG fun w' h => ?_
    | refine h.stV fun w' h => ?_
    | refine h.box fun p w' h => ?_
    | refine h.boxV fun p w' h => ?_
    | refine h.allocZ fun p w' h => ?_
    | refine h.allocZV fun p w' h => ?_
    | (refine RD.bld ?_; (repeat (first | apply Exists.intro (α := Int) | apply Exists.intro (α := Bool) | apply Exists.intro (α := ByteArray) | (apply Exists.intro (α := Option Addr); apply Exists.intro (α := Nat); apply Exists.intro (α := Nat)) | apply Exists.intro (α := Option Addr) | apply Exists.intro (α := Value))); refine ⟨rfl, ?_⟩)
    | (refine RDS.bld ?_; (repeat (first | apply Exists.intro (α := Int) | apply Exists.intro (α := Bool) | apply Exists.intro (α := ByteArray) | (apply Exists.intro (α := Option Addr); apply Exists.intro (α := Nat); apply Exists.intro (α := Nat)) | apply Exists.intro (α := Option Addr) | apply Exists.intro (α := Value))); refine ⟨rfl, ?_⟩)
    | refine St.rdsI _ ?_
    | refine St.rdsB _ ?_
    | refine St.rdsP _ ?_
    | refine St.rdsL _ ?_
    | refine St.rdsT _ ?_
    | refine St.rdsI2 _ _ ?_
    | refine St.rdsB2 _ _ ?_
    | (refine St.rdsG ?_; (repeat (first | apply Exists.intro (α := Int) | apply Exists.intro (α := Bool) | apply Exists.intro (α := ByteArray) | (apply Exists.intro (α := Option Addr); apply Exists.intro (α := Nat); apply Exists.intro (α := Nat)) | apply Exists.intro (α := Option Addr) | apply Exists.intro (α := Value))); refine ⟨rfl, ?_⟩)
    | refine letb rfl ?_
    | refine sat h ?_
    | (have h := h.drew; refine sat h ?_)
    | refine sat1 h (fun _ h => h.to) ?_)
  exact hk _ h.drop
theorem packH_ok (h : St c w L) {n : Int} (h0 : 0 ≤ n) (h1 : n < 65536) {Q : Value → World → Prop} (hk : ∀ w', St c w' L → Q (.agg #[.int .i64 2, .int .u64 n]) w') : CALL PG 76 [.int .u16 n] w Q := by
  refine call76 ?_
  unfold N76
  rw [show IntKind.u64.wrap n = n by rw [wrapU64]; omega]
  repeat' (first
    | refine nilc ?_
    | refine h.rdI _ ?_
    | refine h.rdB _ ?_
    | refine h.rdP _ ?_
    | refine h.rdL _ ?_
    | refine h.rdT _ ?_
    | refine h.rdI2 _ _ ?_
    | refine h.rdB2 _ _ ?_
    | refine h.rdP2 _ _ ?_
    | refine h.rdL2 _ _ ?_
    | refine h.st2 _ _ fun w' h => ?_
    | refine h.st _ fun w' h => ?_
    | refine h.rdvI ?_
    | refine h.rdvB ?_
    | refine h.rdvP ?_
    | refine h.rdvL ?_
    | refine h.rdvT ?_
    | (refine h.rdG ?_; (repeat (first | apply Exists.intro (α := Int) | apply Exists.intro (α := Bool) | apply Exists.intro (α := ByteArray) | (apply Exists.intro (α := Option Addr); apply Exists.intro (α := Nat); apply Exists.intro (α := Nat)) | apply Exists.intro (α := Option Addr) | apply Exists.intro (α := Value))); refine ⟨rfl, ?_⟩)
    | refine h.stG fun w' h => ?_
    | refine h.stV fun w' h => ?_
    | refine h.box fun p w' h => ?_
    | refine h.boxV fun p w' h => ?_
    | refine h.allocZ fun p w' h => ?_
    | refine h.allocZV fun p w' h => ?_
    | (refine RD.bld ?_; (repeat (first | apply Exists.intro (α := Int) | apply Exists.intro (α := Bool) | apply Exists.intro (α := ByteArray) | (apply Exists.intro (α := Option Addr); apply Exists.intro (α := Nat); apply Exists.intro (α := Nat)) | apply Exists.intro (α := Option Addr) | apply Exists.intro (α := Value))); refine ⟨rfl, ?_⟩)
    | (refine RDS.bld ?_; (repeat (first | apply Exists.intro (α := Int) | apply Exists.intro (α := Bool) | apply Exists.intro (α := ByteArray) | (apply Exists.intro (α := Option Addr); apply Exists.intro (α := Nat); apply Exists.intro (α := Nat)) | apply Exists.intro (α := Option Addr) | apply Exists.intro (α := Value))); refine ⟨rfl, ?_⟩)
    | refine St.rdsI _ ?_
    | refine St.rdsB _ ?_
    | refine St.rdsP _ ?_
    | refine St.rdsL _ ?_
    | refine St.rdsT _ ?_
    | refine St.rdsI2 _ _ ?_
    | refine St.rdsB2 _ _ ?_
    | (refine St.rdsG ?_; (repeat (first | apply Exists.intro (α := Int) | apply Exists.intro (α := Bool) | apply Exists.intro (α := ByteArray) | (apply Exists.intro (α := Option Addr); apply Exists.intro (α := Nat); apply Exists.intro (α := Nat)) | apply Exists.intro (α := Option Addr) | apply Exists.intro (α := Value))); refine ⟨rfl, ?_⟩)
    | refine letb rfl ?_
    | refine sat h ?_
    | (have h := h.drew; refine sat h ?_)
    | refine sat1 h (fun _ h => h.to) ?_)
  exact hk _ h.drop
theorem packW_ok (h : St c w L) {n : Int} (h0 : 0 ≤ n) (h1 : n < 4294967296) {Q : Value → World → Prop} (hk : ∀ w', St c w' L → Q (.agg #[.int .i64 4, .int .u64 n]) w') : CALL PG 66 [.int .u32 n] w Q := by
  refine call66 ?_
  unfold N66
  rw [show IntKind.u64.wrap n = n by rw [wrapU64]; omega]
  repeat' (first
    | refine nilc ?_
    | refine h.rdI _ ?_
    | refine h.rdB _ ?_
    | refine h.rdP _ ?_
    | refine h.rdL _ ?_
    | refine h.rdT _ ?_
    | refine h.rdI2 _ _ ?_
    | refine h.rdB2 _ _ ?_
    | refine h.rdP2 _ _ ?_
    | refine h.rdL2 _ _ ?_
    | refine h.st2 _ _ fun w' h => ?_
    | refine h.st _ fun w' h => ?_
    | refine h.rdvI ?_
    | refine h.rdvB ?_
    | refine h.rdvP ?_
    | refine h.rdvL ?_
    | refine h.rdvT ?_
    | (refine h.rdG ?_; (repeat (first | apply Exists.intro (α := Int) | apply Exists.intro (α := Bool) | apply Exists.intro (α := ByteArray) | (apply Exists.intro (α := Option Addr); apply Exists.intro (α := Nat); apply Exists.intro (α := Nat)) | apply Exists.intro (α := Option Addr) | apply Exists.intro (α := Value))); refine ⟨rfl, ?_⟩)
    | refine h.stG fun w' h => ?_
    | refine h.stV fun w' h => ?_
    | refine h.box fun p w' h => ?_
    | refine h.boxV fun p w' h => ?_
    | refine h.allocZ fun p w' h => ?_
    | refine h.allocZV fun p w' h => ?_
    | (refine RD.bld ?_; (repeat (first | apply Exists.intro (α := Int) | apply Exists.intro (α := Bool) | apply Exists.intro (α := ByteArray) | (apply Exists.intro (α := Option Addr); apply Exists.intro (α := Nat); apply Exists.intro (α := Nat)) | apply Exists.intro (α := Option Addr) | apply Exists.intro (α := Value))); refine ⟨rfl, ?_⟩)
    | (refine RDS.bld ?_; (repeat (first | apply Exists.intro (α := Int) | apply Exists.intro (α := Bool) | apply Exists.intro (α := ByteArray) | (apply Exists.intro (α := Option Addr); apply Exists.intro (α := Nat); apply Exists.intro (α := Nat)) | apply Exists.intro (α := Option Addr) | apply Exists.intro (α := Value))); refine ⟨rfl, ?_⟩)
    | refine St.rdsI _ ?_
    | refine St.rdsB _ ?_
    | refine St.rdsP _ ?_
    | refine St.rdsL _ ?_
    | refine St.rdsT _ ?_
    | refine St.rdsI2 _ _ ?_
    | refine St.rdsB2 _ _ ?_
    | (refine St.rdsG ?_; (repeat (first | apply Exists.intro (α := Int) | apply Exists.intro (α := Bool) | apply Exists.intro (α := ByteArray) | (apply Exists.intro (α := Option Addr); apply Exists.intro (α := Nat); apply Exists.intro (α := Nat)) | apply Exists.intro (α := Option Addr) | apply Exists.intro (α := Value))); refine ⟨rfl, ?_⟩)
    | refine letb rfl ?_
    | refine sat h ?_
    | (have h := h.drew; refine sat h ?_)
    | refine sat1 h (fun _ h => h.to) ?_)
  exact hk _ h.drop
theorem packQ_ok (h : St c w L) {n : Int} {Q : Value → World → Prop} (hk : ∀ w', St c w' L → Q (.agg #[.int .i64 8, .int .u64 n]) w') : CALL PG 46 [.int .u64 n] w Q := by
  refine call46 ?_
  unfold N46
  repeat' (first
    | refine nilc ?_
    | refine h.rdI _ ?_
    | refine h.rdB _ ?_
    | refine h.rdP _ ?_
    | refine h.rdL _ ?_
    | refine h.rdT _ ?_
    | refine h.rdI2 _ _ ?_
    | refine h.rdB2 _ _ ?_
    | refine h.rdP2 _ _ ?_
    | refine h.rdL2 _ _ ?_
    | refine h.st2 _ _ fun w' h => ?_
    | refine h.st _ fun w' h => ?_
    | refine h.rdvI ?_
    | refine h.rdvB ?_
    | refine h.rdvP ?_
    | refine h.rdvL ?_
    | refine h.rdvT ?_
    | (refine h.rdG ?_; (repeat (first | apply Exists.intro (α := Int) | apply Exists.intro (α := Bool) | apply Exists.intro (α := ByteArray) | (apply Exists.intro (α := Option Addr); apply Exists.intro (α := Nat); apply Exists.intro (α := Nat)) | apply Exists.intro (α := Option Addr) | apply Exists.intro (α := Value))); refine ⟨rfl, ?_⟩)
    | refine h.stG fun w' h => ?_
    | refine h.stV fun w' h => ?_
    | refine h.box fun p w' h => ?_
    | refine h.boxV fun p w' h => ?_
    | refine h.allocZ fun p w' h => ?_
    | refine h.allocZV fun p w' h => ?_
    | (refine RD.bld ?_; (repeat (first | apply Exists.intro (α := Int) | apply Exists.intro (α := Bool) | apply Exists.intro (α := ByteArray) | (apply Exists.intro (α := Option Addr); apply Exists.intro (α := Nat); apply Exists.intro (α := Nat)) | apply Exists.intro (α := Option Addr) | apply Exists.intro (α := Value))); refine ⟨rfl, ?_⟩)
    | (refine RDS.bld ?_; (repeat (first | apply Exists.intro (α := Int) | apply Exists.intro (α := Bool) | apply Exists.intro (α := ByteArray) | (apply Exists.intro (α := Option Addr); apply Exists.intro (α := Nat); apply Exists.intro (α := Nat)) | apply Exists.intro (α := Option Addr) | apply Exists.intro (α := Value))); refine ⟨rfl, ?_⟩)
    | refine St.rdsI _ ?_
    | refine St.rdsB _ ?_
    | refine St.rdsP _ ?_
    | refine St.rdsL _ ?_
    | refine St.rdsT _ ?_
    | refine St.rdsI2 _ _ ?_
    | refine St.rdsB2 _ _ ?_
    | (refine St.rdsG ?_; (repeat (first | apply Exists.intro (α := Int) | apply Exists.intro (α := Bool) | apply Exists.intro (α := ByteArray) | (apply Exists.intro (α := Option Addr); apply Exists.intro (α := Nat); apply Exists.intro (α := Nat)) | apply Exists.intro (α := Option Addr) | apply Exists.intro (α := Value))); refine ⟨rfl, ?_⟩)
    | refine letb rfl ?_
    | refine sat h ?_
    | (have h := h.drew; refine sat h ?_)
    | refine sat1 h (fun _ h => h.to) ?_)
  exact hk _ h.drop
def bI (b : Bool) : Int := if b then 1 else 0
theorem packFlag_ok (h : St c w L) {b : Bool} {Q : Value → World → Prop} (hk : ∀ w', St c w' L → Q (.agg #[.int .i64 1, .int .u64 (bI b)]) w') : CALL PG 68 [.bool b] w Q := by
  refine call68 ?_
  unfold N68
  repeat' (first
    | refine nilc ?_
    | refine h.rdI _ ?_
    | refine h.rdB _ ?_
    | refine h.rdP _ ?_
    | refine h.rdL _ ?_
    | refine h.rdT _ ?_
    | refine h.rdI2 _ _ ?_
    | refine h.rdB2 _ _ ?_
    | refine h.rdP2 _ _ ?_
    | refine h.rdL2 _ _ ?_
    | refine h.st2 _ _ fun w' h => ?_
    | refine h.st _ fun w' h => ?_
    | refine h.rdvI ?_
    | refine h.rdvB ?_
    | refine h.rdvP ?_
    | refine h.rdvL ?_
    | refine h.rdvT ?_
    | (refine h.rdG ?_; (repeat (first | apply Exists.intro (α := Int) | apply Exists.intro (α := Bool) | apply Exists.intro (α := ByteArray) | (apply Exists.intro (α := Option Addr); apply Exists.intro (α := Nat); apply Exists.intro (α := Nat)) | apply Exists.intro (α := Option Addr) | apply Exists.intro (α := Value))); refine ⟨rfl, ?_⟩)
    | refine h.stG fun w' h => ?_
    | refine h.stV fun w' h => ?_
    | refine h.box fun p w' h => ?_
    | refine h.boxV fun p w' h => ?_
    | refine h.allocZ fun p w' h => ?_
    | refine h.allocZV fun p w' h => ?_
    | (refine RD.bld ?_; (repeat (first | apply Exists.intro (α := Int) | apply Exists.intro (α := Bool) | apply Exists.intro (α := ByteArray) | (apply Exists.intro (α := Option Addr); apply Exists.intro (α := Nat); apply Exists.intro (α := Nat)) | apply Exists.intro (α := Option Addr) | apply Exists.intro (α := Value))); refine ⟨rfl, ?_⟩)
    | (refine RDS.bld ?_; (repeat (first | apply Exists.intro (α := Int) | apply Exists.intro (α := Bool) | apply Exists.intro (α := ByteArray) | (apply Exists.intro (α := Option Addr); apply Exists.intro (α := Nat); apply Exists.intro (α := Nat)) | apply Exists.intro (α := Option Addr) | apply Exists.intro (α := Value))); refine ⟨rfl, ?_⟩)
    | refine St.rdsI _ ?_
    | refine St.rdsB _ ?_
    | refine St.rdsP _ ?_
    | refine St.rdsL _ ?_
    | refine St.rdsT _ ?_
    | refine St.rdsI2 _ _ ?_
    | refine St.rdsB2 _ _ ?_
    | (refine St.rdsG ?_; (repeat (first | apply Exists.intro (α := Int) | apply Exists.intro (α := Bool) | apply Exists.intro (α := ByteArray) | (apply Exists.intro (α := Option Addr); apply Exists.intro (α := Nat); apply Exists.intro (α := Nat)) | apply Exists.intro (α := Option Addr) | apply Exists.intro (α := Value))); refine ⟨rfl, ?_⟩)
    | refine letb rfl ?_
    | refine sat h ?_
    | (have h := h.drew; refine sat h ?_)
    | refine sat1 h (fun _ h => h.to) ?_)
  refine ifb (fun hb => ?_) fun hb => ?_
  · subst hb
    refine packB_ok h (by decide) (by decide) fun w' h => ?_
    (repeat (first | apply Exists.intro (α := Int) | apply Exists.intro (α := Bool) | apply Exists.intro (α := ByteArray) | (apply Exists.intro (α := Option Addr); apply Exists.intro (α := Nat); apply Exists.intro (α := Nat)) | apply Exists.intro (α := Option Addr) | apply Exists.intro (α := Value)))
    refine ⟨rfl, ?_⟩
    repeat' (first
      | refine nilc ?_
      | refine h.rdI _ ?_
      | refine h.rdB _ ?_
      | refine h.rdP _ ?_
      | refine h.rdL _ ?_
      | refine h.rdT _ ?_
      | refine h.rdI2 _ _ ?_
      | refine h.rdB2 _ _ ?_
      | refine h.rdP2 _ _ ?_
      | refine h.rdL2 _ _ ?_
      | refine h.st2 _ _ fun w' h => ?_
      | refine h.st _ fun w' h => ?_
      | refine h.rdvI ?_
      | refine h.rdvB ?_
      | refine h.rdvP ?_
      | refine h.rdvL ?_
      | refine h.rdvT ?_
      | (refine h.rdG ?_; (repeat (first | apply Exists.intro (α := Int) | apply Exists.intro (α := Bool) | apply Exists.intro (α := ByteArray) | (apply Exists.intro (α := Option Addr); apply Exists.intro (α := Nat); apply Exists.intro (α := Nat)) | apply Exists.intro (α := Option Addr) | apply Exists.intro (α := Value))); refine ⟨rfl, ?_⟩)
      | refine h.stG fun w' h => ?_
      | refine h.stV fun w' h => ?_
      | refine h.box fun p w' h => ?_
      | refine h.boxV fun p w' h => ?_
      | refine h.allocZ fun p w' h => ?_
      | refine h.allocZV fun p w' h => ?_
      | (refine RD.bld ?_; (repeat (first | apply Exists.intro (α := Int) | apply Exists.intro (α := Bool) | apply Exists.intro (α := ByteArray) | (apply Exists.intro (α := Option Addr); apply Exists.intro (α := Nat); apply Exists.intro (α := Nat)) | apply Exists.intro (α := Option Addr) | apply Exists.intro (α := Value))); refine ⟨rfl, ?_⟩)
      | (refine RDS.bld ?_; (repeat (first | apply Exists.intro (α := Int) | apply Exists.intro (α := Bool) | apply Exists.intro (α := ByteArray) | (apply Exists.intro (α := Option Addr); apply Exists.intro (α := Nat); apply Exists.intro (α := Nat)) | apply Exists.intro (α := Option Addr) | apply Exists.intro (α := Value))); refine ⟨rfl, ?_⟩)
      | refine St.rdsI _ ?_
      | refine St.rdsB _ ?_
      | refine St.rdsP _ ?_
      | refine St.rdsL _ ?_
      | refine St.rdsT _ ?_
      | refine St.rdsI2 _ _ ?_
      | refine St.rdsB2 _ _ ?_
      | (refine St.rdsG ?_; (repeat (first | apply Exists.intro (α := Int) | apply Exists.intro (α := Bool) | apply Exists.intro (α := ByteArray) | (apply Exists.intro (α := Option Addr); apply Exists.intro (α := Nat); apply Exists.intro (α := Nat)) | apply Exists.intro (α := Option Addr) | apply Exists.intro (α := Value))); refine ⟨rfl, ?_⟩)
      | refine letb rfl ?_
      | refine sat h ?_
      | (have h := h.drew; refine sat h ?_)
      | refine sat1 h (fun _ h => h.to) ?_)
    exact hk _ h.drop
  · subst hb
    refine packB_ok h (by decide) (by decide) fun w' h => ?_
    (repeat (first | apply Exists.intro (α := Int) | apply Exists.intro (α := Bool) | apply Exists.intro (α := ByteArray) | (apply Exists.intro (α := Option Addr); apply Exists.intro (α := Nat); apply Exists.intro (α := Nat)) | apply Exists.intro (α := Option Addr) | apply Exists.intro (α := Value)))
    refine ⟨rfl, ?_⟩
    repeat' (first
      | refine nilc ?_
      | refine h.rdI _ ?_
      | refine h.rdB _ ?_
      | refine h.rdP _ ?_
      | refine h.rdL _ ?_
      | refine h.rdT _ ?_
      | refine h.rdI2 _ _ ?_
      | refine h.rdB2 _ _ ?_
      | refine h.rdP2 _ _ ?_
      | refine h.rdL2 _ _ ?_
      | refine h.st2 _ _ fun w' h => ?_
      | refine h.st _ fun w' h => ?_
      | refine h.rdvI ?_
      | refine h.rdvB ?_
      | refine h.rdvP ?_
      | refine h.rdvL ?_
      | refine h.rdvT ?_
      | (refine h.rdG ?_; (repeat (first | apply Exists.intro (α := Int) | apply Exists.intro (α := Bool) | apply Exists.intro (α := ByteArray) | (apply Exists.intro (α := Option Addr); apply Exists.intro (α := Nat); apply Exists.intro (α := Nat)) | apply Exists.intro (α := Option Addr) | apply Exists.intro (α := Value))); refine ⟨rfl, ?_⟩)
      | refine h.stG fun w' h => ?_
      | refine h.stV fun w' h => ?_
      | refine h.box fun p w' h => ?_
      | refine h.boxV fun p w' h => ?_
      | refine h.allocZ fun p w' h => ?_
      | refine h.allocZV fun p w' h => ?_
      | (refine RD.bld ?_; (repeat (first | apply Exists.intro (α := Int) | apply Exists.intro (α := Bool) | apply Exists.intro (α := ByteArray) | (apply Exists.intro (α := Option Addr); apply Exists.intro (α := Nat); apply Exists.intro (α := Nat)) | apply Exists.intro (α := Option Addr) | apply Exists.intro (α := Value))); refine ⟨rfl, ?_⟩)
      | (refine RDS.bld ?_; (repeat (first | apply Exists.intro (α := Int) | apply Exists.intro (α := Bool) | apply Exists.intro (α := ByteArray) | (apply Exists.intro (α := Option Addr); apply Exists.intro (α := Nat); apply Exists.intro (α := Nat)) | apply Exists.intro (α := Option Addr) | apply Exists.intro (α := Value))); refine ⟨rfl, ?_⟩)
      | refine St.rdsI _ ?_
      | refine St.rdsB _ ?_
      | refine St.rdsP _ ?_
      | refine St.rdsL _ ?_
      | refine St.rdsT _ ?_
      | refine St.rdsI2 _ _ ?_
      | refine St.rdsB2 _ _ ?_
      | (refine St.rdsG ?_; (repeat (first | apply Exists.intro (α := Int) | apply Exists.intro (α := Bool) | apply Exists.intro (α := ByteArray) | (apply Exists.intro (α := Option Addr); apply Exists.intro (α := Nat); apply Exists.intro (α := Nat)) | apply Exists.intro (α := Option Addr) | apply Exists.intro (α := Value))); refine ⟨rfl, ?_⟩)
      | refine letb rfl ?_
      | refine sat h ?_
      | (have h := h.drew; refine sat h ?_)
      | refine sat1 h (fun _ h => h.to) ?_)
    exact hk _ h.drop
/-- The byte that is laid. -/
theorem laid {n : Int} {q : Nat} (hq : q < 8) : IntKind.u8.wrap (shrN .u64 n (IntKind.i64.wrap ((8 : Int) * (q : Int)))) = ((byteOf (n / 256 ^ q)).toNat : Int) := by
  rw [wrap_i64 (by omega) (by omega), show (8 : Int) * (q : Int) = ((8 * q : Nat) : Int) by omega, shrU64 (by omega), wrapU8, byteOf_val, Int.pow_mul]
  rfl
theorem pput_ok (h : St c w L) {A F : Option Addr} {C K : Nat} {bs : List UInt8} {fs : List Fd} (hb : RdIn L A (bvs bs)) (hf : RdIn L F (fs.flatMap fd)) (hfs : ∀ f ∈ fs, FdOk f) (hbl : bs.length ≤ 10000) (hfl : fs.length ≤ 100) {Q : Value → World → Prop}
    (hk : ∀ O k w', St c w' (own 5 1 O (bs ++ fs.flatMap fdb).length k (bvs (bs ++ fs.flatMap fdb)) :: L) → Q (.slice O (bs ++ fs.flatMap fdb).length k) w') : CALL PG 45 [.slice A bs.length C, .slice F fs.length K] w Q := by
  refine call45 ?_
  unfold N45
  refine (h.addOwnNil 5 1).append huPk tiPkU8 .head hb.more (m := bs.length) (by simp [bvs]) (Flat.bvs bs) (by omega) fun O k w' h => ?_
  simp only [Nat.zero_add, List.nil_append] at h ⊢
  refine ⟨fun m O n k i w' => ∃ j : Nat, j + m = fs.length ∧ i = (j : Int) ∧ (bs ++ (fs.take j).flatMap fdb).length = n ∧ St c w' (own 5 1 O n k (bvs (bs ++ (fs.take j).flatMap fdb)) :: L), ⟨fs.length, 0, by omega, rfl, by simp, by simpa using h⟩, ?_⟩
  clear h
  rintro m O _ k _ w' ⟨j, hj, rfl, rfl, h⟩
  have hlen := fdbs_le (fs := fs.take j) fun f hf => hfs f (List.mem_of_mem_take hf)
  rw [List.length_take] at hlen
  refine ifd (fun hlt => ?_) fun hge => ?_
  · obtain ⟨x, hx⟩ := ex_get (L := fs) (j := j) (by omega)
    obtain ⟨x1, x2, x3, x4⟩ := hfs x (List.mem_of_getElem? hx)
    refine h.ix (z := 1) hf.more hx fun a ha => ?_
    subst ha
    refine h.rdEG hf.more hx ⟨_, _, rfl, ?_⟩
    refine h.allocZ fun q w' h => ?_
    refine h.stG fun w' h => ?_
    refine h.rdI 0 ?_
    refine ifdf (by omega) ?_
    refine h.rdI 0 ?_
    refine ifdf (by omega) ?_
    refine h.rdI 0 ?_
    refine letw ?_
    refine ⟨fun m2 O n k i w' => ∃ t : Nat, t = m2 ∧ i = (t : Int) - 1 ∧ t ≤ x.b.toNat ∧ (bs ++ (fs.take j).flatMap fdb ++ beB (x.n / 256 ^ t) (x.b.toNat - t)).length = n ∧
      St c w' (own 5 1 O n k (bvs (bs ++ (fs.take j).flatMap fdb ++ beB (x.n / 256 ^ t) (x.b.toNat - t))) :: blk q 127 [.int .i64 x.b, .int .u64 x.n] :: L),
      ⟨x.b.toNat, x.b.toNat, rfl, by omega, by omega, by simp [beB], by simpa [beB] using h.swap⟩, ?_⟩
    clear h
    rintro m2 O _ k _ w' ⟨t, rfl, rfl, ht, rfl, h⟩
    have hl2 := beB_length (x.b.toNat - t) (x.n / 256 ^ t)
    refine ifd (fun hlt2 => ?_) fun hge2 => ?_
    · refine h.rdI 1 ?_
      have ht1 : ((t : Int) - 1) = ((t - 1 : Nat) : Int) := by omega
      rw [ht1]
      refine ⟨by rw [wrap_i64 (by omega) (by omega)]; omega, ?_⟩
      rw [laid (by omega)]
      refine h.app1 huPk tiPkU8 (bvs [byteOf (x.n / 256 ^ (t - 1))]) .head (Flat.bvs _) (by simp only [List.length_append, hl2]; omega) fun O' k' w' h => ?_
      refine letw ?_
      have e : beB (x.n / 256 ^ t) (x.b.toNat - t) ++ [byteOf (x.n / 256 ^ (t - 1))] = beB (x.n / 256 ^ (t - 1)) (x.b.toNat - (t - 1)) := by
        obtain ⟨s, rfl⟩ : ∃ s, t = s + 1 := ⟨t - 1, by omega⟩
        rw [show x.b.toNat - (s + 1 - 1) = (x.b.toNat - (s + 1)) + 1 by omega, Nat.add_sub_cancel, beB, Int.ediv_ediv_of_nonneg (by exact Int.le_of_lt (Int.pow_pos (by decide))), Int.pow_succ]
      refine ⟨t - 1, by omega, t - 1, rfl, rfl, by omega, ?_, ?_⟩
      · rw [← e]; simp only [List.length_append, List.length_singleton]; omega
      · rw [← e, ← List.append_assoc, ← bvs_append]
        exact h
    · have ht0 : t = 0 := by omega
      subst ht0
      have e : bs ++ List.flatMap fdb (List.take j fs) ++ beB (x.n / 256 ^ 0) (x.b.toNat - 0) = bs ++ (fs.take (j + 1)).flatMap fdb := by
        rw [take_snoc' hx, List.flatMap_append, List.append_assoc]
        simp [fdb]
      rw [e] at h ⊢
      exact ⟨m - 1, by omega, j + 1, by omega, wrap_i64 (by omega) (by omega), rfl, h.swap.drop⟩
  · have hjl : j = fs.length := by omega
    subst hjl
    rw [List.take_length] at h ⊢
    exact hk O k w' h
end
end Go.Br
