/- The document's inlet: its functions end, and keep their lengths. -/
import Derived.Test.YtccmlfekmmeloaaNInletRef
import Derived.Test.YtccmlfekmmeloaaJoinRef
set_option linter.unusedVariables false
set_option linter.unusedSimpArgs false
set_option linter.unnecessarySimpa false
namespace Go.Br
open Go
instance biInletRefa (x0 : Option Addr) (n0 c0 : Nat) (x1 : Option Addr) (n1 c1 : Nat) (x2 : Int) : Bld PG (Instr.build 78 #[(1, .slice x0 n0 c0), (2, .slice x1 n1 c1), (3, .int .i64 x2)]) (.agg #[.int .u64 0, .slice x0 n0 c0, .slice x1 n1 c1, .int .i64 x2, .int .u64 0, .bool false]) := ⟨fun w => by kernel_rfl⟩
instance biInletRefb : Zro PG 78 6 80 (.agg #[.int .u64 0, .slice none 0 0, .slice none 0 0, .int .i64 0, .int .u64 0, .bool false]) := ⟨tiOf (by kernel_rfl)⟩
instance biInletRefc (x0 : Int) (x1 : Int) : Bld PG (Instr.build 266 #[(0, .int .u64 x0), (1, .int .u64 x1)]) (.agg #[.int .u64 x0, .int .u64 x1]) := ⟨fun w => by kernel_rfl⟩
attribute [local irreducible] Addr.add RD RDS RUN RUNU NILC LETB CALL CALLX CALLV

theorem tiBool : TI PG 4 1 1 (.bool false) := tiOf (by kernel_rfl)
theorem tiU8 : TI PG 5 1 1 (.int .u8 0) := tiOf (by kernel_rfl)
theorem huBools : PG.underlying 76 = some (.slice 4) := by kernel_rfl
theorem huBytes : PG.underlying 58 = some (.slice 5) := by kernel_rfl
theorem htInt : PG.underlying 3 = some (.int .i64) := by kernel_rfl
def bc (b : Bool) : List Value := [.bool b]
def uc (b : UInt8) : List Value := [.int .u8 (b.toNat : Int)]
theorem bc_length (b : Bool) : (bc b).length = 1 := rfl
theorem uc_length (b : UInt8) : (uc b).length = 1 := rfl
theorem bc_flat1 (x : Bool) : Flat (bc x) := by intro v hv; simp [bc] at hv; rw [hv]; rfl
theorem uc_flat1 (x : UInt8) : Flat (uc x) := by intro v hv; simp [uc] at hv; rw [hv]; rfl
theorem bc_flat (L : List Bool) : Flat (L.flatMap bc) := by
  intro v hv
  simp only [List.mem_flatMap] at hv
  obtain ⟨x, _, hx⟩ := hv
  exact bc_flat1 x v hx
theorem uc_flat (L : List UInt8) : Flat (L.flatMap uc) := by
  intro v hv
  simp only [List.mem_flatMap] at hv
  obtain ⟨x, _, hx⟩ := hv
  exact uc_flat1 x v hx
theorem bvs_uc (L : List UInt8) : bvs L = L.flatMap uc := bvs_flat L
theorem flat_rep {α : Type} (g : α → List Value) (x : α) (v : Value) (hx : g x = [v]) : ∀ n : Nat, List.replicate n v = (List.replicate n x).flatMap g
  | 0 => rfl
  | n + 1 => by rw [List.replicate_succ, List.replicate_succ, List.flatMap_cons, hx, ← flat_rep g x v hx n]; rfl
theorem zeros_bool (n : Nat) : zeros (Value.bool false).cells.toList n = (List.replicate n false).flatMap bc := by
  have e : (Value.bool false).cells.toList = [.bool false] := rfl
  rw [e, zeros_one]
  exact flat_rep bc false _ rfl n
theorem zeros_uc (n : Nat) : zeros (Value.int .u8 0).cells.toList n = (List.replicate n (0 : UInt8)).flatMap uc := by
  have e : (Value.int .u8 0).cells.toList = [.int .u8 0] := rfl
  rw [e, zeros_one]
  exact flat_rep uc 0 _ rfl n
/-- The document's inlet, as a struct. -/
abbrev rxl (base : Int) (O1 : Option Addr) (d1 : Nat) (O2 : Option Addr) (d2 sz : Nat) (e : Int) (kn : Bool) : List Value := [.int .u64 base, .slice O1 sz d1, .slice O2 sz d2, .int .i64 4, .int .u64 e, .bool kn]
abbrev rxv (base : Int) (O1 : Option Addr) (d1 : Nat) (O2 : Option Addr) (d2 sz : Nat) (e : Int) (kn : Bool) : Value := .agg #[.int .u64 base, .slice O1 sz d1, .slice O2 sz d2, .int .i64 4, .int .u64 e, .bool kn]
section
variable {c : Ctx} {w : World} {L R : List SA} {base e : Int} {O1 O2 : Option Addr} {d1 d2 sz : Nat} {kn : Bool} {hv : List Bool}
theorem rnext_ok (h : St c w L) (hr : RdIn L O1 (hv.flatMap bc)) (hl : hv.length = sz) (h0 : 0 ≤ base) (h1 : base + sz < 9223372036854775808) {Q : Value → World → Prop} (hk : ∀ (k : Nat) w', k ≤ sz → St c w' L → Q (.int .u64 (base + k)) w') :
    CALL PG 125 [rxv base O1 d1 O2 d2 sz e kn] w Q := by
  refine call125 ?_
  unfold N125
  refine h.box fun p w' h => ?_
  refine ⟨fun m i w' => ∃ j : Nat, j + m = sz ∧ i = (j : Int) ∧ St c w' (Br.blk p 78 (rxl base O1 d1 O2 d2 sz e kn) :: L), ⟨sz, 0, by omega, rfl, h⟩, ?_⟩
  clear h
  rintro m _ w' ⟨j, hj, rfl, h⟩
  repeat' (first
    | refine nilc ?_
    | refine h.rdI _ ?_
    | refine h.rdB _ ?_
    | refine h.rdP _ ?_
    | refine h.rdL _ ?_
    | refine h.rdT _ ?_
    | refine h.rdI2 _ _ ?_
    | refine h.rdB2 _ _ ?_
    | refine h.rdP2 _ _ ?_
    | refine h.rdL2 _ _ ?_
    | refine h.st2 _ _ fun w' h => ?_
    | refine h.st _ fun w' h => ?_
    | refine h.rdvI ?_
    | refine h.rdvB ?_
    | refine h.rdvP ?_
    | refine h.rdvL ?_
    | refine h.rdvT ?_
    | (refine h.rdG ?_; (repeat (first | apply Exists.intro (α := Int) | apply Exists.intro (α := Bool) | apply Exists.intro (α := ByteArray) | (apply Exists.intro (α := Option Addr); apply Exists.intro (α := Nat); apply Exists.intro (α := Nat)) | apply Exists.intro (α := Option Addr) | apply Exists.intro (α := Value))); refine ⟨rfl, ?_⟩)
    | refine h.stG fun w' h => ?_
    | refine h.stV fun w' h => ?_
    | refine h.box fun p w' h => ?_
    | refine h.boxV fun p w' h => ?_
    | refine h.allocZ fun p w' h => ?_
    | refine h.allocZV fun p w' h => ?_
    | (refine RD.bld ?_; (repeat (first | apply Exists.intro (α := Int) | apply Exists.intro (α := Bool) | apply Exists.intro (α := ByteArray) | (apply Exists.intro (α := Option Addr); apply Exists.intro (α := Nat); apply Exists.intro (α := Nat)) | apply Exists.intro (α := Option Addr) | apply Exists.intro (α := Value))); refine ⟨rfl, ?_⟩)
    | (refine RDS.bld ?_; (repeat (first | apply Exists.intro (α := Int) | apply Exists.intro (α := Bool) | apply Exists.intro (α := ByteArray) | (apply Exists.intro (α := Option Addr); apply Exists.intro (α := Nat); apply Exists.intro (α := Nat)) | apply Exists.intro (α := Option Addr) | apply Exists.intro (α := Value))); refine ⟨rfl, ?_⟩)
    | refine St.rdsI _ ?_
    | refine St.rdsB _ ?_
    | refine St.rdsP _ ?_
    | refine St.rdsL _ ?_
    | refine St.rdsT _ ?_
    | refine St.rdsI2 _ _ ?_
    | refine St.rdsB2 _ _ ?_
    | (refine St.rdsG ?_; (repeat (first | apply Exists.intro (α := Int) | apply Exists.intro (α := Bool) | apply Exists.intro (α := ByteArray) | (apply Exists.intro (α := Option Addr); apply Exists.intro (α := Nat); apply Exists.intro (α := Nat)) | apply Exists.intro (α := Option Addr) | apply Exists.intro (α := Value))); refine ⟨rfl, ?_⟩)
    | refine letb rfl ?_
    | refine sat h ?_
    | (have h := h.drew; refine sat h ?_)
    | refine sat1 h (fun _ h => h.to) ?_)
  refine ifd (fun hlt => ?_) fun hge => ?_
  · obtain ⟨x, hx⟩ := ex_get (L := hv) (j := j) (by omega)
    repeat' (first
      | refine nilc ?_
      | refine h.rdI _ ?_
      | refine h.rdB _ ?_
      | refine h.rdP _ ?_
      | refine h.rdL _ ?_
      | refine h.rdT _ ?_
      | refine h.rdI2 _ _ ?_
      | refine h.rdB2 _ _ ?_
      | refine h.rdP2 _ _ ?_
      | refine h.rdL2 _ _ ?_
      | refine h.st2 _ _ fun w' h => ?_
      | refine h.st _ fun w' h => ?_
      | refine h.rdvI ?_
      | refine h.rdvB ?_
      | refine h.rdvP ?_
      | refine h.rdvL ?_
      | refine h.rdvT ?_
      | (refine h.rdG ?_; (repeat (first | apply Exists.intro (α := Int) | apply Exists.intro (α := Bool) | apply Exists.intro (α := ByteArray) | (apply Exists.intro (α := Option Addr); apply Exists.intro (α := Nat); apply Exists.intro (α := Nat)) | apply Exists.intro (α := Option Addr) | apply Exists.intro (α := Value))); refine ⟨rfl, ?_⟩)
      | refine h.stG fun w' h => ?_
      | refine h.stV fun w' h => ?_
      | refine h.box fun p w' h => ?_
      | refine h.boxV fun p w' h => ?_
      | refine h.allocZ fun p w' h => ?_
      | refine h.allocZV fun p w' h => ?_
      | (refine RD.bld ?_; (repeat (first | apply Exists.intro (α := Int) | apply Exists.intro (α := Bool) | apply Exists.intro (α := ByteArray) | (apply Exists.intro (α := Option Addr); apply Exists.intro (α := Nat); apply Exists.intro (α := Nat)) | apply Exists.intro (α := Option Addr) | apply Exists.intro (α := Value))); refine ⟨rfl, ?_⟩)
      | (refine RDS.bld ?_; (repeat (first | apply Exists.intro (α := Int) | apply Exists.intro (α := Bool) | apply Exists.intro (α := ByteArray) | (apply Exists.intro (α := Option Addr); apply Exists.intro (α := Nat); apply Exists.intro (α := Nat)) | apply Exists.intro (α := Option Addr) | apply Exists.intro (α := Value))); refine ⟨rfl, ?_⟩)
      | refine St.rdsI _ ?_
      | refine St.rdsB _ ?_
      | refine St.rdsP _ ?_
      | refine St.rdsL _ ?_
      | refine St.rdsT _ ?_
      | refine St.rdsI2 _ _ ?_
      | refine St.rdsB2 _ _ ?_
      | (refine St.rdsG ?_; (repeat (first | apply Exists.intro (α := Int) | apply Exists.intro (α := Bool) | apply Exists.intro (α := ByteArray) | (apply Exists.intro (α := Option Addr); apply Exists.intro (α := Nat); apply Exists.intro (α := Nat)) | apply Exists.intro (α := Option Addr) | apply Exists.intro (α := Value))); refine ⟨rfl, ?_⟩)
      | refine letb rfl ?_
      | refine sat h ?_
      | (have h := h.drew; refine sat h ?_)
      | refine sat1 h (fun _ h => h.to) ?_)
    refine h.ix (z := 0) hr.more hx (fun b hb => ?_) (by omega)
    have hr1 := hr
    rw [hb] at hr1
    refine h.rdWB hr1.more hx ?_
    refine ifb (fun _ => leti (wrap_i64 (n := (j : Int) + 1) (by omega) (by omega)) ⟨m - 1, by omega, j + 1, by omega, by omega, h⟩) fun _ => ?_
    repeat' (first
      | refine nilc ?_
      | refine h.rdI _ ?_
      | refine h.rdB _ ?_
      | refine h.rdP _ ?_
      | refine h.rdL _ ?_
      | refine h.rdT _ ?_
      | refine h.rdI2 _ _ ?_
      | refine h.rdB2 _ _ ?_
      | refine h.rdP2 _ _ ?_
      | refine h.rdL2 _ _ ?_
      | refine h.st2 _ _ fun w' h => ?_
      | refine h.st _ fun w' h => ?_
      | refine h.rdvI ?_
      | refine h.rdvB ?_
      | refine h.rdvP ?_
      | refine h.rdvL ?_
      | refine h.rdvT ?_
      | (refine h.rdG ?_; (repeat (first | apply Exists.intro (α := Int) | apply Exists.intro (α := Bool) | apply Exists.intro (α := ByteArray) | (apply Exists.intro (α := Option Addr); apply Exists.intro (α := Nat); apply Exists.intro (α := Nat)) | apply Exists.intro (α := Option Addr) | apply Exists.intro (α := Value))); refine ⟨rfl, ?_⟩)
      | refine h.stG fun w' h => ?_
      | refine h.stV fun w' h => ?_
      | refine h.box fun p w' h => ?_
      | refine h.boxV fun p w' h => ?_
      | refine h.allocZ fun p w' h => ?_
      | refine h.allocZV fun p w' h => ?_
      | (refine RD.bld ?_; (repeat (first | apply Exists.intro (α := Int) | apply Exists.intro (α := Bool) | apply Exists.intro (α := ByteArray) | (apply Exists.intro (α := Option Addr); apply Exists.intro (α := Nat); apply Exists.intro (α := Nat)) | apply Exists.intro (α := Option Addr) | apply Exists.intro (α := Value))); refine ⟨rfl, ?_⟩)
      | (refine RDS.bld ?_; (repeat (first | apply Exists.intro (α := Int) | apply Exists.intro (α := Bool) | apply Exists.intro (α := ByteArray) | (apply Exists.intro (α := Option Addr); apply Exists.intro (α := Nat); apply Exists.intro (α := Nat)) | apply Exists.intro (α := Option Addr) | apply Exists.intro (α := Value))); refine ⟨rfl, ?_⟩)
      | refine St.rdsI _ ?_
      | refine St.rdsB _ ?_
      | refine St.rdsP _ ?_
      | refine St.rdsL _ ?_
      | refine St.rdsT _ ?_
      | refine St.rdsI2 _ _ ?_
      | refine St.rdsB2 _ _ ?_
      | (refine St.rdsG ?_; (repeat (first | apply Exists.intro (α := Int) | apply Exists.intro (α := Bool) | apply Exists.intro (α := ByteArray) | (apply Exists.intro (α := Option Addr); apply Exists.intro (α := Nat); apply Exists.intro (α := Nat)) | apply Exists.intro (α := Option Addr) | apply Exists.intro (α := Value))); refine ⟨rfl, ?_⟩)
      | refine letb rfl ?_
      | refine sat h ?_
      | (have h := h.drew; refine sat h ?_)
      | refine sat1 h (fun _ h => h.to) ?_)
    exact leti (y := base + j) (by rw [wrapU64, wrapU64]; omega) (hk j _ (by omega) h.drop)
  · repeat' (first
      | refine nilc ?_
      | refine h.rdI _ ?_
      | refine h.rdB _ ?_
      | refine h.rdP _ ?_
      | refine h.rdL _ ?_
      | refine h.rdT _ ?_
      | refine h.rdI2 _ _ ?_
      | refine h.rdB2 _ _ ?_
      | refine h.rdP2 _ _ ?_
      | refine h.rdL2 _ _ ?_
      | refine h.st2 _ _ fun w' h => ?_
      | refine h.st _ fun w' h => ?_
      | refine h.rdvI ?_
      | refine h.rdvB ?_
      | refine h.rdvP ?_
      | refine h.rdvL ?_
      | refine h.rdvT ?_
      | (refine h.rdG ?_; (repeat (first | apply Exists.intro (α := Int) | apply Exists.intro (α := Bool) | apply Exists.intro (α := ByteArray) | (apply Exists.intro (α := Option Addr); apply Exists.intro (α := Nat); apply Exists.intro (α := Nat)) | apply Exists.intro (α := Option Addr) | apply Exists.intro (α := Value))); refine ⟨rfl, ?_⟩)
      | refine h.stG fun w' h => ?_
      | refine h.stV fun w' h => ?_
      | refine h.box fun p w' h => ?_
      | refine h.boxV fun p w' h => ?_
      | refine h.allocZ fun p w' h => ?_
      | refine h.allocZV fun p w' h => ?_
      | (refine RD.bld ?_; (repeat (first | apply Exists.intro (α := Int) | apply Exists.intro (α := Bool) | apply Exists.intro (α := ByteArray) | (apply Exists.intro (α := Option Addr); apply Exists.intro (α := Nat); apply Exists.intro (α := Nat)) | apply Exists.intro (α := Option Addr) | apply Exists.intro (α := Value))); refine ⟨rfl, ?_⟩)
      | (refine RDS.bld ?_; (repeat (first | apply Exists.intro (α := Int) | apply Exists.intro (α := Bool) | apply Exists.intro (α := ByteArray) | (apply Exists.intro (α := Option Addr); apply Exists.intro (α := Nat); apply Exists.intro (α := Nat)) | apply Exists.intro (α := Option Addr) | apply Exists.intro (α := Value))); refine ⟨rfl, ?_⟩)
      | refine St.rdsI _ ?_
      | refine St.rdsB _ ?_
      | refine St.rdsP _ ?_
      | refine St.rdsL _ ?_
      | refine St.rdsT _ ?_
      | refine St.rdsI2 _ _ ?_
      | refine St.rdsB2 _ _ ?_
      | (refine St.rdsG ?_; (repeat (first | apply Exists.intro (α := Int) | apply Exists.intro (α := Bool) | apply Exists.intro (α := ByteArray) | (apply Exists.intro (α := Option Addr); apply Exists.intro (α := Nat); apply Exists.intro (α := Nat)) | apply Exists.intro (α := Option Addr) | apply Exists.intro (α := Value))); refine ⟨rfl, ?_⟩)
      | refine letb rfl ?_
      | refine sat h ?_
      | (have h := h.drew; refine sat h ?_)
      | refine sat1 h (fun _ h => h.to) ?_)
    exact leti (y := base + j) (by rw [wrapU64, wrapU64]; omega) (hk j _ (by omega) h.drop)
theorem redge_ok (h : St c w L) (h0 : 0 ≤ base) (h1 : base + sz < 9223372036854775808) {Q : Value → World → Prop} (hk : ∀ w', St c w' L → Q (.int .u64 (base + sz)) w') :
    CALL PG 127 [rxv base O1 d1 O2 d2 sz e kn] w Q := by
  refine call127 ?_
  unfold N127
  repeat' (first
    | refine nilc ?_
    | refine h.rdI _ ?_
    | refine h.rdB _ ?_
    | refine h.rdP _ ?_
    | refine h.rdL _ ?_
    | refine h.rdT _ ?_
    | refine h.rdI2 _ _ ?_
    | refine h.rdB2 _ _ ?_
    | refine h.rdP2 _ _ ?_
    | refine h.rdL2 _ _ ?_
    | refine h.st2 _ _ fun w' h => ?_
    | refine h.st _ fun w' h => ?_
    | refine h.rdvI ?_
    | refine h.rdvB ?_
    | refine h.rdvP ?_
    | refine h.rdvL ?_
    | refine h.rdvT ?_
    | (refine h.rdG ?_; (repeat (first | apply Exists.intro (α := Int) | apply Exists.intro (α := Bool) | apply Exists.intro (α := ByteArray) | (apply Exists.intro (α := Option Addr); apply Exists.intro (α := Nat); apply Exists.intro (α := Nat)) | apply Exists.intro (α := Option Addr) | apply Exists.intro (α := Value))); refine ⟨rfl, ?_⟩)
    | refine h.stG fun w' h => ?_
    | refine h.stV fun w' h => ?_
    | refine h.box fun p w' h => ?_
    | refine h.boxV fun p w' h => ?_
    | refine h.allocZ fun p w' h => ?_
    | refine h.allocZV fun p w' h => ?_
    | (refine RD.bld ?_; (repeat (first | apply Exists.intro (α := Int) | apply Exists.intro (α := Bool) | apply Exists.intro (α := ByteArray) | (apply Exists.intro (α := Option Addr); apply Exists.intro (α := Nat); apply Exists.intro (α := Nat)) | apply Exists.intro (α := Option Addr) | apply Exists.intro (α := Value))); refine ⟨rfl, ?_⟩)
    | (refine RDS.bld ?_; (repeat (first | apply Exists.intro (α := Int) | apply Exists.intro (α := Bool) | apply Exists.intro (α := ByteArray) | (apply Exists.intro (α := Option Addr); apply Exists.intro (α := Nat); apply Exists.intro (α := Nat)) | apply Exists.intro (α := Option Addr) | apply Exists.intro (α := Value))); refine ⟨rfl, ?_⟩)
    | refine St.rdsI _ ?_
    | refine St.rdsB _ ?_
    | refine St.rdsP _ ?_
    | refine St.rdsL _ ?_
    | refine St.rdsT _ ?_
    | refine St.rdsI2 _ _ ?_
    | refine St.rdsB2 _ _ ?_
    | (refine St.rdsG ?_; (repeat (first | apply Exists.intro (α := Int) | apply Exists.intro (α := Bool) | apply Exists.intro (α := ByteArray) | (apply Exists.intro (α := Option Addr); apply Exists.intro (α := Nat); apply Exists.intro (α := Nat)) | apply Exists.intro (α := Option Addr) | apply Exists.intro (α := Value))); refine ⟨rfl, ?_⟩)
    | refine letb rfl ?_
    | refine sat h ?_
    | (have h := h.drew; refine sat h ?_)
    | refine sat1 h (fun _ h => h.to) ?_)
  exact leti (y := base + sz) (by rw [wrapU64, wrapU64]; omega) (hk _ h.drop)
theorem rended_ok (h : St c w L) (hr : RdIn L O1 (hv.flatMap bc)) (hl : hv.length = sz) (h0 : 0 ≤ base) (h1 : base + sz < 9223372036854775808) {Q : Value → World → Prop} (hk : ∀ b w', St c w' L → Q (.bool b) w') :
    CALL PG 126 [rxv base O1 d1 O2 d2 sz e kn] w Q := by
  refine call126 ?_
  unfold N126
  repeat' (first
    | refine nilc ?_
    | refine h.rdI _ ?_
    | refine h.rdB _ ?_
    | refine h.rdP _ ?_
    | refine h.rdL _ ?_
    | refine h.rdT _ ?_
    | refine h.rdI2 _ _ ?_
    | refine h.rdB2 _ _ ?_
    | refine h.rdP2 _ _ ?_
    | refine h.rdL2 _ _ ?_
    | refine h.st2 _ _ fun w' h => ?_
    | refine h.st _ fun w' h => ?_
    | refine h.rdvI ?_
    | refine h.rdvB ?_
    | refine h.rdvP ?_
    | refine h.rdvL ?_
    | refine h.rdvT ?_
    | (refine h.rdG ?_; (repeat (first | apply Exists.intro (α := Int) | apply Exists.intro (α := Bool) | apply Exists.intro (α := ByteArray) | (apply Exists.intro (α := Option Addr); apply Exists.intro (α := Nat); apply Exists.intro (α := Nat)) | apply Exists.intro (α := Option Addr) | apply Exists.intro (α := Value))); refine ⟨rfl, ?_⟩)
    | refine h.stG fun w' h => ?_
    | refine h.stV fun w' h => ?_
    | refine h.box fun p w' h => ?_
    | refine h.boxV fun p w' h => ?_
    | refine h.allocZ fun p w' h => ?_
    | refine h.allocZV fun p w' h => ?_
    | (refine RD.bld ?_; (repeat (first | apply Exists.intro (α := Int) | apply Exists.intro (α := Bool) | apply Exists.intro (α := ByteArray) | (apply Exists.intro (α := Option Addr); apply Exists.intro (α := Nat); apply Exists.intro (α := Nat)) | apply Exists.intro (α := Option Addr) | apply Exists.intro (α := Value))); refine ⟨rfl, ?_⟩)
    | (refine RDS.bld ?_; (repeat (first | apply Exists.intro (α := Int) | apply Exists.intro (α := Bool) | apply Exists.intro (α := ByteArray) | (apply Exists.intro (α := Option Addr); apply Exists.intro (α := Nat); apply Exists.intro (α := Nat)) | apply Exists.intro (α := Option Addr) | apply Exists.intro (α := Value))); refine ⟨rfl, ?_⟩)
    | refine St.rdsI _ ?_
    | refine St.rdsB _ ?_
    | refine St.rdsP _ ?_
    | refine St.rdsL _ ?_
    | refine St.rdsT _ ?_
    | refine St.rdsI2 _ _ ?_
    | refine St.rdsB2 _ _ ?_
    | (refine St.rdsG ?_; (repeat (first | apply Exists.intro (α := Int) | apply Exists.intro (α := Bool) | apply Exists.intro (α := ByteArray) | (apply Exists.intro (α := Option Addr); apply Exists.intro (α := Nat); apply Exists.intro (α := Nat)) | apply Exists.intro (α := Option Addr) | apply Exists.intro (α := Value))); refine ⟨rfl, ?_⟩)
    | refine letb rfl ?_
    | refine sat h ?_
    | (have h := h.drew; refine sat h ?_)
    | refine sat1 h (fun _ h => h.to) ?_)
  refine ifb (fun _ => ?_) fun _ => letb rfl (hk _ _ h.drop)
  repeat' (first
    | refine nilc ?_
    | refine h.rdI _ ?_
    | refine h.rdB _ ?_
    | refine h.rdP _ ?_
    | refine h.rdL _ ?_
    | refine h.rdT _ ?_
    | refine h.rdI2 _ _ ?_
    | refine h.rdB2 _ _ ?_
    | refine h.rdP2 _ _ ?_
    | refine h.rdL2 _ _ ?_
    | refine h.st2 _ _ fun w' h => ?_
    | refine h.st _ fun w' h => ?_
    | refine h.rdvI ?_
    | refine h.rdvB ?_
    | refine h.rdvP ?_
    | refine h.rdvL ?_
    | refine h.rdvT ?_
    | (refine h.rdG ?_; (repeat (first | apply Exists.intro (α := Int) | apply Exists.intro (α := Bool) | apply Exists.intro (α := ByteArray) | (apply Exists.intro (α := Option Addr); apply Exists.intro (α := Nat); apply Exists.intro (α := Nat)) | apply Exists.intro (α := Option Addr) | apply Exists.intro (α := Value))); refine ⟨rfl, ?_⟩)
    | refine h.stG fun w' h => ?_
    | refine h.stV fun w' h => ?_
    | refine h.box fun p w' h => ?_
    | refine h.boxV fun p w' h => ?_
    | refine h.allocZ fun p w' h => ?_
    | refine h.allocZV fun p w' h => ?_
    | (refine RD.bld ?_; (repeat (first | apply Exists.intro (α := Int) | apply Exists.intro (α := Bool) | apply Exists.intro (α := ByteArray) | (apply Exists.intro (α := Option Addr); apply Exists.intro (α := Nat); apply Exists.intro (α := Nat)) | apply Exists.intro (α := Option Addr) | apply Exists.intro (α := Value))); refine ⟨rfl, ?_⟩)
    | (refine RDS.bld ?_; (repeat (first | apply Exists.intro (α := Int) | apply Exists.intro (α := Bool) | apply Exists.intro (α := ByteArray) | (apply Exists.intro (α := Option Addr); apply Exists.intro (α := Nat); apply Exists.intro (α := Nat)) | apply Exists.intro (α := Option Addr) | apply Exists.intro (α := Value))); refine ⟨rfl, ?_⟩)
    | refine St.rdsI _ ?_
    | refine St.rdsB _ ?_
    | refine St.rdsP _ ?_
    | refine St.rdsL _ ?_
    | refine St.rdsT _ ?_
    | refine St.rdsI2 _ _ ?_
    | refine St.rdsB2 _ _ ?_
    | (refine St.rdsG ?_; (repeat (first | apply Exists.intro (α := Int) | apply Exists.intro (α := Bool) | apply Exists.intro (α := ByteArray) | (apply Exists.intro (α := Option Addr); apply Exists.intro (α := Nat); apply Exists.intro (α := Nat)) | apply Exists.intro (α := Option Addr) | apply Exists.intro (α := Value))); refine ⟨rfl, ?_⟩)
    | refine letb rfl ?_
    | refine sat h ?_
    | (have h := h.drew; refine sat h ?_)
    | refine sat1 h (fun _ h => h.to) ?_)
  refine rnext_ok h hr.more hl h0 h1 fun k w' hk' h => ?_
  (repeat (first | apply Exists.intro (α := Int) | apply Exists.intro (α := Bool) | apply Exists.intro (α := ByteArray) | (apply Exists.intro (α := Option Addr); apply Exists.intro (α := Nat); apply Exists.intro (α := Nat)) | apply Exists.intro (α := Option Addr) | apply Exists.intro (α := Value)))
  refine ⟨rfl, ?_⟩
  exact sat1 h (fun _ h => h) (letb rfl (hk _ _ h.drop))
theorem rpieces_ok (h : St c w L) (hr : RdIn L O1 (hv.flatMap bc)) (hl : hv.length = sz) (hsz : sz ≤ 500) (h0 : 0 ≤ base) (h1 : base + sz < 4611686018427387904) {Q : Value → World → Prop} (hk : ∀ A n d w', St c w' L → Q (.slice A n d) w') :
    CALL PG 128 [rxv base O1 d1 O2 d2 sz e kn] w Q := by
  refine call128 ?_
  unfold N128
  refine h.box fun p w' h => ?_
  repeat' (first
    | refine nilc ?_
    | refine h.rdI _ ?_
    | refine h.rdB _ ?_
    | refine h.rdP _ ?_
    | refine h.rdL _ ?_
    | refine h.rdT _ ?_
    | refine h.rdI2 _ _ ?_
    | refine h.rdB2 _ _ ?_
    | refine h.rdP2 _ _ ?_
    | refine h.rdL2 _ _ ?_
    | refine h.st2 _ _ fun w' h => ?_
    | refine h.st _ fun w' h => ?_
    | refine h.rdvI ?_
    | refine h.rdvB ?_
    | refine h.rdvP ?_
    | refine h.rdvL ?_
    | refine h.rdvT ?_
    | (refine h.rdG ?_; (repeat (first | apply Exists.intro (α := Int) | apply Exists.intro (α := Bool) | apply Exists.intro (α := ByteArray) | (apply Exists.intro (α := Option Addr); apply Exists.intro (α := Nat); apply Exists.intro (α := Nat)) | apply Exists.intro (α := Option Addr) | apply Exists.intro (α := Value))); refine ⟨rfl, ?_⟩)
    | refine h.stG fun w' h => ?_
    | refine h.stV fun w' h => ?_
    | refine h.box fun p w' h => ?_
    | refine h.boxV fun p w' h => ?_
    | refine h.allocZ fun p w' h => ?_
    | refine h.allocZV fun p w' h => ?_
    | (refine RD.bld ?_; (repeat (first | apply Exists.intro (α := Int) | apply Exists.intro (α := Bool) | apply Exists.intro (α := ByteArray) | (apply Exists.intro (α := Option Addr); apply Exists.intro (α := Nat); apply Exists.intro (α := Nat)) | apply Exists.intro (α := Option Addr) | apply Exists.intro (α := Value))); refine ⟨rfl, ?_⟩)
    | (refine RDS.bld ?_; (repeat (first | apply Exists.intro (α := Int) | apply Exists.intro (α := Bool) | apply Exists.intro (α := ByteArray) | (apply Exists.intro (α := Option Addr); apply Exists.intro (α := Nat); apply Exists.intro (α := Nat)) | apply Exists.intro (α := Option Addr) | apply Exists.intro (α := Value))); refine ⟨rfl, ?_⟩)
    | refine St.rdsI _ ?_
    | refine St.rdsB _ ?_
    | refine St.rdsP _ ?_
    | refine St.rdsL _ ?_
    | refine St.rdsT _ ?_
    | refine St.rdsI2 _ _ ?_
    | refine St.rdsB2 _ _ ?_
    | (refine St.rdsG ?_; (repeat (first | apply Exists.intro (α := Int) | apply Exists.intro (α := Bool) | apply Exists.intro (α := ByteArray) | (apply Exists.intro (α := Option Addr); apply Exists.intro (α := Nat); apply Exists.intro (α := Nat)) | apply Exists.intro (α := Option Addr) | apply Exists.intro (α := Value))); refine ⟨rfl, ?_⟩)
    | refine letb rfl ?_
    | refine sat h ?_
    | (have h := h.drew; refine sat h ?_)
    | refine sat1 h (fun _ h => h.to) ?_)
  refine rnext_ok h hr.more hl h0 (by omega) fun k w' hks h => ?_
  (repeat (first | apply Exists.intro (α := Int) | apply Exists.intro (α := Bool) | apply Exists.intro (α := ByteArray) | (apply Exists.intro (α := Option Addr); apply Exists.intro (α := Nat); apply Exists.intro (α := Nat)) | apply Exists.intro (α := Option Addr) | apply Exists.intro (α := Value)))
  refine ⟨rfl, ?_⟩
  refine sat1 h (fun _ h => h) ?_
  refine leti (y := (k : Int)) (by rw [wrapU64, wrap_i64 (by omega) (by omega)]; omega) ?_
  have h := h.addOwnNil 266 2
  refine ⟨fun m O n d i w' => ∃ (j : Nat) (X : List Sp), j + m = sz ∧ i = (j : Int) ∧ Sep X ∧ X.length ≤ j ∧ X.length = n ∧ St c w' (own 266 2 O n d (X.flatMap spn) :: Br.blk p 78 (rxl base O1 d1 O2 d2 sz e kn) :: L), ⟨sz - k, k, [], by omega, rfl, Sep.nil, by simp, rfl, h⟩, ?_⟩
  clear h
  rintro m O _ d _ w' ⟨j, X, hj, rfl, hX, hXj, rfl, h⟩
  repeat' (first
    | refine nilc ?_
    | refine h.rdI _ ?_
    | refine h.rdB _ ?_
    | refine h.rdP _ ?_
    | refine h.rdL _ ?_
    | refine h.rdT _ ?_
    | refine h.rdI2 _ _ ?_
    | refine h.rdB2 _ _ ?_
    | refine h.rdP2 _ _ ?_
    | refine h.rdL2 _ _ ?_
    | refine h.st2 _ _ fun w' h => ?_
    | refine h.st _ fun w' h => ?_
    | refine h.rdvI ?_
    | refine h.rdvB ?_
    | refine h.rdvP ?_
    | refine h.rdvL ?_
    | refine h.rdvT ?_
    | (refine h.rdG ?_; (repeat (first | apply Exists.intro (α := Int) | apply Exists.intro (α := Bool) | apply Exists.intro (α := ByteArray) | (apply Exists.intro (α := Option Addr); apply Exists.intro (α := Nat); apply Exists.intro (α := Nat)) | apply Exists.intro (α := Option Addr) | apply Exists.intro (α := Value))); refine ⟨rfl, ?_⟩)
    | refine h.stG fun w' h => ?_
    | refine h.stV fun w' h => ?_
    | refine h.box fun p w' h => ?_
    | refine h.boxV fun p w' h => ?_
    | refine h.allocZ fun p w' h => ?_
    | refine h.allocZV fun p w' h => ?_
    | (refine RD.bld ?_; (repeat (first | apply Exists.intro (α := Int) | apply Exists.intro (α := Bool) | apply Exists.intro (α := ByteArray) | (apply Exists.intro (α := Option Addr); apply Exists.intro (α := Nat); apply Exists.intro (α := Nat)) | apply Exists.intro (α := Option Addr) | apply Exists.intro (α := Value))); refine ⟨rfl, ?_⟩)
    | (refine RDS.bld ?_; (repeat (first | apply Exists.intro (α := Int) | apply Exists.intro (α := Bool) | apply Exists.intro (α := ByteArray) | (apply Exists.intro (α := Option Addr); apply Exists.intro (α := Nat); apply Exists.intro (α := Nat)) | apply Exists.intro (α := Option Addr) | apply Exists.intro (α := Value))); refine ⟨rfl, ?_⟩)
    | refine St.rdsI _ ?_
    | refine St.rdsB _ ?_
    | refine St.rdsP _ ?_
    | refine St.rdsL _ ?_
    | refine St.rdsT _ ?_
    | refine St.rdsI2 _ _ ?_
    | refine St.rdsB2 _ _ ?_
    | (refine St.rdsG ?_; (repeat (first | apply Exists.intro (α := Int) | apply Exists.intro (α := Bool) | apply Exists.intro (α := ByteArray) | (apply Exists.intro (α := Option Addr); apply Exists.intro (α := Nat); apply Exists.intro (α := Nat)) | apply Exists.intro (α := Option Addr) | apply Exists.intro (α := Value))); refine ⟨rfl, ?_⟩)
    | refine letb rfl ?_
    | refine sat h ?_
    | (have h := h.drew; refine sat h ?_)
    | refine sat1 h (fun _ h => h.to) ?_)
  refine ifd (fun hlt => ?_) fun hge => hk _ _ _ _ h.drop.drop
  obtain ⟨x, hx⟩ := ex_get (L := hv) (j := j) (by omega)
  repeat' (first
    | refine nilc ?_
    | refine h.rdI _ ?_
    | refine h.rdB _ ?_
    | refine h.rdP _ ?_
    | refine h.rdL _ ?_
    | refine h.rdT _ ?_
    | refine h.rdI2 _ _ ?_
    | refine h.rdB2 _ _ ?_
    | refine h.rdP2 _ _ ?_
    | refine h.rdL2 _ _ ?_
    | refine h.st2 _ _ fun w' h => ?_
    | refine h.st _ fun w' h => ?_
    | refine h.rdvI ?_
    | refine h.rdvB ?_
    | refine h.rdvP ?_
    | refine h.rdvL ?_
    | refine h.rdvT ?_
    | (refine h.rdG ?_; (repeat (first | apply Exists.intro (α := Int) | apply Exists.intro (α := Bool) | apply Exists.intro (α := ByteArray) | (apply Exists.intro (α := Option Addr); apply Exists.intro (α := Nat); apply Exists.intro (α := Nat)) | apply Exists.intro (α := Option Addr) | apply Exists.intro (α := Value))); refine ⟨rfl, ?_⟩)
    | refine h.stG fun w' h => ?_
    | refine h.stV fun w' h => ?_
    | refine h.box fun p w' h => ?_
    | refine h.boxV fun p w' h => ?_
    | refine h.allocZ fun p w' h => ?_
    | refine h.allocZV fun p w' h => ?_
    | (refine RD.bld ?_; (repeat (first | apply Exists.intro (α := Int) | apply Exists.intro (α := Bool) | apply Exists.intro (α := ByteArray) | (apply Exists.intro (α := Option Addr); apply Exists.intro (α := Nat); apply Exists.intro (α := Nat)) | apply Exists.intro (α := Option Addr) | apply Exists.intro (α := Value))); refine ⟨rfl, ?_⟩)
    | (refine RDS.bld ?_; (repeat (first | apply Exists.intro (α := Int) | apply Exists.intro (α := Bool) | apply Exists.intro (α := ByteArray) | (apply Exists.intro (α := Option Addr); apply Exists.intro (α := Nat); apply Exists.intro (α := Nat)) | apply Exists.intro (α := Option Addr) | apply Exists.intro (α := Value))); refine ⟨rfl, ?_⟩)
    | refine St.rdsI _ ?_
    | refine St.rdsB _ ?_
    | refine St.rdsP _ ?_
    | refine St.rdsL _ ?_
    | refine St.rdsT _ ?_
    | refine St.rdsI2 _ _ ?_
    | refine St.rdsB2 _ _ ?_
    | (refine St.rdsG ?_; (repeat (first | apply Exists.intro (α := Int) | apply Exists.intro (α := Bool) | apply Exists.intro (α := ByteArray) | (apply Exists.intro (α := Option Addr); apply Exists.intro (α := Nat); apply Exists.intro (α := Nat)) | apply Exists.intro (α := Option Addr) | apply Exists.intro (α := Value))); refine ⟨rfl, ?_⟩)
    | refine letb rfl ?_
    | refine sat h ?_
    | (have h := h.drew; refine sat h ?_)
    | refine sat1 h (fun _ h => h.to) ?_)
  refine h.ix (z := 0) hr.more.more hx (fun b hb => ?_) (by omega)
  have hr1 := hr
  rw [hb] at hr1
  refine h.rdWB hr1.more.more hx ?_
  refine ifb (fun _ => ?_) fun _ => leti (wrap_i64 (n := (j : Int) + 1) (by omega) (by omega)) ⟨m - 1, by omega, j + 1, X, by omega, by omega, hX, by omega, rfl, h⟩
  repeat' (first
    | refine nilc ?_
    | refine h.rdI _ ?_
    | refine h.rdB _ ?_
    | refine h.rdP _ ?_
    | refine h.rdL _ ?_
    | refine h.rdT _ ?_
    | refine h.rdI2 _ _ ?_
    | refine h.rdB2 _ _ ?_
    | refine h.rdP2 _ _ ?_
    | refine h.rdL2 _ _ ?_
    | refine h.st2 _ _ fun w' h => ?_
    | refine h.st _ fun w' h => ?_
    | refine h.rdvI ?_
    | refine h.rdvB ?_
    | refine h.rdvP ?_
    | refine h.rdvL ?_
    | refine h.rdvT ?_
    | (refine h.rdG ?_; (repeat (first | apply Exists.intro (α := Int) | apply Exists.intro (α := Bool) | apply Exists.intro (α := ByteArray) | (apply Exists.intro (α := Option Addr); apply Exists.intro (α := Nat); apply Exists.intro (α := Nat)) | apply Exists.intro (α := Option Addr) | apply Exists.intro (α := Value))); refine ⟨rfl, ?_⟩)
    | refine h.stG fun w' h => ?_
    | refine h.stV fun w' h => ?_
    | refine h.box fun p w' h => ?_
    | refine h.boxV fun p w' h => ?_
    | refine h.allocZ fun p w' h => ?_
    | refine h.allocZV fun p w' h => ?_
    | (refine RD.bld ?_; (repeat (first | apply Exists.intro (α := Int) | apply Exists.intro (α := Bool) | apply Exists.intro (α := ByteArray) | (apply Exists.intro (α := Option Addr); apply Exists.intro (α := Nat); apply Exists.intro (α := Nat)) | apply Exists.intro (α := Option Addr) | apply Exists.intro (α := Value))); refine ⟨rfl, ?_⟩)
    | (refine RDS.bld ?_; (repeat (first | apply Exists.intro (α := Int) | apply Exists.intro (α := Bool) | apply Exists.intro (α := ByteArray) | (apply Exists.intro (α := Option Addr); apply Exists.intro (α := Nat); apply Exists.intro (α := Nat)) | apply Exists.intro (α := Option Addr) | apply Exists.intro (α := Value))); refine ⟨rfl, ?_⟩)
    | refine St.rdsI _ ?_
    | refine St.rdsB _ ?_
    | refine St.rdsP _ ?_
    | refine St.rdsL _ ?_
    | refine St.rdsT _ ?_
    | refine St.rdsI2 _ _ ?_
    | refine St.rdsB2 _ _ ?_
    | (refine St.rdsG ?_; (repeat (first | apply Exists.intro (α := Int) | apply Exists.intro (α := Bool) | apply Exists.intro (α := ByteArray) | (apply Exists.intro (α := Option Addr); apply Exists.intro (α := Nat); apply Exists.intro (α := Nat)) | apply Exists.intro (α := Option Addr) | apply Exists.intro (α := Value))); refine ⟨rfl, ?_⟩)
    | refine letb rfl ?_
    | refine sat h ?_
    | (have h := h.drew; refine sat h ?_)
    | refine sat1 h (fun _ h => h.to) ?_)
  rw [show IntKind.u64.wrap (base + IntKind.u64.wrap (j : Int)) = base + j by rw [wrapU64, wrapU64]; omega, show IntKind.u64.wrap (base + j + 1) = base + j + 1 by rw [wrapU64]; omega]
  refine r6join_ok h (RdIn.own .head) hX (by omega) (by omega) (by omega) (by omega) fun O' d' w' h => ?_
  (repeat (first | apply Exists.intro (α := Int) | apply Exists.intro (α := Bool) | apply Exists.intro (α := ByteArray) | (apply Exists.intro (α := Option Addr); apply Exists.intro (α := Nat); apply Exists.intro (α := Nat)) | apply Exists.intro (α := Option Addr) | apply Exists.intro (α := Value)))
  refine ⟨rfl, ?_⟩
  have hadd := addS_len X (base + j) (base + j + 1)
  exact leti (wrap_i64 (n := (j : Int) + 1) (by omega) (by omega)) ⟨m - 1, by omega, j + 1, _, by omega, by omega, addS_sep hX (by omega) (by omega) (by omega), by omega, rfl, h.to⟩
theorem rfin_ok (h : St c w L) (hr : RdIn L O1 (hv.flatMap bc)) (hl : hv.length = sz) (h0 : 0 ≤ base) (h1 : base + sz < 4611686018427387904) {t : Int} {Q : Value → World → Prop} (hk : ∀ e' kn' ok w', (e' = e ∨ e' = t) → St c w' L → Q (.tuple #[rxv base O1 d1 O2 d2 sz e' kn', .bool ok]) w') :
    CALL PG 92 [rxv base O1 d1 O2 d2 sz e kn, .int .u64 t] w Q := by
  refine call92 ?_
  unfold N92
  refine h.box fun p w' h => ?_
  refine h.allocZ fun q w' h => ?_
  refine h.rdB 5 ?_
  refine ifb (fun _ => ?_) fun _ => ?_
  · have h := h.drew
    refine sat h.drop ?_
    refine St.rdsG ?_
    (repeat (first | apply Exists.intro (α := Int) | apply Exists.intro (α := Bool) | apply Exists.intro (α := ByteArray) | (apply Exists.intro (α := Option Addr); apply Exists.intro (α := Nat); apply Exists.intro (α := Nat)) | apply Exists.intro (α := Option Addr) | apply Exists.intro (α := Value)))
    refine ⟨rfl, ?_⟩
    refine St.rdsI 4 ?_
    refine h.stG fun w' h => ?_
    refine sat1 h.drop (fun _ h => h) ?_
    repeat' (first
      | refine nilc ?_
      | refine h.rdI _ ?_
      | refine h.rdB _ ?_
      | refine h.rdP _ ?_
      | refine h.rdL _ ?_
      | refine h.rdT _ ?_
      | refine h.rdI2 _ _ ?_
      | refine h.rdB2 _ _ ?_
      | refine h.rdP2 _ _ ?_
      | refine h.rdL2 _ _ ?_
      | refine h.st2 _ _ fun w' h => ?_
      | refine h.st _ fun w' h => ?_
      | refine h.rdvI ?_
      | refine h.rdvB ?_
      | refine h.rdvP ?_
      | refine h.rdvL ?_
      | refine h.rdvT ?_
      | (refine h.rdG ?_; (repeat (first | apply Exists.intro (α := Int) | apply Exists.intro (α := Bool) | apply Exists.intro (α := ByteArray) | (apply Exists.intro (α := Option Addr); apply Exists.intro (α := Nat); apply Exists.intro (α := Nat)) | apply Exists.intro (α := Option Addr) | apply Exists.intro (α := Value))); refine ⟨rfl, ?_⟩)
      | refine h.stG fun w' h => ?_
      | refine h.stV fun w' h => ?_
      | refine h.box fun p w' h => ?_
      | refine h.boxV fun p w' h => ?_
      | refine h.allocZ fun p w' h => ?_
      | refine h.allocZV fun p w' h => ?_
      | (refine RD.bld ?_; (repeat (first | apply Exists.intro (α := Int) | apply Exists.intro (α := Bool) | apply Exists.intro (α := ByteArray) | (apply Exists.intro (α := Option Addr); apply Exists.intro (α := Nat); apply Exists.intro (α := Nat)) | apply Exists.intro (α := Option Addr) | apply Exists.intro (α := Value))); refine ⟨rfl, ?_⟩)
      | (refine RDS.bld ?_; (repeat (first | apply Exists.intro (α := Int) | apply Exists.intro (α := Bool) | apply Exists.intro (α := ByteArray) | (apply Exists.intro (α := Option Addr); apply Exists.intro (α := Nat); apply Exists.intro (α := Nat)) | apply Exists.intro (α := Option Addr) | apply Exists.intro (α := Value))); refine ⟨rfl, ?_⟩)
      | refine St.rdsI _ ?_
      | refine St.rdsB _ ?_
      | refine St.rdsP _ ?_
      | refine St.rdsL _ ?_
      | refine St.rdsT _ ?_
      | refine St.rdsI2 _ _ ?_
      | refine St.rdsB2 _ _ ?_
      | (refine St.rdsG ?_; (repeat (first | apply Exists.intro (α := Int) | apply Exists.intro (α := Bool) | apply Exists.intro (α := ByteArray) | (apply Exists.intro (α := Option Addr); apply Exists.intro (α := Nat); apply Exists.intro (α := Nat)) | apply Exists.intro (α := Option Addr) | apply Exists.intro (α := Value))); refine ⟨rfl, ?_⟩)
      | refine letb rfl ?_
      | refine sat h ?_
      | (have h := h.drew; refine sat h ?_)
      | refine sat1 h (fun _ h => h.to) ?_)
    exact hk _ _ _ _ (.inl rfl) h.drop.drop
  repeat' (first
    | refine nilc ?_
    | refine h.rdI _ ?_
    | refine h.rdB _ ?_
    | refine h.rdP _ ?_
    | refine h.rdL _ ?_
    | refine h.rdT _ ?_
    | refine h.rdI2 _ _ ?_
    | refine h.rdB2 _ _ ?_
    | refine h.rdP2 _ _ ?_
    | refine h.rdL2 _ _ ?_
    | refine h.st2 _ _ fun w' h => ?_
    | refine h.st _ fun w' h => ?_
    | refine h.rdvI ?_
    | refine h.rdvB ?_
    | refine h.rdvP ?_
    | refine h.rdvL ?_
    | refine h.rdvT ?_
    | (refine h.rdG ?_; (repeat (first | apply Exists.intro (α := Int) | apply Exists.intro (α := Bool) | apply Exists.intro (α := ByteArray) | (apply Exists.intro (α := Option Addr); apply Exists.intro (α := Nat); apply Exists.intro (α := Nat)) | apply Exists.intro (α := Option Addr) | apply Exists.intro (α := Value))); refine ⟨rfl, ?_⟩)
    | refine h.stG fun w' h => ?_
    | refine h.stV fun w' h => ?_
    | refine h.box fun p w' h => ?_
    | refine h.boxV fun p w' h => ?_
    | refine h.allocZ fun p w' h => ?_
    | refine h.allocZV fun p w' h => ?_
    | (refine RD.bld ?_; (repeat (first | apply Exists.intro (α := Int) | apply Exists.intro (α := Bool) | apply Exists.intro (α := ByteArray) | (apply Exists.intro (α := Option Addr); apply Exists.intro (α := Nat); apply Exists.intro (α := Nat)) | apply Exists.intro (α := Option Addr) | apply Exists.intro (α := Value))); refine ⟨rfl, ?_⟩)
    | (refine RDS.bld ?_; (repeat (first | apply Exists.intro (α := Int) | apply Exists.intro (α := Bool) | apply Exists.intro (α := ByteArray) | (apply Exists.intro (α := Option Addr); apply Exists.intro (α := Nat); apply Exists.intro (α := Nat)) | apply Exists.intro (α := Option Addr) | apply Exists.intro (α := Value))); refine ⟨rfl, ?_⟩)
    | refine St.rdsI _ ?_
    | refine St.rdsB _ ?_
    | refine St.rdsP _ ?_
    | refine St.rdsL _ ?_
    | refine St.rdsT _ ?_
    | refine St.rdsI2 _ _ ?_
    | refine St.rdsB2 _ _ ?_
    | (refine St.rdsG ?_; (repeat (first | apply Exists.intro (α := Int) | apply Exists.intro (α := Bool) | apply Exists.intro (α := ByteArray) | (apply Exists.intro (α := Option Addr); apply Exists.intro (α := Nat); apply Exists.intro (α := Nat)) | apply Exists.intro (α := Option Addr) | apply Exists.intro (α := Value))); refine ⟨rfl, ?_⟩)
    | refine letb rfl ?_
    | refine sat h ?_
    | (have h := h.drew; refine sat h ?_)
    | refine sat1 h (fun _ h => h.to) ?_)
  refine rnext_ok h hr.more.more hl h0 (by omega) fun k w' hks h => ?_
  (repeat (first | apply Exists.intro (α := Int) | apply Exists.intro (α := Bool) | apply Exists.intro (α := ByteArray) | (apply Exists.intro (α := Option Addr); apply Exists.intro (α := Nat); apply Exists.intro (α := Nat)) | apply Exists.intro (α := Option Addr) | apply Exists.intro (α := Value)))
  refine ⟨rfl, ?_⟩
  refine ifd (fun _ => ?_) fun _ => ?_
  · repeat' (first
      | refine nilc ?_
      | refine h.rdI _ ?_
      | refine h.rdB _ ?_
      | refine h.rdP _ ?_
      | refine h.rdL _ ?_
      | refine h.rdT _ ?_
      | refine h.rdI2 _ _ ?_
      | refine h.rdB2 _ _ ?_
      | refine h.rdP2 _ _ ?_
      | refine h.rdL2 _ _ ?_
      | refine h.st2 _ _ fun w' h => ?_
      | refine h.st _ fun w' h => ?_
      | refine h.rdvI ?_
      | refine h.rdvB ?_
      | refine h.rdvP ?_
      | refine h.rdvL ?_
      | refine h.rdvT ?_
      | (refine h.rdG ?_; (repeat (first | apply Exists.intro (α := Int) | apply Exists.intro (α := Bool) | apply Exists.intro (α := ByteArray) | (apply Exists.intro (α := Option Addr); apply Exists.intro (α := Nat); apply Exists.intro (α := Nat)) | apply Exists.intro (α := Option Addr) | apply Exists.intro (α := Value))); refine ⟨rfl, ?_⟩)
      | refine h.stG fun w' h => ?_
      | refine h.stV fun w' h => ?_
      | refine h.box fun p w' h => ?_
      | refine h.boxV fun p w' h => ?_
      | refine h.allocZ fun p w' h => ?_
      | refine h.allocZV fun p w' h => ?_
      | (refine RD.bld ?_; (repeat (first | apply Exists.intro (α := Int) | apply Exists.intro (α := Bool) | apply Exists.intro (α := ByteArray) | (apply Exists.intro (α := Option Addr); apply Exists.intro (α := Nat); apply Exists.intro (α := Nat)) | apply Exists.intro (α := Option Addr) | apply Exists.intro (α := Value))); refine ⟨rfl, ?_⟩)
      | (refine RDS.bld ?_; (repeat (first | apply Exists.intro (α := Int) | apply Exists.intro (α := Bool) | apply Exists.intro (α := ByteArray) | (apply Exists.intro (α := Option Addr); apply Exists.intro (α := Nat); apply Exists.intro (α := Nat)) | apply Exists.intro (α := Option Addr) | apply Exists.intro (α := Value))); refine ⟨rfl, ?_⟩)
      | refine St.rdsI _ ?_
      | refine St.rdsB _ ?_
      | refine St.rdsP _ ?_
      | refine St.rdsL _ ?_
      | refine St.rdsT _ ?_
      | refine St.rdsI2 _ _ ?_
      | refine St.rdsB2 _ _ ?_
      | (refine St.rdsG ?_; (repeat (first | apply Exists.intro (α := Int) | apply Exists.intro (α := Bool) | apply Exists.intro (α := ByteArray) | (apply Exists.intro (α := Option Addr); apply Exists.intro (α := Nat); apply Exists.intro (α := Nat)) | apply Exists.intro (α := Option Addr) | apply Exists.intro (α := Value))); refine ⟨rfl, ?_⟩)
      | refine letb rfl ?_
      | refine sat h ?_
      | (have h := h.drew; refine sat h ?_)
      | refine sat1 h (fun _ h => h.to) ?_)
    exact hk _ _ _ _ (.inl rfl) h.drop.drop
  refine ⟨fun m i w' => ∃ j : Nat, j + m = sz ∧ i = (j : Int) ∧ St c w' _, ⟨sz, 0, by omega, rfl, h⟩, ?_⟩
  clear h
  rintro m _ w' ⟨j, hj, rfl, h⟩
  repeat' (first
    | refine nilc ?_
    | refine h.rdI _ ?_
    | refine h.rdB _ ?_
    | refine h.rdP _ ?_
    | refine h.rdL _ ?_
    | refine h.rdT _ ?_
    | refine h.rdI2 _ _ ?_
    | refine h.rdB2 _ _ ?_
    | refine h.rdP2 _ _ ?_
    | refine h.rdL2 _ _ ?_
    | refine h.st2 _ _ fun w' h => ?_
    | refine h.st _ fun w' h => ?_
    | refine h.rdvI ?_
    | refine h.rdvB ?_
    | refine h.rdvP ?_
    | refine h.rdvL ?_
    | refine h.rdvT ?_
    | (refine h.rdG ?_; (repeat (first | apply Exists.intro (α := Int) | apply Exists.intro (α := Bool) | apply Exists.intro (α := ByteArray) | (apply Exists.intro (α := Option Addr); apply Exists.intro (α := Nat); apply Exists.intro (α := Nat)) | apply Exists.intro (α := Option Addr) | apply Exists.intro (α := Value))); refine ⟨rfl, ?_⟩)
    | refine h.stG fun w' h => ?_
    | refine h.stV fun w' h => ?_
    | refine h.box fun p w' h => ?_
    | refine h.boxV fun p w' h => ?_
    | refine h.allocZ fun p w' h => ?_
    | refine h.allocZV fun p w' h => ?_
    | (refine RD.bld ?_; (repeat (first | apply Exists.intro (α := Int) | apply Exists.intro (α := Bool) | apply Exists.intro (α := ByteArray) | (apply Exists.intro (α := Option Addr); apply Exists.intro (α := Nat); apply Exists.intro (α := Nat)) | apply Exists.intro (α := Option Addr) | apply Exists.intro (α := Value))); refine ⟨rfl, ?_⟩)
    | (refine RDS.bld ?_; (repeat (first | apply Exists.intro (α := Int) | apply Exists.intro (α := Bool) | apply Exists.intro (α := ByteArray) | (apply Exists.intro (α := Option Addr); apply Exists.intro (α := Nat); apply Exists.intro (α := Nat)) | apply Exists.intro (α := Option Addr) | apply Exists.intro (α := Value))); refine ⟨rfl, ?_⟩)
    | refine St.rdsI _ ?_
    | refine St.rdsB _ ?_
    | refine St.rdsP _ ?_
    | refine St.rdsL _ ?_
    | refine St.rdsT _ ?_
    | refine St.rdsI2 _ _ ?_
    | refine St.rdsB2 _ _ ?_
    | (refine St.rdsG ?_; (repeat (first | apply Exists.intro (α := Int) | apply Exists.intro (α := Bool) | apply Exists.intro (α := ByteArray) | (apply Exists.intro (α := Option Addr); apply Exists.intro (α := Nat); apply Exists.intro (α := Nat)) | apply Exists.intro (α := Option Addr) | apply Exists.intro (α := Value))); refine ⟨rfl, ?_⟩)
    | refine letb rfl ?_
    | refine sat h ?_
    | (have h := h.drew; refine sat h ?_)
    | refine sat1 h (fun _ h => h.to) ?_)
  refine ifd (fun hlt => ?_) fun hge => ?_
  · obtain ⟨x, hx⟩ := ex_get (L := hv) (j := j) (by omega)
    repeat' (first
      | refine nilc ?_
      | refine h.rdI _ ?_
      | refine h.rdB _ ?_
      | refine h.rdP _ ?_
      | refine h.rdL _ ?_
      | refine h.rdT _ ?_
      | refine h.rdI2 _ _ ?_
      | refine h.rdB2 _ _ ?_
      | refine h.rdP2 _ _ ?_
      | refine h.rdL2 _ _ ?_
      | refine h.st2 _ _ fun w' h => ?_
      | refine h.st _ fun w' h => ?_
      | refine h.rdvI ?_
      | refine h.rdvB ?_
      | refine h.rdvP ?_
      | refine h.rdvL ?_
      | refine h.rdvT ?_
      | (refine h.rdG ?_; (repeat (first | apply Exists.intro (α := Int) | apply Exists.intro (α := Bool) | apply Exists.intro (α := ByteArray) | (apply Exists.intro (α := Option Addr); apply Exists.intro (α := Nat); apply Exists.intro (α := Nat)) | apply Exists.intro (α := Option Addr) | apply Exists.intro (α := Value))); refine ⟨rfl, ?_⟩)
      | refine h.stG fun w' h => ?_
      | refine h.stV fun w' h => ?_
      | refine h.box fun p w' h => ?_
      | refine h.boxV fun p w' h => ?_
      | refine h.allocZ fun p w' h => ?_
      | refine h.allocZV fun p w' h => ?_
      | (refine RD.bld ?_; (repeat (first | apply Exists.intro (α := Int) | apply Exists.intro (α := Bool) | apply Exists.intro (α := ByteArray) | (apply Exists.intro (α := Option Addr); apply Exists.intro (α := Nat); apply Exists.intro (α := Nat)) | apply Exists.intro (α := Option Addr) | apply Exists.intro (α := Value))); refine ⟨rfl, ?_⟩)
      | (refine RDS.bld ?_; (repeat (first | apply Exists.intro (α := Int) | apply Exists.intro (α := Bool) | apply Exists.intro (α := ByteArray) | (apply Exists.intro (α := Option Addr); apply Exists.intro (α := Nat); apply Exists.intro (α := Nat)) | apply Exists.intro (α := Option Addr) | apply Exists.intro (α := Value))); refine ⟨rfl, ?_⟩)
      | refine St.rdsI _ ?_
      | refine St.rdsB _ ?_
      | refine St.rdsP _ ?_
      | refine St.rdsL _ ?_
      | refine St.rdsT _ ?_
      | refine St.rdsI2 _ _ ?_
      | refine St.rdsB2 _ _ ?_
      | (refine St.rdsG ?_; (repeat (first | apply Exists.intro (α := Int) | apply Exists.intro (α := Bool) | apply Exists.intro (α := ByteArray) | (apply Exists.intro (α := Option Addr); apply Exists.intro (α := Nat); apply Exists.intro (α := Nat)) | apply Exists.intro (α := Option Addr) | apply Exists.intro (α := Value))); refine ⟨rfl, ?_⟩)
      | refine letb rfl ?_
      | refine sat h ?_
      | (have h := h.drew; refine sat h ?_)
      | refine sat1 h (fun _ h => h.to) ?_)
    refine h.ix (z := 0) hr.more.more hx (fun b hb => ?_) (by omega)
    have hr1 := hr
    rw [hb] at hr1
    refine h.rdWB hr1.more.more hx ?_
    refine ifb (fun _ => ?_) fun _ => leti (wrap_i64 (n := (j : Int) + 1) (by omega) (by omega)) ⟨m - 1, by omega, j + 1, by omega, by omega, h⟩
    repeat' (first
      | refine nilc ?_
      | refine h.rdI _ ?_
      | refine h.rdB _ ?_
      | refine h.rdP _ ?_
      | refine h.rdL _ ?_
      | refine h.rdT _ ?_
      | refine h.rdI2 _ _ ?_
      | refine h.rdB2 _ _ ?_
      | refine h.rdP2 _ _ ?_
      | refine h.rdL2 _ _ ?_
      | refine h.st2 _ _ fun w' h => ?_
      | refine h.st _ fun w' h => ?_
      | refine h.rdvI ?_
      | refine h.rdvB ?_
      | refine h.rdvP ?_
      | refine h.rdvL ?_
      | refine h.rdvT ?_
      | (refine h.rdG ?_; (repeat (first | apply Exists.intro (α := Int) | apply Exists.intro (α := Bool) | apply Exists.intro (α := ByteArray) | (apply Exists.intro (α := Option Addr); apply Exists.intro (α := Nat); apply Exists.intro (α := Nat)) | apply Exists.intro (α := Option Addr) | apply Exists.intro (α := Value))); refine ⟨rfl, ?_⟩)
      | refine h.stG fun w' h => ?_
      | refine h.stV fun w' h => ?_
      | refine h.box fun p w' h => ?_
      | refine h.boxV fun p w' h => ?_
      | refine h.allocZ fun p w' h => ?_
      | refine h.allocZV fun p w' h => ?_
      | (refine RD.bld ?_; (repeat (first | apply Exists.intro (α := Int) | apply Exists.intro (α := Bool) | apply Exists.intro (α := ByteArray) | (apply Exists.intro (α := Option Addr); apply Exists.intro (α := Nat); apply Exists.intro (α := Nat)) | apply Exists.intro (α := Option Addr) | apply Exists.intro (α := Value))); refine ⟨rfl, ?_⟩)
      | (refine RDS.bld ?_; (repeat (first | apply Exists.intro (α := Int) | apply Exists.intro (α := Bool) | apply Exists.intro (α := ByteArray) | (apply Exists.intro (α := Option Addr); apply Exists.intro (α := Nat); apply Exists.intro (α := Nat)) | apply Exists.intro (α := Option Addr) | apply Exists.intro (α := Value))); refine ⟨rfl, ?_⟩)
      | refine St.rdsI _ ?_
      | refine St.rdsB _ ?_
      | refine St.rdsP _ ?_
      | refine St.rdsL _ ?_
      | refine St.rdsT _ ?_
      | refine St.rdsI2 _ _ ?_
      | refine St.rdsB2 _ _ ?_
      | (refine St.rdsG ?_; (repeat (first | apply Exists.intro (α := Int) | apply Exists.intro (α := Bool) | apply Exists.intro (α := ByteArray) | (apply Exists.intro (α := Option Addr); apply Exists.intro (α := Nat); apply Exists.intro (α := Nat)) | apply Exists.intro (α := Option Addr) | apply Exists.intro (α := Value))); refine ⟨rfl, ?_⟩)
      | refine letb rfl ?_
      | refine sat h ?_
      | (have h := h.drew; refine sat h ?_)
      | refine sat1 h (fun _ h => h.to) ?_)
    refine ifd (fun _ => ?_) fun _ => leti (wrap_i64 (n := (j : Int) + 1) (by omega) (by omega)) ⟨m - 1, by omega, j + 1, by omega, by omega, h⟩
    repeat' (first
      | refine nilc ?_
      | refine h.rdI _ ?_
      | refine h.rdB _ ?_
      | refine h.rdP _ ?_
      | refine h.rdL _ ?_
      | refine h.rdT _ ?_
      | refine h.rdI2 _ _ ?_
      | refine h.rdB2 _ _ ?_
      | refine h.rdP2 _ _ ?_
      | refine h.rdL2 _ _ ?_
      | refine h.st2 _ _ fun w' h => ?_
      | refine h.st _ fun w' h => ?_
      | refine h.rdvI ?_
      | refine h.rdvB ?_
      | refine h.rdvP ?_
      | refine h.rdvL ?_
      | refine h.rdvT ?_
      | (refine h.rdG ?_; (repeat (first | apply Exists.intro (α := Int) | apply Exists.intro (α := Bool) | apply Exists.intro (α := ByteArray) | (apply Exists.intro (α := Option Addr); apply Exists.intro (α := Nat); apply Exists.intro (α := Nat)) | apply Exists.intro (α := Option Addr) | apply Exists.intro (α := Value))); refine ⟨rfl, ?_⟩)
      | refine h.stG fun w' h => ?_
      | refine h.stV fun w' h => ?_
      | refine h.box fun p w' h => ?_
      | refine h.boxV fun p w' h => ?_
      | refine h.allocZ fun p w' h => ?_
      | refine h.allocZV fun p w' h => ?_
      | (refine RD.bld ?_; (repeat (first | apply Exists.intro (α := Int) | apply Exists.intro (α := Bool) | apply Exists.intro (α := ByteArray) | (apply Exists.intro (α := Option Addr); apply Exists.intro (α := Nat); apply Exists.intro (α := Nat)) | apply Exists.intro (α := Option Addr) | apply Exists.intro (α := Value))); refine ⟨rfl, ?_⟩)
      | (refine RDS.bld ?_; (repeat (first | apply Exists.intro (α := Int) | apply Exists.intro (α := Bool) | apply Exists.intro (α := ByteArray) | (apply Exists.intro (α := Option Addr); apply Exists.intro (α := Nat); apply Exists.intro (α := Nat)) | apply Exists.intro (α := Option Addr) | apply Exists.intro (α := Value))); refine ⟨rfl, ?_⟩)
      | refine St.rdsI _ ?_
      | refine St.rdsB _ ?_
      | refine St.rdsP _ ?_
      | refine St.rdsL _ ?_
      | refine St.rdsT _ ?_
      | refine St.rdsI2 _ _ ?_
      | refine St.rdsB2 _ _ ?_
      | (refine St.rdsG ?_; (repeat (first | apply Exists.intro (α := Int) | apply Exists.intro (α := Bool) | apply Exists.intro (α := ByteArray) | (apply Exists.intro (α := Option Addr); apply Exists.intro (α := Nat); apply Exists.intro (α := Nat)) | apply Exists.intro (α := Option Addr) | apply Exists.intro (α := Value))); refine ⟨rfl, ?_⟩)
      | refine letb rfl ?_
      | refine sat h ?_
      | (have h := h.drew; refine sat h ?_)
      | refine sat1 h (fun _ h => h.to) ?_)
    exact hk _ _ _ _ (.inl rfl) h.drop.drop
  · repeat' (first
      | refine nilc ?_
      | refine h.rdI _ ?_
      | refine h.rdB _ ?_
      | refine h.rdP _ ?_
      | refine h.rdL _ ?_
      | refine h.rdT _ ?_
      | refine h.rdI2 _ _ ?_
      | refine h.rdB2 _ _ ?_
      | refine h.rdP2 _ _ ?_
      | refine h.rdL2 _ _ ?_
      | refine h.st2 _ _ fun w' h => ?_
      | refine h.st _ fun w' h => ?_
      | refine h.rdvI ?_
      | refine h.rdvB ?_
      | refine h.rdvP ?_
      | refine h.rdvL ?_
      | refine h.rdvT ?_
      | (refine h.rdG ?_; (repeat (first | apply Exists.intro (α := Int) | apply Exists.intro (α := Bool) | apply Exists.intro (α := ByteArray) | (apply Exists.intro (α := Option Addr); apply Exists.intro (α := Nat); apply Exists.intro (α := Nat)) | apply Exists.intro (α := Option Addr) | apply Exists.intro (α := Value))); refine ⟨rfl, ?_⟩)
      | refine h.stG fun w' h => ?_
      | refine h.stV fun w' h => ?_
      | refine h.box fun p w' h => ?_
      | refine h.boxV fun p w' h => ?_
      | refine h.allocZ fun p w' h => ?_
      | refine h.allocZV fun p w' h => ?_
      | (refine RD.bld ?_; (repeat (first | apply Exists.intro (α := Int) | apply Exists.intro (α := Bool) | apply Exists.intro (α := ByteArray) | (apply Exists.intro (α := Option Addr); apply Exists.intro (α := Nat); apply Exists.intro (α := Nat)) | apply Exists.intro (α := Option Addr) | apply Exists.intro (α := Value))); refine ⟨rfl, ?_⟩)
      | (refine RDS.bld ?_; (repeat (first | apply Exists.intro (α := Int) | apply Exists.intro (α := Bool) | apply Exists.intro (α := ByteArray) | (apply Exists.intro (α := Option Addr); apply Exists.intro (α := Nat); apply Exists.intro (α := Nat)) | apply Exists.intro (α := Option Addr) | apply Exists.intro (α := Value))); refine ⟨rfl, ?_⟩)
      | refine St.rdsI _ ?_
      | refine St.rdsB _ ?_
      | refine St.rdsP _ ?_
      | refine St.rdsL _ ?_
      | refine St.rdsT _ ?_
      | refine St.rdsI2 _ _ ?_
      | refine St.rdsB2 _ _ ?_
      | (refine St.rdsG ?_; (repeat (first | apply Exists.intro (α := Int) | apply Exists.intro (α := Bool) | apply Exists.intro (α := ByteArray) | (apply Exists.intro (α := Option Addr); apply Exists.intro (α := Nat); apply Exists.intro (α := Nat)) | apply Exists.intro (α := Option Addr) | apply Exists.intro (α := Value))); refine ⟨rfl, ?_⟩)
      | refine letb rfl ?_
      | refine sat h ?_
      | (have h := h.drew; refine sat h ?_)
      | refine sat1 h (fun _ h => h.to) ?_)
    exact hk _ _ _ _ (.inr rfl) h.drop.drop
theorem rnew18_ok (h : St c w L) (h1 : 1 ≤ sz) (h2 : sz ≤ 1000) {Q : Value → World → Prop} (hk : ∀ O1 O2 w', St c w' (own 4 1 O1 sz sz ((List.replicate sz false).flatMap bc) :: own 5 1 O2 sz sz ((List.replicate sz (0 : UInt8)).flatMap uc) :: L) → Q (rxv 0 O1 sz O2 sz sz 0 false) w') :
    CALL PG 32 [.int .i64 (sz : Int), .int .i64 4] w Q := by
  have mk1 : ∀ {w : World} {L : List SA} {p : Nat}, St c w (Br.blk p 4 (zeros (Value.bool false).cells.toList (Int.toNat (sz : Int))) :: L) → St c w (own 4 1 (some ⟨p, 0, none⟩) sz sz ((List.replicate sz false).flatMap bc) :: L) := fun {w L p} h => by
    rw [Int.toNat_natCast, zeros_bool, ← List.append_nil ((List.replicate sz false).flatMap bc)] at h
    exact h.blkOwn (by rw [flat_length bc_length, List.length_replicate]) (by simp) (Nat.le_refl _)
  have mk2 : ∀ {w : World} {L : List SA} {p : Nat}, St c w (Br.blk p 5 (zeros (Value.int .u8 0).cells.toList (Int.toNat (sz : Int))) :: L) → St c w (own 5 1 (some ⟨p, 0, none⟩) sz sz ((List.replicate sz (0 : UInt8)).flatMap uc) :: L) := fun {w L p} h => by
    rw [Int.toNat_natCast, zeros_uc, ← List.append_nil ((List.replicate sz (0 : UInt8)).flatMap uc)] at h
    exact h.blkOwn (by rw [flat_length uc_length, List.length_replicate]) (by simp) (Nat.le_refl _)
  refine call32 ?_
  unfold N32
  refine h.allocZ fun p w' h => ?_
  refine ifdf (by decide) (ifdf (by decide) ?_)
  have h := h.drew
  refine ⟨fun _ => True, trivial, ?_, ?_⟩
  · refine h.make huBools tiBool (by omega) (by omega) (by omega) (by omega) fun q1 w' h => ?_
    have h := mk1 h
    refine ⟨fun _ => True, fun _ h => h, trivial, ?_⟩
    refine h.make huBytes tiU8 (by omega) (by omega) (by omega) (by omega) fun q2 w' h => ?_
    have h := mk2 h
    simp only [Int.toNat_natCast]
    repeat' (first
      | refine nilc ?_
      | refine h.rdI _ ?_
      | refine h.rdB _ ?_
      | refine h.rdP _ ?_
      | refine h.rdL _ ?_
      | refine h.rdT _ ?_
      | refine h.rdI2 _ _ ?_
      | refine h.rdB2 _ _ ?_
      | refine h.rdP2 _ _ ?_
      | refine h.rdL2 _ _ ?_
      | refine h.st2 _ _ fun w' h => ?_
      | refine h.st _ fun w' h => ?_
      | refine h.rdvI ?_
      | refine h.rdvB ?_
      | refine h.rdvP ?_
      | refine h.rdvL ?_
      | refine h.rdvT ?_
      | (refine h.rdG ?_; (repeat (first | apply Exists.intro (α := Int) | apply Exists.intro (α := Bool) | apply Exists.intro (α := ByteArray) | (apply Exists.intro (α := Option Addr); apply Exists.intro (α := Nat); apply Exists.intro (α := Nat)) | apply Exists.intro (α := Option Addr) | apply Exists.intro (α := Value))); refine ⟨rfl, ?_⟩)
      | refine h.stG fun w' h => ?_
      | refine h.stV fun w' h => ?_
      | refine h.box fun p w' h => ?_
      | refine h.boxV fun p w' h => ?_
      | refine h.allocZ fun p w' h => ?_
      | refine h.allocZV fun p w' h => ?_
      | (refine RD.bld ?_; (repeat (first | apply Exists.intro (α := Int) | apply Exists.intro (α := Bool) | apply Exists.intro (α := ByteArray) | (apply Exists.intro (α := Option Addr); apply Exists.intro (α := Nat); apply Exists.intro (α := Nat)) | apply Exists.intro (α := Option Addr) | apply Exists.intro (α := Value))); refine ⟨rfl, ?_⟩)
      | (refine RDS.bld ?_; (repeat (first | apply Exists.intro (α := Int) | apply Exists.intro (α := Bool) | apply Exists.intro (α := ByteArray) | (apply Exists.intro (α := Option Addr); apply Exists.intro (α := Nat); apply Exists.intro (α := Nat)) | apply Exists.intro (α := Option Addr) | apply Exists.intro (α := Value))); refine ⟨rfl, ?_⟩)
      | refine St.rdsI _ ?_
      | refine St.rdsB _ ?_
      | refine St.rdsP _ ?_
      | refine St.rdsL _ ?_
      | refine St.rdsT _ ?_
      | refine St.rdsI2 _ _ ?_
      | refine St.rdsB2 _ _ ?_
      | (refine St.rdsG ?_; (repeat (first | apply Exists.intro (α := Int) | apply Exists.intro (α := Bool) | apply Exists.intro (α := ByteArray) | (apply Exists.intro (α := Option Addr); apply Exists.intro (α := Nat); apply Exists.intro (α := Nat)) | apply Exists.intro (α := Option Addr) | apply Exists.intro (α := Value))); refine ⟨rfl, ?_⟩)
      | refine letb rfl ?_
      | refine sat h ?_
      | (have h := h.drew; refine sat h ?_)
      | refine sat1 h (fun _ h => h.to) ?_)
    exact hk _ _ _ h.to
  · refine h.make huBytes tiU8 (by omega) (by omega) (by omega) (by omega) fun q2 w' h => ?_
    have h := mk2 h
    refine ⟨fun _ => True, fun _ h => h, trivial, ?_⟩
    refine h.make huBools tiBool (by omega) (by omega) (by omega) (by omega) fun q1 w' h => ?_
    have h := mk1 h
    simp only [Int.toNat_natCast]
    repeat' (first
      | refine nilc ?_
      | refine h.rdI _ ?_
      | refine h.rdB _ ?_
      | refine h.rdP _ ?_
      | refine h.rdL _ ?_
      | refine h.rdT _ ?_
      | refine h.rdI2 _ _ ?_
      | refine h.rdB2 _ _ ?_
      | refine h.rdP2 _ _ ?_
      | refine h.rdL2 _ _ ?_
      | refine h.st2 _ _ fun w' h => ?_
      | refine h.st _ fun w' h => ?_
      | refine h.rdvI ?_
      | refine h.rdvB ?_
      | refine h.rdvP ?_
      | refine h.rdvL ?_
      | refine h.rdvT ?_
      | (refine h.rdG ?_; (repeat (first | apply Exists.intro (α := Int) | apply Exists.intro (α := Bool) | apply Exists.intro (α := ByteArray) | (apply Exists.intro (α := Option Addr); apply Exists.intro (α := Nat); apply Exists.intro (α := Nat)) | apply Exists.intro (α := Option Addr) | apply Exists.intro (α := Value))); refine ⟨rfl, ?_⟩)
      | refine h.stG fun w' h => ?_
      | refine h.stV fun w' h => ?_
      | refine h.box fun p w' h => ?_
      | refine h.boxV fun p w' h => ?_
      | refine h.allocZ fun p w' h => ?_
      | refine h.allocZV fun p w' h => ?_
      | (refine RD.bld ?_; (repeat (first | apply Exists.intro (α := Int) | apply Exists.intro (α := Bool) | apply Exists.intro (α := ByteArray) | (apply Exists.intro (α := Option Addr); apply Exists.intro (α := Nat); apply Exists.intro (α := Nat)) | apply Exists.intro (α := Option Addr) | apply Exists.intro (α := Value))); refine ⟨rfl, ?_⟩)
      | (refine RDS.bld ?_; (repeat (first | apply Exists.intro (α := Int) | apply Exists.intro (α := Bool) | apply Exists.intro (α := ByteArray) | (apply Exists.intro (α := Option Addr); apply Exists.intro (α := Nat); apply Exists.intro (α := Nat)) | apply Exists.intro (α := Option Addr) | apply Exists.intro (α := Value))); refine ⟨rfl, ?_⟩)
      | refine St.rdsI _ ?_
      | refine St.rdsB _ ?_
      | refine St.rdsP _ ?_
      | refine St.rdsL _ ?_
      | refine St.rdsT _ ?_
      | refine St.rdsI2 _ _ ?_
      | refine St.rdsB2 _ _ ?_
      | (refine St.rdsG ?_; (repeat (first | apply Exists.intro (α := Int) | apply Exists.intro (α := Bool) | apply Exists.intro (α := ByteArray) | (apply Exists.intro (α := Option Addr); apply Exists.intro (α := Nat); apply Exists.intro (α := Nat)) | apply Exists.intro (α := Option Addr) | apply Exists.intro (α := Value))); refine ⟨rfl, ?_⟩)
      | refine letb rfl ?_
      | refine sat h ?_
      | (have h := h.drew; refine sat h ?_)
      | refine sat1 h (fun _ h => h.to) ?_)
    exact hk _ _ _ h.to
end
end Go.Br
