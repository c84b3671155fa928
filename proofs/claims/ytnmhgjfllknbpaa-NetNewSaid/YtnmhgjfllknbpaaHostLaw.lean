/- A host: who listens, and bytes that are none; the law of configurations. -/
import Derived.Test.YtnmhgjfllknbpaaNHostLaw
import Derived.Test.YtnmhgjfllknbpaaHostNew
set_option linter.unusedVariables false
set_option linter.unusedSimpArgs false
set_option linter.unnecessarySimpa false
namespace Go.Br
open Go
instance biHostLawa (x0 : Int) (x1 : Int) (x2 : Int) (x3 : Int) (x4 : Int) (x5 : Int) (x6 : Int) (x7 : Int) (x8 : Int) (x9 : Int) (x10 : Int) (x11 : Int) (x12 : Int) (x13 : Int) (x14 : Int) : Bld PG (Instr.build 24 #[(0, .int .i64 x0), (1, .int .i64 x1), (2, .int .i64 x2), (3, .int .i64 x3), (4, .int .i64 x4), (5, .int .i64 x5), (6, .int .i64 x6), (7, .int .i64 x7), (8, .int .i64 x8), (9, .int .i64 x9), (10, .int .i64 x10), (11, .int .i64 x11), (12, .int .i64 x12), (13, .int .i64 x13), (14, .int .i64 x14)]) (.agg #[.int .i64 x0, .int .i64 x1, .int .i64 x2, .int .i64 x3, .int .i64 x4, .int .i64 x5, .int .i64 x6, .int .i64 x7, .int .i64 x8, .int .i64 x9, .int .i64 x10, .int .i64 x11, .int .i64 x12, .int .i64 x13, .int .i64 x14]) := ⟨fun w => by kernel_rfl⟩
instance biHostLawb : Zro PG 24 15 120 (.agg #[.int .i64 0, .int .i64 0, .int .i64 0, .int .i64 0, .int .i64 0, .int .i64 0, .int .i64 0, .int .i64 0, .int .i64 0, .int .i64 0, .int .i64 0, .int .i64 0, .int .i64 0, .int .i64 0, .int .i64 0]) := ⟨tiOf (by kernel_rfl)⟩
attribute [local irreducible] Addr.add RD RDS RUN RUNU NILC LETB CALL CALLX CALLV

theorem tiPortp : TI PG 64 1 8 (.pointer none) := tiOf (by kernel_rfl)
theorem huPorts : PG.underlying 59 = some (.slice 64) := by kernel_rfl
def usual : Cfg := ⟨2, 2, 3, 3, 64, 16, 4, 3, 8, 200, 20, 3, 1, 8, 1⟩
theorem usual_ok : CfgOk usual := by decide
abbrev prt (a : Int) : List Value := [.int .i64 a, .slice none 0 0, .slice none 0 0]
theorem St.dropA {c : Ctx} : ∀ {M : List SA} {w : World} {L : List SA}, St c w (M ++ L) → St c w L
  | [], w, L, h => h
  | A :: M, w, L, h => St.dropA (M := M) (St.drop h)
section
variable {c : Ctx} {w : World} {L R : List SA} {mal : Int} {g : Cfg} {k0 k1 n : Int} {p r : Nat}
theorem good_ok {a : Int} {Q : Value → World → Prop} (hk : Q (.bool (decide (1 ≤ a ∧ a ≤ 65535))) w) : CALL PG 20 [.int .i64 a] w Q := by
  refine call20 ?_
  unfold N20
  exact ifd (fun h => letb (decide_eq_decide.2 (by omega)) hk) fun h => letb (decide_eq_false (by omega)).symm hk
theorem listen0_ok {a : Int} (h : St c w (blk p 62 (hcs mal g k0 k1 n none 0 0 r) :: L)) {Q : Value → World → Prop} (hk : ∀ w', St c w' (blk p 62 (hcs mal g k0 k1 n none 0 0 r) :: L) → Q (.pointer none) w') : CALL PG 21 [.pointer (some ⟨p, 0, none⟩), .int .i64 a] w Q := by
  refine call21 ?_
  unfold N21
  refine nilc (h.rdL 28 ?_)
  refine ⟨fun m x w' => x = 0 ∧ St c w' (blk p 62 (hcs mal g k0 k1 n none 0 0 r) :: L), ⟨0, rfl, h⟩, ?_⟩
  clear h
  rintro m _ w' ⟨rfl, h⟩
  exact ifdf (by decide) (hk _ h)
theorem listen1_ok {a : Int} {A : Option Addr} {d q : Nat} (h : St c w (blk p 62 (hcs mal g k0 k1 n A 1 d r) :: own 64 1 A 1 d [.pointer (some ⟨q, 0, none⟩)] :: blk q 69 (prt a) :: L)) {Q : Value → World → Prop}
    (hk : ∀ w', St c w' (blk p 62 (hcs mal g k0 k1 n A 1 d r) :: own 64 1 A 1 d [.pointer (some ⟨q, 0, none⟩)] :: blk q 69 (prt a) :: L) → Q (.pointer (some ⟨q, 0, none⟩)) w') : CALL PG 21 [.pointer (some ⟨p, 0, none⟩), .int .i64 a] w Q := by
  refine call21 ?_
  unfold N21
  refine nilc (h.rdL 28 ?_)
  refine ⟨fun m x w' => x = 0 ∧ St c w' (blk p 62 (hcs mal g k0 k1 n A 1 d r) :: own 64 1 A 1 d [.pointer (some ⟨q, 0, none⟩)] :: blk q 69 (prt a) :: L), ⟨0, rfl, h⟩, ?_⟩
  clear h
  rintro m _ w' ⟨rfl, h⟩
  refine ifdt (by decide) ?_
  have hr : RdIn (blk p 62 (hcs mal g k0 k1 n A 1 d r) :: own 64 1 A 1 d [.pointer (some ⟨q, 0, none⟩)] :: blk q 69 (prt a) :: L) A (([some ⟨q, 0, none⟩] : List (Option Addr)).flatMap fun x => [.pointer x]) := RdIn.own (.tail .head)
  refine h.ix (z := 0) (i := 0) hr rfl (fun b hb => ?_) (by decide)
  subst hb
  refine h.rdWP (g := fun x => [.pointer x]) (Y := [some ⟨q, 0, none⟩]) (i := 0) hr rfl ?_
  refine nilc ?_
  refine h.rdI 0 ?_
  exact ift (by simp) (hk _ h)
theorem usual_okC (h : St c w L) {Q : Value → World → Prop} (hk : ∀ w', St c w' L → Q (cfgv usual) w') : CALL PG 12 [] w Q := by
  refine call12 ?_
  unfold N12
  refine h.allocZ fun q w' h => ?_
  refine RD.bld ?_
  (repeat (first | apply Exists.intro (α := Int) | apply Exists.intro (α := Bool) | apply Exists.intro (α := ByteArray) | (apply Exists.intro (α := Option Addr); apply Exists.intro (α := Nat); apply Exists.intro (α := Nat)) | apply Exists.intro (α := Option Addr) | apply Exists.intro (α := Value)))
  refine ⟨rfl, ?_⟩
  refine h.stG fun w' h => ?_
  refine h.rdG ?_
  (repeat (first | apply Exists.intro (α := Int) | apply Exists.intro (α := Bool) | apply Exists.intro (α := ByteArray) | (apply Exists.intro (α := Option Addr); apply Exists.intro (α := Nat); apply Exists.intro (α := Nat)) | apply Exists.intro (α := Option Addr) | apply Exists.intro (α := Value)))
  refine ⟨rfl, ?_⟩
  exact hk _ h.drop
end
end Go.Br
