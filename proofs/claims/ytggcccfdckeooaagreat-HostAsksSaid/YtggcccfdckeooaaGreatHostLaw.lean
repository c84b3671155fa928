/- A host: who listens, and bytes that are none; the law of configurations. -/
import Derived.Test.YtggcccfdckeooaaGreatNHostLaw
import Derived.Test.YtggcccfdckeooaaGreatHostNew
set_option linter.unusedVariables false
set_option linter.unusedSimpArgs false
set_option linter.unnecessarySimpa false
namespace Go.Br
open Go
instance biHostLawa : Bld PG (Instr.build 27 #[]) (.agg #[.int .u64 0, .int .u64 0]) := ⟨fun w => by kernel_rfl⟩
instance biHostLawb (x0 : Int) : Bld PG (Instr.build 27 #[(0, .int .u64 x0)]) (.agg #[.int .u64 x0, .int .u64 0]) := ⟨fun w => by kernel_rfl⟩
instance biHostLawc (x0 : Int) (x1 : Int) (x2 : Int) : Bld PG (Instr.build 30 #[(0, .int .i64 x0), (1, .int .u16 x1), (2, .int .u16 x2)]) (.agg #[.int .i64 x0, .int .u16 x1, .int .u16 x2]) := ⟨fun w => by kernel_rfl⟩
instance biHostLawd : Zro PG 30 3 16 (.agg #[.int .i64 0, .int .u16 0, .int .u16 0]) := ⟨tiOf (by kernel_rfl)⟩
instance biHostLawe (x0 : Int) : Bld PG (Instr.build 118 #[(0, .int .i64 x0)]) (.agg #[.int .i64 x0, .slice none 0 0, .slice none 0 0]) := ⟨fun w => by kernel_rfl⟩
instance biHostLawf : Zro PG 67 2 32 (.agg #[.int .u8 0, .slice none 0 0]) := ⟨tiOf (by kernel_rfl)⟩
instance biHostLawg : Zro PG 70 7 64 (.agg #[.int .u16 0, .int .u16 0, .int .u32 0, .int .u32 0, .int .u8 0, .slice none 0 0, .slice none 0 0]) := ⟨tiOf (by kernel_rfl)⟩
instance biHostLawh : Zro PG 135 6 24 (.agg #[.int .u32 0, .int .u32 0, .int .u8 0, .bool false, .bool false, .int .u64 0]) := ⟨tiOf (by kernel_rfl)⟩
instance biHostLawi (x0 : Int) (x1 : Int) (x2 : Int) (x3 : Int) (x4 : Int) (x5 : Int) (x6 : Int) (x7 : Int) (x8 : Int) (x9 : Int) (x10 : Int) (x11 : Int) (x12 : Int) (x13 : Int) (x14 : Int) : Bld PG (Instr.build 49 #[(0, .int .i64 x0), (1, .int .i64 x1), (2, .int .i64 x2), (3, .int .i64 x3), (4, .int .i64 x4), (5, .int .i64 x5), (6, .int .i64 x6), (7, .int .i64 x7), (8, .int .i64 x8), (9, .int .i64 x9), (10, .int .i64 x10), (11, .int .i64 x11), (12, .int .i64 x12), (13, .int .i64 x13), (14, .int .i64 x14)]) (.agg #[.int .i64 x0, .int .i64 x1, .int .i64 x2, .int .i64 x3, .int .i64 x4, .int .i64 x5, .int .i64 x6, .int .i64 x7, .int .i64 x8, .int .i64 x9, .int .i64 x10, .int .i64 x11, .int .i64 x12, .int .i64 x13, .int .i64 x14]) := ⟨fun w => by kernel_rfl⟩
instance biHostLawj : Zro PG 49 15 120 (.agg #[.int .i64 0, .int .i64 0, .int .i64 0, .int .i64 0, .int .i64 0, .int .i64 0, .int .i64 0, .int .i64 0, .int .i64 0, .int .i64 0, .int .i64 0, .int .i64 0, .int .i64 0, .int .i64 0, .int .i64 0]) := ⟨tiOf (by kernel_rfl)⟩
instance biHostLawk : Bld PG (Instr.build 70 #[]) (.agg #[.int .u16 0, .int .u16 0, .int .u32 0, .int .u32 0, .int .u8 0, .slice none 0 0, .slice none 0 0]) := ⟨fun w => by kernel_rfl⟩
instance biHostLawl (x0 : Int) (x1 : Int) (x2 : Int) (x3 : Int) (x4 : Int) : Bld PG (Instr.build 70 #[(0, .int .u16 x0), (1, .int .u16 x1), (2, .int .u32 x2), (3, .int .u32 x3), (4, .int .u8 x4)]) (.agg #[.int .u16 x0, .int .u16 x1, .int .u32 x2, .int .u32 x3, .int .u8 x4, .slice none 0 0, .slice none 0 0]) := ⟨fun w => by kernel_rfl⟩
attribute [local irreducible] Addr.add RD RDS RUN RUNU NILC LETB CALL CALLX CALLV

theorem tiPortp : TI PG 100 1 8 (.pointer none) := tiOf (by kernel_rfl)
theorem huPorts : PG.underlying 94 = some (.slice 100) := by kernel_rfl
def usual : Cfg := ⟨2, 2, 3, 3, 64, 16, 4, 3, 8, 200, 20, 3, 1, 8, 1⟩
theorem usual_ok : CfgOk usual := by decide
abbrev prt (a : Int) : List Value := [.int .i64 a, .slice none 0 0, .slice none 0 0]
theorem St.dropA {c : Ctx} : ∀ {M : List SA} {w : World} {L : List SA}, St c w (M ++ L) → St c w L
  | [], w, L, h => h
  | A :: M, w, L, h => St.dropA (M := M) (St.drop h)
section
variable {c : Ctx} {w : World} {L R : List SA} {mal : Int} {g : Cfg} {k0 k1 n : Int} {p r : Nat}
theorem good_ok {a : Int} {Q : Value → World → Prop} (hk : Q (.bool (decide (1 ≤ a ∧ a ≤ 65535))) w) : CALL PG 35 [.int .i64 a] w Q := by
  refine call35 ?_
  unfold N35
  exact ifd (fun h => letb (decide_eq_decide.2 (by omega)) hk) fun h => letb (decide_eq_false (by omega)).symm hk
theorem listen0_ok {a : Int} (h : St c w (blk p 96 (hcs mal g k0 k1 n none 0 0 r) :: L)) {Q : Value → World → Prop} (hk : ∀ w', St c w' (blk p 96 (hcs mal g k0 k1 n none 0 0 r) :: L) → Q (.pointer none) w') : CALL PG 36 [.pointer (some ⟨p, 0, none⟩), .int .i64 a] w Q := by
  refine call36 ?_
  unfold N36
  refine nilc (h.rdL 28 ?_)
  refine ⟨fun m x w' => x = 0 ∧ St c w' (blk p 96 (hcs mal g k0 k1 n none 0 0 r) :: L), ⟨0, rfl, h⟩, ?_⟩
  clear h
  rintro m _ w' ⟨rfl, h⟩
  exact ifdf (by decide) (hk _ h)
theorem listen1_ok {a : Int} {A : Option Addr} {d q : Nat} (h : St c w (blk p 96 (hcs mal g k0 k1 n A 1 d r) :: own 100 1 A 1 d [.pointer (some ⟨q, 0, none⟩)] :: blk q 118 (prt a) :: L)) {Q : Value → World → Prop}
    (hk : ∀ w', St c w' (blk p 96 (hcs mal g k0 k1 n A 1 d r) :: own 100 1 A 1 d [.pointer (some ⟨q, 0, none⟩)] :: blk q 118 (prt a) :: L) → Q (.pointer (some ⟨q, 0, none⟩)) w') : CALL PG 36 [.pointer (some ⟨p, 0, none⟩), .int .i64 a] w Q := by
  refine call36 ?_
  unfold N36
  refine nilc (h.rdL 28 ?_)
  refine ⟨fun m x w' => x = 0 ∧ St c w' (blk p 96 (hcs mal g k0 k1 n A 1 d r) :: own 100 1 A 1 d [.pointer (some ⟨q, 0, none⟩)] :: blk q 118 (prt a) :: L), ⟨0, rfl, h⟩, ?_⟩
  clear h
  rintro m _ w' ⟨rfl, h⟩
  refine ifdt (by decide) ?_
  have hr : RdIn (blk p 96 (hcs mal g k0 k1 n A 1 d r) :: own 100 1 A 1 d [.pointer (some ⟨q, 0, none⟩)] :: blk q 118 (prt a) :: L) A (([some ⟨q, 0, none⟩] : List (Option Addr)).flatMap fun x => [.pointer x]) := RdIn.own (.tail .head)
  refine h.ix (z := 0) (i := 0) hr rfl (fun b hb => ?_) (by decide)
  subst hb
  refine h.rdWP (g := fun x => [.pointer x]) (Y := [some ⟨q, 0, none⟩]) (i := 0) hr rfl ?_
  refine nilc ?_
  refine h.rdI 0 ?_
  exact ift (by simp) (hk _ h)
theorem usual_okC (h : St c w L) {Q : Value → World → Prop} (hk : ∀ w', St c w' L → Q (cfgv usual) w') : CALL PG 28 [] w Q := by
  refine call28 ?_
  unfold N28
  refine h.allocZ fun q w' h => ?_
  refine RD.bld ?_
  (repeat (first | apply Exists.intro (α := Int) | apply Exists.intro (α := Bool) | apply Exists.intro (α := ByteArray) | (apply Exists.intro (α := Option Addr); apply Exists.intro (α := Nat); apply Exists.intro (α := Nat)) | apply Exists.intro (α := Option Addr) | apply Exists.intro (α := Value)))
  refine ⟨rfl, ?_⟩
  refine h.stG fun w' h => ?_
  refine h.rdG ?_
  (repeat (first | apply Exists.intro (α := Int) | apply Exists.intro (α := Bool) | apply Exists.intro (α := ByteArray) | (apply Exists.intro (α := Option Addr); apply Exists.intro (α := Nat); apply Exists.intro (α := Nat)) | apply Exists.intro (α := Option Addr) | apply Exists.intro (α := Value)))
  refine ⟨rfl, ?_⟩
  exact hk _ h.drop
theorem get0_ok (h : St c w L) {B : Option Addr} {m d : Nat} {x : Int} {l : List Int} (hx : 1 ≤ x ∧ x ≤ 8) (hr : RdIn L B ((x :: l).flatMap iv)) (hm : (x :: l).length = m) {Q : Value → World → Prop} (hk : ∀ w', St c w' L → Q (.tuple #[.slice none 0 0, .slice none 0 0, .bool false]) w') :
    CALL PG 71 [.slice none 0 0, .slice B m d] w Q := by
  refine call71 ?_
  unfold N71
  refine ⟨fun m b bN bC O oN oC x w' => b = none ∧ bN = 0 ∧ bC = 0 ∧ x = 0 ∧ St c w' L, ⟨0, rfl, rfl, rfl, rfl, h⟩, ?_⟩
  clear h
  rintro m2 _ _ _ O oN oC _ w' ⟨rfl, rfl, rfl, rfl, h⟩
  refine ifdt (by rw [← hm]; simp) ?_
  refine h.ix (z := 0) (i := 0) (y := x) hr rfl (fun b hb => ?_) (by rw [← hm]; simp)
  have hr1 := hr
  rw [hb] at hr1
  refine h.rdWI (i := 0) (y := x) hr1 rfl (leti rfl ?_)
  exact ifdf (by omega) (ifdf (by omega) (ifdt (by simp; omega) (hk _ h)))
theorem parse0_ok (h : St c w L) {Q : Value → World → Prop} (hk : ∀ w', St c w' L → Q (.tuple #[.agg #[.int .u16 0, .int .u16 0, .int .u32 0, .int .u32 0, .int .u8 0, .slice none 0 0, .slice none 0 0], .int .i64 70]) w') :
    CALL PG 47 [.slice none 0 0] w Q := by
  refine call47 ?_
  unfold N47
  refine h.allocZ fun q w' h => ?_
  refine h.lit (n := 6) 3 1 (([2, 2, 4, 4, 1, 1] : List Int).flatMap iv) fun q2 w' h => ?_
  refine get0_ok (x := 2) (l := [2, 4, 4, 1, 1]) h (by decide) (RdIn.own .head) rfl fun w' h => ?_
  (repeat (first | apply Exists.intro (α := Int) | apply Exists.intro (α := Bool) | apply Exists.intro (α := ByteArray) | (apply Exists.intro (α := Option Addr); apply Exists.intro (α := Nat); apply Exists.intro (α := Nat)) | apply Exists.intro (α := Option Addr) | apply Exists.intro (α := Value)))
  refine ⟨rfl, ?_⟩
  refine letb rfl (ift rfl ?_)
  refine RD.bld ?_
  (repeat (first | apply Exists.intro (α := Int) | apply Exists.intro (α := Bool) | apply Exists.intro (α := ByteArray) | (apply Exists.intro (α := Option Addr); apply Exists.intro (α := Nat); apply Exists.intro (α := Nat)) | apply Exists.intro (α := Option Addr) | apply Exists.intro (α := Value)))
  refine ⟨rfl, ?_⟩
  have h := h.drop
  refine h.stG fun w' h => ?_
  refine h.rdG ?_
  (repeat (first | apply Exists.intro (α := Int) | apply Exists.intro (α := Bool) | apply Exists.intro (α := ByteArray) | (apply Exists.intro (α := Option Addr); apply Exists.intro (α := Nat); apply Exists.intro (α := Nat)) | apply Exists.intro (α := Option Addr) | apply Exists.intro (α := Value)))
  refine ⟨rfl, ?_⟩
  exact hk _ h.drop
theorem deliver0_ok {pA : Option Addr} {pN pC : Nat} (h : St c w (blk p 96 (hcs 0 g k0 k1 n pA pN pC r) :: L)) {path : Int} {Q : Value → World → Prop} (hk : ∀ w', St c w' (blk p 96 (hcs 1 g k0 k1 n pA pN pC r) :: L) → Q (.tuple #[]) w') :
    CALL PG 23 [.pointer (some ⟨p, 0, none⟩), .int .i64 path, .slice none 0 0] w Q := by
  refine call23 ?_
  unfold N23
  refine parse0_ok h fun w' h => ?_
  (repeat (first | apply Exists.intro (α := Int) | apply Exists.intro (α := Bool) | apply Exists.intro (α := ByteArray) | (apply Exists.intro (α := Option Addr); apply Exists.intro (α := Nat); apply Exists.intro (α := Nat)) | apply Exists.intro (α := Option Addr) | apply Exists.intro (α := Value)))
  refine ⟨rfl, ?_⟩
  refine h.allocZ fun q w' h => ?_
  refine h.stG fun w' h => ?_
  refine leti rfl (ifn (fun _ => ?_) fun e => by cases e)
  refine nilc ?_
  refine h.rdI2 0 6 ?_
  refine nilc ?_
  refine h.st2 0 6 fun w' h => ?_
  exact hk _ (h.sub (.cons .head (Sub.same _).more))
theorem alive23_ok (h : St c w L) {Q : Value → World → Prop} (hk : ∀ w', St c w' L → Q (.bool true) w') : CALL PG 16 [] w Q := by
  refine call16 ?_
  unfold N16
  refine usual_okC h fun w' h => ?_
  (repeat (first | apply Exists.intro (α := Int) | apply Exists.intro (α := Bool) | apply Exists.intro (α := ByteArray) | (apply Exists.intro (α := Option Addr); apply Exists.intro (α := Nat); apply Exists.intro (α := Nat)) | apply Exists.intro (α := Option Addr) | apply Exists.intro (α := Value)))
  refine ⟨rfl, ?_⟩
  refine RD.bld ?_
  (repeat (first | apply Exists.intro (α := Int) | apply Exists.intro (α := Bool) | apply Exists.intro (α := ByteArray) | (apply Exists.intro (α := Option Addr); apply Exists.intro (α := Nat); apply Exists.intro (α := Nat)) | apply Exists.intro (α := Option Addr) | apply Exists.intro (α := Value)))
  refine ⟨rfl, ?_⟩
  refine hnew_ok h usual (fun e => absurd usual_ok e) fun _ p r w' h => ?_
  (repeat (first | apply Exists.intro (α := Int) | apply Exists.intro (α := Bool) | apply Exists.intro (α := ByteArray) | (apply Exists.intro (α := Option Addr); apply Exists.intro (α := Nat); apply Exists.intro (α := Nat)) | apply Exists.intro (α := Option Addr) | apply Exists.intro (α := Value)))
  refine ⟨rfl, ?_⟩
  refine leti rfl (ifn (fun e => absurd rfl e) fun _ => iff_ rfl ?_)
  -- 80 is listened at
  refine call22 ?_
  unfold N22
  refine good_ok ?_
  (repeat (first | apply Exists.intro (α := Int) | apply Exists.intro (α := Bool) | apply Exists.intro (α := ByteArray) | (apply Exists.intro (α := Option Addr); apply Exists.intro (α := Nat); apply Exists.intro (α := Nat)) | apply Exists.intro (α := Option Addr) | apply Exists.intro (α := Value)))
  refine ⟨rfl, ?_⟩
  refine letb rfl (iff_ (by decide) ?_)
  refine listen0_ok h fun w' h => ?_
  (repeat (first | apply Exists.intro (α := Int) | apply Exists.intro (α := Bool) | apply Exists.intro (α := ByteArray) | (apply Exists.intro (α := Option Addr); apply Exists.intro (α := Nat); apply Exists.intro (α := Nat)) | apply Exists.intro (α := Option Addr) | apply Exists.intro (α := Value)))
  refine ⟨rfl, ?_⟩
  refine letb rfl (iff_ rfl ?_)
  have h := h.drew
  refine nilc (h.rdL 28 (nilc ?_))
  refine h.rdI2 10 0 ?_
  refine letb rfl (iff_ (by decide) ?_)
  refine nilc (h.rdL 28 ?_)
  refine RD.bld ?_
  (repeat (first | apply Exists.intro (α := Int) | apply Exists.intro (α := Bool) | apply Exists.intro (α := ByteArray) | (apply Exists.intro (α := Option Addr); apply Exists.intro (α := Nat); apply Exists.intro (α := Nat)) | apply Exists.intro (α := Option Addr) | apply Exists.intro (α := Value)))
  refine ⟨rfl, ?_⟩
  refine h.box fun q w' h => ?_
  have h := h.addOwnNil 100 1
  refine h.app1 huPorts tiPortp [.pointer (some ⟨q, 0, none⟩)] .head (by intro v hv; simp at hv; rw [hv]; rfl) (by decide) fun A d w' h => ?_
  refine nilc ?_
  refine h.st 28 fun w' h => ?_
  have h : St c w' (blk p 96 (hcs 0 usual 1 0 0 A 1 d r) :: own 100 1 A 1 d [.pointer (some ⟨q, 0, none⟩)] :: blk q 118 (prt 80) :: mp r [] :: L) := h
  (repeat (first | apply Exists.intro (α := Int) | apply Exists.intro (α := Bool) | apply Exists.intro (α := ByteArray) | (apply Exists.intro (α := Option Addr); apply Exists.intro (α := Nat); apply Exists.intro (α := Nat)) | apply Exists.intro (α := Option Addr) | apply Exists.intro (α := Value)))
  refine ⟨rfl, ?_⟩
  refine call22 ?_
  unfold N22
  refine good_ok ?_
  (repeat (first | apply Exists.intro (α := Int) | apply Exists.intro (α := Bool) | apply Exists.intro (α := ByteArray) | (apply Exists.intro (α := Option Addr); apply Exists.intro (α := Nat); apply Exists.intro (α := Nat)) | apply Exists.intro (α := Option Addr) | apply Exists.intro (α := Value)))
  refine ⟨rfl, ?_⟩
  refine letb rfl (iff_ (by decide) ?_)
  refine listen1_ok h fun w' h => ?_
  (repeat (first | apply Exists.intro (α := Int) | apply Exists.intro (α := Bool) | apply Exists.intro (α := ByteArray) | (apply Exists.intro (α := Option Addr); apply Exists.intro (α := Nat); apply Exists.intro (α := Nat)) | apply Exists.intro (α := Option Addr) | apply Exists.intro (α := Value)))
  refine ⟨rfl, ?_⟩
  refine letb rfl (ift rfl ?_)
  (repeat (first | apply Exists.intro (α := Int) | apply Exists.intro (α := Bool) | apply Exists.intro (α := ByteArray) | (apply Exists.intro (α := Option Addr); apply Exists.intro (α := Nat); apply Exists.intro (α := Nat)) | apply Exists.intro (α := Option Addr) | apply Exists.intro (α := Value)))
  refine ⟨rfl, ?_⟩
  refine leti rfl (leti rfl ?_)
  refine call34 ?_
  unfold N34
  refine listen1_ok h fun w' h => ?_
  (repeat (first | apply Exists.intro (α := Int) | apply Exists.intro (α := Bool) | apply Exists.intro (α := ByteArray) | (apply Exists.intro (α := Option Addr); apply Exists.intro (α := Nat); apply Exists.intro (α := Nat)) | apply Exists.intro (α := Option Addr) | apply Exists.intro (α := Value)))
  refine ⟨rfl, ?_⟩
  refine iff_ rfl ?_
  refine nilc (h.rdL 2 (ift rfl ?_))
  (repeat (first | apply Exists.intro (α := Int) | apply Exists.intro (α := Bool) | apply Exists.intro (α := ByteArray) | (apply Exists.intro (α := Option Addr); apply Exists.intro (α := Nat); apply Exists.intro (α := Nat)) | apply Exists.intro (α := Option Addr) | apply Exists.intro (α := Value)))
  refine ⟨rfl, ?_⟩
  refine leti rfl (leti rfl ?_)
  refine call17 ?_
  unfold N17
  refine good_ok ?_
  (repeat (first | apply Exists.intro (α := Int) | apply Exists.intro (α := Bool) | apply Exists.intro (α := ByteArray) | (apply Exists.intro (α := Option Addr); apply Exists.intro (α := Nat); apply Exists.intro (α := Nat)) | apply Exists.intro (α := Option Addr) | apply Exists.intro (α := Value)))
  refine ⟨rfl, ?_⟩
  refine iff_ (by decide) ?_
  refine good_ok ?_
  (repeat (first | apply Exists.intro (α := Int) | apply Exists.intro (α := Bool) | apply Exists.intro (α := ByteArray) | (apply Exists.intro (α := Option Addr); apply Exists.intro (α := Nat); apply Exists.intro (α := Nat)) | apply Exists.intro (α := Option Addr) | apply Exists.intro (α := Value)))
  refine ⟨rfl, ?_⟩
  refine iff_ (by decide) ?_
  refine listen1_ok h fun w' h => ?_
  (repeat (first | apply Exists.intro (α := Int) | apply Exists.intro (α := Bool) | apply Exists.intro (α := ByteArray) | (apply Exists.intro (α := Option Addr); apply Exists.intro (α := Nat); apply Exists.intro (α := Nat)) | apply Exists.intro (α := Option Addr) | apply Exists.intro (α := Value)))
  refine ⟨rfl, ?_⟩
  refine ift rfl ?_
  (repeat (first | apply Exists.intro (α := Int) | apply Exists.intro (α := Bool) | apply Exists.intro (α := ByteArray) | (apply Exists.intro (α := Option Addr); apply Exists.intro (α := Nat); apply Exists.intro (α := Nat)) | apply Exists.intro (α := Option Addr) | apply Exists.intro (α := Value)))
  refine ⟨rfl, ?_⟩
  refine leti rfl (leti rfl ?_)
  refine deliver0_ok h fun w' h => ⟨rfl, ?_⟩
  refine ift rfl (ift rfl (ift rfl (ift rfl ?_)))
  refine nilc ?_
  refine h.rdI2 0 6 ?_
  exact letb rfl (hk _ h.drop.drop.drop.drop)
theorem hostright_ok (h : St c w L) (g : Cfg) {Q : Value → World → Prop} (hk : ∀ w', St c w' L → Q (.bool true) w') : CALL PG 4 [cfgv g] w Q := by
  refine call4 ?_
  unfold N4
  refine h.box (vs := cfg g) fun q w' h => ?_
  refine h.rdG ?_
  (repeat (first | apply Exists.intro (α := Int) | apply Exists.intro (α := Bool) | apply Exists.intro (α := ByteArray) | (apply Exists.intro (α := Option Addr); apply Exists.intro (α := Nat); apply Exists.intro (α := Nat)) | apply Exists.intro (α := Option Addr) | apply Exists.intro (α := Value)))
  refine ⟨rfl, ?_⟩
  refine RD.bld ?_
  (repeat (first | apply Exists.intro (α := Int) | apply Exists.intro (α := Bool) | apply Exists.intro (α := ByteArray) | (apply Exists.intro (α := Option Addr); apply Exists.intro (α := Nat); apply Exists.intro (α := Nat)) | apply Exists.intro (α := Option Addr) | apply Exists.intro (α := Value)))
  refine ⟨rfl, ?_⟩
  have fin : ∀ {w'} {M : List SA}, St c w' (M ++ blk q 49 (cfg g) :: L) → CALL PG 16 [] w' fun v w'' => ∃ x : Bool, v = .bool x ∧ LETB x fun y => Q (.bool y) w'' := fun {w' M} h => by
    refine alive23_ok (St.dropA h).drop fun w' h => ?_
    exact ⟨_, rfl, letb rfl (hk _ h)⟩
  refine hnew_ok h g (fun hb w' h => ?_) fun hb p r w' h => ?_
  · (repeat (first | apply Exists.intro (α := Int) | apply Exists.intro (α := Bool) | apply Exists.intro (α := ByteArray) | (apply Exists.intro (α := Option Addr); apply Exists.intro (α := Nat); apply Exists.intro (α := Nat)) | apply Exists.intro (α := Option Addr) | apply Exists.intro (α := Value)))
    refine ⟨rfl, ?_⟩
    refine leti rfl ?_
    refine h.rdG ?_
    (repeat (first | apply Exists.intro (α := Int) | apply Exists.intro (α := Bool) | apply Exists.intro (α := ByteArray) | (apply Exists.intro (α := Option Addr); apply Exists.intro (α := Nat); apply Exists.intro (α := Nat)) | apply Exists.intro (α := Option Addr) | apply Exists.intro (α := Value)))
    refine ⟨rfl, ?_⟩
    refine rright_ok h g fun w' h => ?_
    (repeat (first | apply Exists.intro (α := Int) | apply Exists.intro (α := Bool) | apply Exists.intro (α := ByteArray) | (apply Exists.intro (α := Option Addr); apply Exists.intro (α := Nat); apply Exists.intro (α := Nat)) | apply Exists.intro (α := Option Addr) | apply Exists.intro (α := Value)))
    refine ⟨rfl, ?_⟩
    rw [decide_eq_false hb]
    refine iff_ rfl ?_
    refine h.rdG ?_
    (repeat (first | apply Exists.intro (α := Int) | apply Exists.intro (α := Bool) | apply Exists.intro (α := ByteArray) | (apply Exists.intro (α := Option Addr); apply Exists.intro (α := Nat); apply Exists.intro (α := Nat)) | apply Exists.intro (α := Option Addr) | apply Exists.intro (α := Value)))
    refine ⟨rfl, ?_⟩
    refine right_ok h g fun w' h => ?_
    (repeat (first | apply Exists.intro (α := Int) | apply Exists.intro (α := Bool) | apply Exists.intro (α := ByteArray) | (apply Exists.intro (α := Option Addr); apply Exists.intro (α := Nat); apply Exists.intro (α := Nat)) | apply Exists.intro (α := Option Addr) | apply Exists.intro (α := Value)))
    refine ⟨rfl, ?_⟩
    rw [if_neg hb]
    exact ift rfl (ift rfl (ift rfl (fin (M := []) h)))
  · (repeat (first | apply Exists.intro (α := Int) | apply Exists.intro (α := Bool) | apply Exists.intro (α := ByteArray) | (apply Exists.intro (α := Option Addr); apply Exists.intro (α := Nat); apply Exists.intro (α := Nat)) | apply Exists.intro (α := Option Addr) | apply Exists.intro (α := Value)))
    refine ⟨rfl, ?_⟩
    refine leti rfl ?_
    refine h.rdG ?_
    (repeat (first | apply Exists.intro (α := Int) | apply Exists.intro (α := Bool) | apply Exists.intro (α := ByteArray) | (apply Exists.intro (α := Option Addr); apply Exists.intro (α := Nat); apply Exists.intro (α := Nat)) | apply Exists.intro (α := Option Addr) | apply Exists.intro (α := Value)))
    refine ⟨rfl, ?_⟩
    refine rright_ok h g fun w' h => ?_
    (repeat (first | apply Exists.intro (α := Int) | apply Exists.intro (α := Bool) | apply Exists.intro (α := ByteArray) | (apply Exists.intro (α := Option Addr); apply Exists.intro (α := Nat); apply Exists.intro (α := Nat)) | apply Exists.intro (α := Option Addr) | apply Exists.intro (α := Value)))
    refine ⟨rfl, ?_⟩
    rw [decide_eq_true hb]
    refine ift rfl ?_
    refine h.rdG ?_
    (repeat (first | apply Exists.intro (α := Int) | apply Exists.intro (α := Bool) | apply Exists.intro (α := ByteArray) | (apply Exists.intro (α := Option Addr); apply Exists.intro (α := Nat); apply Exists.intro (α := Nat)) | apply Exists.intro (α := Option Addr) | apply Exists.intro (α := Value)))
    refine ⟨rfl, ?_⟩
    refine right_ok h g fun w' h => ?_
    (repeat (first | apply Exists.intro (α := Int) | apply Exists.intro (α := Bool) | apply Exists.intro (α := ByteArray) | (apply Exists.intro (α := Option Addr); apply Exists.intro (α := Nat); apply Exists.intro (α := Nat)) | apply Exists.intro (α := Option Addr) | apply Exists.intro (α := Value)))
    refine ⟨rfl, ?_⟩
    rw [if_pos hb]
    exact ift rfl (ift rfl (ift rfl (fin (M := [_, _]) h)))
end
end Go.Br
