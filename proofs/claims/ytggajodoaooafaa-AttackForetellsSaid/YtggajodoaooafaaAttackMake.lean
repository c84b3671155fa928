/- Segments that one sends who sees nothing: the program's and the document's say the same. -/
import Derived.Test.YtggajodoaooafaaNAttackMake
import Derived.Test.YtggajodoaooafaaJudge
set_option linter.unusedVariables false
set_option linter.unusedSimpArgs false
set_option linter.unnecessarySimpa false
namespace Go.Br
open Go
instance biAttackMakea (x0 : Int) (x1 : Int) (x2 : Int) (x3 : Int) (x4 : Int) : Bld PG (Instr.build 37 #[(0, .int .i64 x0), (1, .int .u32 x1), (2, .int .u32 x2), (3, .int .u32 x3), (4, .int .u32 x4)]) (.agg #[.int .i64 x0, .int .u32 x1, .int .u32 x2, .int .u32 x3, .int .u32 x4]) := ⟨fun w => by kernel_rfl⟩
instance biAttackMakeb : Zro PG 37 5 24 (.agg #[.int .i64 0, .int .u32 0, .int .u32 0, .int .u32 0, .int .u32 0]) := ⟨tiOf (by kernel_rfl)⟩
instance biAttackMakec : Zro PG 138 2 32 (.agg #[.int .u8 0, .slice none 0 0]) := ⟨tiOf (by kernel_rfl)⟩
instance biAttackMaked (x0 : Int) (x1 : Int) : Bld PG (Instr.build 47 #[(0, .int .u16 x0), (1, .int .u16 x1)]) (.agg #[.int .u16 x0, .int .u16 x1]) := ⟨fun w => by kernel_rfl⟩
instance biAttackMakee (x0 : Int) (x1 : Int) : Bld PG (Instr.build 28 #[(2, .int .i64 x0), (6, .int .u32 x1)]) (.agg #[.int .i64 0, .int .u16 0, .int .u16 0, .int .i64 0, .int .i64 x0, .int .u32 0, .int .u32 0, .int .u32 0, .int .u32 x1, .bool false, .bool false, .int .i64 0, .int .i64 0, .int .i64 0, .int .i64 0, .int .i64 0, .int .i64 0]) := ⟨fun w => by kernel_rfl⟩
instance biAttackMakef : Zro PG 32 7 64 (.agg #[.int .u16 0, .int .u16 0, .int .u32 0, .int .u32 0, .int .u8 0, .slice none 0 0, .slice none 0 0]) := ⟨tiOf (by kernel_rfl)⟩
instance biAttackMakeg (x0 : Int) (x1 : Int) (x2 : Int) (x3 : Int) : Bld PG (Instr.build 32 #[(0, .int .u16 x0), (1, .int .u16 x1), (2, .int .u32 x2), (3, .int .u32 x3)]) (.agg #[.int .u16 x0, .int .u16 x1, .int .u32 x2, .int .u32 x3, .int .u8 0, .slice none 0 0, .slice none 0 0]) := ⟨fun w => by kernel_rfl⟩
instance biAttackMakeh (x0 : Int) : Bld PG (Instr.build 148 #[(0, .int .u64 x0)]) (.agg #[.int .u64 x0, .bool false, .int .u64 0]) := ⟨fun w => by kernel_rfl⟩
instance biAttackMakei (x0 : Int) (x1 : Bool) : Bld PG (Instr.build 148 #[(0, .int .u64 x0), (1, .bool x1)]) (.agg #[.int .u64 x0, .bool x1, .int .u64 0]) := ⟨fun w => by kernel_rfl⟩
instance biAttackMakej (x0 : Int) (x1 : Int) : Bld PG (Instr.build 151 #[(2, .int .u64 x0), (3, .int .u64 x1)]) (.agg #[.bool false, .bool false, .int .u64 x0, .int .u64 x1, .int .u32 0, .int .u64 0]) := ⟨fun w => by kernel_rfl⟩
instance biAttackMakek : Bld PG (Instr.build 151 #[]) (.agg #[.bool false, .bool false, .int .u64 0, .int .u64 0, .int .u32 0, .int .u64 0]) := ⟨fun w => by kernel_rfl⟩
instance biAttackMakel (x0 : Int) (x1 : Int) : Bld PG (Instr.build 153 #[(0, .int .u8 x0), (1, .int .u32 x1)]) (.agg #[.int .u8 x0, .int .u32 x1, .int .u8 0, .int .u8 0, .bool false, .int .u64 0]) := ⟨fun w => by kernel_rfl⟩
instance biAttackMakem (x0 : Int) (x1 : Int) (x2 : Int) (x3 : Int) (x4 : Int) : Bld PG (Instr.build 32 #[(0, .int .u16 x0), (1, .int .u16 x1), (2, .int .u32 x2), (3, .int .u32 x3), (4, .int .u8 x4)]) (.agg #[.int .u16 x0, .int .u16 x1, .int .u32 x2, .int .u32 x3, .int .u8 x4, .slice none 0 0, .slice none 0 0]) := ⟨fun w => by kernel_rfl⟩
instance biAttackMaken (x0 : Int) (x1 : Option Addr) (n1 c1 : Nat) : Bld PG (Instr.build 138 #[(0, .int .u8 x0), (1, .slice x1 n1 c1)]) (.agg #[.int .u8 x0, .slice x1 n1 c1]) := ⟨fun w => by kernel_rfl⟩
instance biAttackMakeo (x0 : Int) (x1 : Int) : Bld PG (Instr.build 158 #[(2, .int .u64 x0), (3, .int .u64 x1)]) (.agg #[.bool false, .bool false, .int .u64 x0, .int .u64 x1, .int .u32 0, .int .u64 0]) := ⟨fun w => by kernel_rfl⟩
instance biAttackMakep : Bld PG (Instr.build 158 #[]) (.agg #[.bool false, .bool false, .int .u64 0, .int .u64 0, .int .u32 0, .int .u64 0]) := ⟨fun w => by kernel_rfl⟩
instance biAttackMakeq (x0 : Int) : Bld PG (Instr.build 161 #[(0, .int .u32 x0)]) (.agg #[.int .u32 x0, .int .u8 0, .int .u8 0, .bool false, .int .u64 0]) := ⟨fun w => by kernel_rfl⟩
attribute [local irreducible] Addr.add RD RDS RUN RUNU NILC LETB CALL CALLX CALLV

theorem tiSgmA : TI PG 32 7 64 (.agg #[.int .u16 0, .int .u16 0, .int .u32 0, .int .u32 0, .int .u8 0, .slice none 0 0, .slice none 0 0]) := tiOf (by kernel_rfl)
theorem huSgm : PG.underlying 53 = some (.slice 32) := by kernel_rfl
structure Stt where
  endsPath : Int
  endsLocal : Int
  endsRemote : Int
  id : Int
  state : Int
  first : Int
  acked : Int
  next : Int
  wait : Int
  backup : Bool
  bad : Bool
  points : Int
  tokens : Int
  patience : Int
  backs : Int
  size : Int
  under : Int
def stt (x : Stt) : List Value := [.int .i64 x.endsPath, .int .u16 x.endsLocal, .int .u16 x.endsRemote, .int .i64 x.id, .int .i64 x.state, .int .u32 x.first, .int .u32 x.acked, .int .u32 x.next, .int .u32 x.wait, .bool x.backup, .bool x.bad, .int .i64 x.points, .int .i64 x.tokens, .int .i64 x.patience, .int .i64 x.backs, .int .i64 x.size, .int .i64 x.under]
abbrev sttv (x : Stt) : Value := .agg #[.int .i64 x.endsPath, .int .u16 x.endsLocal, .int .u16 x.endsRemote, .int .i64 x.id, .int .i64 x.state, .int .u32 x.first, .int .u32 x.acked, .int .u32 x.next, .int .u32 x.wait, .bool x.backup, .bool x.bad, .int .i64 x.points, .int .i64 x.tokens, .int .i64 x.patience, .int .i64 x.backs, .int .i64 x.size, .int .i64 x.under]
theorem stt_length (x : Stt) : (stt x).length = 17 := rfl
theorem stt_flat1 (x : Stt) : Flat (stt x) := by intro v hv; simp [stt] at hv; rcases hv with rfl | rfl | rfl | rfl | rfl | rfl | rfl | rfl | rfl | rfl | rfl | rfl | rfl | rfl | rfl | rfl | rfl <;> rfl
theorem stt_flat (L : List Stt) : Flat (L.flatMap stt) := by
  intro v hv
  simp only [List.mem_flatMap] at hv
  obtain ⟨x, _, hx⟩ := hv
  exact stt_flat1 x v hx
def mkSg (kind loc rem seq ack : Int) (data : List UInt8) : SgP :=
  if kind = 1 then ⟨rem, loc, seq, ack, 4, [], []⟩
  else if kind = 2 then ⟨rem, loc, seq, ack, 1, [(1, keyB 1 0 false)], []⟩
  else if kind = 3 then ⟨rem, loc, seq, ack, 3, [(1, keyB 1 0 true)], []⟩
  else if kind = 4 then ⟨rem, loc, seq, ack, 2, [(3, dataB false false seq ack 0 0)], data.take 1024⟩
  else if kind = 6 then ⟨rem, loc, seq, ack, 2, [(3, dataB false false 0 0 0 0), (7, wordB ack 0 0 false 0)], []⟩
  else ⟨rem, loc, seq, ack, 2, [], []⟩
section
variable {c : Ctx} {w : World} {L R : List SA}
theorem sgp_mk (s : Sg) (h : St c w (rows s.oA (s.os.flatMap opx) :: Br.ro (fun w => ∀ o ∈ s.os, Row w o.body (bvs o.bodys)) :: rows s.dA (bvs s.ds) :: L)) : St c w (sgp s :: L) := by
  have h := h.mergeRo
  have h := h.mergeRo
  exact h.roW fun w hw => ⟨hw.1.1, hw.1.2, hw.2⟩
theorem St.ro1 {o : Opx} (h : St c w (opp o :: L)) : St c w (Br.ro (fun w => ∀ x ∈ [o], Row w x.body (bvs x.bodys)) :: L) := h.roW fun w hw x hx => by simp at hx; subst hx; exact hw
theorem St.ro2 {o p : Opx} (h : St c w (opp o :: opp p :: L)) : St c w (Br.ro (fun w => ∀ x ∈ [o, p], Row w x.body (bvs x.bodys)) :: L) := h.mergeRo.roW fun w hw x hx => by
  simp at hx
  rcases hx with rfl | rfl
  · exact hw.1
  · exact hw.2
theorem St.ro0 (h : St c w L) : St c w (Br.ro (fun w => ∀ x ∈ ([] : List Opx), Row w x.body (bvs x.bodys)) :: L) := h.addNil fun w x hx => by cases hx
theorem amake_ok (h : St c w L) {kind loc rem seq ack : Int} {A : Option Addr} {C : Nat} {bs : List UInt8} (hd : RdIn L A (bvs bs)) (hbl : bs.length ≤ 10000) (hC : bs.length ≤ C) (hs : U32 seq) (ha : U32 ack) {Q : Value → World → Prop}
    (hk : ∀ s w', s.pl = mkSg kind loc rem seq ack bs → St c w' (sgp s :: L) → Q (sgv s) w') : CALL PG 21 [.int .i64 kind, .agg #[.int .u16 loc, .int .u16 rem], .int .u32 seq, .int .u32 ack, .slice A bs.length C] w Q := by
  obtain ⟨s0, s1⟩ := hs
  obtain ⟨a0, a1⟩ := ha
  refine call21 ?_
  unfold N21
  repeat' (first
    | refine nilc ?_
    | refine h.rdI _ ?_
    | refine h.rdB _ ?_
    | refine h.rdP _ ?_
    | refine h.rdL _ ?_
    | refine h.rdT _ ?_
    | refine h.rdI2 _ _ ?_
    | refine h.rdB2 _ _ ?_
    | refine h.rdP2 _ _ ?_
    | refine h.rdL2 _ _ ?_
    | refine h.st2 _ _ fun w' h => ?_
    | refine h.st _ fun w' h => ?_
    | refine h.rdvI ?_
    | refine h.rdvB ?_
    | refine h.rdvP ?_
    | refine h.rdvL ?_
    | refine h.rdvT ?_
    | (refine h.rdG ?_; (repeat (first | apply Exists.intro (α := Int) | apply Exists.intro (α := Bool) | apply Exists.intro (α := ByteArray) | (apply Exists.intro (α := Option Addr); apply Exists.intro (α := Nat); apply Exists.intro (α := Nat)) | apply Exists.intro (α := Option Addr) | apply Exists.intro (α := Value))); refine ⟨rfl, ?_⟩)
    | refine h.stG fun w' h => ?_
    | refine h.stV fun w' h => ?_
    | refine h.box fun p w' h => ?_
    | refine h.boxV fun p w' h => ?_
    | refine h.allocZ fun p w' h => ?_
    | refine h.allocZV fun p w' h => ?_
    | (refine RD.bld ?_; (repeat (first | apply Exists.intro (α := Int) | apply Exists.intro (α := Bool) | apply Exists.intro (α := ByteArray) | (apply Exists.intro (α := Option Addr); apply Exists.intro (α := Nat); apply Exists.intro (α := Nat)) | apply Exists.intro (α := Option Addr) | apply Exists.intro (α := Value))); refine ⟨rfl, ?_⟩)
    | (refine RDS.bld ?_; (repeat (first | apply Exists.intro (α := Int) | apply Exists.intro (α := Bool) | apply Exists.intro (α := ByteArray) | (apply Exists.intro (α := Option Addr); apply Exists.intro (α := Nat); apply Exists.intro (α := Nat)) | apply Exists.intro (α := Option Addr) | apply Exists.intro (α := Value))); refine ⟨rfl, ?_⟩)
    | refine St.rdsI _ ?_
    | refine St.rdsB _ ?_
    | refine St.rdsP _ ?_
    | refine St.rdsL _ ?_
    | refine St.rdsT _ ?_
    | refine St.rdsI2 _ _ ?_
    | refine St.rdsB2 _ _ ?_
    | (refine St.rdsG ?_; (repeat (first | apply Exists.intro (α := Int) | apply Exists.intro (α := Bool) | apply Exists.intro (α := ByteArray) | (apply Exists.intro (α := Option Addr); apply Exists.intro (α := Nat); apply Exists.intro (α := Nat)) | apply Exists.intro (α := Option Addr) | apply Exists.intro (α := Value))); refine ⟨rfl, ?_⟩)
    | refine letb rfl ?_
    | refine sat h ?_
    | (have h := h.drew; refine sat h ?_)
    | refine sat1 h (fun _ h => h.to) ?_)
  refine ifq (fun h1 => ?_) fun h1 => ?_
  · repeat' (first
      | refine nilc ?_
      | refine h.rdI _ ?_
      | refine h.rdB _ ?_
      | refine h.rdP _ ?_
      | refine h.rdL _ ?_
      | refine h.rdT _ ?_
      | refine h.rdI2 _ _ ?_
      | refine h.rdB2 _ _ ?_
      | refine h.rdP2 _ _ ?_
      | refine h.rdL2 _ _ ?_
      | refine h.st2 _ _ fun w' h => ?_
      | refine h.st _ fun w' h => ?_
      | refine h.rdvI ?_
      | refine h.rdvB ?_
      | refine h.rdvP ?_
      | refine h.rdvL ?_
      | refine h.rdvT ?_
      | (refine h.rdG ?_; (repeat (first | apply Exists.intro (α := Int) | apply Exists.intro (α := Bool) | apply Exists.intro (α := ByteArray) | (apply Exists.intro (α := Option Addr); apply Exists.intro (α := Nat); apply Exists.intro (α := Nat)) | apply Exists.intro (α := Option Addr) | apply Exists.intro (α := Value))); refine ⟨rfl, ?_⟩)
      | refine h.stG fun w' h => ?_
      | refine h.stV fun w' h => ?_
      | refine h.box fun p w' h => ?_
      | refine h.boxV fun p w' h => ?_
      | refine h.allocZ fun p w' h => ?_
      | refine h.allocZV fun p w' h => ?_
      | (refine RD.bld ?_; (repeat (first | apply Exists.intro (α := Int) | apply Exists.intro (α := Bool) | apply Exists.intro (α := ByteArray) | (apply Exists.intro (α := Option Addr); apply Exists.intro (α := Nat); apply Exists.intro (α := Nat)) | apply Exists.intro (α := Option Addr) | apply Exists.intro (α := Value))); refine ⟨rfl, ?_⟩)
      | (refine RDS.bld ?_; (repeat (first | apply Exists.intro (α := Int) | apply Exists.intro (α := Bool) | apply Exists.intro (α := ByteArray) | (apply Exists.intro (α := Option Addr); apply Exists.intro (α := Nat); apply Exists.intro (α := Nat)) | apply Exists.intro (α := Option Addr) | apply Exists.intro (α := Value))); refine ⟨rfl, ?_⟩)
      | refine St.rdsI _ ?_
      | refine St.rdsB _ ?_
      | refine St.rdsP _ ?_
      | refine St.rdsL _ ?_
      | refine St.rdsT _ ?_
      | refine St.rdsI2 _ _ ?_
      | refine St.rdsB2 _ _ ?_
      | (refine St.rdsG ?_; (repeat (first | apply Exists.intro (α := Int) | apply Exists.intro (α := Bool) | apply Exists.intro (α := ByteArray) | (apply Exists.intro (α := Option Addr); apply Exists.intro (α := Nat); apply Exists.intro (α := Nat)) | apply Exists.intro (α := Option Addr) | apply Exists.intro (α := Value))); refine ⟨rfl, ?_⟩)
      | refine letb rfl ?_
      | refine sat h ?_
      | (have h := h.drew; refine sat h ?_)
      | refine sat1 h (fun _ h => h.to) ?_)
    exact hk ⟨rem, loc, seq, ack, 4, none, 0, [], none, 0, []⟩ _ (by simp [mkSg, h1, Sg.pl]) (sgp_mk _ ((((h.to : St c _ L).addNil fun w => Row.nil w none).ro0).addNil fun w => Row.nil w none))
  repeat' (first
    | refine nilc ?_
    | refine h.rdI _ ?_
    | refine h.rdB _ ?_
    | refine h.rdP _ ?_
    | refine h.rdL _ ?_
    | refine h.rdT _ ?_
    | refine h.rdI2 _ _ ?_
    | refine h.rdB2 _ _ ?_
    | refine h.rdP2 _ _ ?_
    | refine h.rdL2 _ _ ?_
    | refine h.st2 _ _ fun w' h => ?_
    | refine h.st _ fun w' h => ?_
    | refine h.rdvI ?_
    | refine h.rdvB ?_
    | refine h.rdvP ?_
    | refine h.rdvL ?_
    | refine h.rdvT ?_
    | (refine h.rdG ?_; (repeat (first | apply Exists.intro (α := Int) | apply Exists.intro (α := Bool) | apply Exists.intro (α := ByteArray) | (apply Exists.intro (α := Option Addr); apply Exists.intro (α := Nat); apply Exists.intro (α := Nat)) | apply Exists.intro (α := Option Addr) | apply Exists.intro (α := Value))); refine ⟨rfl, ?_⟩)
    | refine h.stG fun w' h => ?_
    | refine h.stV fun w' h => ?_
    | refine h.box fun p w' h => ?_
    | refine h.boxV fun p w' h => ?_
    | refine h.allocZ fun p w' h => ?_
    | refine h.allocZV fun p w' h => ?_
    | (refine RD.bld ?_; (repeat (first | apply Exists.intro (α := Int) | apply Exists.intro (α := Bool) | apply Exists.intro (α := ByteArray) | (apply Exists.intro (α := Option Addr); apply Exists.intro (α := Nat); apply Exists.intro (α := Nat)) | apply Exists.intro (α := Option Addr) | apply Exists.intro (α := Value))); refine ⟨rfl, ?_⟩)
    | (refine RDS.bld ?_; (repeat (first | apply Exists.intro (α := Int) | apply Exists.intro (α := Bool) | apply Exists.intro (α := ByteArray) | (apply Exists.intro (α := Option Addr); apply Exists.intro (α := Nat); apply Exists.intro (α := Nat)) | apply Exists.intro (α := Option Addr) | apply Exists.intro (α := Value))); refine ⟨rfl, ?_⟩)
    | refine St.rdsI _ ?_
    | refine St.rdsB _ ?_
    | refine St.rdsP _ ?_
    | refine St.rdsL _ ?_
    | refine St.rdsT _ ?_
    | refine St.rdsI2 _ _ ?_
    | refine St.rdsB2 _ _ ?_
    | (refine St.rdsG ?_; (repeat (first | apply Exists.intro (α := Int) | apply Exists.intro (α := Bool) | apply Exists.intro (α := ByteArray) | (apply Exists.intro (α := Option Addr); apply Exists.intro (α := Nat); apply Exists.intro (α := Nat)) | apply Exists.intro (α := Option Addr) | apply Exists.intro (α := Value))); refine ⟨rfl, ?_⟩)
    | refine letb rfl ?_
    | refine sat h ?_
    | (have h := h.drew; refine sat h ?_)
    | refine sat1 h (fun _ h => h.to) ?_)
  refine ifq (fun h2 => ?_) fun h2 => ?_
  · repeat' (first
      | refine nilc ?_
      | refine h.rdI _ ?_
      | refine h.rdB _ ?_
      | refine h.rdP _ ?_
      | refine h.rdL _ ?_
      | refine h.rdT _ ?_
      | refine h.rdI2 _ _ ?_
      | refine h.rdB2 _ _ ?_
      | refine h.rdP2 _ _ ?_
      | refine h.rdL2 _ _ ?_
      | refine h.st2 _ _ fun w' h => ?_
      | refine h.st _ fun w' h => ?_
      | refine h.rdvI ?_
      | refine h.rdvB ?_
      | refine h.rdvP ?_
      | refine h.rdvL ?_
      | refine h.rdvT ?_
      | (refine h.rdG ?_; (repeat (first | apply Exists.intro (α := Int) | apply Exists.intro (α := Bool) | apply Exists.intro (α := ByteArray) | (apply Exists.intro (α := Option Addr); apply Exists.intro (α := Nat); apply Exists.intro (α := Nat)) | apply Exists.intro (α := Option Addr) | apply Exists.intro (α := Value))); refine ⟨rfl, ?_⟩)
      | refine h.stG fun w' h => ?_
      | refine h.stV fun w' h => ?_
      | refine h.box fun p w' h => ?_
      | refine h.boxV fun p w' h => ?_
      | refine h.allocZ fun p w' h => ?_
      | refine h.allocZV fun p w' h => ?_
      | (refine RD.bld ?_; (repeat (first | apply Exists.intro (α := Int) | apply Exists.intro (α := Bool) | apply Exists.intro (α := ByteArray) | (apply Exists.intro (α := Option Addr); apply Exists.intro (α := Nat); apply Exists.intro (α := Nat)) | apply Exists.intro (α := Option Addr) | apply Exists.intro (α := Value))); refine ⟨rfl, ?_⟩)
      | (refine RDS.bld ?_; (repeat (first | apply Exists.intro (α := Int) | apply Exists.intro (α := Bool) | apply Exists.intro (α := ByteArray) | (apply Exists.intro (α := Option Addr); apply Exists.intro (α := Nat); apply Exists.intro (α := Nat)) | apply Exists.intro (α := Option Addr) | apply Exists.intro (α := Value))); refine ⟨rfl, ?_⟩)
      | refine St.rdsI _ ?_
      | refine St.rdsB _ ?_
      | refine St.rdsP _ ?_
      | refine St.rdsL _ ?_
      | refine St.rdsT _ ?_
      | refine St.rdsI2 _ _ ?_
      | refine St.rdsB2 _ _ ?_
      | (refine St.rdsG ?_; (repeat (first | apply Exists.intro (α := Int) | apply Exists.intro (α := Bool) | apply Exists.intro (α := ByteArray) | (apply Exists.intro (α := Option Addr); apply Exists.intro (α := Nat); apply Exists.intro (α := Nat)) | apply Exists.intro (α := Option Addr) | apply Exists.intro (α := Value))); refine ⟨rfl, ?_⟩)
      | refine letb rfl ?_
      | refine sat h ?_
      | (have h := h.drew; refine sat h ?_)
      | refine sat1 h (fun _ h => h.to) ?_)
    refine okey_ok h (by decide) (by decide) (by decide) (by decide) fun o w' ho h => ?_
    (repeat (first | apply Exists.intro (α := Int) | apply Exists.intro (α := Bool) | apply Exists.intro (α := ByteArray) | (apply Exists.intro (α := Option Addr); apply Exists.intro (α := Nat); apply Exists.intro (α := Nat)) | apply Exists.intro (α := Option Addr) | apply Exists.intro (α := Value)))
    refine ⟨rfl, ?_⟩
    repeat' (first
      | refine nilc ?_
      | refine h.rdI _ ?_
      | refine h.rdB _ ?_
      | refine h.rdP _ ?_
      | refine h.rdL _ ?_
      | refine h.rdT _ ?_
      | refine h.rdI2 _ _ ?_
      | refine h.rdB2 _ _ ?_
      | refine h.rdP2 _ _ ?_
      | refine h.rdL2 _ _ ?_
      | refine h.st2 _ _ fun w' h => ?_
      | refine h.st _ fun w' h => ?_
      | refine h.rdvI ?_
      | refine h.rdvB ?_
      | refine h.rdvP ?_
      | refine h.rdvL ?_
      | refine h.rdvT ?_
      | (refine h.rdG ?_; (repeat (first | apply Exists.intro (α := Int) | apply Exists.intro (α := Bool) | apply Exists.intro (α := ByteArray) | (apply Exists.intro (α := Option Addr); apply Exists.intro (α := Nat); apply Exists.intro (α := Nat)) | apply Exists.intro (α := Option Addr) | apply Exists.intro (α := Value))); refine ⟨rfl, ?_⟩)
      | refine h.stG fun w' h => ?_
      | refine h.stV fun w' h => ?_
      | refine h.box fun p w' h => ?_
      | refine h.boxV fun p w' h => ?_
      | refine h.allocZ fun p w' h => ?_
      | refine h.allocZV fun p w' h => ?_
      | (refine RD.bld ?_; (repeat (first | apply Exists.intro (α := Int) | apply Exists.intro (α := Bool) | apply Exists.intro (α := ByteArray) | (apply Exists.intro (α := Option Addr); apply Exists.intro (α := Nat); apply Exists.intro (α := Nat)) | apply Exists.intro (α := Option Addr) | apply Exists.intro (α := Value))); refine ⟨rfl, ?_⟩)
      | (refine RDS.bld ?_; (repeat (first | apply Exists.intro (α := Int) | apply Exists.intro (α := Bool) | apply Exists.intro (α := ByteArray) | (apply Exists.intro (α := Option Addr); apply Exists.intro (α := Nat); apply Exists.intro (α := Nat)) | apply Exists.intro (α := Option Addr) | apply Exists.intro (α := Value))); refine ⟨rfl, ?_⟩)
      | refine St.rdsI _ ?_
      | refine St.rdsB _ ?_
      | refine St.rdsP _ ?_
      | refine St.rdsL _ ?_
      | refine St.rdsT _ ?_
      | refine St.rdsI2 _ _ ?_
      | refine St.rdsB2 _ _ ?_
      | (refine St.rdsG ?_; (repeat (first | apply Exists.intro (α := Int) | apply Exists.intro (α := Bool) | apply Exists.intro (α := ByteArray) | (apply Exists.intro (α := Option Addr); apply Exists.intro (α := Nat); apply Exists.intro (α := Nat)) | apply Exists.intro (α := Option Addr) | apply Exists.intro (α := Value))); refine ⟨rfl, ?_⟩)
      | refine letb rfl ?_
      | refine sat h ?_
      | (have h := h.drew; refine sat h ?_)
      | refine sat1 h (fun _ h => h.to) ?_)
    refine h.lit (n := 1) 138 2 ([o].flatMap opx) fun q w' h => ?_
    repeat' (first
      | refine nilc ?_
      | refine h.rdI _ ?_
      | refine h.rdB _ ?_
      | refine h.rdP _ ?_
      | refine h.rdL _ ?_
      | refine h.rdT _ ?_
      | refine h.rdI2 _ _ ?_
      | refine h.rdB2 _ _ ?_
      | refine h.rdP2 _ _ ?_
      | refine h.rdL2 _ _ ?_
      | refine h.st2 _ _ fun w' h => ?_
      | refine h.st _ fun w' h => ?_
      | refine h.rdvI ?_
      | refine h.rdvB ?_
      | refine h.rdvP ?_
      | refine h.rdvL ?_
      | refine h.rdvT ?_
      | (refine h.rdG ?_; (repeat (first | apply Exists.intro (α := Int) | apply Exists.intro (α := Bool) | apply Exists.intro (α := ByteArray) | (apply Exists.intro (α := Option Addr); apply Exists.intro (α := Nat); apply Exists.intro (α := Nat)) | apply Exists.intro (α := Option Addr) | apply Exists.intro (α := Value))); refine ⟨rfl, ?_⟩)
      | refine h.stG fun w' h => ?_
      | refine h.stV fun w' h => ?_
      | refine h.box fun p w' h => ?_
      | refine h.boxV fun p w' h => ?_
      | refine h.allocZ fun p w' h => ?_
      | refine h.allocZV fun p w' h => ?_
      | (refine RD.bld ?_; (repeat (first | apply Exists.intro (α := Int) | apply Exists.intro (α := Bool) | apply Exists.intro (α := ByteArray) | (apply Exists.intro (α := Option Addr); apply Exists.intro (α := Nat); apply Exists.intro (α := Nat)) | apply Exists.intro (α := Option Addr) | apply Exists.intro (α := Value))); refine ⟨rfl, ?_⟩)
      | (refine RDS.bld ?_; (repeat (first | apply Exists.intro (α := Int) | apply Exists.intro (α := Bool) | apply Exists.intro (α := ByteArray) | (apply Exists.intro (α := Option Addr); apply Exists.intro (α := Nat); apply Exists.intro (α := Nat)) | apply Exists.intro (α := Option Addr) | apply Exists.intro (α := Value))); refine ⟨rfl, ?_⟩)
      | refine St.rdsI _ ?_
      | refine St.rdsB _ ?_
      | refine St.rdsP _ ?_
      | refine St.rdsL _ ?_
      | refine St.rdsT _ ?_
      | refine St.rdsI2 _ _ ?_
      | refine St.rdsB2 _ _ ?_
      | (refine St.rdsG ?_; (repeat (first | apply Exists.intro (α := Int) | apply Exists.intro (α := Bool) | apply Exists.intro (α := ByteArray) | (apply Exists.intro (α := Option Addr); apply Exists.intro (α := Nat); apply Exists.intro (α := Nat)) | apply Exists.intro (α := Option Addr) | apply Exists.intro (α := Value))); refine ⟨rfl, ?_⟩)
      | refine letb rfl ?_
      | refine sat h ?_
      | (have h := h.drew; refine sat h ?_)
      | refine sat1 h (fun _ h => h.to) ?_)
    refine sof_ok h (s := ⟨rem, loc, seq, ack, 1, none, 0, [], none, 0, []⟩) (os := [o]) (RdIn.own .head) (by simp) fun O k w' h => ?_
    (repeat (first | apply Exists.intro (α := Int) | apply Exists.intro (α := Bool) | apply Exists.intro (α := ByteArray) | (apply Exists.intro (α := Option Addr); apply Exists.intro (α := Nat); apply Exists.intro (α := Nat)) | apply Exists.intro (α := Option Addr) | apply Exists.intro (α := Value)))
    refine ⟨rfl, ?_⟩
    repeat' (first
      | refine nilc ?_
      | refine h.rdI _ ?_
      | refine h.rdB _ ?_
      | refine h.rdP _ ?_
      | refine h.rdL _ ?_
      | refine h.rdT _ ?_
      | refine h.rdI2 _ _ ?_
      | refine h.rdB2 _ _ ?_
      | refine h.rdP2 _ _ ?_
      | refine h.rdL2 _ _ ?_
      | refine h.st2 _ _ fun w' h => ?_
      | refine h.st _ fun w' h => ?_
      | refine h.rdvI ?_
      | refine h.rdvB ?_
      | refine h.rdvP ?_
      | refine h.rdvL ?_
      | refine h.rdvT ?_
      | (refine h.rdG ?_; (repeat (first | apply Exists.intro (α := Int) | apply Exists.intro (α := Bool) | apply Exists.intro (α := ByteArray) | (apply Exists.intro (α := Option Addr); apply Exists.intro (α := Nat); apply Exists.intro (α := Nat)) | apply Exists.intro (α := Option Addr) | apply Exists.intro (α := Value))); refine ⟨rfl, ?_⟩)
      | refine h.stG fun w' h => ?_
      | refine h.stV fun w' h => ?_
      | refine h.box fun p w' h => ?_
      | refine h.boxV fun p w' h => ?_
      | refine h.allocZ fun p w' h => ?_
      | refine h.allocZV fun p w' h => ?_
      | (refine RD.bld ?_; (repeat (first | apply Exists.intro (α := Int) | apply Exists.intro (α := Bool) | apply Exists.intro (α := ByteArray) | (apply Exists.intro (α := Option Addr); apply Exists.intro (α := Nat); apply Exists.intro (α := Nat)) | apply Exists.intro (α := Option Addr) | apply Exists.intro (α := Value))); refine ⟨rfl, ?_⟩)
      | (refine RDS.bld ?_; (repeat (first | apply Exists.intro (α := Int) | apply Exists.intro (α := Bool) | apply Exists.intro (α := ByteArray) | (apply Exists.intro (α := Option Addr); apply Exists.intro (α := Nat); apply Exists.intro (α := Nat)) | apply Exists.intro (α := Option Addr) | apply Exists.intro (α := Value))); refine ⟨rfl, ?_⟩)
      | refine St.rdsI _ ?_
      | refine St.rdsB _ ?_
      | refine St.rdsP _ ?_
      | refine St.rdsL _ ?_
      | refine St.rdsT _ ?_
      | refine St.rdsI2 _ _ ?_
      | refine St.rdsB2 _ _ ?_
      | (refine St.rdsG ?_; (repeat (first | apply Exists.intro (α := Int) | apply Exists.intro (α := Bool) | apply Exists.intro (α := ByteArray) | (apply Exists.intro (α := Option Addr); apply Exists.intro (α := Nat); apply Exists.intro (α := Nat)) | apply Exists.intro (α := Option Addr) | apply Exists.intro (α := Value))); refine ⟨rfl, ?_⟩)
      | refine letb rfl ?_
      | refine sat h ?_
      | (have h := h.drew; refine sat h ?_)
      | refine sat1 h (fun _ h => h.to) ?_)
    refine hk ⟨rem, loc, seq, ack, 1, O, k, [o], none, 0, []⟩ _ (by simp [mkSg, h2, Sg.pl, ho]) (sgp_mk _ ?_)
    have h : St c _ (opp o :: own 138 2 O [o].length k ([o].flatMap opx) :: L) := h.to
    exact (h.ro1.swap.ownRows.addNil fun w => Row.nil w none).to
  repeat' (first
    | refine nilc ?_
    | refine h.rdI _ ?_
    | refine h.rdB _ ?_
    | refine h.rdP _ ?_
    | refine h.rdL _ ?_
    | refine h.rdT _ ?_
    | refine h.rdI2 _ _ ?_
    | refine h.rdB2 _ _ ?_
    | refine h.rdP2 _ _ ?_
    | refine h.rdL2 _ _ ?_
    | refine h.st2 _ _ fun w' h => ?_
    | refine h.st _ fun w' h => ?_
    | refine h.rdvI ?_
    | refine h.rdvB ?_
    | refine h.rdvP ?_
    | refine h.rdvL ?_
    | refine h.rdvT ?_
    | (refine h.rdG ?_; (repeat (first | apply Exists.intro (α := Int) | apply Exists.intro (α := Bool) | apply Exists.intro (α := ByteArray) | (apply Exists.intro (α := Option Addr); apply Exists.intro (α := Nat); apply Exists.intro (α := Nat)) | apply Exists.intro (α := Option Addr) | apply Exists.intro (α := Value))); refine ⟨rfl, ?_⟩)
    | refine h.stG fun w' h => ?_
    | refine h.stV fun w' h => ?_
    | refine h.box fun p w' h => ?_
    | refine h.boxV fun p w' h => ?_
    | refine h.allocZ fun p w' h => ?_
    | refine h.allocZV fun p w' h => ?_
    | (refine RD.bld ?_; (repeat (first | apply Exists.intro (α := Int) | apply Exists.intro (α := Bool) | apply Exists.intro (α := ByteArray) | (apply Exists.intro (α := Option Addr); apply Exists.intro (α := Nat); apply Exists.intro (α := Nat)) | apply Exists.intro (α := Option Addr) | apply Exists.intro (α := Value))); refine ⟨rfl, ?_⟩)
    | (refine RDS.bld ?_; (repeat (first | apply Exists.intro (α := Int) | apply Exists.intro (α := Bool) | apply Exists.intro (α := ByteArray) | (apply Exists.intro (α := Option Addr); apply Exists.intro (α := Nat); apply Exists.intro (α := Nat)) | apply Exists.intro (α := Option Addr) | apply Exists.intro (α := Value))); refine ⟨rfl, ?_⟩)
    | refine St.rdsI _ ?_
    | refine St.rdsB _ ?_
    | refine St.rdsP _ ?_
    | refine St.rdsL _ ?_
    | refine St.rdsT _ ?_
    | refine St.rdsI2 _ _ ?_
    | refine St.rdsB2 _ _ ?_
    | (refine St.rdsG ?_; (repeat (first | apply Exists.intro (α := Int) | apply Exists.intro (α := Bool) | apply Exists.intro (α := ByteArray) | (apply Exists.intro (α := Option Addr); apply Exists.intro (α := Nat); apply Exists.intro (α := Nat)) | apply Exists.intro (α := Option Addr) | apply Exists.intro (α := Value))); refine ⟨rfl, ?_⟩)
    | refine letb rfl ?_
    | refine sat h ?_
    | (have h := h.drew; refine sat h ?_)
    | refine sat1 h (fun _ h => h.to) ?_)
  refine ifq (fun h3 => ?_) fun h3 => ?_
  · repeat' (first
      | refine nilc ?_
      | refine h.rdI _ ?_
      | refine h.rdB _ ?_
      | refine h.rdP _ ?_
      | refine h.rdL _ ?_
      | refine h.rdT _ ?_
      | refine h.rdI2 _ _ ?_
      | refine h.rdB2 _ _ ?_
      | refine h.rdP2 _ _ ?_
      | refine h.rdL2 _ _ ?_
      | refine h.st2 _ _ fun w' h => ?_
      | refine h.st _ fun w' h => ?_
      | refine h.rdvI ?_
      | refine h.rdvB ?_
      | refine h.rdvP ?_
      | refine h.rdvL ?_
      | refine h.rdvT ?_
      | (refine h.rdG ?_; (repeat (first | apply Exists.intro (α := Int) | apply Exists.intro (α := Bool) | apply Exists.intro (α := ByteArray) | (apply Exists.intro (α := Option Addr); apply Exists.intro (α := Nat); apply Exists.intro (α := Nat)) | apply Exists.intro (α := Option Addr) | apply Exists.intro (α := Value))); refine ⟨rfl, ?_⟩)
      | refine h.stG fun w' h => ?_
      | refine h.stV fun w' h => ?_
      | refine h.box fun p w' h => ?_
      | refine h.boxV fun p w' h => ?_
      | refine h.allocZ fun p w' h => ?_
      | refine h.allocZV fun p w' h => ?_
      | (refine RD.bld ?_; (repeat (first | apply Exists.intro (α := Int) | apply Exists.intro (α := Bool) | apply Exists.intro (α := ByteArray) | (apply Exists.intro (α := Option Addr); apply Exists.intro (α := Nat); apply Exists.intro (α := Nat)) | apply Exists.intro (α := Option Addr) | apply Exists.intro (α := Value))); refine ⟨rfl, ?_⟩)
      | (refine RDS.bld ?_; (repeat (first | apply Exists.intro (α := Int) | apply Exists.intro (α := Bool) | apply Exists.intro (α := ByteArray) | (apply Exists.intro (α := Option Addr); apply Exists.intro (α := Nat); apply Exists.intro (α := Nat)) | apply Exists.intro (α := Option Addr) | apply Exists.intro (α := Value))); refine ⟨rfl, ?_⟩)
      | refine St.rdsI _ ?_
      | refine St.rdsB _ ?_
      | refine St.rdsP _ ?_
      | refine St.rdsL _ ?_
      | refine St.rdsT _ ?_
      | refine St.rdsI2 _ _ ?_
      | refine St.rdsB2 _ _ ?_
      | (refine St.rdsG ?_; (repeat (first | apply Exists.intro (α := Int) | apply Exists.intro (α := Bool) | apply Exists.intro (α := ByteArray) | (apply Exists.intro (α := Option Addr); apply Exists.intro (α := Nat); apply Exists.intro (α := Nat)) | apply Exists.intro (α := Option Addr) | apply Exists.intro (α := Value))); refine ⟨rfl, ?_⟩)
      | refine letb rfl ?_
      | refine sat h ?_
      | (have h := h.drew; refine sat h ?_)
      | refine sat1 h (fun _ h => h.to) ?_)
    refine okey_ok h (by decide) (by decide) (by decide) (by decide) fun o w' ho h => ?_
    (repeat (first | apply Exists.intro (α := Int) | apply Exists.intro (α := Bool) | apply Exists.intro (α := ByteArray) | (apply Exists.intro (α := Option Addr); apply Exists.intro (α := Nat); apply Exists.intro (α := Nat)) | apply Exists.intro (α := Option Addr) | apply Exists.intro (α := Value)))
    refine ⟨rfl, ?_⟩
    repeat' (first
      | refine nilc ?_
      | refine h.rdI _ ?_
      | refine h.rdB _ ?_
      | refine h.rdP _ ?_
      | refine h.rdL _ ?_
      | refine h.rdT _ ?_
      | refine h.rdI2 _ _ ?_
      | refine h.rdB2 _ _ ?_
      | refine h.rdP2 _ _ ?_
      | refine h.rdL2 _ _ ?_
      | refine h.st2 _ _ fun w' h => ?_
      | refine h.st _ fun w' h => ?_
      | refine h.rdvI ?_
      | refine h.rdvB ?_
      | refine h.rdvP ?_
      | refine h.rdvL ?_
      | refine h.rdvT ?_
      | (refine h.rdG ?_; (repeat (first | apply Exists.intro (α := Int) | apply Exists.intro (α := Bool) | apply Exists.intro (α := ByteArray) | (apply Exists.intro (α := Option Addr); apply Exists.intro (α := Nat); apply Exists.intro (α := Nat)) | apply Exists.intro (α := Option Addr) | apply Exists.intro (α := Value))); refine ⟨rfl, ?_⟩)
      | refine h.stG fun w' h => ?_
      | refine h.stV fun w' h => ?_
      | refine h.box fun p w' h => ?_
      | refine h.boxV fun p w' h => ?_
      | refine h.allocZ fun p w' h => ?_
      | refine h.allocZV fun p w' h => ?_
      | (refine RD.bld ?_; (repeat (first | apply Exists.intro (α := Int) | apply Exists.intro (α := Bool) | apply Exists.intro (α := ByteArray) | (apply Exists.intro (α := Option Addr); apply Exists.intro (α := Nat); apply Exists.intro (α := Nat)) | apply Exists.intro (α := Option Addr) | apply Exists.intro (α := Value))); refine ⟨rfl, ?_⟩)
      | (refine RDS.bld ?_; (repeat (first | apply Exists.intro (α := Int) | apply Exists.intro (α := Bool) | apply Exists.intro (α := ByteArray) | (apply Exists.intro (α := Option Addr); apply Exists.intro (α := Nat); apply Exists.intro (α := Nat)) | apply Exists.intro (α := Option Addr) | apply Exists.intro (α := Value))); refine ⟨rfl, ?_⟩)
      | refine St.rdsI _ ?_
      | refine St.rdsB _ ?_
      | refine St.rdsP _ ?_
      | refine St.rdsL _ ?_
      | refine St.rdsT _ ?_
      | refine St.rdsI2 _ _ ?_
      | refine St.rdsB2 _ _ ?_
      | (refine St.rdsG ?_; (repeat (first | apply Exists.intro (α := Int) | apply Exists.intro (α := Bool) | apply Exists.intro (α := ByteArray) | (apply Exists.intro (α := Option Addr); apply Exists.intro (α := Nat); apply Exists.intro (α := Nat)) | apply Exists.intro (α := Option Addr) | apply Exists.intro (α := Value))); refine ⟨rfl, ?_⟩)
      | refine letb rfl ?_
      | refine sat h ?_
      | (have h := h.drew; refine sat h ?_)
      | refine sat1 h (fun _ h => h.to) ?_)
    refine h.lit (n := 1) 138 2 ([o].flatMap opx) fun q w' h => ?_
    repeat' (first
      | refine nilc ?_
      | refine h.rdI _ ?_
      | refine h.rdB _ ?_
      | refine h.rdP _ ?_
      | refine h.rdL _ ?_
      | refine h.rdT _ ?_
      | refine h.rdI2 _ _ ?_
      | refine h.rdB2 _ _ ?_
      | refine h.rdP2 _ _ ?_
      | refine h.rdL2 _ _ ?_
      | refine h.st2 _ _ fun w' h => ?_
      | refine h.st _ fun w' h => ?_
      | refine h.rdvI ?_
      | refine h.rdvB ?_
      | refine h.rdvP ?_
      | refine h.rdvL ?_
      | refine h.rdvT ?_
      | (refine h.rdG ?_; (repeat (first | apply Exists.intro (α := Int) | apply Exists.intro (α := Bool) | apply Exists.intro (α := ByteArray) | (apply Exists.intro (α := Option Addr); apply Exists.intro (α := Nat); apply Exists.intro (α := Nat)) | apply Exists.intro (α := Option Addr) | apply Exists.intro (α := Value))); refine ⟨rfl, ?_⟩)
      | refine h.stG fun w' h => ?_
      | refine h.stV fun w' h => ?_
      | refine h.box fun p w' h => ?_
      | refine h.boxV fun p w' h => ?_
      | refine h.allocZ fun p w' h => ?_
      | refine h.allocZV fun p w' h => ?_
      | (refine RD.bld ?_; (repeat (first | apply Exists.intro (α := Int) | apply Exists.intro (α := Bool) | apply Exists.intro (α := ByteArray) | (apply Exists.intro (α := Option Addr); apply Exists.intro (α := Nat); apply Exists.intro (α := Nat)) | apply Exists.intro (α := Option Addr) | apply Exists.intro (α := Value))); refine ⟨rfl, ?_⟩)
      | (refine RDS.bld ?_; (repeat (first | apply Exists.intro (α := Int) | apply Exists.intro (α := Bool) | apply Exists.intro (α := ByteArray) | (apply Exists.intro (α := Option Addr); apply Exists.intro (α := Nat); apply Exists.intro (α := Nat)) | apply Exists.intro (α := Option Addr) | apply Exists.intro (α := Value))); refine ⟨rfl, ?_⟩)
      | refine St.rdsI _ ?_
      | refine St.rdsB _ ?_
      | refine St.rdsP _ ?_
      | refine St.rdsL _ ?_
      | refine St.rdsT _ ?_
      | refine St.rdsI2 _ _ ?_
      | refine St.rdsB2 _ _ ?_
      | (refine St.rdsG ?_; (repeat (first | apply Exists.intro (α := Int) | apply Exists.intro (α := Bool) | apply Exists.intro (α := ByteArray) | (apply Exists.intro (α := Option Addr); apply Exists.intro (α := Nat); apply Exists.intro (α := Nat)) | apply Exists.intro (α := Option Addr) | apply Exists.intro (α := Value))); refine ⟨rfl, ?_⟩)
      | refine letb rfl ?_
      | refine sat h ?_
      | (have h := h.drew; refine sat h ?_)
      | refine sat1 h (fun _ h => h.to) ?_)
    refine sof_ok h (s := ⟨rem, loc, seq, ack, 3, none, 0, [], none, 0, []⟩) (os := [o]) (RdIn.own .head) (by simp) fun O k w' h => ?_
    (repeat (first | apply Exists.intro (α := Int) | apply Exists.intro (α := Bool) | apply Exists.intro (α := ByteArray) | (apply Exists.intro (α := Option Addr); apply Exists.intro (α := Nat); apply Exists.intro (α := Nat)) | apply Exists.intro (α := Option Addr) | apply Exists.intro (α := Value)))
    refine ⟨rfl, ?_⟩
    repeat' (first
      | refine nilc ?_
      | refine h.rdI _ ?_
      | refine h.rdB _ ?_
      | refine h.rdP _ ?_
      | refine h.rdL _ ?_
      | refine h.rdT _ ?_
      | refine h.rdI2 _ _ ?_
      | refine h.rdB2 _ _ ?_
      | refine h.rdP2 _ _ ?_
      | refine h.rdL2 _ _ ?_
      | refine h.st2 _ _ fun w' h => ?_
      | refine h.st _ fun w' h => ?_
      | refine h.rdvI ?_
      | refine h.rdvB ?_
      | refine h.rdvP ?_
      | refine h.rdvL ?_
      | refine h.rdvT ?_
      | (refine h.rdG ?_; (repeat (first | apply Exists.intro (α := Int) | apply Exists.intro (α := Bool) | apply Exists.intro (α := ByteArray) | (apply Exists.intro (α := Option Addr); apply Exists.intro (α := Nat); apply Exists.intro (α := Nat)) | apply Exists.intro (α := Option Addr) | apply Exists.intro (α := Value))); refine ⟨rfl, ?_⟩)
      | refine h.stG fun w' h => ?_
      | refine h.stV fun w' h => ?_
      | refine h.box fun p w' h => ?_
      | refine h.boxV fun p w' h => ?_
      | refine h.allocZ fun p w' h => ?_
      | refine h.allocZV fun p w' h => ?_
      | (refine RD.bld ?_; (repeat (first | apply Exists.intro (α := Int) | apply Exists.intro (α := Bool) | apply Exists.intro (α := ByteArray) | (apply Exists.intro (α := Option Addr); apply Exists.intro (α := Nat); apply Exists.intro (α := Nat)) | apply Exists.intro (α := Option Addr) | apply Exists.intro (α := Value))); refine ⟨rfl, ?_⟩)
      | (refine RDS.bld ?_; (repeat (first | apply Exists.intro (α := Int) | apply Exists.intro (α := Bool) | apply Exists.intro (α := ByteArray) | (apply Exists.intro (α := Option Addr); apply Exists.intro (α := Nat); apply Exists.intro (α := Nat)) | apply Exists.intro (α := Option Addr) | apply Exists.intro (α := Value))); refine ⟨rfl, ?_⟩)
      | refine St.rdsI _ ?_
      | refine St.rdsB _ ?_
      | refine St.rdsP _ ?_
      | refine St.rdsL _ ?_
      | refine St.rdsT _ ?_
      | refine St.rdsI2 _ _ ?_
      | refine St.rdsB2 _ _ ?_
      | (refine St.rdsG ?_; (repeat (first | apply Exists.intro (α := Int) | apply Exists.intro (α := Bool) | apply Exists.intro (α := ByteArray) | (apply Exists.intro (α := Option Addr); apply Exists.intro (α := Nat); apply Exists.intro (α := Nat)) | apply Exists.intro (α := Option Addr) | apply Exists.intro (α := Value))); refine ⟨rfl, ?_⟩)
      | refine letb rfl ?_
      | refine sat h ?_
      | (have h := h.drew; refine sat h ?_)
      | refine sat1 h (fun _ h => h.to) ?_)
    refine hk ⟨rem, loc, seq, ack, 3, O, k, [o], none, 0, []⟩ _ (by simp [mkSg, h3, Sg.pl, ho]) (sgp_mk _ ?_)
    have h : St c _ (opp o :: own 138 2 O [o].length k ([o].flatMap opx) :: L) := h.to
    exact (h.ro1.swap.ownRows.addNil fun w => Row.nil w none).to
  repeat' (first
    | refine nilc ?_
    | refine h.rdI _ ?_
    | refine h.rdB _ ?_
    | refine h.rdP _ ?_
    | refine h.rdL _ ?_
    | refine h.rdT _ ?_
    | refine h.rdI2 _ _ ?_
    | refine h.rdB2 _ _ ?_
    | refine h.rdP2 _ _ ?_
    | refine h.rdL2 _ _ ?_
    | refine h.st2 _ _ fun w' h => ?_
    | refine h.st _ fun w' h => ?_
    | refine h.rdvI ?_
    | refine h.rdvB ?_
    | refine h.rdvP ?_
    | refine h.rdvL ?_
    | refine h.rdvT ?_
    | (refine h.rdG ?_; (repeat (first | apply Exists.intro (α := Int) | apply Exists.intro (α := Bool) | apply Exists.intro (α := ByteArray) | (apply Exists.intro (α := Option Addr); apply Exists.intro (α := Nat); apply Exists.intro (α := Nat)) | apply Exists.intro (α := Option Addr) | apply Exists.intro (α := Value))); refine ⟨rfl, ?_⟩)
    | refine h.stG fun w' h => ?_
    | refine h.stV fun w' h => ?_
    | refine h.box fun p w' h => ?_
    | refine h.boxV fun p w' h => ?_
    | refine h.allocZ fun p w' h => ?_
    | refine h.allocZV fun p w' h => ?_
    | (refine RD.bld ?_; (repeat (first | apply Exists.intro (α := Int) | apply Exists.intro (α := Bool) | apply Exists.intro (α := ByteArray) | (apply Exists.intro (α := Option Addr); apply Exists.intro (α := Nat); apply Exists.intro (α := Nat)) | apply Exists.intro (α := Option Addr) | apply Exists.intro (α := Value))); refine ⟨rfl, ?_⟩)
    | (refine RDS.bld ?_; (repeat (first | apply Exists.intro (α := Int) | apply Exists.intro (α := Bool) | apply Exists.intro (α := ByteArray) | (apply Exists.intro (α := Option Addr); apply Exists.intro (α := Nat); apply Exists.intro (α := Nat)) | apply Exists.intro (α := Option Addr) | apply Exists.intro (α := Value))); refine ⟨rfl, ?_⟩)
    | refine St.rdsI _ ?_
    | refine St.rdsB _ ?_
    | refine St.rdsP _ ?_
    | refine St.rdsL _ ?_
    | refine St.rdsT _ ?_
    | refine St.rdsI2 _ _ ?_
    | refine St.rdsB2 _ _ ?_
    | (refine St.rdsG ?_; (repeat (first | apply Exists.intro (α := Int) | apply Exists.intro (α := Bool) | apply Exists.intro (α := ByteArray) | (apply Exists.intro (α := Option Addr); apply Exists.intro (α := Nat); apply Exists.intro (α := Nat)) | apply Exists.intro (α := Option Addr) | apply Exists.intro (α := Value))); refine ⟨rfl, ?_⟩)
    | refine letb rfl ?_
    | refine sat h ?_
    | (have h := h.drew; refine sat h ?_)
    | refine sat1 h (fun _ h => h.to) ?_)
  refine ifq (fun h4 => ?_) fun h4 => ?_
  · repeat' (first
      | refine nilc ?_
      | refine h.rdI _ ?_
      | refine h.rdB _ ?_
      | refine h.rdP _ ?_
      | refine h.rdL _ ?_
      | refine h.rdT _ ?_
      | refine h.rdI2 _ _ ?_
      | refine h.rdB2 _ _ ?_
      | refine h.rdP2 _ _ ?_
      | refine h.rdL2 _ _ ?_
      | refine h.st2 _ _ fun w' h => ?_
      | refine h.st _ fun w' h => ?_
      | refine h.rdvI ?_
      | refine h.rdvB ?_
      | refine h.rdvP ?_
      | refine h.rdvL ?_
      | refine h.rdvT ?_
      | (refine h.rdG ?_; (repeat (first | apply Exists.intro (α := Int) | apply Exists.intro (α := Bool) | apply Exists.intro (α := ByteArray) | (apply Exists.intro (α := Option Addr); apply Exists.intro (α := Nat); apply Exists.intro (α := Nat)) | apply Exists.intro (α := Option Addr) | apply Exists.intro (α := Value))); refine ⟨rfl, ?_⟩)
      | refine h.stG fun w' h => ?_
      | refine h.stV fun w' h => ?_
      | refine h.box fun p w' h => ?_
      | refine h.boxV fun p w' h => ?_
      | refine h.allocZ fun p w' h => ?_
      | refine h.allocZV fun p w' h => ?_
      | (refine RD.bld ?_; (repeat (first | apply Exists.intro (α := Int) | apply Exists.intro (α := Bool) | apply Exists.intro (α := ByteArray) | (apply Exists.intro (α := Option Addr); apply Exists.intro (α := Nat); apply Exists.intro (α := Nat)) | apply Exists.intro (α := Option Addr) | apply Exists.intro (α := Value))); refine ⟨rfl, ?_⟩)
      | (refine RDS.bld ?_; (repeat (first | apply Exists.intro (α := Int) | apply Exists.intro (α := Bool) | apply Exists.intro (α := ByteArray) | (apply Exists.intro (α := Option Addr); apply Exists.intro (α := Nat); apply Exists.intro (α := Nat)) | apply Exists.intro (α := Option Addr) | apply Exists.intro (α := Value))); refine ⟨rfl, ?_⟩)
      | refine St.rdsI _ ?_
      | refine St.rdsB _ ?_
      | refine St.rdsP _ ?_
      | refine St.rdsL _ ?_
      | refine St.rdsT _ ?_
      | refine St.rdsI2 _ _ ?_
      | refine St.rdsB2 _ _ ?_
      | (refine St.rdsG ?_; (repeat (first | apply Exists.intro (α := Int) | apply Exists.intro (α := Bool) | apply Exists.intro (α := ByteArray) | (apply Exists.intro (α := Option Addr); apply Exists.intro (α := Nat); apply Exists.intro (α := Nat)) | apply Exists.intro (α := Option Addr) | apply Exists.intro (α := Value))); refine ⟨rfl, ?_⟩)
      | refine letb rfl ?_
      | refine sat h ?_
      | (have h := h.drew; refine sat h ?_)
      | refine sat1 h (fun _ h => h.to) ?_)
    have em : minN (bs.length : Int) 1024 = (((bs.take 1024).length : Nat) : Int) := by
      unfold minN; rw [List.length_take]; split <;> omega
    rw [em]
    have hl := List.length_take (l := bs) (i := 1024)
    refine ⟨by omega, ?_⟩
    rw [show Int.toNat (((bs.take 1024).length : Nat) : Int) - Int.toNat (0 : Int) = (bs.take 1024).length by simp, cutA_zero]
    have hd2 : RdIn L A (bvs (bs.take 1024)) := by have := hd.take 1024; rwa [bvs_take] at this
    refine (h.addOwnNil 5 1).append huPk tiPkU8 .head hd2.more.more.more.more (m := (bs.take 1024).length) (by simp [bvs]) (Flat.bvs _) (by omega) fun D kD w' h => ?_
    simp only [Nat.zero_add, List.nil_append] at h ⊢
    rw [show IntKind.u64.wrap seq = seq by rw [wrapU64]; omega, show IntKind.u64.wrap ack = ack by rw [wrapU64]; omega]
    repeat' (first
      | refine nilc ?_
      | refine h.rdI _ ?_
      | refine h.rdB _ ?_
      | refine h.rdP _ ?_
      | refine h.rdL _ ?_
      | refine h.rdT _ ?_
      | refine h.rdI2 _ _ ?_
      | refine h.rdB2 _ _ ?_
      | refine h.rdP2 _ _ ?_
      | refine h.rdL2 _ _ ?_
      | refine h.st2 _ _ fun w' h => ?_
      | refine h.st _ fun w' h => ?_
      | refine h.rdvI ?_
      | refine h.rdvB ?_
      | refine h.rdvP ?_
      | refine h.rdvL ?_
      | refine h.rdvT ?_
      | (refine h.rdG ?_; (repeat (first | apply Exists.intro (α := Int) | apply Exists.intro (α := Bool) | apply Exists.intro (α := ByteArray) | (apply Exists.intro (α := Option Addr); apply Exists.intro (α := Nat); apply Exists.intro (α := Nat)) | apply Exists.intro (α := Option Addr) | apply Exists.intro (α := Value))); refine ⟨rfl, ?_⟩)
      | refine h.stG fun w' h => ?_
      | refine h.stV fun w' h => ?_
      | refine h.box fun p w' h => ?_
      | refine h.boxV fun p w' h => ?_
      | refine h.allocZ fun p w' h => ?_
      | refine h.allocZV fun p w' h => ?_
      | (refine RD.bld ?_; (repeat (first | apply Exists.intro (α := Int) | apply Exists.intro (α := Bool) | apply Exists.intro (α := ByteArray) | (apply Exists.intro (α := Option Addr); apply Exists.intro (α := Nat); apply Exists.intro (α := Nat)) | apply Exists.intro (α := Option Addr) | apply Exists.intro (α := Value))); refine ⟨rfl, ?_⟩)
      | (refine RDS.bld ?_; (repeat (first | apply Exists.intro (α := Int) | apply Exists.intro (α := Bool) | apply Exists.intro (α := ByteArray) | (apply Exists.intro (α := Option Addr); apply Exists.intro (α := Nat); apply Exists.intro (α := Nat)) | apply Exists.intro (α := Option Addr) | apply Exists.intro (α := Value))); refine ⟨rfl, ?_⟩)
      | refine St.rdsI _ ?_
      | refine St.rdsB _ ?_
      | refine St.rdsP _ ?_
      | refine St.rdsL _ ?_
      | refine St.rdsT _ ?_
      | refine St.rdsI2 _ _ ?_
      | refine St.rdsB2 _ _ ?_
      | (refine St.rdsG ?_; (repeat (first | apply Exists.intro (α := Int) | apply Exists.intro (α := Bool) | apply Exists.intro (α := ByteArray) | (apply Exists.intro (α := Option Addr); apply Exists.intro (α := Nat); apply Exists.intro (α := Nat)) | apply Exists.intro (α := Option Addr) | apply Exists.intro (α := Value))); refine ⟨rfl, ?_⟩)
      | refine letb rfl ?_
      | refine sat h ?_
      | (have h := h.drew; refine sat h ?_)
      | refine sat1 h (fun _ h => h.to) ?_)
    refine odata_ok h s0 (by omega) a0 (by omega) (by decide) (by decide) (by decide) (by decide) fun o w' ho h => ?_
    (repeat (first | apply Exists.intro (α := Int) | apply Exists.intro (α := Bool) | apply Exists.intro (α := ByteArray) | (apply Exists.intro (α := Option Addr); apply Exists.intro (α := Nat); apply Exists.intro (α := Nat)) | apply Exists.intro (α := Option Addr) | apply Exists.intro (α := Value)))
    refine ⟨rfl, ?_⟩
    repeat' (first
      | refine nilc ?_
      | refine h.rdI _ ?_
      | refine h.rdB _ ?_
      | refine h.rdP _ ?_
      | refine h.rdL _ ?_
      | refine h.rdT _ ?_
      | refine h.rdI2 _ _ ?_
      | refine h.rdB2 _ _ ?_
      | refine h.rdP2 _ _ ?_
      | refine h.rdL2 _ _ ?_
      | refine h.st2 _ _ fun w' h => ?_
      | refine h.st _ fun w' h => ?_
      | refine h.rdvI ?_
      | refine h.rdvB ?_
      | refine h.rdvP ?_
      | refine h.rdvL ?_
      | refine h.rdvT ?_
      | (refine h.rdG ?_; (repeat (first | apply Exists.intro (α := Int) | apply Exists.intro (α := Bool) | apply Exists.intro (α := ByteArray) | (apply Exists.intro (α := Option Addr); apply Exists.intro (α := Nat); apply Exists.intro (α := Nat)) | apply Exists.intro (α := Option Addr) | apply Exists.intro (α := Value))); refine ⟨rfl, ?_⟩)
      | refine h.stG fun w' h => ?_
      | refine h.stV fun w' h => ?_
      | refine h.box fun p w' h => ?_
      | refine h.boxV fun p w' h => ?_
      | refine h.allocZ fun p w' h => ?_
      | refine h.allocZV fun p w' h => ?_
      | (refine RD.bld ?_; (repeat (first | apply Exists.intro (α := Int) | apply Exists.intro (α := Bool) | apply Exists.intro (α := ByteArray) | (apply Exists.intro (α := Option Addr); apply Exists.intro (α := Nat); apply Exists.intro (α := Nat)) | apply Exists.intro (α := Option Addr) | apply Exists.intro (α := Value))); refine ⟨rfl, ?_⟩)
      | (refine RDS.bld ?_; (repeat (first | apply Exists.intro (α := Int) | apply Exists.intro (α := Bool) | apply Exists.intro (α := ByteArray) | (apply Exists.intro (α := Option Addr); apply Exists.intro (α := Nat); apply Exists.intro (α := Nat)) | apply Exists.intro (α := Option Addr) | apply Exists.intro (α := Value))); refine ⟨rfl, ?_⟩)
      | refine St.rdsI _ ?_
      | refine St.rdsB _ ?_
      | refine St.rdsP _ ?_
      | refine St.rdsL _ ?_
      | refine St.rdsT _ ?_
      | refine St.rdsI2 _ _ ?_
      | refine St.rdsB2 _ _ ?_
      | (refine St.rdsG ?_; (repeat (first | apply Exists.intro (α := Int) | apply Exists.intro (α := Bool) | apply Exists.intro (α := ByteArray) | (apply Exists.intro (α := Option Addr); apply Exists.intro (α := Nat); apply Exists.intro (α := Nat)) | apply Exists.intro (α := Option Addr) | apply Exists.intro (α := Value))); refine ⟨rfl, ?_⟩)
      | refine letb rfl ?_
      | refine sat h ?_
      | (have h := h.drew; refine sat h ?_)
      | refine sat1 h (fun _ h => h.to) ?_)
    refine h.lit (n := 1) 138 2 ([o].flatMap opx) fun q w' h => ?_
    repeat' (first
      | refine nilc ?_
      | refine h.rdI _ ?_
      | refine h.rdB _ ?_
      | refine h.rdP _ ?_
      | refine h.rdL _ ?_
      | refine h.rdT _ ?_
      | refine h.rdI2 _ _ ?_
      | refine h.rdB2 _ _ ?_
      | refine h.rdP2 _ _ ?_
      | refine h.rdL2 _ _ ?_
      | refine h.st2 _ _ fun w' h => ?_
      | refine h.st _ fun w' h => ?_
      | refine h.rdvI ?_
      | refine h.rdvB ?_
      | refine h.rdvP ?_
      | refine h.rdvL ?_
      | refine h.rdvT ?_
      | (refine h.rdG ?_; (repeat (first | apply Exists.intro (α := Int) | apply Exists.intro (α := Bool) | apply Exists.intro (α := ByteArray) | (apply Exists.intro (α := Option Addr); apply Exists.intro (α := Nat); apply Exists.intro (α := Nat)) | apply Exists.intro (α := Option Addr) | apply Exists.intro (α := Value))); refine ⟨rfl, ?_⟩)
      | refine h.stG fun w' h => ?_
      | refine h.stV fun w' h => ?_
      | refine h.box fun p w' h => ?_
      | refine h.boxV fun p w' h => ?_
      | refine h.allocZ fun p w' h => ?_
      | refine h.allocZV fun p w' h => ?_
      | (refine RD.bld ?_; (repeat (first | apply Exists.intro (α := Int) | apply Exists.intro (α := Bool) | apply Exists.intro (α := ByteArray) | (apply Exists.intro (α := Option Addr); apply Exists.intro (α := Nat); apply Exists.intro (α := Nat)) | apply Exists.intro (α := Option Addr) | apply Exists.intro (α := Value))); refine ⟨rfl, ?_⟩)
      | (refine RDS.bld ?_; (repeat (first | apply Exists.intro (α := Int) | apply Exists.intro (α := Bool) | apply Exists.intro (α := ByteArray) | (apply Exists.intro (α := Option Addr); apply Exists.intro (α := Nat); apply Exists.intro (α := Nat)) | apply Exists.intro (α := Option Addr) | apply Exists.intro (α := Value))); refine ⟨rfl, ?_⟩)
      | refine St.rdsI _ ?_
      | refine St.rdsB _ ?_
      | refine St.rdsP _ ?_
      | refine St.rdsL _ ?_
      | refine St.rdsT _ ?_
      | refine St.rdsI2 _ _ ?_
      | refine St.rdsB2 _ _ ?_
      | (refine St.rdsG ?_; (repeat (first | apply Exists.intro (α := Int) | apply Exists.intro (α := Bool) | apply Exists.intro (α := ByteArray) | (apply Exists.intro (α := Option Addr); apply Exists.intro (α := Nat); apply Exists.intro (α := Nat)) | apply Exists.intro (α := Option Addr) | apply Exists.intro (α := Value))); refine ⟨rfl, ?_⟩)
      | refine letb rfl ?_
      | refine sat h ?_
      | (have h := h.drew; refine sat h ?_)
      | refine sat1 h (fun _ h => h.to) ?_)
    refine sof_ok h (s := ⟨rem, loc, seq, ack, 2, none, 0, [], D, kD, bs.take 1024⟩) (os := [o]) (RdIn.own .head) (by simp) fun O k w' h => ?_
    (repeat (first | apply Exists.intro (α := Int) | apply Exists.intro (α := Bool) | apply Exists.intro (α := ByteArray) | (apply Exists.intro (α := Option Addr); apply Exists.intro (α := Nat); apply Exists.intro (α := Nat)) | apply Exists.intro (α := Option Addr) | apply Exists.intro (α := Value)))
    refine ⟨rfl, ?_⟩
    repeat' (first
      | refine nilc ?_
      | refine h.rdI _ ?_
      | refine h.rdB _ ?_
      | refine h.rdP _ ?_
      | refine h.rdL _ ?_
      | refine h.rdT _ ?_
      | refine h.rdI2 _ _ ?_
      | refine h.rdB2 _ _ ?_
      | refine h.rdP2 _ _ ?_
      | refine h.rdL2 _ _ ?_
      | refine h.st2 _ _ fun w' h => ?_
      | refine h.st _ fun w' h => ?_
      | refine h.rdvI ?_
      | refine h.rdvB ?_
      | refine h.rdvP ?_
      | refine h.rdvL ?_
      | refine h.rdvT ?_
      | (refine h.rdG ?_; (repeat (first | apply Exists.intro (α := Int) | apply Exists.intro (α := Bool) | apply Exists.intro (α := ByteArray) | (apply Exists.intro (α := Option Addr); apply Exists.intro (α := Nat); apply Exists.intro (α := Nat)) | apply Exists.intro (α := Option Addr) | apply Exists.intro (α := Value))); refine ⟨rfl, ?_⟩)
      | refine h.stG fun w' h => ?_
      | refine h.stV fun w' h => ?_
      | refine h.box fun p w' h => ?_
      | refine h.boxV fun p w' h => ?_
      | refine h.allocZ fun p w' h => ?_
      | refine h.allocZV fun p w' h => ?_
      | (refine RD.bld ?_; (repeat (first | apply Exists.intro (α := Int) | apply Exists.intro (α := Bool) | apply Exists.intro (α := ByteArray) | (apply Exists.intro (α := Option Addr); apply Exists.intro (α := Nat); apply Exists.intro (α := Nat)) | apply Exists.intro (α := Option Addr) | apply Exists.intro (α := Value))); refine ⟨rfl, ?_⟩)
      | (refine RDS.bld ?_; (repeat (first | apply Exists.intro (α := Int) | apply Exists.intro (α := Bool) | apply Exists.intro (α := ByteArray) | (apply Exists.intro (α := Option Addr); apply Exists.intro (α := Nat); apply Exists.intro (α := Nat)) | apply Exists.intro (α := Option Addr) | apply Exists.intro (α := Value))); refine ⟨rfl, ?_⟩)
      | refine St.rdsI _ ?_
      | refine St.rdsB _ ?_
      | refine St.rdsP _ ?_
      | refine St.rdsL _ ?_
      | refine St.rdsT _ ?_
      | refine St.rdsI2 _ _ ?_
      | refine St.rdsB2 _ _ ?_
      | (refine St.rdsG ?_; (repeat (first | apply Exists.intro (α := Int) | apply Exists.intro (α := Bool) | apply Exists.intro (α := ByteArray) | (apply Exists.intro (α := Option Addr); apply Exists.intro (α := Nat); apply Exists.intro (α := Nat)) | apply Exists.intro (α := Option Addr) | apply Exists.intro (α := Value))); refine ⟨rfl, ?_⟩)
      | refine letb rfl ?_
      | refine sat h ?_
      | (have h := h.drew; refine sat h ?_)
      | refine sat1 h (fun _ h => h.to) ?_)
    refine hk ⟨rem, loc, seq, ack, 2, O, k, [o], D, kD, bs.take 1024⟩ _ (by simp [mkSg, h4, Sg.pl, ho]) (sgp_mk _ ?_)
    have h : St c _ (opp o :: own 138 2 O [o].length k ([o].flatMap opx) :: own 5 1 D (bs.take 1024).length kD (bvs (bs.take 1024)) :: L) := h.to
    have h := h.ro1.swap.ownRows
    have h : St c _ (own 5 1 D (bs.take 1024).length kD (bvs (bs.take 1024)) :: rows O ([o].flatMap opx) :: Br.ro (fun w => ∀ x ∈ [o], Row w x.body (bvs x.bodys)) :: L) := h.to
    exact h.ownRows.to
  repeat' (first
    | refine nilc ?_
    | refine h.rdI _ ?_
    | refine h.rdB _ ?_
    | refine h.rdP _ ?_
    | refine h.rdL _ ?_
    | refine h.rdT _ ?_
    | refine h.rdI2 _ _ ?_
    | refine h.rdB2 _ _ ?_
    | refine h.rdP2 _ _ ?_
    | refine h.rdL2 _ _ ?_
    | refine h.st2 _ _ fun w' h => ?_
    | refine h.st _ fun w' h => ?_
    | refine h.rdvI ?_
    | refine h.rdvB ?_
    | refine h.rdvP ?_
    | refine h.rdvL ?_
    | refine h.rdvT ?_
    | (refine h.rdG ?_; (repeat (first | apply Exists.intro (α := Int) | apply Exists.intro (α := Bool) | apply Exists.intro (α := ByteArray) | (apply Exists.intro (α := Option Addr); apply Exists.intro (α := Nat); apply Exists.intro (α := Nat)) | apply Exists.intro (α := Option Addr) | apply Exists.intro (α := Value))); refine ⟨rfl, ?_⟩)
    | refine h.stG fun w' h => ?_
    | refine h.stV fun w' h => ?_
    | refine h.box fun p w' h => ?_
    | refine h.boxV fun p w' h => ?_
    | refine h.allocZ fun p w' h => ?_
    | refine h.allocZV fun p w' h => ?_
    | (refine RD.bld ?_; (repeat (first | apply Exists.intro (α := Int) | apply Exists.intro (α := Bool) | apply Exists.intro (α := ByteArray) | (apply Exists.intro (α := Option Addr); apply Exists.intro (α := Nat); apply Exists.intro (α := Nat)) | apply Exists.intro (α := Option Addr) | apply Exists.intro (α := Value))); refine ⟨rfl, ?_⟩)
    | (refine RDS.bld ?_; (repeat (first | apply Exists.intro (α := Int) | apply Exists.intro (α := Bool) | apply Exists.intro (α := ByteArray) | (apply Exists.intro (α := Option Addr); apply Exists.intro (α := Nat); apply Exists.intro (α := Nat)) | apply Exists.intro (α := Option Addr) | apply Exists.intro (α := Value))); refine ⟨rfl, ?_⟩)
    | refine St.rdsI _ ?_
    | refine St.rdsB _ ?_
    | refine St.rdsP _ ?_
    | refine St.rdsL _ ?_
    | refine St.rdsT _ ?_
    | refine St.rdsI2 _ _ ?_
    | refine St.rdsB2 _ _ ?_
    | (refine St.rdsG ?_; (repeat (first | apply Exists.intro (α := Int) | apply Exists.intro (α := Bool) | apply Exists.intro (α := ByteArray) | (apply Exists.intro (α := Option Addr); apply Exists.intro (α := Nat); apply Exists.intro (α := Nat)) | apply Exists.intro (α := Option Addr) | apply Exists.intro (α := Value))); refine ⟨rfl, ?_⟩)
    | refine letb rfl ?_
    | refine sat h ?_
    | (have h := h.drew; refine sat h ?_)
    | refine sat1 h (fun _ h => h.to) ?_)
  refine ifq (fun h6 => ?_) fun h6 => ?_
  · repeat' (first
      | refine nilc ?_
      | refine h.rdI _ ?_
      | refine h.rdB _ ?_
      | refine h.rdP _ ?_
      | refine h.rdL _ ?_
      | refine h.rdT _ ?_
      | refine h.rdI2 _ _ ?_
      | refine h.rdB2 _ _ ?_
      | refine h.rdP2 _ _ ?_
      | refine h.rdL2 _ _ ?_
      | refine h.st2 _ _ fun w' h => ?_
      | refine h.st _ fun w' h => ?_
      | refine h.rdvI ?_
      | refine h.rdvB ?_
      | refine h.rdvP ?_
      | refine h.rdvL ?_
      | refine h.rdvT ?_
      | (refine h.rdG ?_; (repeat (first | apply Exists.intro (α := Int) | apply Exists.intro (α := Bool) | apply Exists.intro (α := ByteArray) | (apply Exists.intro (α := Option Addr); apply Exists.intro (α := Nat); apply Exists.intro (α := Nat)) | apply Exists.intro (α := Option Addr) | apply Exists.intro (α := Value))); refine ⟨rfl, ?_⟩)
      | refine h.stG fun w' h => ?_
      | refine h.stV fun w' h => ?_
      | refine h.box fun p w' h => ?_
      | refine h.boxV fun p w' h => ?_
      | refine h.allocZ fun p w' h => ?_
      | refine h.allocZV fun p w' h => ?_
      | (refine RD.bld ?_; (repeat (first | apply Exists.intro (α := Int) | apply Exists.intro (α := Bool) | apply Exists.intro (α := ByteArray) | (apply Exists.intro (α := Option Addr); apply Exists.intro (α := Nat); apply Exists.intro (α := Nat)) | apply Exists.intro (α := Option Addr) | apply Exists.intro (α := Value))); refine ⟨rfl, ?_⟩)
      | (refine RDS.bld ?_; (repeat (first | apply Exists.intro (α := Int) | apply Exists.intro (α := Bool) | apply Exists.intro (α := ByteArray) | (apply Exists.intro (α := Option Addr); apply Exists.intro (α := Nat); apply Exists.intro (α := Nat)) | apply Exists.intro (α := Option Addr) | apply Exists.intro (α := Value))); refine ⟨rfl, ?_⟩)
      | refine St.rdsI _ ?_
      | refine St.rdsB _ ?_
      | refine St.rdsP _ ?_
      | refine St.rdsL _ ?_
      | refine St.rdsT _ ?_
      | refine St.rdsI2 _ _ ?_
      | refine St.rdsB2 _ _ ?_
      | (refine St.rdsG ?_; (repeat (first | apply Exists.intro (α := Int) | apply Exists.intro (α := Bool) | apply Exists.intro (α := ByteArray) | (apply Exists.intro (α := Option Addr); apply Exists.intro (α := Nat); apply Exists.intro (α := Nat)) | apply Exists.intro (α := Option Addr) | apply Exists.intro (α := Value))); refine ⟨rfl, ?_⟩)
      | refine letb rfl ?_
      | refine sat h ?_
      | (have h := h.drew; refine sat h ?_)
      | refine sat1 h (fun _ h => h.to) ?_)
    refine odata_ok h (by decide) (by decide) (by decide) (by decide) (by decide) (by decide) (by decide) (by decide) fun o w' ho h => ?_
    (repeat (first | apply Exists.intro (α := Int) | apply Exists.intro (α := Bool) | apply Exists.intro (α := ByteArray) | (apply Exists.intro (α := Option Addr); apply Exists.intro (α := Nat); apply Exists.intro (α := Nat)) | apply Exists.intro (α := Option Addr) | apply Exists.intro (α := Value)))
    refine ⟨rfl, ?_⟩
    repeat' (first
      | refine nilc ?_
      | refine h.rdI _ ?_
      | refine h.rdB _ ?_
      | refine h.rdP _ ?_
      | refine h.rdL _ ?_
      | refine h.rdT _ ?_
      | refine h.rdI2 _ _ ?_
      | refine h.rdB2 _ _ ?_
      | refine h.rdP2 _ _ ?_
      | refine h.rdL2 _ _ ?_
      | refine h.st2 _ _ fun w' h => ?_
      | refine h.st _ fun w' h => ?_
      | refine h.rdvI ?_
      | refine h.rdvB ?_
      | refine h.rdvP ?_
      | refine h.rdvL ?_
      | refine h.rdvT ?_
      | (refine h.rdG ?_; (repeat (first | apply Exists.intro (α := Int) | apply Exists.intro (α := Bool) | apply Exists.intro (α := ByteArray) | (apply Exists.intro (α := Option Addr); apply Exists.intro (α := Nat); apply Exists.intro (α := Nat)) | apply Exists.intro (α := Option Addr) | apply Exists.intro (α := Value))); refine ⟨rfl, ?_⟩)
      | refine h.stG fun w' h => ?_
      | refine h.stV fun w' h => ?_
      | refine h.box fun p w' h => ?_
      | refine h.boxV fun p w' h => ?_
      | refine h.allocZ fun p w' h => ?_
      | refine h.allocZV fun p w' h => ?_
      | (refine RD.bld ?_; (repeat (first | apply Exists.intro (α := Int) | apply Exists.intro (α := Bool) | apply Exists.intro (α := ByteArray) | (apply Exists.intro (α := Option Addr); apply Exists.intro (α := Nat); apply Exists.intro (α := Nat)) | apply Exists.intro (α := Option Addr) | apply Exists.intro (α := Value))); refine ⟨rfl, ?_⟩)
      | (refine RDS.bld ?_; (repeat (first | apply Exists.intro (α := Int) | apply Exists.intro (α := Bool) | apply Exists.intro (α := ByteArray) | (apply Exists.intro (α := Option Addr); apply Exists.intro (α := Nat); apply Exists.intro (α := Nat)) | apply Exists.intro (α := Option Addr) | apply Exists.intro (α := Value))); refine ⟨rfl, ?_⟩)
      | refine St.rdsI _ ?_
      | refine St.rdsB _ ?_
      | refine St.rdsP _ ?_
      | refine St.rdsL _ ?_
      | refine St.rdsT _ ?_
      | refine St.rdsI2 _ _ ?_
      | refine St.rdsB2 _ _ ?_
      | (refine St.rdsG ?_; (repeat (first | apply Exists.intro (α := Int) | apply Exists.intro (α := Bool) | apply Exists.intro (α := ByteArray) | (apply Exists.intro (α := Option Addr); apply Exists.intro (α := Nat); apply Exists.intro (α := Nat)) | apply Exists.intro (α := Option Addr) | apply Exists.intro (α := Value))); refine ⟨rfl, ?_⟩)
      | refine letb rfl ?_
      | refine sat h ?_
      | (have h := h.drew; refine sat h ?_)
      | refine sat1 h (fun _ h => h.to) ?_)
    refine oword_ok h a0 a1 (by decide) (by decide) (by decide) (by decide) (by decide) (by decide) fun o2 w' ho2 h => ?_
    (repeat (first | apply Exists.intro (α := Int) | apply Exists.intro (α := Bool) | apply Exists.intro (α := ByteArray) | (apply Exists.intro (α := Option Addr); apply Exists.intro (α := Nat); apply Exists.intro (α := Nat)) | apply Exists.intro (α := Option Addr) | apply Exists.intro (α := Value)))
    refine ⟨rfl, ?_⟩
    repeat' (first
      | refine nilc ?_
      | refine h.rdI _ ?_
      | refine h.rdB _ ?_
      | refine h.rdP _ ?_
      | refine h.rdL _ ?_
      | refine h.rdT _ ?_
      | refine h.rdI2 _ _ ?_
      | refine h.rdB2 _ _ ?_
      | refine h.rdP2 _ _ ?_
      | refine h.rdL2 _ _ ?_
      | refine h.st2 _ _ fun w' h => ?_
      | refine h.st _ fun w' h => ?_
      | refine h.rdvI ?_
      | refine h.rdvB ?_
      | refine h.rdvP ?_
      | refine h.rdvL ?_
      | refine h.rdvT ?_
      | (refine h.rdG ?_; (repeat (first | apply Exists.intro (α := Int) | apply Exists.intro (α := Bool) | apply Exists.intro (α := ByteArray) | (apply Exists.intro (α := Option Addr); apply Exists.intro (α := Nat); apply Exists.intro (α := Nat)) | apply Exists.intro (α := Option Addr) | apply Exists.intro (α := Value))); refine ⟨rfl, ?_⟩)
      | refine h.stG fun w' h => ?_
      | refine h.stV fun w' h => ?_
      | refine h.box fun p w' h => ?_
      | refine h.boxV fun p w' h => ?_
      | refine h.allocZ fun p w' h => ?_
      | refine h.allocZV fun p w' h => ?_
      | (refine RD.bld ?_; (repeat (first | apply Exists.intro (α := Int) | apply Exists.intro (α := Bool) | apply Exists.intro (α := ByteArray) | (apply Exists.intro (α := Option Addr); apply Exists.intro (α := Nat); apply Exists.intro (α := Nat)) | apply Exists.intro (α := Option Addr) | apply Exists.intro (α := Value))); refine ⟨rfl, ?_⟩)
      | (refine RDS.bld ?_; (repeat (first | apply Exists.intro (α := Int) | apply Exists.intro (α := Bool) | apply Exists.intro (α := ByteArray) | (apply Exists.intro (α := Option Addr); apply Exists.intro (α := Nat); apply Exists.intro (α := Nat)) | apply Exists.intro (α := Option Addr) | apply Exists.intro (α := Value))); refine ⟨rfl, ?_⟩)
      | refine St.rdsI _ ?_
      | refine St.rdsB _ ?_
      | refine St.rdsP _ ?_
      | refine St.rdsL _ ?_
      | refine St.rdsT _ ?_
      | refine St.rdsI2 _ _ ?_
      | refine St.rdsB2 _ _ ?_
      | (refine St.rdsG ?_; (repeat (first | apply Exists.intro (α := Int) | apply Exists.intro (α := Bool) | apply Exists.intro (α := ByteArray) | (apply Exists.intro (α := Option Addr); apply Exists.intro (α := Nat); apply Exists.intro (α := Nat)) | apply Exists.intro (α := Option Addr) | apply Exists.intro (α := Value))); refine ⟨rfl, ?_⟩)
      | refine letb rfl ?_
      | refine sat h ?_
      | (have h := h.drew; refine sat h ?_)
      | refine sat1 h (fun _ h => h.to) ?_)
    refine h.lit (n := 2) 138 2 ([o, o2].flatMap opx) fun q w' h => ?_
    repeat' (first
      | refine nilc ?_
      | refine h.rdI _ ?_
      | refine h.rdB _ ?_
      | refine h.rdP _ ?_
      | refine h.rdL _ ?_
      | refine h.rdT _ ?_
      | refine h.rdI2 _ _ ?_
      | refine h.rdB2 _ _ ?_
      | refine h.rdP2 _ _ ?_
      | refine h.rdL2 _ _ ?_
      | refine h.st2 _ _ fun w' h => ?_
      | refine h.st _ fun w' h => ?_
      | refine h.rdvI ?_
      | refine h.rdvB ?_
      | refine h.rdvP ?_
      | refine h.rdvL ?_
      | refine h.rdvT ?_
      | (refine h.rdG ?_; (repeat (first | apply Exists.intro (α := Int) | apply Exists.intro (α := Bool) | apply Exists.intro (α := ByteArray) | (apply Exists.intro (α := Option Addr); apply Exists.intro (α := Nat); apply Exists.intro (α := Nat)) | apply Exists.intro (α := Option Addr) | apply Exists.intro (α := Value))); refine ⟨rfl, ?_⟩)
      | refine h.stG fun w' h => ?_
      | refine h.stV fun w' h => ?_
      | refine h.box fun p w' h => ?_
      | refine h.boxV fun p w' h => ?_
      | refine h.allocZ fun p w' h => ?_
      | refine h.allocZV fun p w' h => ?_
      | (refine RD.bld ?_; (repeat (first | apply Exists.intro (α := Int) | apply Exists.intro (α := Bool) | apply Exists.intro (α := ByteArray) | (apply Exists.intro (α := Option Addr); apply Exists.intro (α := Nat); apply Exists.intro (α := Nat)) | apply Exists.intro (α := Option Addr) | apply Exists.intro (α := Value))); refine ⟨rfl, ?_⟩)
      | (refine RDS.bld ?_; (repeat (first | apply Exists.intro (α := Int) | apply Exists.intro (α := Bool) | apply Exists.intro (α := ByteArray) | (apply Exists.intro (α := Option Addr); apply Exists.intro (α := Nat); apply Exists.intro (α := Nat)) | apply Exists.intro (α := Option Addr) | apply Exists.intro (α := Value))); refine ⟨rfl, ?_⟩)
      | refine St.rdsI _ ?_
      | refine St.rdsB _ ?_
      | refine St.rdsP _ ?_
      | refine St.rdsL _ ?_
      | refine St.rdsT _ ?_
      | refine St.rdsI2 _ _ ?_
      | refine St.rdsB2 _ _ ?_
      | (refine St.rdsG ?_; (repeat (first | apply Exists.intro (α := Int) | apply Exists.intro (α := Bool) | apply Exists.intro (α := ByteArray) | (apply Exists.intro (α := Option Addr); apply Exists.intro (α := Nat); apply Exists.intro (α := Nat)) | apply Exists.intro (α := Option Addr) | apply Exists.intro (α := Value))); refine ⟨rfl, ?_⟩)
      | refine letb rfl ?_
      | refine sat h ?_
      | (have h := h.drew; refine sat h ?_)
      | refine sat1 h (fun _ h => h.to) ?_)
    refine sof_ok h (s := ⟨rem, loc, seq, ack, 2, none, 0, [], none, 0, []⟩) (os := [o, o2]) (RdIn.own .head) (by simp) fun O k w' h => ?_
    (repeat (first | apply Exists.intro (α := Int) | apply Exists.intro (α := Bool) | apply Exists.intro (α := ByteArray) | (apply Exists.intro (α := Option Addr); apply Exists.intro (α := Nat); apply Exists.intro (α := Nat)) | apply Exists.intro (α := Option Addr) | apply Exists.intro (α := Value)))
    refine ⟨rfl, ?_⟩
    repeat' (first
      | refine nilc ?_
      | refine h.rdI _ ?_
      | refine h.rdB _ ?_
      | refine h.rdP _ ?_
      | refine h.rdL _ ?_
      | refine h.rdT _ ?_
      | refine h.rdI2 _ _ ?_
      | refine h.rdB2 _ _ ?_
      | refine h.rdP2 _ _ ?_
      | refine h.rdL2 _ _ ?_
      | refine h.st2 _ _ fun w' h => ?_
      | refine h.st _ fun w' h => ?_
      | refine h.rdvI ?_
      | refine h.rdvB ?_
      | refine h.rdvP ?_
      | refine h.rdvL ?_
      | refine h.rdvT ?_
      | (refine h.rdG ?_; (repeat (first | apply Exists.intro (α := Int) | apply Exists.intro (α := Bool) | apply Exists.intro (α := ByteArray) | (apply Exists.intro (α := Option Addr); apply Exists.intro (α := Nat); apply Exists.intro (α := Nat)) | apply Exists.intro (α := Option Addr) | apply Exists.intro (α := Value))); refine ⟨rfl, ?_⟩)
      | refine h.stG fun w' h => ?_
      | refine h.stV fun w' h => ?_
      | refine h.box fun p w' h => ?_
      | refine h.boxV fun p w' h => ?_
      | refine h.allocZ fun p w' h => ?_
      | refine h.allocZV fun p w' h => ?_
      | (refine RD.bld ?_; (repeat (first | apply Exists.intro (α := Int) | apply Exists.intro (α := Bool) | apply Exists.intro (α := ByteArray) | (apply Exists.intro (α := Option Addr); apply Exists.intro (α := Nat); apply Exists.intro (α := Nat)) | apply Exists.intro (α := Option Addr) | apply Exists.intro (α := Value))); refine ⟨rfl, ?_⟩)
      | (refine RDS.bld ?_; (repeat (first | apply Exists.intro (α := Int) | apply Exists.intro (α := Bool) | apply Exists.intro (α := ByteArray) | (apply Exists.intro (α := Option Addr); apply Exists.intro (α := Nat); apply Exists.intro (α := Nat)) | apply Exists.intro (α := Option Addr) | apply Exists.intro (α := Value))); refine ⟨rfl, ?_⟩)
      | refine St.rdsI _ ?_
      | refine St.rdsB _ ?_
      | refine St.rdsP _ ?_
      | refine St.rdsL _ ?_
      | refine St.rdsT _ ?_
      | refine St.rdsI2 _ _ ?_
      | refine St.rdsB2 _ _ ?_
      | (refine St.rdsG ?_; (repeat (first | apply Exists.intro (α := Int) | apply Exists.intro (α := Bool) | apply Exists.intro (α := ByteArray) | (apply Exists.intro (α := Option Addr); apply Exists.intro (α := Nat); apply Exists.intro (α := Nat)) | apply Exists.intro (α := Option Addr) | apply Exists.intro (α := Value))); refine ⟨rfl, ?_⟩)
      | refine letb rfl ?_
      | refine sat h ?_
      | (have h := h.drew; refine sat h ?_)
      | refine sat1 h (fun _ h => h.to) ?_)
    refine hk ⟨rem, loc, seq, ack, 2, O, k, [o, o2], none, 0, []⟩ _ (by simp [mkSg, h6, Sg.pl, ho, ho2]) (sgp_mk _ ?_)
    have h : St c _ (opp o :: opp o2 :: own 138 2 O [o, o2].length k ([o, o2].flatMap opx) :: L) := h.to
    exact (h.ro2.swap.ownRows.addNil fun w => Row.nil w none).to
  · repeat' (first
      | refine nilc ?_
      | refine h.rdI _ ?_
      | refine h.rdB _ ?_
      | refine h.rdP _ ?_
      | refine h.rdL _ ?_
      | refine h.rdT _ ?_
      | refine h.rdI2 _ _ ?_
      | refine h.rdB2 _ _ ?_
      | refine h.rdP2 _ _ ?_
      | refine h.rdL2 _ _ ?_
      | refine h.st2 _ _ fun w' h => ?_
      | refine h.st _ fun w' h => ?_
      | refine h.rdvI ?_
      | refine h.rdvB ?_
      | refine h.rdvP ?_
      | refine h.rdvL ?_
      | refine h.rdvT ?_
      | (refine h.rdG ?_; (repeat (first | apply Exists.intro (α := Int) | apply Exists.intro (α := Bool) | apply Exists.intro (α := ByteArray) | (apply Exists.intro (α := Option Addr); apply Exists.intro (α := Nat); apply Exists.intro (α := Nat)) | apply Exists.intro (α := Option Addr) | apply Exists.intro (α := Value))); refine ⟨rfl, ?_⟩)
      | refine h.stG fun w' h => ?_
      | refine h.stV fun w' h => ?_
      | refine h.box fun p w' h => ?_
      | refine h.boxV fun p w' h => ?_
      | refine h.allocZ fun p w' h => ?_
      | refine h.allocZV fun p w' h => ?_
      | (refine RD.bld ?_; (repeat (first | apply Exists.intro (α := Int) | apply Exists.intro (α := Bool) | apply Exists.intro (α := ByteArray) | (apply Exists.intro (α := Option Addr); apply Exists.intro (α := Nat); apply Exists.intro (α := Nat)) | apply Exists.intro (α := Option Addr) | apply Exists.intro (α := Value))); refine ⟨rfl, ?_⟩)
      | (refine RDS.bld ?_; (repeat (first | apply Exists.intro (α := Int) | apply Exists.intro (α := Bool) | apply Exists.intro (α := ByteArray) | (apply Exists.intro (α := Option Addr); apply Exists.intro (α := Nat); apply Exists.intro (α := Nat)) | apply Exists.intro (α := Option Addr) | apply Exists.intro (α := Value))); refine ⟨rfl, ?_⟩)
      | refine St.rdsI _ ?_
      | refine St.rdsB _ ?_
      | refine St.rdsP _ ?_
      | refine St.rdsL _ ?_
      | refine St.rdsT _ ?_
      | refine St.rdsI2 _ _ ?_
      | refine St.rdsB2 _ _ ?_
      | (refine St.rdsG ?_; (repeat (first | apply Exists.intro (α := Int) | apply Exists.intro (α := Bool) | apply Exists.intro (α := ByteArray) | (apply Exists.intro (α := Option Addr); apply Exists.intro (α := Nat); apply Exists.intro (α := Nat)) | apply Exists.intro (α := Option Addr) | apply Exists.intro (α := Value))); refine ⟨rfl, ?_⟩)
      | refine letb rfl ?_
      | refine sat h ?_
      | (have h := h.drew; refine sat h ?_)
      | refine sat1 h (fun _ h => h.to) ?_)
    exact hk ⟨rem, loc, seq, ack, 2, none, 0, [], none, 0, []⟩ _ (by simp [mkSg, h1, h2, h3, h4, h6, Sg.pl]) (sgp_mk _ ((((h.to : St c _ L).addNil fun w => Row.nil w none).ro0).addNil fun w => Row.nil w none))
abbrev sgo (s : Sg) : SA := Br.ro fun w => Row w s.oA (s.os.flatMap opx) ∧ ∀ o ∈ s.os, Row w o.body (bvs o.bodys)
theorem sgo_in {s : Sg} (hd : RdIn L s.dA (bvs s.ds)) : SgIn (sgo s :: L) s := fun c w hs => ⟨(hs.ro .head).1, (hs.ro .head).2, hd.more c w hs⟩
theorem rmake_ok (h : St c w L) {kind loc rem seq ack : Int} {A : Option Addr} {C : Nat} {bs : List UInt8} (hd : RdIn L A (bvs bs)) (hbl : bs.length ≤ 10000) (hC : bs.length ≤ C) (hs : U32 seq) (ha : U32 ack) {Q : Value → World → Prop}
    (hk : ∀ s w', s.pl = mkSg kind loc rem seq ack bs → SgIn (sgo s :: L) s → St c w' (sgo s :: L) → Q (sgv s) w') : CALL PG 23 [.int .i64 kind, .int .u16 loc, .int .u16 rem, .int .u32 seq, .int .u32 ack, .slice A bs.length C] w Q := by
  obtain ⟨s0, s1⟩ := hs
  obtain ⟨a0, a1⟩ := ha
  refine call23 ?_
  unfold N23
  repeat' (first
    | refine nilc ?_
    | refine h.rdI _ ?_
    | refine h.rdB _ ?_
    | refine h.rdP _ ?_
    | refine h.rdL _ ?_
    | refine h.rdT _ ?_
    | refine h.rdI2 _ _ ?_
    | refine h.rdB2 _ _ ?_
    | refine h.rdP2 _ _ ?_
    | refine h.rdL2 _ _ ?_
    | refine h.st2 _ _ fun w' h => ?_
    | refine h.st _ fun w' h => ?_
    | refine h.rdvI ?_
    | refine h.rdvB ?_
    | refine h.rdvP ?_
    | refine h.rdvL ?_
    | refine h.rdvT ?_
    | (refine h.rdG ?_; (repeat (first | apply Exists.intro (α := Int) | apply Exists.intro (α := Bool) | apply Exists.intro (α := ByteArray) | (apply Exists.intro (α := Option Addr); apply Exists.intro (α := Nat); apply Exists.intro (α := Nat)) | apply Exists.intro (α := Option Addr) | apply Exists.intro (α := Value))); refine ⟨rfl, ?_⟩)
    | refine h.stG fun w' h => ?_
    | refine h.stV fun w' h => ?_
    | refine h.box fun p w' h => ?_
    | refine h.boxV fun p w' h => ?_
    | refine h.allocZ fun p w' h => ?_
    | refine h.allocZV fun p w' h => ?_
    | (refine RD.bld ?_; (repeat (first | apply Exists.intro (α := Int) | apply Exists.intro (α := Bool) | apply Exists.intro (α := ByteArray) | (apply Exists.intro (α := Option Addr); apply Exists.intro (α := Nat); apply Exists.intro (α := Nat)) | apply Exists.intro (α := Option Addr) | apply Exists.intro (α := Value))); refine ⟨rfl, ?_⟩)
    | (refine RDS.bld ?_; (repeat (first | apply Exists.intro (α := Int) | apply Exists.intro (α := Bool) | apply Exists.intro (α := ByteArray) | (apply Exists.intro (α := Option Addr); apply Exists.intro (α := Nat); apply Exists.intro (α := Nat)) | apply Exists.intro (α := Option Addr) | apply Exists.intro (α := Value))); refine ⟨rfl, ?_⟩)
    | refine St.rdsI _ ?_
    | refine St.rdsB _ ?_
    | refine St.rdsP _ ?_
    | refine St.rdsL _ ?_
    | refine St.rdsT _ ?_
    | refine St.rdsI2 _ _ ?_
    | refine St.rdsB2 _ _ ?_
    | (refine St.rdsG ?_; (repeat (first | apply Exists.intro (α := Int) | apply Exists.intro (α := Bool) | apply Exists.intro (α := ByteArray) | (apply Exists.intro (α := Option Addr); apply Exists.intro (α := Nat); apply Exists.intro (α := Nat)) | apply Exists.intro (α := Option Addr) | apply Exists.intro (α := Value))); refine ⟨rfl, ?_⟩)
    | refine letb rfl ?_
    | refine sat h ?_
    | (have h := h.drew; refine sat h ?_)
    | refine sat1 h (fun _ h => h.to) ?_)
  refine ifq (fun h1 => ?_) fun h1 => ?_
  · repeat' (first
      | refine nilc ?_
      | refine h.rdI _ ?_
      | refine h.rdB _ ?_
      | refine h.rdP _ ?_
      | refine h.rdL _ ?_
      | refine h.rdT _ ?_
      | refine h.rdI2 _ _ ?_
      | refine h.rdB2 _ _ ?_
      | refine h.rdP2 _ _ ?_
      | refine h.rdL2 _ _ ?_
      | refine h.st2 _ _ fun w' h => ?_
      | refine h.st _ fun w' h => ?_
      | refine h.rdvI ?_
      | refine h.rdvB ?_
      | refine h.rdvP ?_
      | refine h.rdvL ?_
      | refine h.rdvT ?_
      | (refine h.rdG ?_; (repeat (first | apply Exists.intro (α := Int) | apply Exists.intro (α := Bool) | apply Exists.intro (α := ByteArray) | (apply Exists.intro (α := Option Addr); apply Exists.intro (α := Nat); apply Exists.intro (α := Nat)) | apply Exists.intro (α := Option Addr) | apply Exists.intro (α := Value))); refine ⟨rfl, ?_⟩)
      | refine h.stG fun w' h => ?_
      | refine h.stV fun w' h => ?_
      | refine h.box fun p w' h => ?_
      | refine h.boxV fun p w' h => ?_
      | refine h.allocZ fun p w' h => ?_
      | refine h.allocZV fun p w' h => ?_
      | (refine RD.bld ?_; (repeat (first | apply Exists.intro (α := Int) | apply Exists.intro (α := Bool) | apply Exists.intro (α := ByteArray) | (apply Exists.intro (α := Option Addr); apply Exists.intro (α := Nat); apply Exists.intro (α := Nat)) | apply Exists.intro (α := Option Addr) | apply Exists.intro (α := Value))); refine ⟨rfl, ?_⟩)
      | (refine RDS.bld ?_; (repeat (first | apply Exists.intro (α := Int) | apply Exists.intro (α := Bool) | apply Exists.intro (α := ByteArray) | (apply Exists.intro (α := Option Addr); apply Exists.intro (α := Nat); apply Exists.intro (α := Nat)) | apply Exists.intro (α := Option Addr) | apply Exists.intro (α := Value))); refine ⟨rfl, ?_⟩)
      | refine St.rdsI _ ?_
      | refine St.rdsB _ ?_
      | refine St.rdsP _ ?_
      | refine St.rdsL _ ?_
      | refine St.rdsT _ ?_
      | refine St.rdsI2 _ _ ?_
      | refine St.rdsB2 _ _ ?_
      | (refine St.rdsG ?_; (repeat (first | apply Exists.intro (α := Int) | apply Exists.intro (α := Bool) | apply Exists.intro (α := ByteArray) | (apply Exists.intro (α := Option Addr); apply Exists.intro (α := Nat); apply Exists.intro (α := Nat)) | apply Exists.intro (α := Option Addr) | apply Exists.intro (α := Value))); refine ⟨rfl, ?_⟩)
      | refine letb rfl ?_
      | refine sat h ?_
      | (have h := h.drew; refine sat h ?_)
      | refine sat1 h (fun _ h => h.to) ?_)
    exact hk ⟨rem, loc, seq, ack, 4, none, 0, [], none, 0, []⟩ _ (by simp [mkSg, h1, Sg.pl]) (sgo_in RdIn.nil) (((h.to : St c _ L).ro0).addNil fun w => Row.nil w none).mergeRo
  repeat' (first
    | refine nilc ?_
    | refine h.rdI _ ?_
    | refine h.rdB _ ?_
    | refine h.rdP _ ?_
    | refine h.rdL _ ?_
    | refine h.rdT _ ?_
    | refine h.rdI2 _ _ ?_
    | refine h.rdB2 _ _ ?_
    | refine h.rdP2 _ _ ?_
    | refine h.rdL2 _ _ ?_
    | refine h.st2 _ _ fun w' h => ?_
    | refine h.st _ fun w' h => ?_
    | refine h.rdvI ?_
    | refine h.rdvB ?_
    | refine h.rdvP ?_
    | refine h.rdvL ?_
    | refine h.rdvT ?_
    | (refine h.rdG ?_; (repeat (first | apply Exists.intro (α := Int) | apply Exists.intro (α := Bool) | apply Exists.intro (α := ByteArray) | (apply Exists.intro (α := Option Addr); apply Exists.intro (α := Nat); apply Exists.intro (α := Nat)) | apply Exists.intro (α := Option Addr) | apply Exists.intro (α := Value))); refine ⟨rfl, ?_⟩)
    | refine h.stG fun w' h => ?_
    | refine h.stV fun w' h => ?_
    | refine h.box fun p w' h => ?_
    | refine h.boxV fun p w' h => ?_
    | refine h.allocZ fun p w' h => ?_
    | refine h.allocZV fun p w' h => ?_
    | (refine RD.bld ?_; (repeat (first | apply Exists.intro (α := Int) | apply Exists.intro (α := Bool) | apply Exists.intro (α := ByteArray) | (apply Exists.intro (α := Option Addr); apply Exists.intro (α := Nat); apply Exists.intro (α := Nat)) | apply Exists.intro (α := Option Addr) | apply Exists.intro (α := Value))); refine ⟨rfl, ?_⟩)
    | (refine RDS.bld ?_; (repeat (first | apply Exists.intro (α := Int) | apply Exists.intro (α := Bool) | apply Exists.intro (α := ByteArray) | (apply Exists.intro (α := Option Addr); apply Exists.intro (α := Nat); apply Exists.intro (α := Nat)) | apply Exists.intro (α := Option Addr) | apply Exists.intro (α := Value))); refine ⟨rfl, ?_⟩)
    | refine St.rdsI _ ?_
    | refine St.rdsB _ ?_
    | refine St.rdsP _ ?_
    | refine St.rdsL _ ?_
    | refine St.rdsT _ ?_
    | refine St.rdsI2 _ _ ?_
    | refine St.rdsB2 _ _ ?_
    | (refine St.rdsG ?_; (repeat (first | apply Exists.intro (α := Int) | apply Exists.intro (α := Bool) | apply Exists.intro (α := ByteArray) | (apply Exists.intro (α := Option Addr); apply Exists.intro (α := Nat); apply Exists.intro (α := Nat)) | apply Exists.intro (α := Option Addr) | apply Exists.intro (α := Value))); refine ⟨rfl, ?_⟩)
    | refine letb rfl ?_
    | refine sat h ?_
    | (have h := h.drew; refine sat h ?_)
    | refine sat1 h (fun _ h => h.to) ?_)
  refine ifq (fun h2 => ?_) fun h2 => ?_
  · repeat' (first
      | refine nilc ?_
      | refine h.rdI _ ?_
      | refine h.rdB _ ?_
      | refine h.rdP _ ?_
      | refine h.rdL _ ?_
      | refine h.rdT _ ?_
      | refine h.rdI2 _ _ ?_
      | refine h.rdB2 _ _ ?_
      | refine h.rdP2 _ _ ?_
      | refine h.rdL2 _ _ ?_
      | refine h.st2 _ _ fun w' h => ?_
      | refine h.st _ fun w' h => ?_
      | refine h.rdvI ?_
      | refine h.rdvB ?_
      | refine h.rdvP ?_
      | refine h.rdvL ?_
      | refine h.rdvT ?_
      | (refine h.rdG ?_; (repeat (first | apply Exists.intro (α := Int) | apply Exists.intro (α := Bool) | apply Exists.intro (α := ByteArray) | (apply Exists.intro (α := Option Addr); apply Exists.intro (α := Nat); apply Exists.intro (α := Nat)) | apply Exists.intro (α := Option Addr) | apply Exists.intro (α := Value))); refine ⟨rfl, ?_⟩)
      | refine h.stG fun w' h => ?_
      | refine h.stV fun w' h => ?_
      | refine h.box fun p w' h => ?_
      | refine h.boxV fun p w' h => ?_
      | refine h.allocZ fun p w' h => ?_
      | refine h.allocZV fun p w' h => ?_
      | (refine RD.bld ?_; (repeat (first | apply Exists.intro (α := Int) | apply Exists.intro (α := Bool) | apply Exists.intro (α := ByteArray) | (apply Exists.intro (α := Option Addr); apply Exists.intro (α := Nat); apply Exists.intro (α := Nat)) | apply Exists.intro (α := Option Addr) | apply Exists.intro (α := Value))); refine ⟨rfl, ?_⟩)
      | (refine RDS.bld ?_; (repeat (first | apply Exists.intro (α := Int) | apply Exists.intro (α := Bool) | apply Exists.intro (α := ByteArray) | (apply Exists.intro (α := Option Addr); apply Exists.intro (α := Nat); apply Exists.intro (α := Nat)) | apply Exists.intro (α := Option Addr) | apply Exists.intro (α := Value))); refine ⟨rfl, ?_⟩)
      | refine St.rdsI _ ?_
      | refine St.rdsB _ ?_
      | refine St.rdsP _ ?_
      | refine St.rdsL _ ?_
      | refine St.rdsT _ ?_
      | refine St.rdsI2 _ _ ?_
      | refine St.rdsB2 _ _ ?_
      | (refine St.rdsG ?_; (repeat (first | apply Exists.intro (α := Int) | apply Exists.intro (α := Bool) | apply Exists.intro (α := ByteArray) | (apply Exists.intro (α := Option Addr); apply Exists.intro (α := Nat); apply Exists.intro (α := Nat)) | apply Exists.intro (α := Option Addr) | apply Exists.intro (α := Value))); refine ⟨rfl, ?_⟩)
      | refine letb rfl ?_
      | refine sat h ?_
      | (have h := h.drew; refine sat h ?_)
      | refine sat1 h (fun _ h => h.to) ?_)
    refine rkey_ok h (by decide) (by decide) (by decide) (by decide) fun O k w' h => ⟨_, _, _, rfl, ?_⟩
    repeat' (first
      | refine nilc ?_
      | refine h.rdI _ ?_
      | refine h.rdB _ ?_
      | refine h.rdP _ ?_
      | refine h.rdL _ ?_
      | refine h.rdT _ ?_
      | refine h.rdI2 _ _ ?_
      | refine h.rdB2 _ _ ?_
      | refine h.rdP2 _ _ ?_
      | refine h.rdL2 _ _ ?_
      | refine h.st2 _ _ fun w' h => ?_
      | refine h.st _ fun w' h => ?_
      | refine h.rdvI ?_
      | refine h.rdvB ?_
      | refine h.rdvP ?_
      | refine h.rdvL ?_
      | refine h.rdvT ?_
      | (refine h.rdG ?_; (repeat (first | apply Exists.intro (α := Int) | apply Exists.intro (α := Bool) | apply Exists.intro (α := ByteArray) | (apply Exists.intro (α := Option Addr); apply Exists.intro (α := Nat); apply Exists.intro (α := Nat)) | apply Exists.intro (α := Option Addr) | apply Exists.intro (α := Value))); refine ⟨rfl, ?_⟩)
      | refine h.stG fun w' h => ?_
      | refine h.stV fun w' h => ?_
      | refine h.box fun p w' h => ?_
      | refine h.boxV fun p w' h => ?_
      | refine h.allocZ fun p w' h => ?_
      | refine h.allocZV fun p w' h => ?_
      | (refine RD.bld ?_; (repeat (first | apply Exists.intro (α := Int) | apply Exists.intro (α := Bool) | apply Exists.intro (α := ByteArray) | (apply Exists.intro (α := Option Addr); apply Exists.intro (α := Nat); apply Exists.intro (α := Nat)) | apply Exists.intro (α := Option Addr) | apply Exists.intro (α := Value))); refine ⟨rfl, ?_⟩)
      | (refine RDS.bld ?_; (repeat (first | apply Exists.intro (α := Int) | apply Exists.intro (α := Bool) | apply Exists.intro (α := ByteArray) | (apply Exists.intro (α := Option Addr); apply Exists.intro (α := Nat); apply Exists.intro (α := Nat)) | apply Exists.intro (α := Option Addr) | apply Exists.intro (α := Value))); refine ⟨rfl, ?_⟩)
      | refine St.rdsI _ ?_
      | refine St.rdsB _ ?_
      | refine St.rdsP _ ?_
      | refine St.rdsL _ ?_
      | refine St.rdsT _ ?_
      | refine St.rdsI2 _ _ ?_
      | refine St.rdsB2 _ _ ?_
      | (refine St.rdsG ?_; (repeat (first | apply Exists.intro (α := Int) | apply Exists.intro (α := Bool) | apply Exists.intro (α := ByteArray) | (apply Exists.intro (α := Option Addr); apply Exists.intro (α := Nat); apply Exists.intro (α := Nat)) | apply Exists.intro (α := Option Addr) | apply Exists.intro (α := Value))); refine ⟨rfl, ?_⟩)
      | refine letb rfl ?_
      | refine sat h ?_
      | (have h := h.drew; refine sat h ?_)
      | refine sat1 h (fun _ h => h.to) ?_)
    refine h.lit (n := 1) 138 2 ([(⟨1, O, k, keyB 1 0 false⟩ : Opx)].flatMap opx) fun q w' h => ?_
    repeat' (first
      | refine nilc ?_
      | refine h.rdI _ ?_
      | refine h.rdB _ ?_
      | refine h.rdP _ ?_
      | refine h.rdL _ ?_
      | refine h.rdT _ ?_
      | refine h.rdI2 _ _ ?_
      | refine h.rdB2 _ _ ?_
      | refine h.rdP2 _ _ ?_
      | refine h.rdL2 _ _ ?_
      | refine h.st2 _ _ fun w' h => ?_
      | refine h.st _ fun w' h => ?_
      | refine h.rdvI ?_
      | refine h.rdvB ?_
      | refine h.rdvP ?_
      | refine h.rdvL ?_
      | refine h.rdvT ?_
      | (refine h.rdG ?_; (repeat (first | apply Exists.intro (α := Int) | apply Exists.intro (α := Bool) | apply Exists.intro (α := ByteArray) | (apply Exists.intro (α := Option Addr); apply Exists.intro (α := Nat); apply Exists.intro (α := Nat)) | apply Exists.intro (α := Option Addr) | apply Exists.intro (α := Value))); refine ⟨rfl, ?_⟩)
      | refine h.stG fun w' h => ?_
      | refine h.stV fun w' h => ?_
      | refine h.box fun p w' h => ?_
      | refine h.boxV fun p w' h => ?_
      | refine h.allocZ fun p w' h => ?_
      | refine h.allocZV fun p w' h => ?_
      | (refine RD.bld ?_; (repeat (first | apply Exists.intro (α := Int) | apply Exists.intro (α := Bool) | apply Exists.intro (α := ByteArray) | (apply Exists.intro (α := Option Addr); apply Exists.intro (α := Nat); apply Exists.intro (α := Nat)) | apply Exists.intro (α := Option Addr) | apply Exists.intro (α := Value))); refine ⟨rfl, ?_⟩)
      | (refine RDS.bld ?_; (repeat (first | apply Exists.intro (α := Int) | apply Exists.intro (α := Bool) | apply Exists.intro (α := ByteArray) | (apply Exists.intro (α := Option Addr); apply Exists.intro (α := Nat); apply Exists.intro (α := Nat)) | apply Exists.intro (α := Option Addr) | apply Exists.intro (α := Value))); refine ⟨rfl, ?_⟩)
      | refine St.rdsI _ ?_
      | refine St.rdsB _ ?_
      | refine St.rdsP _ ?_
      | refine St.rdsL _ ?_
      | refine St.rdsT _ ?_
      | refine St.rdsI2 _ _ ?_
      | refine St.rdsB2 _ _ ?_
      | (refine St.rdsG ?_; (repeat (first | apply Exists.intro (α := Int) | apply Exists.intro (α := Bool) | apply Exists.intro (α := ByteArray) | (apply Exists.intro (α := Option Addr); apply Exists.intro (α := Nat); apply Exists.intro (α := Nat)) | apply Exists.intro (α := Option Addr) | apply Exists.intro (α := Value))); refine ⟨rfl, ?_⟩)
      | refine letb rfl ?_
      | refine sat h ?_
      | (have h := h.drew; refine sat h ?_)
      | refine sat1 h (fun _ h => h.to) ?_)
    refine hk ⟨rem, loc, seq, ack, 1, some ⟨q, 0, none⟩, 1, [⟨1, O, k, keyB 1 0 false⟩], none, 0, []⟩ _ (by simp [mkSg, h2, Sg.pl, opl]) (sgo_in RdIn.nil) ?_
    have h : St c _ (own 5 1 O (keyB 1 0 false).length k (bvs (keyB 1 0 false)) :: own 138 2 (some ⟨q, 0, none⟩) 1 1 ([(⟨1, O, k, keyB 1 0 false⟩ : Opx)].flatMap opx) :: L) := h.to
    exact (h.ownRows.ro1 (o := ⟨1, O, k, keyB 1 0 false⟩)).swap.ownRows.mergeRo
  repeat' (first
    | refine nilc ?_
    | refine h.rdI _ ?_
    | refine h.rdB _ ?_
    | refine h.rdP _ ?_
    | refine h.rdL _ ?_
    | refine h.rdT _ ?_
    | refine h.rdI2 _ _ ?_
    | refine h.rdB2 _ _ ?_
    | refine h.rdP2 _ _ ?_
    | refine h.rdL2 _ _ ?_
    | refine h.st2 _ _ fun w' h => ?_
    | refine h.st _ fun w' h => ?_
    | refine h.rdvI ?_
    | refine h.rdvB ?_
    | refine h.rdvP ?_
    | refine h.rdvL ?_
    | refine h.rdvT ?_
    | (refine h.rdG ?_; (repeat (first | apply Exists.intro (α := Int) | apply Exists.intro (α := Bool) | apply Exists.intro (α := ByteArray) | (apply Exists.intro (α := Option Addr); apply Exists.intro (α := Nat); apply Exists.intro (α := Nat)) | apply Exists.intro (α := Option Addr) | apply Exists.intro (α := Value))); refine ⟨rfl, ?_⟩)
    | refine h.stG fun w' h => ?_
    | refine h.stV fun w' h => ?_
    | refine h.box fun p w' h => ?_
    | refine h.boxV fun p w' h => ?_
    | refine h.allocZ fun p w' h => ?_
    | refine h.allocZV fun p w' h => ?_
    | (refine RD.bld ?_; (repeat (first | apply Exists.intro (α := Int) | apply Exists.intro (α := Bool) | apply Exists.intro (α := ByteArray) | (apply Exists.intro (α := Option Addr); apply Exists.intro (α := Nat); apply Exists.intro (α := Nat)) | apply Exists.intro (α := Option Addr) | apply Exists.intro (α := Value))); refine ⟨rfl, ?_⟩)
    | (refine RDS.bld ?_; (repeat (first | apply Exists.intro (α := Int) | apply Exists.intro (α := Bool) | apply Exists.intro (α := ByteArray) | (apply Exists.intro (α := Option Addr); apply Exists.intro (α := Nat); apply Exists.intro (α := Nat)) | apply Exists.intro (α := Option Addr) | apply Exists.intro (α := Value))); refine ⟨rfl, ?_⟩)
    | refine St.rdsI _ ?_
    | refine St.rdsB _ ?_
    | refine St.rdsP _ ?_
    | refine St.rdsL _ ?_
    | refine St.rdsT _ ?_
    | refine St.rdsI2 _ _ ?_
    | refine St.rdsB2 _ _ ?_
    | (refine St.rdsG ?_; (repeat (first | apply Exists.intro (α := Int) | apply Exists.intro (α := Bool) | apply Exists.intro (α := ByteArray) | (apply Exists.intro (α := Option Addr); apply Exists.intro (α := Nat); apply Exists.intro (α := Nat)) | apply Exists.intro (α := Option Addr) | apply Exists.intro (α := Value))); refine ⟨rfl, ?_⟩)
    | refine letb rfl ?_
    | refine sat h ?_
    | (have h := h.drew; refine sat h ?_)
    | refine sat1 h (fun _ h => h.to) ?_)
  refine ifq (fun h3 => ?_) fun h3 => ?_
  · repeat' (first
      | refine nilc ?_
      | refine h.rdI _ ?_
      | refine h.rdB _ ?_
      | refine h.rdP _ ?_
      | refine h.rdL _ ?_
      | refine h.rdT _ ?_
      | refine h.rdI2 _ _ ?_
      | refine h.rdB2 _ _ ?_
      | refine h.rdP2 _ _ ?_
      | refine h.rdL2 _ _ ?_
      | refine h.st2 _ _ fun w' h => ?_
      | refine h.st _ fun w' h => ?_
      | refine h.rdvI ?_
      | refine h.rdvB ?_
      | refine h.rdvP ?_
      | refine h.rdvL ?_
      | refine h.rdvT ?_
      | (refine h.rdG ?_; (repeat (first | apply Exists.intro (α := Int) | apply Exists.intro (α := Bool) | apply Exists.intro (α := ByteArray) | (apply Exists.intro (α := Option Addr); apply Exists.intro (α := Nat); apply Exists.intro (α := Nat)) | apply Exists.intro (α := Option Addr) | apply Exists.intro (α := Value))); refine ⟨rfl, ?_⟩)
      | refine h.stG fun w' h => ?_
      | refine h.stV fun w' h => ?_
      | refine h.box fun p w' h => ?_
      | refine h.boxV fun p w' h => ?_
      | refine h.allocZ fun p w' h => ?_
      | refine h.allocZV fun p w' h => ?_
      | (refine RD.bld ?_; (repeat (first | apply Exists.intro (α := Int) | apply Exists.intro (α := Bool) | apply Exists.intro (α := ByteArray) | (apply Exists.intro (α := Option Addr); apply Exists.intro (α := Nat); apply Exists.intro (α := Nat)) | apply Exists.intro (α := Option Addr) | apply Exists.intro (α := Value))); refine ⟨rfl, ?_⟩)
      | (refine RDS.bld ?_; (repeat (first | apply Exists.intro (α := Int) | apply Exists.intro (α := Bool) | apply Exists.intro (α := ByteArray) | (apply Exists.intro (α := Option Addr); apply Exists.intro (α := Nat); apply Exists.intro (α := Nat)) | apply Exists.intro (α := Option Addr) | apply Exists.intro (α := Value))); refine ⟨rfl, ?_⟩)
      | refine St.rdsI _ ?_
      | refine St.rdsB _ ?_
      | refine St.rdsP _ ?_
      | refine St.rdsL _ ?_
      | refine St.rdsT _ ?_
      | refine St.rdsI2 _ _ ?_
      | refine St.rdsB2 _ _ ?_
      | (refine St.rdsG ?_; (repeat (first | apply Exists.intro (α := Int) | apply Exists.intro (α := Bool) | apply Exists.intro (α := ByteArray) | (apply Exists.intro (α := Option Addr); apply Exists.intro (α := Nat); apply Exists.intro (α := Nat)) | apply Exists.intro (α := Option Addr) | apply Exists.intro (α := Value))); refine ⟨rfl, ?_⟩)
      | refine letb rfl ?_
      | refine sat h ?_
      | (have h := h.drew; refine sat h ?_)
      | refine sat1 h (fun _ h => h.to) ?_)
    refine rkey_ok h (by decide) (by decide) (by decide) (by decide) fun O k w' h => ⟨_, _, _, rfl, ?_⟩
    repeat' (first
      | refine nilc ?_
      | refine h.rdI _ ?_
      | refine h.rdB _ ?_
      | refine h.rdP _ ?_
      | refine h.rdL _ ?_
      | refine h.rdT _ ?_
      | refine h.rdI2 _ _ ?_
      | refine h.rdB2 _ _ ?_
      | refine h.rdP2 _ _ ?_
      | refine h.rdL2 _ _ ?_
      | refine h.st2 _ _ fun w' h => ?_
      | refine h.st _ fun w' h => ?_
      | refine h.rdvI ?_
      | refine h.rdvB ?_
      | refine h.rdvP ?_
      | refine h.rdvL ?_
      | refine h.rdvT ?_
      | (refine h.rdG ?_; (repeat (first | apply Exists.intro (α := Int) | apply Exists.intro (α := Bool) | apply Exists.intro (α := ByteArray) | (apply Exists.intro (α := Option Addr); apply Exists.intro (α := Nat); apply Exists.intro (α := Nat)) | apply Exists.intro (α := Option Addr) | apply Exists.intro (α := Value))); refine ⟨rfl, ?_⟩)
      | refine h.stG fun w' h => ?_
      | refine h.stV fun w' h => ?_
      | refine h.box fun p w' h => ?_
      | refine h.boxV fun p w' h => ?_
      | refine h.allocZ fun p w' h => ?_
      | refine h.allocZV fun p w' h => ?_
      | (refine RD.bld ?_; (repeat (first | apply Exists.intro (α := Int) | apply Exists.intro (α := Bool) | apply Exists.intro (α := ByteArray) | (apply Exists.intro (α := Option Addr); apply Exists.intro (α := Nat); apply Exists.intro (α := Nat)) | apply Exists.intro (α := Option Addr) | apply Exists.intro (α := Value))); refine ⟨rfl, ?_⟩)
      | (refine RDS.bld ?_; (repeat (first | apply Exists.intro (α := Int) | apply Exists.intro (α := Bool) | apply Exists.intro (α := ByteArray) | (apply Exists.intro (α := Option Addr); apply Exists.intro (α := Nat); apply Exists.intro (α := Nat)) | apply Exists.intro (α := Option Addr) | apply Exists.intro (α := Value))); refine ⟨rfl, ?_⟩)
      | refine St.rdsI _ ?_
      | refine St.rdsB _ ?_
      | refine St.rdsP _ ?_
      | refine St.rdsL _ ?_
      | refine St.rdsT _ ?_
      | refine St.rdsI2 _ _ ?_
      | refine St.rdsB2 _ _ ?_
      | (refine St.rdsG ?_; (repeat (first | apply Exists.intro (α := Int) | apply Exists.intro (α := Bool) | apply Exists.intro (α := ByteArray) | (apply Exists.intro (α := Option Addr); apply Exists.intro (α := Nat); apply Exists.intro (α := Nat)) | apply Exists.intro (α := Option Addr) | apply Exists.intro (α := Value))); refine ⟨rfl, ?_⟩)
      | refine letb rfl ?_
      | refine sat h ?_
      | (have h := h.drew; refine sat h ?_)
      | refine sat1 h (fun _ h => h.to) ?_)
    refine h.lit (n := 1) 138 2 ([(⟨1, O, k, keyB 1 0 true⟩ : Opx)].flatMap opx) fun q w' h => ?_
    repeat' (first
      | refine nilc ?_
      | refine h.rdI _ ?_
      | refine h.rdB _ ?_
      | refine h.rdP _ ?_
      | refine h.rdL _ ?_
      | refine h.rdT _ ?_
      | refine h.rdI2 _ _ ?_
      | refine h.rdB2 _ _ ?_
      | refine h.rdP2 _ _ ?_
      | refine h.rdL2 _ _ ?_
      | refine h.st2 _ _ fun w' h => ?_
      | refine h.st _ fun w' h => ?_
      | refine h.rdvI ?_
      | refine h.rdvB ?_
      | refine h.rdvP ?_
      | refine h.rdvL ?_
      | refine h.rdvT ?_
      | (refine h.rdG ?_; (repeat (first | apply Exists.intro (α := Int) | apply Exists.intro (α := Bool) | apply Exists.intro (α := ByteArray) | (apply Exists.intro (α := Option Addr); apply Exists.intro (α := Nat); apply Exists.intro (α := Nat)) | apply Exists.intro (α := Option Addr) | apply Exists.intro (α := Value))); refine ⟨rfl, ?_⟩)
      | refine h.stG fun w' h => ?_
      | refine h.stV fun w' h => ?_
      | refine h.box fun p w' h => ?_
      | refine h.boxV fun p w' h => ?_
      | refine h.allocZ fun p w' h => ?_
      | refine h.allocZV fun p w' h => ?_
      | (refine RD.bld ?_; (repeat (first | apply Exists.intro (α := Int) | apply Exists.intro (α := Bool) | apply Exists.intro (α := ByteArray) | (apply Exists.intro (α := Option Addr); apply Exists.intro (α := Nat); apply Exists.intro (α := Nat)) | apply Exists.intro (α := Option Addr) | apply Exists.intro (α := Value))); refine ⟨rfl, ?_⟩)
      | (refine RDS.bld ?_; (repeat (first | apply Exists.intro (α := Int) | apply Exists.intro (α := Bool) | apply Exists.intro (α := ByteArray) | (apply Exists.intro (α := Option Addr); apply Exists.intro (α := Nat); apply Exists.intro (α := Nat)) | apply Exists.intro (α := Option Addr) | apply Exists.intro (α := Value))); refine ⟨rfl, ?_⟩)
      | refine St.rdsI _ ?_
      | refine St.rdsB _ ?_
      | refine St.rdsP _ ?_
      | refine St.rdsL _ ?_
      | refine St.rdsT _ ?_
      | refine St.rdsI2 _ _ ?_
      | refine St.rdsB2 _ _ ?_
      | (refine St.rdsG ?_; (repeat (first | apply Exists.intro (α := Int) | apply Exists.intro (α := Bool) | apply Exists.intro (α := ByteArray) | (apply Exists.intro (α := Option Addr); apply Exists.intro (α := Nat); apply Exists.intro (α := Nat)) | apply Exists.intro (α := Option Addr) | apply Exists.intro (α := Value))); refine ⟨rfl, ?_⟩)
      | refine letb rfl ?_
      | refine sat h ?_
      | (have h := h.drew; refine sat h ?_)
      | refine sat1 h (fun _ h => h.to) ?_)
    refine hk ⟨rem, loc, seq, ack, 3, some ⟨q, 0, none⟩, 1, [⟨1, O, k, keyB 1 0 true⟩], none, 0, []⟩ _ (by simp [mkSg, h3, Sg.pl, opl]) (sgo_in RdIn.nil) ?_
    have h : St c _ (own 5 1 O (keyB 1 0 true).length k (bvs (keyB 1 0 true)) :: own 138 2 (some ⟨q, 0, none⟩) 1 1 ([(⟨1, O, k, keyB 1 0 true⟩ : Opx)].flatMap opx) :: L) := h.to
    exact (h.ownRows.ro1 (o := ⟨1, O, k, keyB 1 0 true⟩)).swap.ownRows.mergeRo
  repeat' (first
    | refine nilc ?_
    | refine h.rdI _ ?_
    | refine h.rdB _ ?_
    | refine h.rdP _ ?_
    | refine h.rdL _ ?_
    | refine h.rdT _ ?_
    | refine h.rdI2 _ _ ?_
    | refine h.rdB2 _ _ ?_
    | refine h.rdP2 _ _ ?_
    | refine h.rdL2 _ _ ?_
    | refine h.st2 _ _ fun w' h => ?_
    | refine h.st _ fun w' h => ?_
    | refine h.rdvI ?_
    | refine h.rdvB ?_
    | refine h.rdvP ?_
    | refine h.rdvL ?_
    | refine h.rdvT ?_
    | (refine h.rdG ?_; (repeat (first | apply Exists.intro (α := Int) | apply Exists.intro (α := Bool) | apply Exists.intro (α := ByteArray) | (apply Exists.intro (α := Option Addr); apply Exists.intro (α := Nat); apply Exists.intro (α := Nat)) | apply Exists.intro (α := Option Addr) | apply Exists.intro (α := Value))); refine ⟨rfl, ?_⟩)
    | refine h.stG fun w' h => ?_
    | refine h.stV fun w' h => ?_
    | refine h.box fun p w' h => ?_
    | refine h.boxV fun p w' h => ?_
    | refine h.allocZ fun p w' h => ?_
    | refine h.allocZV fun p w' h => ?_
    | (refine RD.bld ?_; (repeat (first | apply Exists.intro (α := Int) | apply Exists.intro (α := Bool) | apply Exists.intro (α := ByteArray) | (apply Exists.intro (α := Option Addr); apply Exists.intro (α := Nat); apply Exists.intro (α := Nat)) | apply Exists.intro (α := Option Addr) | apply Exists.intro (α := Value))); refine ⟨rfl, ?_⟩)
    | (refine RDS.bld ?_; (repeat (first | apply Exists.intro (α := Int) | apply Exists.intro (α := Bool) | apply Exists.intro (α := ByteArray) | (apply Exists.intro (α := Option Addr); apply Exists.intro (α := Nat); apply Exists.intro (α := Nat)) | apply Exists.intro (α := Option Addr) | apply Exists.intro (α := Value))); refine ⟨rfl, ?_⟩)
    | refine St.rdsI _ ?_
    | refine St.rdsB _ ?_
    | refine St.rdsP _ ?_
    | refine St.rdsL _ ?_
    | refine St.rdsT _ ?_
    | refine St.rdsI2 _ _ ?_
    | refine St.rdsB2 _ _ ?_
    | (refine St.rdsG ?_; (repeat (first | apply Exists.intro (α := Int) | apply Exists.intro (α := Bool) | apply Exists.intro (α := ByteArray) | (apply Exists.intro (α := Option Addr); apply Exists.intro (α := Nat); apply Exists.intro (α := Nat)) | apply Exists.intro (α := Option Addr) | apply Exists.intro (α := Value))); refine ⟨rfl, ?_⟩)
    | refine letb rfl ?_
    | refine sat h ?_
    | (have h := h.drew; refine sat h ?_)
    | refine sat1 h (fun _ h => h.to) ?_)
  refine ifq (fun h4 => ?_) fun h4 => ?_
  · rw [show IntKind.u64.wrap seq = seq by rw [wrapU64]; omega, show IntKind.u64.wrap ack = ack by rw [wrapU64]; omega]
    repeat' (first
      | refine nilc ?_
      | refine h.rdI _ ?_
      | refine h.rdB _ ?_
      | refine h.rdP _ ?_
      | refine h.rdL _ ?_
      | refine h.rdT _ ?_
      | refine h.rdI2 _ _ ?_
      | refine h.rdB2 _ _ ?_
      | refine h.rdP2 _ _ ?_
      | refine h.rdL2 _ _ ?_
      | refine h.st2 _ _ fun w' h => ?_
      | refine h.st _ fun w' h => ?_
      | refine h.rdvI ?_
      | refine h.rdvB ?_
      | refine h.rdvP ?_
      | refine h.rdvL ?_
      | refine h.rdvT ?_
      | (refine h.rdG ?_; (repeat (first | apply Exists.intro (α := Int) | apply Exists.intro (α := Bool) | apply Exists.intro (α := ByteArray) | (apply Exists.intro (α := Option Addr); apply Exists.intro (α := Nat); apply Exists.intro (α := Nat)) | apply Exists.intro (α := Option Addr) | apply Exists.intro (α := Value))); refine ⟨rfl, ?_⟩)
      | refine h.stG fun w' h => ?_
      | refine h.stV fun w' h => ?_
      | refine h.box fun p w' h => ?_
      | refine h.boxV fun p w' h => ?_
      | refine h.allocZ fun p w' h => ?_
      | refine h.allocZV fun p w' h => ?_
      | (refine RD.bld ?_; (repeat (first | apply Exists.intro (α := Int) | apply Exists.intro (α := Bool) | apply Exists.intro (α := ByteArray) | (apply Exists.intro (α := Option Addr); apply Exists.intro (α := Nat); apply Exists.intro (α := Nat)) | apply Exists.intro (α := Option Addr) | apply Exists.intro (α := Value))); refine ⟨rfl, ?_⟩)
      | (refine RDS.bld ?_; (repeat (first | apply Exists.intro (α := Int) | apply Exists.intro (α := Bool) | apply Exists.intro (α := ByteArray) | (apply Exists.intro (α := Option Addr); apply Exists.intro (α := Nat); apply Exists.intro (α := Nat)) | apply Exists.intro (α := Option Addr) | apply Exists.intro (α := Value))); refine ⟨rfl, ?_⟩)
      | refine St.rdsI _ ?_
      | refine St.rdsB _ ?_
      | refine St.rdsP _ ?_
      | refine St.rdsL _ ?_
      | refine St.rdsT _ ?_
      | refine St.rdsI2 _ _ ?_
      | refine St.rdsB2 _ _ ?_
      | (refine St.rdsG ?_; (repeat (first | apply Exists.intro (α := Int) | apply Exists.intro (α := Bool) | apply Exists.intro (α := ByteArray) | (apply Exists.intro (α := Option Addr); apply Exists.intro (α := Nat); apply Exists.intro (α := Nat)) | apply Exists.intro (α := Option Addr) | apply Exists.intro (α := Value))); refine ⟨rfl, ?_⟩)
      | refine letb rfl ?_
      | refine sat h ?_
      | (have h := h.drew; refine sat h ?_)
      | refine sat1 h (fun _ h => h.to) ?_)
    refine rdata_ok h s0 (by omega) a0 (by omega) (by decide) (by decide) (by decide) (by decide) fun O k w' h => ⟨_, _, _, rfl, ?_⟩
    repeat' (first
      | refine nilc ?_
      | refine h.rdI _ ?_
      | refine h.rdB _ ?_
      | refine h.rdP _ ?_
      | refine h.rdL _ ?_
      | refine h.rdT _ ?_
      | refine h.rdI2 _ _ ?_
      | refine h.rdB2 _ _ ?_
      | refine h.rdP2 _ _ ?_
      | refine h.rdL2 _ _ ?_
      | refine h.st2 _ _ fun w' h => ?_
      | refine h.st _ fun w' h => ?_
      | refine h.rdvI ?_
      | refine h.rdvB ?_
      | refine h.rdvP ?_
      | refine h.rdvL ?_
      | refine h.rdvT ?_
      | (refine h.rdG ?_; (repeat (first | apply Exists.intro (α := Int) | apply Exists.intro (α := Bool) | apply Exists.intro (α := ByteArray) | (apply Exists.intro (α := Option Addr); apply Exists.intro (α := Nat); apply Exists.intro (α := Nat)) | apply Exists.intro (α := Option Addr) | apply Exists.intro (α := Value))); refine ⟨rfl, ?_⟩)
      | refine h.stG fun w' h => ?_
      | refine h.stV fun w' h => ?_
      | refine h.box fun p w' h => ?_
      | refine h.boxV fun p w' h => ?_
      | refine h.allocZ fun p w' h => ?_
      | refine h.allocZV fun p w' h => ?_
      | (refine RD.bld ?_; (repeat (first | apply Exists.intro (α := Int) | apply Exists.intro (α := Bool) | apply Exists.intro (α := ByteArray) | (apply Exists.intro (α := Option Addr); apply Exists.intro (α := Nat); apply Exists.intro (α := Nat)) | apply Exists.intro (α := Option Addr) | apply Exists.intro (α := Value))); refine ⟨rfl, ?_⟩)
      | (refine RDS.bld ?_; (repeat (first | apply Exists.intro (α := Int) | apply Exists.intro (α := Bool) | apply Exists.intro (α := ByteArray) | (apply Exists.intro (α := Option Addr); apply Exists.intro (α := Nat); apply Exists.intro (α := Nat)) | apply Exists.intro (α := Option Addr) | apply Exists.intro (α := Value))); refine ⟨rfl, ?_⟩)
      | refine St.rdsI _ ?_
      | refine St.rdsB _ ?_
      | refine St.rdsP _ ?_
      | refine St.rdsL _ ?_
      | refine St.rdsT _ ?_
      | refine St.rdsI2 _ _ ?_
      | refine St.rdsB2 _ _ ?_
      | (refine St.rdsG ?_; (repeat (first | apply Exists.intro (α := Int) | apply Exists.intro (α := Bool) | apply Exists.intro (α := ByteArray) | (apply Exists.intro (α := Option Addr); apply Exists.intro (α := Nat); apply Exists.intro (α := Nat)) | apply Exists.intro (α := Option Addr) | apply Exists.intro (α := Value))); refine ⟨rfl, ?_⟩)
      | refine letb rfl ?_
      | refine sat h ?_
      | (have h := h.drew; refine sat h ?_)
      | refine sat1 h (fun _ h => h.to) ?_)
    refine h.lit (n := 1) 138 2 ([(⟨3, O, k, dataB false false seq ack 0 0⟩ : Opx)].flatMap opx) fun q w' h => ?_
    repeat' (first
      | refine nilc ?_
      | refine h.rdI _ ?_
      | refine h.rdB _ ?_
      | refine h.rdP _ ?_
      | refine h.rdL _ ?_
      | refine h.rdT _ ?_
      | refine h.rdI2 _ _ ?_
      | refine h.rdB2 _ _ ?_
      | refine h.rdP2 _ _ ?_
      | refine h.rdL2 _ _ ?_
      | refine h.st2 _ _ fun w' h => ?_
      | refine h.st _ fun w' h => ?_
      | refine h.rdvI ?_
      | refine h.rdvB ?_
      | refine h.rdvP ?_
      | refine h.rdvL ?_
      | refine h.rdvT ?_
      | (refine h.rdG ?_; (repeat (first | apply Exists.intro (α := Int) | apply Exists.intro (α := Bool) | apply Exists.intro (α := ByteArray) | (apply Exists.intro (α := Option Addr); apply Exists.intro (α := Nat); apply Exists.intro (α := Nat)) | apply Exists.intro (α := Option Addr) | apply Exists.intro (α := Value))); refine ⟨rfl, ?_⟩)
      | refine h.stG fun w' h => ?_
      | refine h.stV fun w' h => ?_
      | refine h.box fun p w' h => ?_
      | refine h.boxV fun p w' h => ?_
      | refine h.allocZ fun p w' h => ?_
      | refine h.allocZV fun p w' h => ?_
      | (refine RD.bld ?_; (repeat (first | apply Exists.intro (α := Int) | apply Exists.intro (α := Bool) | apply Exists.intro (α := ByteArray) | (apply Exists.intro (α := Option Addr); apply Exists.intro (α := Nat); apply Exists.intro (α := Nat)) | apply Exists.intro (α := Option Addr) | apply Exists.intro (α := Value))); refine ⟨rfl, ?_⟩)
      | (refine RDS.bld ?_; (repeat (first | apply Exists.intro (α := Int) | apply Exists.intro (α := Bool) | apply Exists.intro (α := ByteArray) | (apply Exists.intro (α := Option Addr); apply Exists.intro (α := Nat); apply Exists.intro (α := Nat)) | apply Exists.intro (α := Option Addr) | apply Exists.intro (α := Value))); refine ⟨rfl, ?_⟩)
      | refine St.rdsI _ ?_
      | refine St.rdsB _ ?_
      | refine St.rdsP _ ?_
      | refine St.rdsL _ ?_
      | refine St.rdsT _ ?_
      | refine St.rdsI2 _ _ ?_
      | refine St.rdsB2 _ _ ?_
      | (refine St.rdsG ?_; (repeat (first | apply Exists.intro (α := Int) | apply Exists.intro (α := Bool) | apply Exists.intro (α := ByteArray) | (apply Exists.intro (α := Option Addr); apply Exists.intro (α := Nat); apply Exists.intro (α := Nat)) | apply Exists.intro (α := Option Addr) | apply Exists.intro (α := Value))); refine ⟨rfl, ?_⟩)
      | refine letb rfl ?_
      | refine sat h ?_
      | (have h := h.drew; refine sat h ?_)
      | refine sat1 h (fun _ h => h.to) ?_)
    have hfin : ∀ {w' : World} {D : List UInt8}, St c w' (own 5 1 O (dataB false false seq ack 0 0).length k (bvs (dataB false false seq ack 0 0)) :: own 138 2 (some ⟨q, 0, none⟩) 1 1 ([(⟨3, O, k, dataB false false seq ack 0 0⟩ : Opx)].flatMap opx) :: L) →
        St c w' (sgo ⟨rem, loc, seq, ack, 2, some ⟨q, 0, none⟩, 1, [⟨3, O, k, dataB false false seq ack 0 0⟩], A, C, D⟩ :: L) := fun h =>
      (h.ownRows.ro1 (o := ⟨3, O, k, dataB false false seq ack 0 0⟩)).swap.ownRows.mergeRo
    have hd2 : RdIn L A (bvs (bs.take 1024)) := by have := hd.take 1024; rwa [bvs_take] at this
    refine ifd (fun h5 => ?_) fun h5 => ?_
    · refine ⟨by omega, ?_⟩
      rw [cutA_zero]
      repeat' (first
        | refine nilc ?_
        | refine h.rdI _ ?_
        | refine h.rdB _ ?_
        | refine h.rdP _ ?_
        | refine h.rdL _ ?_
        | refine h.rdT _ ?_
        | refine h.rdI2 _ _ ?_
        | refine h.rdB2 _ _ ?_
        | refine h.rdP2 _ _ ?_
        | refine h.rdL2 _ _ ?_
        | refine h.st2 _ _ fun w' h => ?_
        | refine h.st _ fun w' h => ?_
        | refine h.rdvI ?_
        | refine h.rdvB ?_
        | refine h.rdvP ?_
        | refine h.rdvL ?_
        | refine h.rdvT ?_
        | (refine h.rdG ?_; (repeat (first | apply Exists.intro (α := Int) | apply Exists.intro (α := Bool) | apply Exists.intro (α := ByteArray) | (apply Exists.intro (α := Option Addr); apply Exists.intro (α := Nat); apply Exists.intro (α := Nat)) | apply Exists.intro (α := Option Addr) | apply Exists.intro (α := Value))); refine ⟨rfl, ?_⟩)
        | refine h.stG fun w' h => ?_
        | refine h.stV fun w' h => ?_
        | refine h.box fun p w' h => ?_
        | refine h.boxV fun p w' h => ?_
        | refine h.allocZ fun p w' h => ?_
        | refine h.allocZV fun p w' h => ?_
        | (refine RD.bld ?_; (repeat (first | apply Exists.intro (α := Int) | apply Exists.intro (α := Bool) | apply Exists.intro (α := ByteArray) | (apply Exists.intro (α := Option Addr); apply Exists.intro (α := Nat); apply Exists.intro (α := Nat)) | apply Exists.intro (α := Option Addr) | apply Exists.intro (α := Value))); refine ⟨rfl, ?_⟩)
        | (refine RDS.bld ?_; (repeat (first | apply Exists.intro (α := Int) | apply Exists.intro (α := Bool) | apply Exists.intro (α := ByteArray) | (apply Exists.intro (α := Option Addr); apply Exists.intro (α := Nat); apply Exists.intro (α := Nat)) | apply Exists.intro (α := Option Addr) | apply Exists.intro (α := Value))); refine ⟨rfl, ?_⟩)
        | refine St.rdsI _ ?_
        | refine St.rdsB _ ?_
        | refine St.rdsP _ ?_
        | refine St.rdsL _ ?_
        | refine St.rdsT _ ?_
        | refine St.rdsI2 _ _ ?_
        | refine St.rdsB2 _ _ ?_
        | (refine St.rdsG ?_; (repeat (first | apply Exists.intro (α := Int) | apply Exists.intro (α := Bool) | apply Exists.intro (α := ByteArray) | (apply Exists.intro (α := Option Addr); apply Exists.intro (α := Nat); apply Exists.intro (α := Nat)) | apply Exists.intro (α := Option Addr) | apply Exists.intro (α := Value))); refine ⟨rfl, ?_⟩)
        | refine letb rfl ?_
        | refine sat h ?_
        | (have h := h.drew; refine sat h ?_)
        | refine sat1 h (fun _ h => h.to) ?_)
      have el : Int.toNat (1024 : Int) - Int.toNat (0 : Int) = (bs.take 1024).length := by rw [List.length_take]; simp; omega
      have e0 : C - Int.toNat (0 : Int) = C := by simp
      rw [el, e0]
      refine hk ⟨rem, loc, seq, ack, 2, some ⟨q, 0, none⟩, 1, [⟨3, O, k, dataB false false seq ack 0 0⟩], A, C, bs.take 1024⟩ _ (by simp [mkSg, h4, Sg.pl, opl]) (sgo_in hd2) (hfin h.to)
    · repeat' (first
        | refine nilc ?_
        | refine h.rdI _ ?_
        | refine h.rdB _ ?_
        | refine h.rdP _ ?_
        | refine h.rdL _ ?_
        | refine h.rdT _ ?_
        | refine h.rdI2 _ _ ?_
        | refine h.rdB2 _ _ ?_
        | refine h.rdP2 _ _ ?_
        | refine h.rdL2 _ _ ?_
        | refine h.st2 _ _ fun w' h => ?_
        | refine h.st _ fun w' h => ?_
        | refine h.rdvI ?_
        | refine h.rdvB ?_
        | refine h.rdvP ?_
        | refine h.rdvL ?_
        | refine h.rdvT ?_
        | (refine h.rdG ?_; (repeat (first | apply Exists.intro (α := Int) | apply Exists.intro (α := Bool) | apply Exists.intro (α := ByteArray) | (apply Exists.intro (α := Option Addr); apply Exists.intro (α := Nat); apply Exists.intro (α := Nat)) | apply Exists.intro (α := Option Addr) | apply Exists.intro (α := Value))); refine ⟨rfl, ?_⟩)
        | refine h.stG fun w' h => ?_
        | refine h.stV fun w' h => ?_
        | refine h.box fun p w' h => ?_
        | refine h.boxV fun p w' h => ?_
        | refine h.allocZ fun p w' h => ?_
        | refine h.allocZV fun p w' h => ?_
        | (refine RD.bld ?_; (repeat (first | apply Exists.intro (α := Int) | apply Exists.intro (α := Bool) | apply Exists.intro (α := ByteArray) | (apply Exists.intro (α := Option Addr); apply Exists.intro (α := Nat); apply Exists.intro (α := Nat)) | apply Exists.intro (α := Option Addr) | apply Exists.intro (α := Value))); refine ⟨rfl, ?_⟩)
        | (refine RDS.bld ?_; (repeat (first | apply Exists.intro (α := Int) | apply Exists.intro (α := Bool) | apply Exists.intro (α := ByteArray) | (apply Exists.intro (α := Option Addr); apply Exists.intro (α := Nat); apply Exists.intro (α := Nat)) | apply Exists.intro (α := Option Addr) | apply Exists.intro (α := Value))); refine ⟨rfl, ?_⟩)
        | refine St.rdsI _ ?_
        | refine St.rdsB _ ?_
        | refine St.rdsP _ ?_
        | refine St.rdsL _ ?_
        | refine St.rdsT _ ?_
        | refine St.rdsI2 _ _ ?_
        | refine St.rdsB2 _ _ ?_
        | (refine St.rdsG ?_; (repeat (first | apply Exists.intro (α := Int) | apply Exists.intro (α := Bool) | apply Exists.intro (α := ByteArray) | (apply Exists.intro (α := Option Addr); apply Exists.intro (α := Nat); apply Exists.intro (α := Nat)) | apply Exists.intro (α := Option Addr) | apply Exists.intro (α := Value))); refine ⟨rfl, ?_⟩)
        | refine letb rfl ?_
        | refine sat h ?_
        | (have h := h.drew; refine sat h ?_)
        | refine sat1 h (fun _ h => h.to) ?_)
      have el : bs.take 1024 = bs := List.take_of_length_le (by omega)
      refine hk ⟨rem, loc, seq, ack, 2, some ⟨q, 0, none⟩, 1, [⟨3, O, k, dataB false false seq ack 0 0⟩], A, C, bs⟩ _ (by simp [mkSg, h4, Sg.pl, opl, el]) (sgo_in hd) (hfin h.to)
  repeat' (first
    | refine nilc ?_
    | refine h.rdI _ ?_
    | refine h.rdB _ ?_
    | refine h.rdP _ ?_
    | refine h.rdL _ ?_
    | refine h.rdT _ ?_
    | refine h.rdI2 _ _ ?_
    | refine h.rdB2 _ _ ?_
    | refine h.rdP2 _ _ ?_
    | refine h.rdL2 _ _ ?_
    | refine h.st2 _ _ fun w' h => ?_
    | refine h.st _ fun w' h => ?_
    | refine h.rdvI ?_
    | refine h.rdvB ?_
    | refine h.rdvP ?_
    | refine h.rdvL ?_
    | refine h.rdvT ?_
    | (refine h.rdG ?_; (repeat (first | apply Exists.intro (α := Int) | apply Exists.intro (α := Bool) | apply Exists.intro (α := ByteArray) | (apply Exists.intro (α := Option Addr); apply Exists.intro (α := Nat); apply Exists.intro (α := Nat)) | apply Exists.intro (α := Option Addr) | apply Exists.intro (α := Value))); refine ⟨rfl, ?_⟩)
    | refine h.stG fun w' h => ?_
    | refine h.stV fun w' h => ?_
    | refine h.box fun p w' h => ?_
    | refine h.boxV fun p w' h => ?_
    | refine h.allocZ fun p w' h => ?_
    | refine h.allocZV fun p w' h => ?_
    | (refine RD.bld ?_; (repeat (first | apply Exists.intro (α := Int) | apply Exists.intro (α := Bool) | apply Exists.intro (α := ByteArray) | (apply Exists.intro (α := Option Addr); apply Exists.intro (α := Nat); apply Exists.intro (α := Nat)) | apply Exists.intro (α := Option Addr) | apply Exists.intro (α := Value))); refine ⟨rfl, ?_⟩)
    | (refine RDS.bld ?_; (repeat (first | apply Exists.intro (α := Int) | apply Exists.intro (α := Bool) | apply Exists.intro (α := ByteArray) | (apply Exists.intro (α := Option Addr); apply Exists.intro (α := Nat); apply Exists.intro (α := Nat)) | apply Exists.intro (α := Option Addr) | apply Exists.intro (α := Value))); refine ⟨rfl, ?_⟩)
    | refine St.rdsI _ ?_
    | refine St.rdsB _ ?_
    | refine St.rdsP _ ?_
    | refine St.rdsL _ ?_
    | refine St.rdsT _ ?_
    | refine St.rdsI2 _ _ ?_
    | refine St.rdsB2 _ _ ?_
    | (refine St.rdsG ?_; (repeat (first | apply Exists.intro (α := Int) | apply Exists.intro (α := Bool) | apply Exists.intro (α := ByteArray) | (apply Exists.intro (α := Option Addr); apply Exists.intro (α := Nat); apply Exists.intro (α := Nat)) | apply Exists.intro (α := Option Addr) | apply Exists.intro (α := Value))); refine ⟨rfl, ?_⟩)
    | refine letb rfl ?_
    | refine sat h ?_
    | (have h := h.drew; refine sat h ?_)
    | refine sat1 h (fun _ h => h.to) ?_)
  refine ifq (fun h6 => ?_) fun h6 => ?_
  · repeat' (first
      | refine nilc ?_
      | refine h.rdI _ ?_
      | refine h.rdB _ ?_
      | refine h.rdP _ ?_
      | refine h.rdL _ ?_
      | refine h.rdT _ ?_
      | refine h.rdI2 _ _ ?_
      | refine h.rdB2 _ _ ?_
      | refine h.rdP2 _ _ ?_
      | refine h.rdL2 _ _ ?_
      | refine h.st2 _ _ fun w' h => ?_
      | refine h.st _ fun w' h => ?_
      | refine h.rdvI ?_
      | refine h.rdvB ?_
      | refine h.rdvP ?_
      | refine h.rdvL ?_
      | refine h.rdvT ?_
      | (refine h.rdG ?_; (repeat (first | apply Exists.intro (α := Int) | apply Exists.intro (α := Bool) | apply Exists.intro (α := ByteArray) | (apply Exists.intro (α := Option Addr); apply Exists.intro (α := Nat); apply Exists.intro (α := Nat)) | apply Exists.intro (α := Option Addr) | apply Exists.intro (α := Value))); refine ⟨rfl, ?_⟩)
      | refine h.stG fun w' h => ?_
      | refine h.stV fun w' h => ?_
      | refine h.box fun p w' h => ?_
      | refine h.boxV fun p w' h => ?_
      | refine h.allocZ fun p w' h => ?_
      | refine h.allocZV fun p w' h => ?_
      | (refine RD.bld ?_; (repeat (first | apply Exists.intro (α := Int) | apply Exists.intro (α := Bool) | apply Exists.intro (α := ByteArray) | (apply Exists.intro (α := Option Addr); apply Exists.intro (α := Nat); apply Exists.intro (α := Nat)) | apply Exists.intro (α := Option Addr) | apply Exists.intro (α := Value))); refine ⟨rfl, ?_⟩)
      | (refine RDS.bld ?_; (repeat (first | apply Exists.intro (α := Int) | apply Exists.intro (α := Bool) | apply Exists.intro (α := ByteArray) | (apply Exists.intro (α := Option Addr); apply Exists.intro (α := Nat); apply Exists.intro (α := Nat)) | apply Exists.intro (α := Option Addr) | apply Exists.intro (α := Value))); refine ⟨rfl, ?_⟩)
      | refine St.rdsI _ ?_
      | refine St.rdsB _ ?_
      | refine St.rdsP _ ?_
      | refine St.rdsL _ ?_
      | refine St.rdsT _ ?_
      | refine St.rdsI2 _ _ ?_
      | refine St.rdsB2 _ _ ?_
      | (refine St.rdsG ?_; (repeat (first | apply Exists.intro (α := Int) | apply Exists.intro (α := Bool) | apply Exists.intro (α := ByteArray) | (apply Exists.intro (α := Option Addr); apply Exists.intro (α := Nat); apply Exists.intro (α := Nat)) | apply Exists.intro (α := Option Addr) | apply Exists.intro (α := Value))); refine ⟨rfl, ?_⟩)
      | refine letb rfl ?_
      | refine sat h ?_
      | (have h := h.drew; refine sat h ?_)
      | refine sat1 h (fun _ h => h.to) ?_)
    refine rdata_ok h (by decide) (by decide) (by decide) (by decide) (by decide) (by decide) (by decide) (by decide) fun O k w' h => ⟨_, _, _, rfl, ?_⟩
    repeat' (first
      | refine nilc ?_
      | refine h.rdI _ ?_
      | refine h.rdB _ ?_
      | refine h.rdP _ ?_
      | refine h.rdL _ ?_
      | refine h.rdT _ ?_
      | refine h.rdI2 _ _ ?_
      | refine h.rdB2 _ _ ?_
      | refine h.rdP2 _ _ ?_
      | refine h.rdL2 _ _ ?_
      | refine h.st2 _ _ fun w' h => ?_
      | refine h.st _ fun w' h => ?_
      | refine h.rdvI ?_
      | refine h.rdvB ?_
      | refine h.rdvP ?_
      | refine h.rdvL ?_
      | refine h.rdvT ?_
      | (refine h.rdG ?_; (repeat (first | apply Exists.intro (α := Int) | apply Exists.intro (α := Bool) | apply Exists.intro (α := ByteArray) | (apply Exists.intro (α := Option Addr); apply Exists.intro (α := Nat); apply Exists.intro (α := Nat)) | apply Exists.intro (α := Option Addr) | apply Exists.intro (α := Value))); refine ⟨rfl, ?_⟩)
      | refine h.stG fun w' h => ?_
      | refine h.stV fun w' h => ?_
      | refine h.box fun p w' h => ?_
      | refine h.boxV fun p w' h => ?_
      | refine h.allocZ fun p w' h => ?_
      | refine h.allocZV fun p w' h => ?_
      | (refine RD.bld ?_; (repeat (first | apply Exists.intro (α := Int) | apply Exists.intro (α := Bool) | apply Exists.intro (α := ByteArray) | (apply Exists.intro (α := Option Addr); apply Exists.intro (α := Nat); apply Exists.intro (α := Nat)) | apply Exists.intro (α := Option Addr) | apply Exists.intro (α := Value))); refine ⟨rfl, ?_⟩)
      | (refine RDS.bld ?_; (repeat (first | apply Exists.intro (α := Int) | apply Exists.intro (α := Bool) | apply Exists.intro (α := ByteArray) | (apply Exists.intro (α := Option Addr); apply Exists.intro (α := Nat); apply Exists.intro (α := Nat)) | apply Exists.intro (α := Option Addr) | apply Exists.intro (α := Value))); refine ⟨rfl, ?_⟩)
      | refine St.rdsI _ ?_
      | refine St.rdsB _ ?_
      | refine St.rdsP _ ?_
      | refine St.rdsL _ ?_
      | refine St.rdsT _ ?_
      | refine St.rdsI2 _ _ ?_
      | refine St.rdsB2 _ _ ?_
      | (refine St.rdsG ?_; (repeat (first | apply Exists.intro (α := Int) | apply Exists.intro (α := Bool) | apply Exists.intro (α := ByteArray) | (apply Exists.intro (α := Option Addr); apply Exists.intro (α := Nat); apply Exists.intro (α := Nat)) | apply Exists.intro (α := Option Addr) | apply Exists.intro (α := Value))); refine ⟨rfl, ?_⟩)
      | refine letb rfl ?_
      | refine sat h ?_
      | (have h := h.drew; refine sat h ?_)
      | refine sat1 h (fun _ h => h.to) ?_)
    refine rword_ok h a0 a1 (by decide) (by decide) (by decide) (by decide) (by decide) (by decide) fun O2 k2 w' h => ⟨_, _, _, rfl, ?_⟩
    repeat' (first
      | refine nilc ?_
      | refine h.rdI _ ?_
      | refine h.rdB _ ?_
      | refine h.rdP _ ?_
      | refine h.rdL _ ?_
      | refine h.rdT _ ?_
      | refine h.rdI2 _ _ ?_
      | refine h.rdB2 _ _ ?_
      | refine h.rdP2 _ _ ?_
      | refine h.rdL2 _ _ ?_
      | refine h.st2 _ _ fun w' h => ?_
      | refine h.st _ fun w' h => ?_
      | refine h.rdvI ?_
      | refine h.rdvB ?_
      | refine h.rdvP ?_
      | refine h.rdvL ?_
      | refine h.rdvT ?_
      | (refine h.rdG ?_; (repeat (first | apply Exists.intro (α := Int) | apply Exists.intro (α := Bool) | apply Exists.intro (α := ByteArray) | (apply Exists.intro (α := Option Addr); apply Exists.intro (α := Nat); apply Exists.intro (α := Nat)) | apply Exists.intro (α := Option Addr) | apply Exists.intro (α := Value))); refine ⟨rfl, ?_⟩)
      | refine h.stG fun w' h => ?_
      | refine h.stV fun w' h => ?_
      | refine h.box fun p w' h => ?_
      | refine h.boxV fun p w' h => ?_
      | refine h.allocZ fun p w' h => ?_
      | refine h.allocZV fun p w' h => ?_
      | (refine RD.bld ?_; (repeat (first | apply Exists.intro (α := Int) | apply Exists.intro (α := Bool) | apply Exists.intro (α := ByteArray) | (apply Exists.intro (α := Option Addr); apply Exists.intro (α := Nat); apply Exists.intro (α := Nat)) | apply Exists.intro (α := Option Addr) | apply Exists.intro (α := Value))); refine ⟨rfl, ?_⟩)
      | (refine RDS.bld ?_; (repeat (first | apply Exists.intro (α := Int) | apply Exists.intro (α := Bool) | apply Exists.intro (α := ByteArray) | (apply Exists.intro (α := Option Addr); apply Exists.intro (α := Nat); apply Exists.intro (α := Nat)) | apply Exists.intro (α := Option Addr) | apply Exists.intro (α := Value))); refine ⟨rfl, ?_⟩)
      | refine St.rdsI _ ?_
      | refine St.rdsB _ ?_
      | refine St.rdsP _ ?_
      | refine St.rdsL _ ?_
      | refine St.rdsT _ ?_
      | refine St.rdsI2 _ _ ?_
      | refine St.rdsB2 _ _ ?_
      | (refine St.rdsG ?_; (repeat (first | apply Exists.intro (α := Int) | apply Exists.intro (α := Bool) | apply Exists.intro (α := ByteArray) | (apply Exists.intro (α := Option Addr); apply Exists.intro (α := Nat); apply Exists.intro (α := Nat)) | apply Exists.intro (α := Option Addr) | apply Exists.intro (α := Value))); refine ⟨rfl, ?_⟩)
      | refine letb rfl ?_
      | refine sat h ?_
      | (have h := h.drew; refine sat h ?_)
      | refine sat1 h (fun _ h => h.to) ?_)
    refine h.lit (n := 2) 138 2 ([(⟨3, O, k, dataB false false 0 0 0 0⟩ : Opx), ⟨7, O2, k2, wordB ack 0 0 false 0⟩].flatMap opx) fun q w' h => ?_
    repeat' (first
      | refine nilc ?_
      | refine h.rdI _ ?_
      | refine h.rdB _ ?_
      | refine h.rdP _ ?_
      | refine h.rdL _ ?_
      | refine h.rdT _ ?_
      | refine h.rdI2 _ _ ?_
      | refine h.rdB2 _ _ ?_
      | refine h.rdP2 _ _ ?_
      | refine h.rdL2 _ _ ?_
      | refine h.st2 _ _ fun w' h => ?_
      | refine h.st _ fun w' h => ?_
      | refine h.rdvI ?_
      | refine h.rdvB ?_
      | refine h.rdvP ?_
      | refine h.rdvL ?_
      | refine h.rdvT ?_
      | (refine h.rdG ?_; (repeat (first | apply Exists.intro (α := Int) | apply Exists.intro (α := Bool) | apply Exists.intro (α := ByteArray) | (apply Exists.intro (α := Option Addr); apply Exists.intro (α := Nat); apply Exists.intro (α := Nat)) | apply Exists.intro (α := Option Addr) | apply Exists.intro (α := Value))); refine ⟨rfl, ?_⟩)
      | refine h.stG fun w' h => ?_
      | refine h.stV fun w' h => ?_
      | refine h.box fun p w' h => ?_
      | refine h.boxV fun p w' h => ?_
      | refine h.allocZ fun p w' h => ?_
      | refine h.allocZV fun p w' h => ?_
      | (refine RD.bld ?_; (repeat (first | apply Exists.intro (α := Int) | apply Exists.intro (α := Bool) | apply Exists.intro (α := ByteArray) | (apply Exists.intro (α := Option Addr); apply Exists.intro (α := Nat); apply Exists.intro (α := Nat)) | apply Exists.intro (α := Option Addr) | apply Exists.intro (α := Value))); refine ⟨rfl, ?_⟩)
      | (refine RDS.bld ?_; (repeat (first | apply Exists.intro (α := Int) | apply Exists.intro (α := Bool) | apply Exists.intro (α := ByteArray) | (apply Exists.intro (α := Option Addr); apply Exists.intro (α := Nat); apply Exists.intro (α := Nat)) | apply Exists.intro (α := Option Addr) | apply Exists.intro (α := Value))); refine ⟨rfl, ?_⟩)
      | refine St.rdsI _ ?_
      | refine St.rdsB _ ?_
      | refine St.rdsP _ ?_
      | refine St.rdsL _ ?_
      | refine St.rdsT _ ?_
      | refine St.rdsI2 _ _ ?_
      | refine St.rdsB2 _ _ ?_
      | (refine St.rdsG ?_; (repeat (first | apply Exists.intro (α := Int) | apply Exists.intro (α := Bool) | apply Exists.intro (α := ByteArray) | (apply Exists.intro (α := Option Addr); apply Exists.intro (α := Nat); apply Exists.intro (α := Nat)) | apply Exists.intro (α := Option Addr) | apply Exists.intro (α := Value))); refine ⟨rfl, ?_⟩)
      | refine letb rfl ?_
      | refine sat h ?_
      | (have h := h.drew; refine sat h ?_)
      | refine sat1 h (fun _ h => h.to) ?_)
    refine hk ⟨rem, loc, seq, ack, 2, some ⟨q, 0, none⟩, 2, [⟨3, O, k, dataB false false 0 0 0 0⟩, ⟨7, O2, k2, wordB ack 0 0 false 0⟩], none, 0, []⟩ _ (by simp [mkSg, h6, Sg.pl, opl]) (sgo_in RdIn.nil) ?_
    have h : St c _ (own 5 1 O2 (wordB ack 0 0 false 0).length k2 (bvs (wordB ack 0 0 false 0)) :: own 5 1 O (dataB false false 0 0 0 0).length k (bvs (dataB false false 0 0 0 0)) :: own 138 2 (some ⟨q, 0, none⟩) 2 2 ([(⟨3, O, k, dataB false false 0 0 0 0⟩ : Opx), ⟨7, O2, k2, wordB ack 0 0 false 0⟩].flatMap opx) :: L) := h.to
    have h := h.ownRows.swap.ownRows
    have h := St.ro2 (o := ⟨3, O, k, dataB false false 0 0 0 0⟩) (p := ⟨7, O2, k2, wordB ack 0 0 false 0⟩) h
    exact h.swap.ownRows.mergeRo
  · repeat' (first
      | refine nilc ?_
      | refine h.rdI _ ?_
      | refine h.rdB _ ?_
      | refine h.rdP _ ?_
      | refine h.rdL _ ?_
      | refine h.rdT _ ?_
      | refine h.rdI2 _ _ ?_
      | refine h.rdB2 _ _ ?_
      | refine h.rdP2 _ _ ?_
      | refine h.rdL2 _ _ ?_
      | refine h.st2 _ _ fun w' h => ?_
      | refine h.st _ fun w' h => ?_
      | refine h.rdvI ?_
      | refine h.rdvB ?_
      | refine h.rdvP ?_
      | refine h.rdvL ?_
      | refine h.rdvT ?_
      | (refine h.rdG ?_; (repeat (first | apply Exists.intro (α := Int) | apply Exists.intro (α := Bool) | apply Exists.intro (α := ByteArray) | (apply Exists.intro (α := Option Addr); apply Exists.intro (α := Nat); apply Exists.intro (α := Nat)) | apply Exists.intro (α := Option Addr) | apply Exists.intro (α := Value))); refine ⟨rfl, ?_⟩)
      | refine h.stG fun w' h => ?_
      | refine h.stV fun w' h => ?_
      | refine h.box fun p w' h => ?_
      | refine h.boxV fun p w' h => ?_
      | refine h.allocZ fun p w' h => ?_
      | refine h.allocZV fun p w' h => ?_
      | (refine RD.bld ?_; (repeat (first | apply Exists.intro (α := Int) | apply Exists.intro (α := Bool) | apply Exists.intro (α := ByteArray) | (apply Exists.intro (α := Option Addr); apply Exists.intro (α := Nat); apply Exists.intro (α := Nat)) | apply Exists.intro (α := Option Addr) | apply Exists.intro (α := Value))); refine ⟨rfl, ?_⟩)
      | (refine RDS.bld ?_; (repeat (first | apply Exists.intro (α := Int) | apply Exists.intro (α := Bool) | apply Exists.intro (α := ByteArray) | (apply Exists.intro (α := Option Addr); apply Exists.intro (α := Nat); apply Exists.intro (α := Nat)) | apply Exists.intro (α := Option Addr) | apply Exists.intro (α := Value))); refine ⟨rfl, ?_⟩)
      | refine St.rdsI _ ?_
      | refine St.rdsB _ ?_
      | refine St.rdsP _ ?_
      | refine St.rdsL _ ?_
      | refine St.rdsT _ ?_
      | refine St.rdsI2 _ _ ?_
      | refine St.rdsB2 _ _ ?_
      | (refine St.rdsG ?_; (repeat (first | apply Exists.intro (α := Int) | apply Exists.intro (α := Bool) | apply Exists.intro (α := ByteArray) | (apply Exists.intro (α := Option Addr); apply Exists.intro (α := Nat); apply Exists.intro (α := Nat)) | apply Exists.intro (α := Option Addr) | apply Exists.intro (α := Value))); refine ⟨rfl, ?_⟩)
      | refine letb rfl ?_
      | refine sat h ?_
      | (have h := h.drew; refine sat h ?_)
      | refine sat1 h (fun _ h => h.to) ?_)
    exact hk ⟨rem, loc, seq, ack, 2, none, 0, [], none, 0, []⟩ _ (by simp [mkSg, h1, h2, h3, h4, h6, Sg.pl]) (sgo_in RdIn.nil) (((h.to : St c _ L).ro0).addNil fun w => Row.nil w none).mergeRo
/-- What becomes of a segment that isn't sealed. -/
def ft (n : Nm) (tokens : Int) (s : Sg) : Int :=
  let v := jd n s false
  if v = 4 then 6 else if v = 3 ∨ v = 5 then (if 0 < tokens then 4 else 5) else if v = 1 then (if n.state = 1 then 2 else 1)
  else if s.os.any (fun o => o.kind == 3) then 2 else 3
def numOf (x : Stt) : Nm := ⟨x.state, x.first, x.acked, x.next, x.wait⟩
theorem numbers_ok (h : St c w L) (x : Stt) {Q : Value → World → Prop} (hk : ∀ w', St c w' L → Q (nmv (numOf x)) w') : CALL PG 16 [sttv x] w Q := by
  refine call16 ?_
  unfold N16
  repeat' (first
    | refine nilc ?_
    | refine h.rdI _ ?_
    | refine h.rdB _ ?_
    | refine h.rdP _ ?_
    | refine h.rdL _ ?_
    | refine h.rdT _ ?_
    | refine h.rdI2 _ _ ?_
    | refine h.rdB2 _ _ ?_
    | refine h.rdP2 _ _ ?_
    | refine h.rdL2 _ _ ?_
    | refine h.st2 _ _ fun w' h => ?_
    | refine h.st _ fun w' h => ?_
    | refine h.rdvI ?_
    | refine h.rdvB ?_
    | refine h.rdvP ?_
    | refine h.rdvL ?_
    | refine h.rdvT ?_
    | (refine h.rdG ?_; (repeat (first | apply Exists.intro (α := Int) | apply Exists.intro (α := Bool) | apply Exists.intro (α := ByteArray) | (apply Exists.intro (α := Option Addr); apply Exists.intro (α := Nat); apply Exists.intro (α := Nat)) | apply Exists.intro (α := Option Addr) | apply Exists.intro (α := Value))); refine ⟨rfl, ?_⟩)
    | refine h.stG fun w' h => ?_
    | refine h.stV fun w' h => ?_
    | refine h.box fun p w' h => ?_
    | refine h.boxV fun p w' h => ?_
    | refine h.allocZ fun p w' h => ?_
    | refine h.allocZV fun p w' h => ?_
    | (refine RD.bld ?_; (repeat (first | apply Exists.intro (α := Int) | apply Exists.intro (α := Bool) | apply Exists.intro (α := ByteArray) | (apply Exists.intro (α := Option Addr); apply Exists.intro (α := Nat); apply Exists.intro (α := Nat)) | apply Exists.intro (α := Option Addr) | apply Exists.intro (α := Value))); refine ⟨rfl, ?_⟩)
    | (refine RDS.bld ?_; (repeat (first | apply Exists.intro (α := Int) | apply Exists.intro (α := Bool) | apply Exists.intro (α := ByteArray) | (apply Exists.intro (α := Option Addr); apply Exists.intro (α := Nat); apply Exists.intro (α := Nat)) | apply Exists.intro (α := Option Addr) | apply Exists.intro (α := Value))); refine ⟨rfl, ?_⟩)
    | refine St.rdsI _ ?_
    | refine St.rdsB _ ?_
    | refine St.rdsP _ ?_
    | refine St.rdsL _ ?_
    | refine St.rdsT _ ?_
    | refine St.rdsI2 _ _ ?_
    | refine St.rdsB2 _ _ ?_
    | (refine St.rdsG ?_; (repeat (first | apply Exists.intro (α := Int) | apply Exists.intro (α := Bool) | apply Exists.intro (α := ByteArray) | (apply Exists.intro (α := Option Addr); apply Exists.intro (α := Nat); apply Exists.intro (α := Nat)) | apply Exists.intro (α := Option Addr) | apply Exists.intro (α := Value))); refine ⟨rfl, ?_⟩)
    | refine letb rfl ?_
    | refine sat h ?_
    | (have h := h.drew; refine sat h ?_)
    | refine sat1 h (fun _ h => h.to) ?_)
  exact hk _ h.to
theorem foretell_ok (h : St c w L) {x : Stt} {s : Sg} (hs : SgOk s) (hi : SgIn L s) (hn : s.os.length ≤ 1000) {Q : Value → World → Prop} (hk : ∀ w', St c w' L → Q (.int .i64 (ft (numOf x) x.tokens s)) w') : CALL PG 17 [sttv x, sgv s] w Q := by
  refine call17 ?_
  unfold N17
  repeat' (first
    | refine nilc ?_
    | refine h.rdI _ ?_
    | refine h.rdB _ ?_
    | refine h.rdP _ ?_
    | refine h.rdL _ ?_
    | refine h.rdT _ ?_
    | refine h.rdI2 _ _ ?_
    | refine h.rdB2 _ _ ?_
    | refine h.rdP2 _ _ ?_
    | refine h.rdL2 _ _ ?_
    | refine h.st2 _ _ fun w' h => ?_
    | refine h.st _ fun w' h => ?_
    | refine h.rdvI ?_
    | refine h.rdvB ?_
    | refine h.rdvP ?_
    | refine h.rdvL ?_
    | refine h.rdvT ?_
    | (refine h.rdG ?_; (repeat (first | apply Exists.intro (α := Int) | apply Exists.intro (α := Bool) | apply Exists.intro (α := ByteArray) | (apply Exists.intro (α := Option Addr); apply Exists.intro (α := Nat); apply Exists.intro (α := Nat)) | apply Exists.intro (α := Option Addr) | apply Exists.intro (α := Value))); refine ⟨rfl, ?_⟩)
    | refine h.stG fun w' h => ?_
    | refine h.stV fun w' h => ?_
    | refine h.box fun p w' h => ?_
    | refine h.boxV fun p w' h => ?_
    | refine h.allocZ fun p w' h => ?_
    | refine h.allocZV fun p w' h => ?_
    | (refine RD.bld ?_; (repeat (first | apply Exists.intro (α := Int) | apply Exists.intro (α := Bool) | apply Exists.intro (α := ByteArray) | (apply Exists.intro (α := Option Addr); apply Exists.intro (α := Nat); apply Exists.intro (α := Nat)) | apply Exists.intro (α := Option Addr) | apply Exists.intro (α := Value))); refine ⟨rfl, ?_⟩)
    | (refine RDS.bld ?_; (repeat (first | apply Exists.intro (α := Int) | apply Exists.intro (α := Bool) | apply Exists.intro (α := ByteArray) | (apply Exists.intro (α := Option Addr); apply Exists.intro (α := Nat); apply Exists.intro (α := Nat)) | apply Exists.intro (α := Option Addr) | apply Exists.intro (α := Value))); refine ⟨rfl, ?_⟩)
    | refine St.rdsI _ ?_
    | refine St.rdsB _ ?_
    | refine St.rdsP _ ?_
    | refine St.rdsL _ ?_
    | refine St.rdsT _ ?_
    | refine St.rdsI2 _ _ ?_
    | refine St.rdsB2 _ _ ?_
    | (refine St.rdsG ?_; (repeat (first | apply Exists.intro (α := Int) | apply Exists.intro (α := Bool) | apply Exists.intro (α := ByteArray) | (apply Exists.intro (α := Option Addr); apply Exists.intro (α := Nat); apply Exists.intro (α := Nat)) | apply Exists.intro (α := Option Addr) | apply Exists.intro (α := Value))); refine ⟨rfl, ?_⟩)
    | refine letb rfl ?_
    | refine sat h ?_
    | (have h := h.drew; refine sat h ?_)
    | refine sat1 h (fun _ h => h.to) ?_)
  refine numbers_ok h x fun w' h => ?_
  (repeat (first | apply Exists.intro (α := Int) | apply Exists.intro (α := Bool) | apply Exists.intro (α := ByteArray) | (apply Exists.intro (α := Option Addr); apply Exists.intro (α := Nat); apply Exists.intro (α := Nat)) | apply Exists.intro (α := Option Addr) | apply Exists.intro (α := Value)))
  refine ⟨rfl, ?_⟩
  repeat' (first
    | refine nilc ?_
    | refine h.rdI _ ?_
    | refine h.rdB _ ?_
    | refine h.rdP _ ?_
    | refine h.rdL _ ?_
    | refine h.rdT _ ?_
    | refine h.rdI2 _ _ ?_
    | refine h.rdB2 _ _ ?_
    | refine h.rdP2 _ _ ?_
    | refine h.rdL2 _ _ ?_
    | refine h.st2 _ _ fun w' h => ?_
    | refine h.st _ fun w' h => ?_
    | refine h.rdvI ?_
    | refine h.rdvB ?_
    | refine h.rdvP ?_
    | refine h.rdvL ?_
    | refine h.rdvT ?_
    | (refine h.rdG ?_; (repeat (first | apply Exists.intro (α := Int) | apply Exists.intro (α := Bool) | apply Exists.intro (α := ByteArray) | (apply Exists.intro (α := Option Addr); apply Exists.intro (α := Nat); apply Exists.intro (α := Nat)) | apply Exists.intro (α := Option Addr) | apply Exists.intro (α := Value))); refine ⟨rfl, ?_⟩)
    | refine h.stG fun w' h => ?_
    | refine h.stV fun w' h => ?_
    | refine h.box fun p w' h => ?_
    | refine h.boxV fun p w' h => ?_
    | refine h.allocZ fun p w' h => ?_
    | refine h.allocZV fun p w' h => ?_
    | (refine RD.bld ?_; (repeat (first | apply Exists.intro (α := Int) | apply Exists.intro (α := Bool) | apply Exists.intro (α := ByteArray) | (apply Exists.intro (α := Option Addr); apply Exists.intro (α := Nat); apply Exists.intro (α := Nat)) | apply Exists.intro (α := Option Addr) | apply Exists.intro (α := Value))); refine ⟨rfl, ?_⟩)
    | (refine RDS.bld ?_; (repeat (first | apply Exists.intro (α := Int) | apply Exists.intro (α := Bool) | apply Exists.intro (α := ByteArray) | (apply Exists.intro (α := Option Addr); apply Exists.intro (α := Nat); apply Exists.intro (α := Nat)) | apply Exists.intro (α := Option Addr) | apply Exists.intro (α := Value))); refine ⟨rfl, ?_⟩)
    | refine St.rdsI _ ?_
    | refine St.rdsB _ ?_
    | refine St.rdsP _ ?_
    | refine St.rdsL _ ?_
    | refine St.rdsT _ ?_
    | refine St.rdsI2 _ _ ?_
    | refine St.rdsB2 _ _ ?_
    | (refine St.rdsG ?_; (repeat (first | apply Exists.intro (α := Int) | apply Exists.intro (α := Bool) | apply Exists.intro (α := ByteArray) | (apply Exists.intro (α := Option Addr); apply Exists.intro (α := Nat); apply Exists.intro (α := Nat)) | apply Exists.intro (α := Option Addr) | apply Exists.intro (α := Value))); refine ⟨rfl, ?_⟩)
    | refine letb rfl ?_
    | refine sat h ?_
    | (have h := h.drew; refine sat h ?_)
    | refine sat1 h (fun _ h => h.to) ?_)
  refine judge_ok h hs fun w' h => ?_
  (repeat (first | apply Exists.intro (α := Int) | apply Exists.intro (α := Bool) | apply Exists.intro (α := ByteArray) | (apply Exists.intro (α := Option Addr); apply Exists.intro (α := Nat); apply Exists.intro (α := Nat)) | apply Exists.intro (α := Option Addr) | apply Exists.intro (α := Value)))
  refine ⟨rfl, ?_⟩
  have fin : ∀ {v : Int} {X Y : SA} {w' : World}, ft (numOf x) x.tokens s = v → St c w' (X :: Y :: L) → Q (.int .i64 v) w' := fun e h => e ▸ hk _ h.drop.drop
  generalize hj : jd (numOf x) s false = v at *
  refine letb rfl (ifq (fun h4 => fin (by simp only [ft, hj]; rw [if_pos h4]) h) fun h4 => ?_)
  refine letb rfl (ifq (fun h3 => ?_) fun h3 => ?_)
  · repeat' (first
      | refine nilc ?_
      | refine h.rdI _ ?_
      | refine h.rdB _ ?_
      | refine h.rdP _ ?_
      | refine h.rdL _ ?_
      | refine h.rdT _ ?_
      | refine h.rdI2 _ _ ?_
      | refine h.rdB2 _ _ ?_
      | refine h.rdP2 _ _ ?_
      | refine h.rdL2 _ _ ?_
      | refine h.st2 _ _ fun w' h => ?_
      | refine h.st _ fun w' h => ?_
      | refine h.rdvI ?_
      | refine h.rdvB ?_
      | refine h.rdvP ?_
      | refine h.rdvL ?_
      | refine h.rdvT ?_
      | (refine h.rdG ?_; (repeat (first | apply Exists.intro (α := Int) | apply Exists.intro (α := Bool) | apply Exists.intro (α := ByteArray) | (apply Exists.intro (α := Option Addr); apply Exists.intro (α := Nat); apply Exists.intro (α := Nat)) | apply Exists.intro (α := Option Addr) | apply Exists.intro (α := Value))); refine ⟨rfl, ?_⟩)
      | refine h.stG fun w' h => ?_
      | refine h.stV fun w' h => ?_
      | refine h.box fun p w' h => ?_
      | refine h.boxV fun p w' h => ?_
      | refine h.allocZ fun p w' h => ?_
      | refine h.allocZV fun p w' h => ?_
      | (refine RD.bld ?_; (repeat (first | apply Exists.intro (α := Int) | apply Exists.intro (α := Bool) | apply Exists.intro (α := ByteArray) | (apply Exists.intro (α := Option Addr); apply Exists.intro (α := Nat); apply Exists.intro (α := Nat)) | apply Exists.intro (α := Option Addr) | apply Exists.intro (α := Value))); refine ⟨rfl, ?_⟩)
      | (refine RDS.bld ?_; (repeat (first | apply Exists.intro (α := Int) | apply Exists.intro (α := Bool) | apply Exists.intro (α := ByteArray) | (apply Exists.intro (α := Option Addr); apply Exists.intro (α := Nat); apply Exists.intro (α := Nat)) | apply Exists.intro (α := Option Addr) | apply Exists.intro (α := Value))); refine ⟨rfl, ?_⟩)
      | refine St.rdsI _ ?_
      | refine St.rdsB _ ?_
      | refine St.rdsP _ ?_
      | refine St.rdsL _ ?_
      | refine St.rdsT _ ?_
      | refine St.rdsI2 _ _ ?_
      | refine St.rdsB2 _ _ ?_
      | (refine St.rdsG ?_; (repeat (first | apply Exists.intro (α := Int) | apply Exists.intro (α := Bool) | apply Exists.intro (α := ByteArray) | (apply Exists.intro (α := Option Addr); apply Exists.intro (α := Nat); apply Exists.intro (α := Nat)) | apply Exists.intro (α := Option Addr) | apply Exists.intro (α := Value))); refine ⟨rfl, ?_⟩)
      | refine letb rfl ?_
      | refine sat h ?_
      | (have h := h.drew; refine sat h ?_)
      | refine sat1 h (fun _ h => h.to) ?_)
    exact ifd (fun h7 => fin (by simp only [ft, hj]; rw [if_neg h4, if_pos (.inl h3), if_pos h7]) h) fun h7 => fin (by simp only [ft, hj]; rw [if_neg h4, if_pos (.inl h3), if_neg h7]) h
  refine letb rfl (ifq (fun h5 => ?_) fun h5 => ?_)
  · repeat' (first
      | refine nilc ?_
      | refine h.rdI _ ?_
      | refine h.rdB _ ?_
      | refine h.rdP _ ?_
      | refine h.rdL _ ?_
      | refine h.rdT _ ?_
      | refine h.rdI2 _ _ ?_
      | refine h.rdB2 _ _ ?_
      | refine h.rdP2 _ _ ?_
      | refine h.rdL2 _ _ ?_
      | refine h.st2 _ _ fun w' h => ?_
      | refine h.st _ fun w' h => ?_
      | refine h.rdvI ?_
      | refine h.rdvB ?_
      | refine h.rdvP ?_
      | refine h.rdvL ?_
      | refine h.rdvT ?_
      | (refine h.rdG ?_; (repeat (first | apply Exists.intro (α := Int) | apply Exists.intro (α := Bool) | apply Exists.intro (α := ByteArray) | (apply Exists.intro (α := Option Addr); apply Exists.intro (α := Nat); apply Exists.intro (α := Nat)) | apply Exists.intro (α := Option Addr) | apply Exists.intro (α := Value))); refine ⟨rfl, ?_⟩)
      | refine h.stG fun w' h => ?_
      | refine h.stV fun w' h => ?_
      | refine h.box fun p w' h => ?_
      | refine h.boxV fun p w' h => ?_
      | refine h.allocZ fun p w' h => ?_
      | refine h.allocZV fun p w' h => ?_
      | (refine RD.bld ?_; (repeat (first | apply Exists.intro (α := Int) | apply Exists.intro (α := Bool) | apply Exists.intro (α := ByteArray) | (apply Exists.intro (α := Option Addr); apply Exists.intro (α := Nat); apply Exists.intro (α := Nat)) | apply Exists.intro (α := Option Addr) | apply Exists.intro (α := Value))); refine ⟨rfl, ?_⟩)
      | (refine RDS.bld ?_; (repeat (first | apply Exists.intro (α := Int) | apply Exists.intro (α := Bool) | apply Exists.intro (α := ByteArray) | (apply Exists.intro (α := Option Addr); apply Exists.intro (α := Nat); apply Exists.intro (α := Nat)) | apply Exists.intro (α := Option Addr) | apply Exists.intro (α := Value))); refine ⟨rfl, ?_⟩)
      | refine St.rdsI _ ?_
      | refine St.rdsB _ ?_
      | refine St.rdsP _ ?_
      | refine St.rdsL _ ?_
      | refine St.rdsT _ ?_
      | refine St.rdsI2 _ _ ?_
      | refine St.rdsB2 _ _ ?_
      | (refine St.rdsG ?_; (repeat (first | apply Exists.intro (α := Int) | apply Exists.intro (α := Bool) | apply Exists.intro (α := ByteArray) | (apply Exists.intro (α := Option Addr); apply Exists.intro (α := Nat); apply Exists.intro (α := Nat)) | apply Exists.intro (α := Option Addr) | apply Exists.intro (α := Value))); refine ⟨rfl, ?_⟩)
      | refine letb rfl ?_
      | refine sat h ?_
      | (have h := h.drew; refine sat h ?_)
      | refine sat1 h (fun _ h => h.to) ?_)
    exact ifd (fun h7 => fin (by simp only [ft, hj]; rw [if_neg h4, if_pos (.inr h5), if_pos h7]) h) fun h7 => fin (by simp only [ft, hj]; rw [if_neg h4, if_pos (.inr h5), if_neg h7]) h
  have h35 : ¬ (v = 3 ∨ v = 5) := fun e => e.elim h3 h5
  refine letb rfl (ifq (fun h1 => ?_) fun h1 => ?_)
  · repeat' (first
      | refine nilc ?_
      | refine h.rdI _ ?_
      | refine h.rdB _ ?_
      | refine h.rdP _ ?_
      | refine h.rdL _ ?_
      | refine h.rdT _ ?_
      | refine h.rdI2 _ _ ?_
      | refine h.rdB2 _ _ ?_
      | refine h.rdP2 _ _ ?_
      | refine h.rdL2 _ _ ?_
      | refine h.st2 _ _ fun w' h => ?_
      | refine h.st _ fun w' h => ?_
      | refine h.rdvI ?_
      | refine h.rdvB ?_
      | refine h.rdvP ?_
      | refine h.rdvL ?_
      | refine h.rdvT ?_
      | (refine h.rdG ?_; (repeat (first | apply Exists.intro (α := Int) | apply Exists.intro (α := Bool) | apply Exists.intro (α := ByteArray) | (apply Exists.intro (α := Option Addr); apply Exists.intro (α := Nat); apply Exists.intro (α := Nat)) | apply Exists.intro (α := Option Addr) | apply Exists.intro (α := Value))); refine ⟨rfl, ?_⟩)
      | refine h.stG fun w' h => ?_
      | refine h.stV fun w' h => ?_
      | refine h.box fun p w' h => ?_
      | refine h.boxV fun p w' h => ?_
      | refine h.allocZ fun p w' h => ?_
      | refine h.allocZV fun p w' h => ?_
      | (refine RD.bld ?_; (repeat (first | apply Exists.intro (α := Int) | apply Exists.intro (α := Bool) | apply Exists.intro (α := ByteArray) | (apply Exists.intro (α := Option Addr); apply Exists.intro (α := Nat); apply Exists.intro (α := Nat)) | apply Exists.intro (α := Option Addr) | apply Exists.intro (α := Value))); refine ⟨rfl, ?_⟩)
      | (refine RDS.bld ?_; (repeat (first | apply Exists.intro (α := Int) | apply Exists.intro (α := Bool) | apply Exists.intro (α := ByteArray) | (apply Exists.intro (α := Option Addr); apply Exists.intro (α := Nat); apply Exists.intro (α := Nat)) | apply Exists.intro (α := Option Addr) | apply Exists.intro (α := Value))); refine ⟨rfl, ?_⟩)
      | refine St.rdsI _ ?_
      | refine St.rdsB _ ?_
      | refine St.rdsP _ ?_
      | refine St.rdsL _ ?_
      | refine St.rdsT _ ?_
      | refine St.rdsI2 _ _ ?_
      | refine St.rdsB2 _ _ ?_
      | (refine St.rdsG ?_; (repeat (first | apply Exists.intro (α := Int) | apply Exists.intro (α := Bool) | apply Exists.intro (α := ByteArray) | (apply Exists.intro (α := Option Addr); apply Exists.intro (α := Nat); apply Exists.intro (α := Nat)) | apply Exists.intro (α := Option Addr) | apply Exists.intro (α := Value))); refine ⟨rfl, ?_⟩)
      | refine letb rfl ?_
      | refine sat h ?_
      | (have h := h.drew; refine sat h ?_)
      | refine sat1 h (fun _ h => h.to) ?_)
    exact ifq (fun h7 => fin (by simp only [ft, hj]; rw [if_neg h4, if_neg h35, if_pos h1, if_pos (show (numOf x).state = 1 from h7)]) h) fun h7 => fin (by simp only [ft, hj]; rw [if_neg h4, if_neg h35, if_pos h1, if_neg (show ¬ (numOf x).state = 1 from h7)]) h
  repeat' (first
    | refine nilc ?_
    | refine h.rdI _ ?_
    | refine h.rdB _ ?_
    | refine h.rdP _ ?_
    | refine h.rdL _ ?_
    | refine h.rdT _ ?_
    | refine h.rdI2 _ _ ?_
    | refine h.rdB2 _ _ ?_
    | refine h.rdP2 _ _ ?_
    | refine h.rdL2 _ _ ?_
    | refine h.st2 _ _ fun w' h => ?_
    | refine h.st _ fun w' h => ?_
    | refine h.rdvI ?_
    | refine h.rdvB ?_
    | refine h.rdvP ?_
    | refine h.rdvL ?_
    | refine h.rdvT ?_
    | (refine h.rdG ?_; (repeat (first | apply Exists.intro (α := Int) | apply Exists.intro (α := Bool) | apply Exists.intro (α := ByteArray) | (apply Exists.intro (α := Option Addr); apply Exists.intro (α := Nat); apply Exists.intro (α := Nat)) | apply Exists.intro (α := Option Addr) | apply Exists.intro (α := Value))); refine ⟨rfl, ?_⟩)
    | refine h.stG fun w' h => ?_
    | refine h.stV fun w' h => ?_
    | refine h.box fun p w' h => ?_
    | refine h.boxV fun p w' h => ?_
    | refine h.allocZ fun p w' h => ?_
    | refine h.allocZV fun p w' h => ?_
    | (refine RD.bld ?_; (repeat (first | apply Exists.intro (α := Int) | apply Exists.intro (α := Bool) | apply Exists.intro (α := ByteArray) | (apply Exists.intro (α := Option Addr); apply Exists.intro (α := Nat); apply Exists.intro (α := Nat)) | apply Exists.intro (α := Option Addr) | apply Exists.intro (α := Value))); refine ⟨rfl, ?_⟩)
    | (refine RDS.bld ?_; (repeat (first | apply Exists.intro (α := Int) | apply Exists.intro (α := Bool) | apply Exists.intro (α := ByteArray) | (apply Exists.intro (α := Option Addr); apply Exists.intro (α := Nat); apply Exists.intro (α := Nat)) | apply Exists.intro (α := Option Addr) | apply Exists.intro (α := Value))); refine ⟨rfl, ?_⟩)
    | refine St.rdsI _ ?_
    | refine St.rdsB _ ?_
    | refine St.rdsP _ ?_
    | refine St.rdsL _ ?_
    | refine St.rdsT _ ?_
    | refine St.rdsI2 _ _ ?_
    | refine St.rdsB2 _ _ ?_
    | (refine St.rdsG ?_; (repeat (first | apply Exists.intro (α := Int) | apply Exists.intro (α := Bool) | apply Exists.intro (α := ByteArray) | (apply Exists.intro (α := Option Addr); apply Exists.intro (α := Nat); apply Exists.intro (α := Nat)) | apply Exists.intro (α := Option Addr) | apply Exists.intro (α := Value))); refine ⟨rfl, ?_⟩)
    | refine letb rfl ?_
    | refine sat h ?_
    | (have h := h.drew; refine sat h ?_)
    | refine sat1 h (fun _ h => h.to) ?_)
  refine first_ok h hi.more.more hn fun o b w' hb h => ?_
  (repeat (first | apply Exists.intro (α := Int) | apply Exists.intro (α := Bool) | apply Exists.intro (α := ByteArray) | (apply Exists.intro (α := Option Addr); apply Exists.intro (α := Nat); apply Exists.intro (α := Nat)) | apply Exists.intro (α := Option Addr) | apply Exists.intro (α := Value)))
  refine ⟨rfl, ?_⟩
  repeat' (first
    | refine nilc ?_
    | refine h.rdI _ ?_
    | refine h.rdB _ ?_
    | refine h.rdP _ ?_
    | refine h.rdL _ ?_
    | refine h.rdT _ ?_
    | refine h.rdI2 _ _ ?_
    | refine h.rdB2 _ _ ?_
    | refine h.rdP2 _ _ ?_
    | refine h.rdL2 _ _ ?_
    | refine h.st2 _ _ fun w' h => ?_
    | refine h.st _ fun w' h => ?_
    | refine h.rdvI ?_
    | refine h.rdvB ?_
    | refine h.rdvP ?_
    | refine h.rdvL ?_
    | refine h.rdvT ?_
    | (refine h.rdG ?_; (repeat (first | apply Exists.intro (α := Int) | apply Exists.intro (α := Bool) | apply Exists.intro (α := ByteArray) | (apply Exists.intro (α := Option Addr); apply Exists.intro (α := Nat); apply Exists.intro (α := Nat)) | apply Exists.intro (α := Option Addr) | apply Exists.intro (α := Value))); refine ⟨rfl, ?_⟩)
    | refine h.stG fun w' h => ?_
    | refine h.stV fun w' h => ?_
    | refine h.box fun p w' h => ?_
    | refine h.boxV fun p w' h => ?_
    | refine h.allocZ fun p w' h => ?_
    | refine h.allocZV fun p w' h => ?_
    | (refine RD.bld ?_; (repeat (first | apply Exists.intro (α := Int) | apply Exists.intro (α := Bool) | apply Exists.intro (α := ByteArray) | (apply Exists.intro (α := Option Addr); apply Exists.intro (α := Nat); apply Exists.intro (α := Nat)) | apply Exists.intro (α := Option Addr) | apply Exists.intro (α := Value))); refine ⟨rfl, ?_⟩)
    | (refine RDS.bld ?_; (repeat (first | apply Exists.intro (α := Int) | apply Exists.intro (α := Bool) | apply Exists.intro (α := ByteArray) | (apply Exists.intro (α := Option Addr); apply Exists.intro (α := Nat); apply Exists.intro (α := Nat)) | apply Exists.intro (α := Option Addr) | apply Exists.intro (α := Value))); refine ⟨rfl, ?_⟩)
    | refine St.rdsI _ ?_
    | refine St.rdsB _ ?_
    | refine St.rdsP _ ?_
    | refine St.rdsL _ ?_
    | refine St.rdsT _ ?_
    | refine St.rdsI2 _ _ ?_
    | refine St.rdsB2 _ _ ?_
    | (refine St.rdsG ?_; (repeat (first | apply Exists.intro (α := Int) | apply Exists.intro (α := Bool) | apply Exists.intro (α := ByteArray) | (apply Exists.intro (α := Option Addr); apply Exists.intro (α := Nat); apply Exists.intro (α := Nat)) | apply Exists.intro (α := Option Addr) | apply Exists.intro (α := Value))); refine ⟨rfl, ?_⟩)
    | refine letb rfl ?_
    | refine sat h ?_
    | (have h := h.drew; refine sat h ?_)
    | refine sat1 h (fun _ h => h.to) ?_)
  exact ifb (fun h7 => fin (by simp only [ft, hj]; rw [if_neg h4, if_neg h35, if_neg h1, if_pos (by rw [← hb, h7])]) h.drop) fun h7 => fin (by simp only [ft, hj]; rw [if_neg h4, if_neg h35, if_neg h1, if_neg (by rw [← hb, h7]; simp)]) h.drop
theorem aalive_ok (h : St c w L) {Q : Value → World → Prop} (hk : ∀ w', St c w' L → Q (.bool true) w') : CALL PG 20 [] w Q := by
  refine call20 ?_
  unfold N20
  repeat' (first
    | refine nilc ?_
    | refine h.rdI _ ?_
    | refine h.rdB _ ?_
    | refine h.rdP _ ?_
    | refine h.rdL _ ?_
    | refine h.rdT _ ?_
    | refine h.rdI2 _ _ ?_
    | refine h.rdB2 _ _ ?_
    | refine h.rdP2 _ _ ?_
    | refine h.rdL2 _ _ ?_
    | refine h.st2 _ _ fun w' h => ?_
    | refine h.st _ fun w' h => ?_
    | refine h.rdvI ?_
    | refine h.rdvB ?_
    | refine h.rdvP ?_
    | refine h.rdvL ?_
    | refine h.rdvT ?_
    | (refine h.rdG ?_; (repeat (first | apply Exists.intro (α := Int) | apply Exists.intro (α := Bool) | apply Exists.intro (α := ByteArray) | (apply Exists.intro (α := Option Addr); apply Exists.intro (α := Nat); apply Exists.intro (α := Nat)) | apply Exists.intro (α := Option Addr) | apply Exists.intro (α := Value))); refine ⟨rfl, ?_⟩)
    | refine h.stG fun w' h => ?_
    | refine h.stV fun w' h => ?_
    | refine h.box fun p w' h => ?_
    | refine h.boxV fun p w' h => ?_
    | refine h.allocZ fun p w' h => ?_
    | refine h.allocZV fun p w' h => ?_
    | (refine RD.bld ?_; (repeat (first | apply Exists.intro (α := Int) | apply Exists.intro (α := Bool) | apply Exists.intro (α := ByteArray) | (apply Exists.intro (α := Option Addr); apply Exists.intro (α := Nat); apply Exists.intro (α := Nat)) | apply Exists.intro (α := Option Addr) | apply Exists.intro (α := Value))); refine ⟨rfl, ?_⟩)
    | (refine RDS.bld ?_; (repeat (first | apply Exists.intro (α := Int) | apply Exists.intro (α := Bool) | apply Exists.intro (α := ByteArray) | (apply Exists.intro (α := Option Addr); apply Exists.intro (α := Nat); apply Exists.intro (α := Nat)) | apply Exists.intro (α := Option Addr) | apply Exists.intro (α := Value))); refine ⟨rfl, ?_⟩)
    | refine St.rdsI _ ?_
    | refine St.rdsB _ ?_
    | refine St.rdsP _ ?_
    | refine St.rdsL _ ?_
    | refine St.rdsT _ ?_
    | refine St.rdsI2 _ _ ?_
    | refine St.rdsB2 _ _ ?_
    | (refine St.rdsG ?_; (repeat (first | apply Exists.intro (α := Int) | apply Exists.intro (α := Bool) | apply Exists.intro (α := ByteArray) | (apply Exists.intro (α := Option Addr); apply Exists.intro (α := Nat); apply Exists.intro (α := Nat)) | apply Exists.intro (α := Option Addr) | apply Exists.intro (α := Value))); refine ⟨rfl, ?_⟩)
    | refine letb rfl ?_
    | refine sat h ?_
    | (have h := h.drew; refine sat h ?_)
    | refine sat1 h (fun _ h => h.to) ?_)
  refine amake_ok h (A := none) (C := 0) (bs := []) RdIn.nil (by decide) (by decide) ⟨by decide, by decide⟩ ⟨by decide, by decide⟩ fun s w' hs h => ?_
  (repeat (first | apply Exists.intro (α := Int) | apply Exists.intro (α := Bool) | apply Exists.intro (α := ByteArray) | (apply Exists.intro (α := Option Addr); apply Exists.intro (α := Nat); apply Exists.intro (α := Nat)) | apply Exists.intro (α := Option Addr) | apply Exists.intro (α := Value)))
  refine ⟨rfl, ?_⟩
  have hs : s.pl = ⟨80, 5, 7, 0, 4, [], []⟩ := hs
  simp only [Sg.pl, SgP.mk.injEq] at hs
  obtain ⟨e1, e2, e3, e4, e5, e6, e7⟩ := hs
  have eos : s.os = [] := by simpa using e6
  repeat' (first
    | refine nilc ?_
    | refine h.rdI _ ?_
    | refine h.rdB _ ?_
    | refine h.rdP _ ?_
    | refine h.rdL _ ?_
    | refine h.rdT _ ?_
    | refine h.rdI2 _ _ ?_
    | refine h.rdB2 _ _ ?_
    | refine h.rdP2 _ _ ?_
    | refine h.rdL2 _ _ ?_
    | refine h.st2 _ _ fun w' h => ?_
    | refine h.st _ fun w' h => ?_
    | refine h.rdvI ?_
    | refine h.rdvB ?_
    | refine h.rdvP ?_
    | refine h.rdvL ?_
    | refine h.rdvT ?_
    | (refine h.rdG ?_; (repeat (first | apply Exists.intro (α := Int) | apply Exists.intro (α := Bool) | apply Exists.intro (α := ByteArray) | (apply Exists.intro (α := Option Addr); apply Exists.intro (α := Nat); apply Exists.intro (α := Nat)) | apply Exists.intro (α := Option Addr) | apply Exists.intro (α := Value))); refine ⟨rfl, ?_⟩)
    | refine h.stG fun w' h => ?_
    | refine h.stV fun w' h => ?_
    | refine h.box fun p w' h => ?_
    | refine h.boxV fun p w' h => ?_
    | refine h.allocZ fun p w' h => ?_
    | refine h.allocZV fun p w' h => ?_
    | (refine RD.bld ?_; (repeat (first | apply Exists.intro (α := Int) | apply Exists.intro (α := Bool) | apply Exists.intro (α := ByteArray) | (apply Exists.intro (α := Option Addr); apply Exists.intro (α := Nat); apply Exists.intro (α := Nat)) | apply Exists.intro (α := Option Addr) | apply Exists.intro (α := Value))); refine ⟨rfl, ?_⟩)
    | (refine RDS.bld ?_; (repeat (first | apply Exists.intro (α := Int) | apply Exists.intro (α := Bool) | apply Exists.intro (α := ByteArray) | (apply Exists.intro (α := Option Addr); apply Exists.intro (α := Nat); apply Exists.intro (α := Nat)) | apply Exists.intro (α := Option Addr) | apply Exists.intro (α := Value))); refine ⟨rfl, ?_⟩)
    | refine St.rdsI _ ?_
    | refine St.rdsB _ ?_
    | refine St.rdsP _ ?_
    | refine St.rdsL _ ?_
    | refine St.rdsT _ ?_
    | refine St.rdsI2 _ _ ?_
    | refine St.rdsB2 _ _ ?_
    | (refine St.rdsG ?_; (repeat (first | apply Exists.intro (α := Int) | apply Exists.intro (α := Bool) | apply Exists.intro (α := ByteArray) | (apply Exists.intro (α := Option Addr); apply Exists.intro (α := Nat); apply Exists.intro (α := Nat)) | apply Exists.intro (α := Option Addr) | apply Exists.intro (α := Value))); refine ⟨rfl, ?_⟩)
    | refine letb rfl ?_
    | refine sat h ?_
    | (have h := h.drew; refine sat h ?_)
    | refine sat1 h (fun _ h => h.to) ?_)
  refine ifq (fun _ => ?_) fun hn => absurd e5 hn
  repeat' (first
    | refine nilc ?_
    | refine h.rdI _ ?_
    | refine h.rdB _ ?_
    | refine h.rdP _ ?_
    | refine h.rdL _ ?_
    | refine h.rdT _ ?_
    | refine h.rdI2 _ _ ?_
    | refine h.rdB2 _ _ ?_
    | refine h.rdP2 _ _ ?_
    | refine h.rdL2 _ _ ?_
    | refine h.st2 _ _ fun w' h => ?_
    | refine h.st _ fun w' h => ?_
    | refine h.rdvI ?_
    | refine h.rdvB ?_
    | refine h.rdvP ?_
    | refine h.rdvL ?_
    | refine h.rdvT ?_
    | (refine h.rdG ?_; (repeat (first | apply Exists.intro (α := Int) | apply Exists.intro (α := Bool) | apply Exists.intro (α := ByteArray) | (apply Exists.intro (α := Option Addr); apply Exists.intro (α := Nat); apply Exists.intro (α := Nat)) | apply Exists.intro (α := Option Addr) | apply Exists.intro (α := Value))); refine ⟨rfl, ?_⟩)
    | refine h.stG fun w' h => ?_
    | refine h.stV fun w' h => ?_
    | refine h.box fun p w' h => ?_
    | refine h.boxV fun p w' h => ?_
    | refine h.allocZ fun p w' h => ?_
    | refine h.allocZV fun p w' h => ?_
    | (refine RD.bld ?_; (repeat (first | apply Exists.intro (α := Int) | apply Exists.intro (α := Bool) | apply Exists.intro (α := ByteArray) | (apply Exists.intro (α := Option Addr); apply Exists.intro (α := Nat); apply Exists.intro (α := Nat)) | apply Exists.intro (α := Option Addr) | apply Exists.intro (α := Value))); refine ⟨rfl, ?_⟩)
    | (refine RDS.bld ?_; (repeat (first | apply Exists.intro (α := Int) | apply Exists.intro (α := Bool) | apply Exists.intro (α := ByteArray) | (apply Exists.intro (α := Option Addr); apply Exists.intro (α := Nat); apply Exists.intro (α := Nat)) | apply Exists.intro (α := Option Addr) | apply Exists.intro (α := Value))); refine ⟨rfl, ?_⟩)
    | refine St.rdsI _ ?_
    | refine St.rdsB _ ?_
    | refine St.rdsP _ ?_
    | refine St.rdsL _ ?_
    | refine St.rdsT _ ?_
    | refine St.rdsI2 _ _ ?_
    | refine St.rdsB2 _ _ ?_
    | (refine St.rdsG ?_; (repeat (first | apply Exists.intro (α := Int) | apply Exists.intro (α := Bool) | apply Exists.intro (α := ByteArray) | (apply Exists.intro (α := Option Addr); apply Exists.intro (α := Nat); apply Exists.intro (α := Nat)) | apply Exists.intro (α := Option Addr) | apply Exists.intro (α := Value))); refine ⟨rfl, ?_⟩)
    | refine letb rfl ?_
    | refine sat h ?_
    | (have h := h.drew; refine sat h ?_)
    | refine sat1 h (fun _ h => h.to) ?_)
  refine ifq (fun _ => ?_) fun hn => absurd e1 hn
  repeat' (first
    | refine nilc ?_
    | refine h.rdI _ ?_
    | refine h.rdB _ ?_
    | refine h.rdP _ ?_
    | refine h.rdL _ ?_
    | refine h.rdT _ ?_
    | refine h.rdI2 _ _ ?_
    | refine h.rdB2 _ _ ?_
    | refine h.rdP2 _ _ ?_
    | refine h.rdL2 _ _ ?_
    | refine h.st2 _ _ fun w' h => ?_
    | refine h.st _ fun w' h => ?_
    | refine h.rdvI ?_
    | refine h.rdvB ?_
    | refine h.rdvP ?_
    | refine h.rdvL ?_
    | refine h.rdvT ?_
    | (refine h.rdG ?_; (repeat (first | apply Exists.intro (α := Int) | apply Exists.intro (α := Bool) | apply Exists.intro (α := ByteArray) | (apply Exists.intro (α := Option Addr); apply Exists.intro (α := Nat); apply Exists.intro (α := Nat)) | apply Exists.intro (α := Option Addr) | apply Exists.intro (α := Value))); refine ⟨rfl, ?_⟩)
    | refine h.stG fun w' h => ?_
    | refine h.stV fun w' h => ?_
    | refine h.box fun p w' h => ?_
    | refine h.boxV fun p w' h => ?_
    | refine h.allocZ fun p w' h => ?_
    | refine h.allocZV fun p w' h => ?_
    | (refine RD.bld ?_; (repeat (first | apply Exists.intro (α := Int) | apply Exists.intro (α := Bool) | apply Exists.intro (α := ByteArray) | (apply Exists.intro (α := Option Addr); apply Exists.intro (α := Nat); apply Exists.intro (α := Nat)) | apply Exists.intro (α := Option Addr) | apply Exists.intro (α := Value))); refine ⟨rfl, ?_⟩)
    | (refine RDS.bld ?_; (repeat (first | apply Exists.intro (α := Int) | apply Exists.intro (α := Bool) | apply Exists.intro (α := ByteArray) | (apply Exists.intro (α := Option Addr); apply Exists.intro (α := Nat); apply Exists.intro (α := Nat)) | apply Exists.intro (α := Option Addr) | apply Exists.intro (α := Value))); refine ⟨rfl, ?_⟩)
    | refine St.rdsI _ ?_
    | refine St.rdsB _ ?_
    | refine St.rdsP _ ?_
    | refine St.rdsL _ ?_
    | refine St.rdsT _ ?_
    | refine St.rdsI2 _ _ ?_
    | refine St.rdsB2 _ _ ?_
    | (refine St.rdsG ?_; (repeat (first | apply Exists.intro (α := Int) | apply Exists.intro (α := Bool) | apply Exists.intro (α := ByteArray) | (apply Exists.intro (α := Option Addr); apply Exists.intro (α := Nat); apply Exists.intro (α := Nat)) | apply Exists.intro (α := Option Addr) | apply Exists.intro (α := Value))); refine ⟨rfl, ?_⟩)
    | refine letb rfl ?_
    | refine sat h ?_
    | (have h := h.drew; refine sat h ?_)
    | refine sat1 h (fun _ h => h.to) ?_)
  refine ifq (fun _ => ?_) fun hn => absurd e2 hn
  repeat' (first
    | refine nilc ?_
    | refine h.rdI _ ?_
    | refine h.rdB _ ?_
    | refine h.rdP _ ?_
    | refine h.rdL _ ?_
    | refine h.rdT _ ?_
    | refine h.rdI2 _ _ ?_
    | refine h.rdB2 _ _ ?_
    | refine h.rdP2 _ _ ?_
    | refine h.rdL2 _ _ ?_
    | refine h.st2 _ _ fun w' h => ?_
    | refine h.st _ fun w' h => ?_
    | refine h.rdvI ?_
    | refine h.rdvB ?_
    | refine h.rdvP ?_
    | refine h.rdvL ?_
    | refine h.rdvT ?_
    | (refine h.rdG ?_; (repeat (first | apply Exists.intro (α := Int) | apply Exists.intro (α := Bool) | apply Exists.intro (α := ByteArray) | (apply Exists.intro (α := Option Addr); apply Exists.intro (α := Nat); apply Exists.intro (α := Nat)) | apply Exists.intro (α := Option Addr) | apply Exists.intro (α := Value))); refine ⟨rfl, ?_⟩)
    | refine h.stG fun w' h => ?_
    | refine h.stV fun w' h => ?_
    | refine h.box fun p w' h => ?_
    | refine h.boxV fun p w' h => ?_
    | refine h.allocZ fun p w' h => ?_
    | refine h.allocZV fun p w' h => ?_
    | (refine RD.bld ?_; (repeat (first | apply Exists.intro (α := Int) | apply Exists.intro (α := Bool) | apply Exists.intro (α := ByteArray) | (apply Exists.intro (α := Option Addr); apply Exists.intro (α := Nat); apply Exists.intro (α := Nat)) | apply Exists.intro (α := Option Addr) | apply Exists.intro (α := Value))); refine ⟨rfl, ?_⟩)
    | (refine RDS.bld ?_; (repeat (first | apply Exists.intro (α := Int) | apply Exists.intro (α := Bool) | apply Exists.intro (α := ByteArray) | (apply Exists.intro (α := Option Addr); apply Exists.intro (α := Nat); apply Exists.intro (α := Nat)) | apply Exists.intro (α := Option Addr) | apply Exists.intro (α := Value))); refine ⟨rfl, ?_⟩)
    | refine St.rdsI _ ?_
    | refine St.rdsB _ ?_
    | refine St.rdsP _ ?_
    | refine St.rdsL _ ?_
    | refine St.rdsT _ ?_
    | refine St.rdsI2 _ _ ?_
    | refine St.rdsB2 _ _ ?_
    | (refine St.rdsG ?_; (repeat (first | apply Exists.intro (α := Int) | apply Exists.intro (α := Bool) | apply Exists.intro (α := ByteArray) | (apply Exists.intro (α := Option Addr); apply Exists.intro (α := Nat); apply Exists.intro (α := Nat)) | apply Exists.intro (α := Option Addr) | apply Exists.intro (α := Value))); refine ⟨rfl, ?_⟩)
    | refine letb rfl ?_
    | refine sat h ?_
    | (have h := h.drew; refine sat h ?_)
    | refine sat1 h (fun _ h => h.to) ?_)
  refine ifq (fun _ => ?_) fun hn => absurd e3 hn
  repeat' (first
    | refine nilc ?_
    | refine h.rdI _ ?_
    | refine h.rdB _ ?_
    | refine h.rdP _ ?_
    | refine h.rdL _ ?_
    | refine h.rdT _ ?_
    | refine h.rdI2 _ _ ?_
    | refine h.rdB2 _ _ ?_
    | refine h.rdP2 _ _ ?_
    | refine h.rdL2 _ _ ?_
    | refine h.st2 _ _ fun w' h => ?_
    | refine h.st _ fun w' h => ?_
    | refine h.rdvI ?_
    | refine h.rdvB ?_
    | refine h.rdvP ?_
    | refine h.rdvL ?_
    | refine h.rdvT ?_
    | (refine h.rdG ?_; (repeat (first | apply Exists.intro (α := Int) | apply Exists.intro (α := Bool) | apply Exists.intro (α := ByteArray) | (apply Exists.intro (α := Option Addr); apply Exists.intro (α := Nat); apply Exists.intro (α := Nat)) | apply Exists.intro (α := Option Addr) | apply Exists.intro (α := Value))); refine ⟨rfl, ?_⟩)
    | refine h.stG fun w' h => ?_
    | refine h.stV fun w' h => ?_
    | refine h.box fun p w' h => ?_
    | refine h.boxV fun p w' h => ?_
    | refine h.allocZ fun p w' h => ?_
    | refine h.allocZV fun p w' h => ?_
    | (refine RD.bld ?_; (repeat (first | apply Exists.intro (α := Int) | apply Exists.intro (α := Bool) | apply Exists.intro (α := ByteArray) | (apply Exists.intro (α := Option Addr); apply Exists.intro (α := Nat); apply Exists.intro (α := Nat)) | apply Exists.intro (α := Option Addr) | apply Exists.intro (α := Value))); refine ⟨rfl, ?_⟩)
    | (refine RDS.bld ?_; (repeat (first | apply Exists.intro (α := Int) | apply Exists.intro (α := Bool) | apply Exists.intro (α := ByteArray) | (apply Exists.intro (α := Option Addr); apply Exists.intro (α := Nat); apply Exists.intro (α := Nat)) | apply Exists.intro (α := Option Addr) | apply Exists.intro (α := Value))); refine ⟨rfl, ?_⟩)
    | refine St.rdsI _ ?_
    | refine St.rdsB _ ?_
    | refine St.rdsP _ ?_
    | refine St.rdsL _ ?_
    | refine St.rdsT _ ?_
    | refine St.rdsI2 _ _ ?_
    | refine St.rdsB2 _ _ ?_
    | (refine St.rdsG ?_; (repeat (first | apply Exists.intro (α := Int) | apply Exists.intro (α := Bool) | apply Exists.intro (α := ByteArray) | (apply Exists.intro (α := Option Addr); apply Exists.intro (α := Nat); apply Exists.intro (α := Nat)) | apply Exists.intro (α := Option Addr) | apply Exists.intro (α := Value))); refine ⟨rfl, ?_⟩)
    | refine letb rfl ?_
    | refine sat h ?_
    | (have h := h.drew; refine sat h ?_)
    | refine sat1 h (fun _ h => h.to) ?_)
  refine foretell_ok h (x := ⟨0, 0, 0, 0, 3, 0, 0, 0, 7, false, false, 0, 0, 0, 0, 0, 0⟩) (s := s) ⟨by rw [e3]; exact ⟨by decide, by decide⟩, by rw [e4]; exact ⟨by decide, by decide⟩, by omega, by omega⟩ (SgIn.here (.tail .head)) (by simp [eos]) fun w' h => ?_
  (repeat (first | apply Exists.intro (α := Int) | apply Exists.intro (α := Bool) | apply Exists.intro (α := ByteArray) | (apply Exists.intro (α := Option Addr); apply Exists.intro (α := Nat); apply Exists.intro (α := Nat)) | apply Exists.intro (α := Option Addr) | apply Exists.intro (α := Value)))
  refine ⟨rfl, ?_⟩
  refine letb ?_ (hk _ h.to)
  simp [ft, jd, numOf, e3, e5, hasF]
end
end Go.Br
