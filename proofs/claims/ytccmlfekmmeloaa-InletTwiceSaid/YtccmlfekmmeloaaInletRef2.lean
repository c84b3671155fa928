/- The document's inlet: Put and Take end, and keep the lengths. -/
import Derived.Test.YtccmlfekmmeloaaNInletRef2
import Derived.Test.YtccmlfekmmeloaaInletRef
set_option linter.unusedVariables false
set_option linter.unusedSimpArgs false
set_option linter.unnecessarySimpa false
namespace Go.Br
open Go
instance biInletRef2a : Zro PG 78 6 80 (.agg #[.int .u64 0, .slice none 0 0, .slice none 0 0, .int .i64 0, .int .u64 0, .bool false]) := ⟨tiOf (by kernel_rfl)⟩
attribute [local irreducible] Addr.add RD RDS RUN RUNU NILC LETB CALL CALLX CALLV

section
variable {c : Ctx} {w : World} {L R1 R : List SA} {base e : Int} {O1 O2 : Option Addr} {d1 d2 sz : Nat} {kn : Bool} {hv : List Bool} {by_ : List UInt8}
theorem rtake_ok (h : St c w L) (hp : Pick (own 4 1 O1 sz d1 (hv.flatMap bc)) L R1) (hq : Pick (own 5 1 O2 sz d2 (by_.flatMap uc)) R1 R) (hl : hv.length = sz) (hl2 : by_.length = sz) (hsz : sz ≤ 500) (h0 : 0 ≤ base) (h1 : base + sz < 4611686018427387904) {many : Int} {Q : Value → World → Prop}
    (hk : ∀ (base' : Int) (O1' : Option Addr) (d1' : Nat) (hv' : List Bool) (O2' : Option Addr) (d2' : Nat) (by' : List UInt8) (Oo : Option Addr) (no dn : Nat) (o : List UInt8) (er : Int) (w' : World), base ≤ base' → base' ≤ base + sz → hv'.length = sz → by'.length = sz → o.length = no → St c w' (own 5 1 Oo no dn (bvs o) :: own 4 1 O1' sz d1' (hv'.flatMap bc) :: own 5 1 O2' sz d2' (by'.flatMap uc) :: R) → Q (.tuple #[rxv base' O1' d1' O2' d2' sz e kn, .slice Oo no dn, .int .i64 er]) w') :
    CALL PG 93 [rxv base O1 d1 O2 d2 sz e kn, .int .i64 many] w Q := by
  have h := h.pick2 hp hq
  have hd1 := (h.own .head).le
  have hd2 := (h.own (.tail .head)).le
  have out0 : ∀ {w' : World} {er : Int}, St c w' (own 4 1 O1 sz d1 (hv.flatMap bc) :: own 5 1 O2 sz d2 (by_.flatMap uc) :: R) → Q (.tuple #[rxv base O1 d1 O2 d2 sz e kn, .slice none 0 0, .int .i64 er]) w' := fun {w' er} h => by
    refine hk base O1 d1 hv O2 d2 by_ none 0 0 [] er w' (by omega) (by omega) hl hl2 rfl ?_
    exact h.addOwnNil 5 1
  refine call93 ?_
  unfold N93
  refine h.box fun p w' h => ?_
  refine h.allocZ fun q w' h => ?_
  refine ifd (fun _ => ?_) fun hm => ?_
  · repeat' (first
      | refine nilc ?_
      | refine h.rdI _ ?_
      | refine h.rdB _ ?_
      | refine h.rdP _ ?_
      | refine h.rdL _ ?_
      | refine h.rdT _ ?_
      | refine h.rdI2 _ _ ?_
      | refine h.rdB2 _ _ ?_
      | refine h.rdP2 _ _ ?_
      | refine h.rdL2 _ _ ?_
      | refine h.st2 _ _ fun w' h => ?_
      | refine h.st _ fun w' h => ?_
      | refine h.rdvI ?_
      | refine h.rdvB ?_
      | refine h.rdvP ?_
      | refine h.rdvL ?_
      | refine h.rdvT ?_
      | (refine h.rdG ?_; (repeat (first | apply Exists.intro (α := Int) | apply Exists.intro (α := Bool) | apply Exists.intro (α := ByteArray) | (apply Exists.intro (α := Option Addr); apply Exists.intro (α := Nat); apply Exists.intro (α := Nat)) | apply Exists.intro (α := Option Addr) | apply Exists.intro (α := Value))); refine ⟨rfl, ?_⟩)
      | refine h.stG fun w' h => ?_
      | refine h.stV fun w' h => ?_
      | refine h.box fun p w' h => ?_
      | refine h.boxV fun p w' h => ?_
      | refine h.allocZ fun p w' h => ?_
      | refine h.allocZV fun p w' h => ?_
      | (refine RD.bld ?_; (repeat (first | apply Exists.intro (α := Int) | apply Exists.intro (α := Bool) | apply Exists.intro (α := ByteArray) | (apply Exists.intro (α := Option Addr); apply Exists.intro (α := Nat); apply Exists.intro (α := Nat)) | apply Exists.intro (α := Option Addr) | apply Exists.intro (α := Value))); refine ⟨rfl, ?_⟩)
      | (refine RDS.bld ?_; (repeat (first | apply Exists.intro (α := Int) | apply Exists.intro (α := Bool) | apply Exists.intro (α := ByteArray) | (apply Exists.intro (α := Option Addr); apply Exists.intro (α := Nat); apply Exists.intro (α := Nat)) | apply Exists.intro (α := Option Addr) | apply Exists.intro (α := Value))); refine ⟨rfl, ?_⟩)
      | refine St.rdsI _ ?_
      | refine St.rdsB _ ?_
      | refine St.rdsP _ ?_
      | refine St.rdsL _ ?_
      | refine St.rdsT _ ?_
      | refine St.rdsI2 _ _ ?_
      | refine St.rdsB2 _ _ ?_
      | (refine St.rdsG ?_; (repeat (first | apply Exists.intro (α := Int) | apply Exists.intro (α := Bool) | apply Exists.intro (α := ByteArray) | (apply Exists.intro (α := Option Addr); apply Exists.intro (α := Nat); apply Exists.intro (α := Nat)) | apply Exists.intro (α := Option Addr) | apply Exists.intro (α := Value))); refine ⟨rfl, ?_⟩)
      | refine letb rfl ?_
      | refine sat h ?_
      | (have h := h.drew; refine sat h ?_)
      | refine sat1 h (fun _ h => h.to) ?_)
    exact out0 h.drop.drop
  refine ⟨fun O n d w' => ∃ o : List UInt8, o.length = n ∧ n ≤ sz ∧ St c w' (own 5 1 O n d (o.flatMap uc) :: Br.blk q 78 [.int .u64 0, .slice none 0 0, .slice none 0 0, .int .i64 0, .int .u64 0, .bool false] :: Br.blk p 78 (rxl base O1 d1 O2 d2 sz e kn) :: own 4 1 O1 sz d1 (hv.flatMap bc) :: own 5 1 O2 sz d2 (by_.flatMap uc) :: R), ?_, ?_⟩
  · have h := h.addOwnNil 5 1
    refine ⟨fun m O n d w' => ∃ o : List UInt8, o.length = n ∧ n + m = sz ∧ St c w' (own 5 1 O n d (o.flatMap uc) :: Br.blk q 78 [.int .u64 0, .slice none 0 0, .slice none 0 0, .int .i64 0, .int .u64 0, .bool false] :: Br.blk p 78 (rxl base O1 d1 O2 d2 sz e kn) :: own 4 1 O1 sz d1 (hv.flatMap bc) :: own 5 1 O2 sz d2 (by_.flatMap uc) :: R), ⟨sz, [], rfl, by omega, h⟩, ?_⟩
    clear h
    rintro m O _ d w' ⟨o, rfl, hom, h⟩
    have h := h.drew
    refine sat h ?_
    refine St.rdsG ?_
    (repeat (first | apply Exists.intro (α := Int) | apply Exists.intro (α := Bool) | apply Exists.intro (α := ByteArray) | (apply Exists.intro (α := Option Addr); apply Exists.intro (α := Nat); apply Exists.intro (α := Nat)) | apply Exists.intro (α := Option Addr) | apply Exists.intro (α := Value)))
    refine ⟨rfl, ?_⟩
    refine St.rdsI 0 ?_
    refine rnext_ok h (RdIn.own (.tail (.tail (.tail .head)))) hl h0 (by omega) fun k w' hks h => ?_
    (repeat (first | apply Exists.intro (α := Int) | apply Exists.intro (α := Bool) | apply Exists.intro (α := ByteArray) | (apply Exists.intro (α := Option Addr); apply Exists.intro (α := Nat); apply Exists.intro (α := Nat)) | apply Exists.intro (α := Option Addr) | apply Exists.intro (α := Value)))
    refine ⟨rfl, ?_⟩
    refine sat1 h (fun _ h => h) ?_
    rw [show IntKind.u64.wrap (o.length : Int) = o.length by rw [wrapU64]; omega, show IntKind.u64.wrap (base + k - base) = k by rw [wrapU64]; omega]
    refine ifd (fun hlt => ifd (fun _ => ?_) fun _ => ⟨o, rfl, by omega, h⟩) fun _ => ⟨o, rfl, by omega, h⟩
    obtain ⟨x, hx⟩ := ex_get (L := by_) (j := o.length) (by omega)
    repeat' (first
      | refine nilc ?_
      | refine h.rdI _ ?_
      | refine h.rdB _ ?_
      | refine h.rdP _ ?_
      | refine h.rdL _ ?_
      | refine h.rdT _ ?_
      | refine h.rdI2 _ _ ?_
      | refine h.rdB2 _ _ ?_
      | refine h.rdP2 _ _ ?_
      | refine h.rdL2 _ _ ?_
      | refine h.st2 _ _ fun w' h => ?_
      | refine h.st _ fun w' h => ?_
      | refine h.rdvI ?_
      | refine h.rdvB ?_
      | refine h.rdvP ?_
      | refine h.rdvL ?_
      | refine h.rdvT ?_
      | (refine h.rdG ?_; (repeat (first | apply Exists.intro (α := Int) | apply Exists.intro (α := Bool) | apply Exists.intro (α := ByteArray) | (apply Exists.intro (α := Option Addr); apply Exists.intro (α := Nat); apply Exists.intro (α := Nat)) | apply Exists.intro (α := Option Addr) | apply Exists.intro (α := Value))); refine ⟨rfl, ?_⟩)
      | refine h.stG fun w' h => ?_
      | refine h.stV fun w' h => ?_
      | refine h.box fun p w' h => ?_
      | refine h.boxV fun p w' h => ?_
      | refine h.allocZ fun p w' h => ?_
      | refine h.allocZV fun p w' h => ?_
      | (refine RD.bld ?_; (repeat (first | apply Exists.intro (α := Int) | apply Exists.intro (α := Bool) | apply Exists.intro (α := ByteArray) | (apply Exists.intro (α := Option Addr); apply Exists.intro (α := Nat); apply Exists.intro (α := Nat)) | apply Exists.intro (α := Option Addr) | apply Exists.intro (α := Value))); refine ⟨rfl, ?_⟩)
      | (refine RDS.bld ?_; (repeat (first | apply Exists.intro (α := Int) | apply Exists.intro (α := Bool) | apply Exists.intro (α := ByteArray) | (apply Exists.intro (α := Option Addr); apply Exists.intro (α := Nat); apply Exists.intro (α := Nat)) | apply Exists.intro (α := Option Addr) | apply Exists.intro (α := Value))); refine ⟨rfl, ?_⟩)
      | refine St.rdsI _ ?_
      | refine St.rdsB _ ?_
      | refine St.rdsP _ ?_
      | refine St.rdsL _ ?_
      | refine St.rdsT _ ?_
      | refine St.rdsI2 _ _ ?_
      | refine St.rdsB2 _ _ ?_
      | (refine St.rdsG ?_; (repeat (first | apply Exists.intro (α := Int) | apply Exists.intro (α := Bool) | apply Exists.intro (α := ByteArray) | (apply Exists.intro (α := Option Addr); apply Exists.intro (α := Nat); apply Exists.intro (α := Nat)) | apply Exists.intro (α := Option Addr) | apply Exists.intro (α := Value))); refine ⟨rfl, ?_⟩)
      | refine letb rfl ?_
      | refine sat h ?_
      | (have h := h.drew; refine sat h ?_)
      | refine sat1 h (fun _ h => h.to) ?_)
    refine h.ix (z := 0) (RdIn.own (.tail (.tail (.tail (.tail .head))))) hx (fun b hb => ?_) (by omega)
    subst hb
    refine h.rdWI (RdIn.own (.tail (.tail (.tail (.tail .head))))) hx ?_
    refine h.app1 huBytes tiU8 (uc x) .head (uc_flat1 x) (by omega) fun O' d' w' h => ?_
    refine ⟨m - 1, by omega, o ++ [x], by simp, by omega, ?_⟩
    rw [List.flatMap_append, List.flatMap_singleton]
    exact h
  clear h
  rintro O _ d w' ⟨o, rfl, hom, h⟩
  refine ⟨fun w' => St c w' (own 5 1 O o.length d (o.flatMap uc) :: Br.blk q 78 [.int .u64 0, .slice none 0 0, .slice none 0 0, .int .i64 0, .int .u64 0, .bool false] :: Br.blk p 78 (rxl base O1 d1 O2 d2 sz e kn) :: own 4 1 O1 sz d1 (hv.flatMap bc) :: own 5 1 O2 sz d2 (by_.flatMap uc) :: R), ?_, ?_⟩
  · refine ifq (fun _ => ?_) fun _ => h
    repeat' (first
      | refine nilc ?_
      | refine h.rdI _ ?_
      | refine h.rdB _ ?_
      | refine h.rdP _ ?_
      | refine h.rdL _ ?_
      | refine h.rdT _ ?_
      | refine h.rdI2 _ _ ?_
      | refine h.rdB2 _ _ ?_
      | refine h.rdP2 _ _ ?_
      | refine h.rdL2 _ _ ?_
      | refine h.st2 _ _ fun w' h => ?_
      | refine h.st _ fun w' h => ?_
      | refine h.rdvI ?_
      | refine h.rdvB ?_
      | refine h.rdvP ?_
      | refine h.rdvL ?_
      | refine h.rdvT ?_
      | (refine h.rdG ?_; (repeat (first | apply Exists.intro (α := Int) | apply Exists.intro (α := Bool) | apply Exists.intro (α := ByteArray) | (apply Exists.intro (α := Option Addr); apply Exists.intro (α := Nat); apply Exists.intro (α := Nat)) | apply Exists.intro (α := Option Addr) | apply Exists.intro (α := Value))); refine ⟨rfl, ?_⟩)
      | refine h.stG fun w' h => ?_
      | refine h.stV fun w' h => ?_
      | refine h.box fun p w' h => ?_
      | refine h.boxV fun p w' h => ?_
      | refine h.allocZ fun p w' h => ?_
      | refine h.allocZV fun p w' h => ?_
      | (refine RD.bld ?_; (repeat (first | apply Exists.intro (α := Int) | apply Exists.intro (α := Bool) | apply Exists.intro (α := ByteArray) | (apply Exists.intro (α := Option Addr); apply Exists.intro (α := Nat); apply Exists.intro (α := Nat)) | apply Exists.intro (α := Option Addr) | apply Exists.intro (α := Value))); refine ⟨rfl, ?_⟩)
      | (refine RDS.bld ?_; (repeat (first | apply Exists.intro (α := Int) | apply Exists.intro (α := Bool) | apply Exists.intro (α := ByteArray) | (apply Exists.intro (α := Option Addr); apply Exists.intro (α := Nat); apply Exists.intro (α := Nat)) | apply Exists.intro (α := Option Addr) | apply Exists.intro (α := Value))); refine ⟨rfl, ?_⟩)
      | refine St.rdsI _ ?_
      | refine St.rdsB _ ?_
      | refine St.rdsP _ ?_
      | refine St.rdsL _ ?_
      | refine St.rdsT _ ?_
      | refine St.rdsI2 _ _ ?_
      | refine St.rdsB2 _ _ ?_
      | (refine St.rdsG ?_; (repeat (first | apply Exists.intro (α := Int) | apply Exists.intro (α := Bool) | apply Exists.intro (α := ByteArray) | (apply Exists.intro (α := Option Addr); apply Exists.intro (α := Nat); apply Exists.intro (α := Nat)) | apply Exists.intro (α := Option Addr) | apply Exists.intro (α := Value))); refine ⟨rfl, ?_⟩)
      | refine letb rfl ?_
      | refine sat h ?_
      | (have h := h.drew; refine sat h ?_)
      | refine sat1 h (fun _ h => h.to) ?_)
    refine rended_ok h (RdIn.own (.tail (.tail (.tail .head)))) hl h0 (by omega) fun b w' h => ?_
    (repeat (first | apply Exists.intro (α := Int) | apply Exists.intro (α := Bool) | apply Exists.intro (α := ByteArray) | (apply Exists.intro (α := Option Addr); apply Exists.intro (α := Nat); apply Exists.intro (α := Nat)) | apply Exists.intro (α := Option Addr) | apply Exists.intro (α := Value)))
    refine ⟨rfl, ?_⟩
    refine ifb (fun _ => ?_) fun _ => h
    repeat' (first
      | refine nilc ?_
      | refine h.rdI _ ?_
      | refine h.rdB _ ?_
      | refine h.rdP _ ?_
      | refine h.rdL _ ?_
      | refine h.rdT _ ?_
      | refine h.rdI2 _ _ ?_
      | refine h.rdB2 _ _ ?_
      | refine h.rdP2 _ _ ?_
      | refine h.rdL2 _ _ ?_
      | refine h.st2 _ _ fun w' h => ?_
      | refine h.st _ fun w' h => ?_
      | refine h.rdvI ?_
      | refine h.rdvB ?_
      | refine h.rdvP ?_
      | refine h.rdvL ?_
      | refine h.rdvT ?_
      | (refine h.rdG ?_; (repeat (first | apply Exists.intro (α := Int) | apply Exists.intro (α := Bool) | apply Exists.intro (α := ByteArray) | (apply Exists.intro (α := Option Addr); apply Exists.intro (α := Nat); apply Exists.intro (α := Nat)) | apply Exists.intro (α := Option Addr) | apply Exists.intro (α := Value))); refine ⟨rfl, ?_⟩)
      | refine h.stG fun w' h => ?_
      | refine h.stV fun w' h => ?_
      | refine h.box fun p w' h => ?_
      | refine h.boxV fun p w' h => ?_
      | refine h.allocZ fun p w' h => ?_
      | refine h.allocZV fun p w' h => ?_
      | (refine RD.bld ?_; (repeat (first | apply Exists.intro (α := Int) | apply Exists.intro (α := Bool) | apply Exists.intro (α := ByteArray) | (apply Exists.intro (α := Option Addr); apply Exists.intro (α := Nat); apply Exists.intro (α := Nat)) | apply Exists.intro (α := Option Addr) | apply Exists.intro (α := Value))); refine ⟨rfl, ?_⟩)
      | (refine RDS.bld ?_; (repeat (first | apply Exists.intro (α := Int) | apply Exists.intro (α := Bool) | apply Exists.intro (α := ByteArray) | (apply Exists.intro (α := Option Addr); apply Exists.intro (α := Nat); apply Exists.intro (α := Nat)) | apply Exists.intro (α := Option Addr) | apply Exists.intro (α := Value))); refine ⟨rfl, ?_⟩)
      | refine St.rdsI _ ?_
      | refine St.rdsB _ ?_
      | refine St.rdsP _ ?_
      | refine St.rdsL _ ?_
      | refine St.rdsT _ ?_
      | refine St.rdsI2 _ _ ?_
      | refine St.rdsB2 _ _ ?_
      | (refine St.rdsG ?_; (repeat (first | apply Exists.intro (α := Int) | apply Exists.intro (α := Bool) | apply Exists.intro (α := ByteArray) | (apply Exists.intro (α := Option Addr); apply Exists.intro (α := Nat); apply Exists.intro (α := Nat)) | apply Exists.intro (α := Option Addr) | apply Exists.intro (α := Value))); refine ⟨rfl, ?_⟩)
      | refine letb rfl ?_
      | refine sat h ?_
      | (have h := h.drew; refine sat h ?_)
      | refine sat1 h (fun _ h => h.to) ?_)
    exact out0 (h.to)
  clear h
  intro w' h
  refine ifq (fun _ => ?_) fun hn0 => leti rfl ?_
  · repeat' (first
      | refine nilc ?_
      | refine h.rdI _ ?_
      | refine h.rdB _ ?_
      | refine h.rdP _ ?_
      | refine h.rdL _ ?_
      | refine h.rdT _ ?_
      | refine h.rdI2 _ _ ?_
      | refine h.rdB2 _ _ ?_
      | refine h.rdP2 _ _ ?_
      | refine h.rdL2 _ _ ?_
      | refine h.st2 _ _ fun w' h => ?_
      | refine h.st _ fun w' h => ?_
      | refine h.rdvI ?_
      | refine h.rdvB ?_
      | refine h.rdvP ?_
      | refine h.rdvL ?_
      | refine h.rdvT ?_
      | (refine h.rdG ?_; (repeat (first | apply Exists.intro (α := Int) | apply Exists.intro (α := Bool) | apply Exists.intro (α := ByteArray) | (apply Exists.intro (α := Option Addr); apply Exists.intro (α := Nat); apply Exists.intro (α := Nat)) | apply Exists.intro (α := Option Addr) | apply Exists.intro (α := Value))); refine ⟨rfl, ?_⟩)
      | refine h.stG fun w' h => ?_
      | refine h.stV fun w' h => ?_
      | refine h.box fun p w' h => ?_
      | refine h.boxV fun p w' h => ?_
      | refine h.allocZ fun p w' h => ?_
      | refine h.allocZV fun p w' h => ?_
      | (refine RD.bld ?_; (repeat (first | apply Exists.intro (α := Int) | apply Exists.intro (α := Bool) | apply Exists.intro (α := ByteArray) | (apply Exists.intro (α := Option Addr); apply Exists.intro (α := Nat); apply Exists.intro (α := Nat)) | apply Exists.intro (α := Option Addr) | apply Exists.intro (α := Value))); refine ⟨rfl, ?_⟩)
      | (refine RDS.bld ?_; (repeat (first | apply Exists.intro (α := Int) | apply Exists.intro (α := Bool) | apply Exists.intro (α := ByteArray) | (apply Exists.intro (α := Option Addr); apply Exists.intro (α := Nat); apply Exists.intro (α := Nat)) | apply Exists.intro (α := Option Addr) | apply Exists.intro (α := Value))); refine ⟨rfl, ?_⟩)
      | refine St.rdsI _ ?_
      | refine St.rdsB _ ?_
      | refine St.rdsP _ ?_
      | refine St.rdsL _ ?_
      | refine St.rdsT _ ?_
      | refine St.rdsI2 _ _ ?_
      | refine St.rdsB2 _ _ ?_
      | (refine St.rdsG ?_; (repeat (first | apply Exists.intro (α := Int) | apply Exists.intro (α := Bool) | apply Exists.intro (α := ByteArray) | (apply Exists.intro (α := Option Addr); apply Exists.intro (α := Nat); apply Exists.intro (α := Nat)) | apply Exists.intro (α := Option Addr) | apply Exists.intro (α := Value))); refine ⟨rfl, ?_⟩)
      | refine letb rfl ?_
      | refine sat h ?_
      | (have h := h.drew; refine sat h ?_)
      | refine sat1 h (fun _ h => h.to) ?_)
    exact out0 (h.to)
  have l1 : (hv.flatMap bc).length = sz * 1 := by rw [flat_length bc_length, hl]
  have l2 : (by_.flatMap uc).length = sz * 1 := by rw [flat_length uc_length, hl2]
  refine h.lit (n := 0) 4 1 [] fun q1 w' h => ?_
  repeat' (first
    | refine nilc ?_
    | refine h.rdI _ ?_
    | refine h.rdB _ ?_
    | refine h.rdP _ ?_
    | refine h.rdL _ ?_
    | refine h.rdT _ ?_
    | refine h.rdI2 _ _ ?_
    | refine h.rdB2 _ _ ?_
    | refine h.rdP2 _ _ ?_
    | refine h.rdL2 _ _ ?_
    | refine h.st2 _ _ fun w' h => ?_
    | refine h.st _ fun w' h => ?_
    | refine h.rdvI ?_
    | refine h.rdvB ?_
    | refine h.rdvP ?_
    | refine h.rdvL ?_
    | refine h.rdvT ?_
    | (refine h.rdG ?_; (repeat (first | apply Exists.intro (α := Int) | apply Exists.intro (α := Bool) | apply Exists.intro (α := ByteArray) | (apply Exists.intro (α := Option Addr); apply Exists.intro (α := Nat); apply Exists.intro (α := Nat)) | apply Exists.intro (α := Option Addr) | apply Exists.intro (α := Value))); refine ⟨rfl, ?_⟩)
    | refine h.stG fun w' h => ?_
    | refine h.stV fun w' h => ?_
    | refine h.box fun p w' h => ?_
    | refine h.boxV fun p w' h => ?_
    | refine h.allocZ fun p w' h => ?_
    | refine h.allocZV fun p w' h => ?_
    | (refine RD.bld ?_; (repeat (first | apply Exists.intro (α := Int) | apply Exists.intro (α := Bool) | apply Exists.intro (α := ByteArray) | (apply Exists.intro (α := Option Addr); apply Exists.intro (α := Nat); apply Exists.intro (α := Nat)) | apply Exists.intro (α := Option Addr) | apply Exists.intro (α := Value))); refine ⟨rfl, ?_⟩)
    | (refine RDS.bld ?_; (repeat (first | apply Exists.intro (α := Int) | apply Exists.intro (α := Bool) | apply Exists.intro (α := ByteArray) | (apply Exists.intro (α := Option Addr); apply Exists.intro (α := Nat); apply Exists.intro (α := Nat)) | apply Exists.intro (α := Option Addr) | apply Exists.intro (α := Value))); refine ⟨rfl, ?_⟩)
    | refine St.rdsI _ ?_
    | refine St.rdsB _ ?_
    | refine St.rdsP _ ?_
    | refine St.rdsL _ ?_
    | refine St.rdsT _ ?_
    | refine St.rdsI2 _ _ ?_
    | refine St.rdsB2 _ _ ?_
    | (refine St.rdsG ?_; (repeat (first | apply Exists.intro (α := Int) | apply Exists.intro (α := Bool) | apply Exists.intro (α := ByteArray) | (apply Exists.intro (α := Option Addr); apply Exists.intro (α := Nat); apply Exists.intro (α := Nat)) | apply Exists.intro (α := Option Addr) | apply Exists.intro (α := Value))); refine ⟨rfl, ?_⟩)
    | refine letb rfl ?_
    | refine sat h ?_
    | (have h := h.drew; refine sat h ?_)
    | refine sat1 h (fun _ h => h.to) ?_)
  refine ⟨by omega, ?_⟩
  try simp only [Int.toNat_natCast]
  have r1 := (RdIn.own (L := own 4 1 (some ⟨q1, 0, none⟩) 0 0 [] :: own 5 1 O o.length d (o.flatMap uc) :: Br.blk q 78 [.int .u64 0, .slice none 0 0, .slice none 0 0, .int .i64 0, .int .u64 0, .bool false] :: Br.blk p 78 (rxl base O1 d1 O2 d2 sz e kn) :: own 4 1 O1 sz d1 (hv.flatMap bc) :: own 5 1 O2 sz d2 (by_.flatMap uc) :: R) (.tail (.tail (.tail (.tail .head))))).cut (c := d1) (z := 1) (by rw [l1]; omega) (o.length : Int)
  rw [Int.toNat_natCast, flat_drop bc_length] at r1
  refine h.append huBools tiBool .head r1 (m := sz - o.length) (by rw [flat_length bc_length, List.length_drop, hl]) (bc_flat _) (by omega) fun O3 d3 w' h => ?_
  refine h.appZ .head huBools htInt tiBool (by omega) fun O4 d4 w' h => ?_
  rw [List.nil_append, zeros_bool, ← List.flatMap_append, show 0 + (sz - o.length) + o.length = sz by omega] at h
  rw [show 0 + (sz - o.length) + o.length = sz by omega]
  have lH : (hv.drop o.length ++ List.replicate o.length false).length = sz := by simp; omega
  generalize hv.drop o.length ++ List.replicate o.length false = hv2 at *
  repeat' (first
    | refine nilc ?_
    | refine h.rdI _ ?_
    | refine h.rdB _ ?_
    | refine h.rdP _ ?_
    | refine h.rdL _ ?_
    | refine h.rdT _ ?_
    | refine h.rdI2 _ _ ?_
    | refine h.rdB2 _ _ ?_
    | refine h.rdP2 _ _ ?_
    | refine h.rdL2 _ _ ?_
    | refine h.st2 _ _ fun w' h => ?_
    | refine h.st _ fun w' h => ?_
    | refine h.rdvI ?_
    | refine h.rdvB ?_
    | refine h.rdvP ?_
    | refine h.rdvL ?_
    | refine h.rdvT ?_
    | (refine h.rdG ?_; (repeat (first | apply Exists.intro (α := Int) | apply Exists.intro (α := Bool) | apply Exists.intro (α := ByteArray) | (apply Exists.intro (α := Option Addr); apply Exists.intro (α := Nat); apply Exists.intro (α := Nat)) | apply Exists.intro (α := Option Addr) | apply Exists.intro (α := Value))); refine ⟨rfl, ?_⟩)
    | refine h.stG fun w' h => ?_
    | refine h.stV fun w' h => ?_
    | refine h.box fun p w' h => ?_
    | refine h.boxV fun p w' h => ?_
    | refine h.allocZ fun p w' h => ?_
    | refine h.allocZV fun p w' h => ?_
    | (refine RD.bld ?_; (repeat (first | apply Exists.intro (α := Int) | apply Exists.intro (α := Bool) | apply Exists.intro (α := ByteArray) | (apply Exists.intro (α := Option Addr); apply Exists.intro (α := Nat); apply Exists.intro (α := Nat)) | apply Exists.intro (α := Option Addr) | apply Exists.intro (α := Value))); refine ⟨rfl, ?_⟩)
    | (refine RDS.bld ?_; (repeat (first | apply Exists.intro (α := Int) | apply Exists.intro (α := Bool) | apply Exists.intro (α := ByteArray) | (apply Exists.intro (α := Option Addr); apply Exists.intro (α := Nat); apply Exists.intro (α := Nat)) | apply Exists.intro (α := Option Addr) | apply Exists.intro (α := Value))); refine ⟨rfl, ?_⟩)
    | refine St.rdsI _ ?_
    | refine St.rdsB _ ?_
    | refine St.rdsP _ ?_
    | refine St.rdsL _ ?_
    | refine St.rdsT _ ?_
    | refine St.rdsI2 _ _ ?_
    | refine St.rdsB2 _ _ ?_
    | (refine St.rdsG ?_; (repeat (first | apply Exists.intro (α := Int) | apply Exists.intro (α := Bool) | apply Exists.intro (α := ByteArray) | (apply Exists.intro (α := Option Addr); apply Exists.intro (α := Nat); apply Exists.intro (α := Nat)) | apply Exists.intro (α := Option Addr) | apply Exists.intro (α := Value))); refine ⟨rfl, ?_⟩)
    | refine letb rfl ?_
    | refine sat h ?_
    | (have h := h.drew; refine sat h ?_)
    | refine sat1 h (fun _ h => h.to) ?_)
  refine h.lit (n := 0) 5 1 [] fun q2 w' h => ?_
  repeat' (first
    | refine nilc ?_
    | refine h.rdI _ ?_
    | refine h.rdB _ ?_
    | refine h.rdP _ ?_
    | refine h.rdL _ ?_
    | refine h.rdT _ ?_
    | refine h.rdI2 _ _ ?_
    | refine h.rdB2 _ _ ?_
    | refine h.rdP2 _ _ ?_
    | refine h.rdL2 _ _ ?_
    | refine h.st2 _ _ fun w' h => ?_
    | refine h.st _ fun w' h => ?_
    | refine h.rdvI ?_
    | refine h.rdvB ?_
    | refine h.rdvP ?_
    | refine h.rdvL ?_
    | refine h.rdvT ?_
    | (refine h.rdG ?_; (repeat (first | apply Exists.intro (α := Int) | apply Exists.intro (α := Bool) | apply Exists.intro (α := ByteArray) | (apply Exists.intro (α := Option Addr); apply Exists.intro (α := Nat); apply Exists.intro (α := Nat)) | apply Exists.intro (α := Option Addr) | apply Exists.intro (α := Value))); refine ⟨rfl, ?_⟩)
    | refine h.stG fun w' h => ?_
    | refine h.stV fun w' h => ?_
    | refine h.box fun p w' h => ?_
    | refine h.boxV fun p w' h => ?_
    | refine h.allocZ fun p w' h => ?_
    | refine h.allocZV fun p w' h => ?_
    | (refine RD.bld ?_; (repeat (first | apply Exists.intro (α := Int) | apply Exists.intro (α := Bool) | apply Exists.intro (α := ByteArray) | (apply Exists.intro (α := Option Addr); apply Exists.intro (α := Nat); apply Exists.intro (α := Nat)) | apply Exists.intro (α := Option Addr) | apply Exists.intro (α := Value))); refine ⟨rfl, ?_⟩)
    | (refine RDS.bld ?_; (repeat (first | apply Exists.intro (α := Int) | apply Exists.intro (α := Bool) | apply Exists.intro (α := ByteArray) | (apply Exists.intro (α := Option Addr); apply Exists.intro (α := Nat); apply Exists.intro (α := Nat)) | apply Exists.intro (α := Option Addr) | apply Exists.intro (α := Value))); refine ⟨rfl, ?_⟩)
    | refine St.rdsI _ ?_
    | refine St.rdsB _ ?_
    | refine St.rdsP _ ?_
    | refine St.rdsL _ ?_
    | refine St.rdsT _ ?_
    | refine St.rdsI2 _ _ ?_
    | refine St.rdsB2 _ _ ?_
    | (refine St.rdsG ?_; (repeat (first | apply Exists.intro (α := Int) | apply Exists.intro (α := Bool) | apply Exists.intro (α := ByteArray) | (apply Exists.intro (α := Option Addr); apply Exists.intro (α := Nat); apply Exists.intro (α := Nat)) | apply Exists.intro (α := Option Addr) | apply Exists.intro (α := Value))); refine ⟨rfl, ?_⟩)
    | refine letb rfl ?_
    | refine sat h ?_
    | (have h := h.drew; refine sat h ?_)
    | refine sat1 h (fun _ h => h.to) ?_)
  refine ⟨by omega, ?_⟩
  try simp only [Int.toNat_natCast]
  have h := h.to (L' := own 5 1 (some ⟨q2, 0, none⟩) 0 0 [] :: own 5 1 O2 sz d2 (by_.flatMap uc) :: Br.blk p 78 (rxl base O4 d4 O2 d2 sz e kn) :: Br.blk q 78 [.int .u64 0, .slice none 0 0, .slice none 0 0, .int .i64 0, .int .u64 0, .bool false] :: own 5 1 O o.length d (o.flatMap uc) :: own 4 1 O4 sz d4 (hv2.flatMap bc) :: R)
  have r2 := (RdIn.own (L := own 5 1 (some ⟨q2, 0, none⟩) 0 0 [] :: own 5 1 O2 sz d2 (by_.flatMap uc) :: Br.blk p 78 (rxl base O4 d4 O2 d2 sz e kn) :: Br.blk q 78 [.int .u64 0, .slice none 0 0, .slice none 0 0, .int .i64 0, .int .u64 0, .bool false] :: own 5 1 O o.length d (o.flatMap uc) :: own 4 1 O4 sz d4 (hv2.flatMap bc) :: R) (.tail .head)).cut (c := d2) (z := 1) (by rw [l2]; omega) (o.length : Int)
  rw [Int.toNat_natCast, flat_drop uc_length] at r2
  refine h.append huBytes tiU8 .head r2 (m := sz - o.length) (by rw [flat_length uc_length, List.length_drop, hl2]) (uc_flat _) (by omega) fun O5 d5 w' h => ?_
  refine h.appZ .head huBytes htInt tiU8 (by omega) fun O6 d6 w' h => ?_
  rw [List.nil_append, zeros_uc, ← List.flatMap_append, show 0 + (sz - o.length) + o.length = sz by omega] at h
  rw [show 0 + (sz - o.length) + o.length = sz by omega]
  have lY : (by_.drop o.length ++ List.replicate o.length (0 : UInt8)).length = sz := by simp; omega
  generalize by_.drop o.length ++ List.replicate o.length (0 : UInt8) = by2 at *
  repeat' (first
    | refine nilc ?_
    | refine h.rdI _ ?_
    | refine h.rdB _ ?_
    | refine h.rdP _ ?_
    | refine h.rdL _ ?_
    | refine h.rdT _ ?_
    | refine h.rdI2 _ _ ?_
    | refine h.rdB2 _ _ ?_
    | refine h.rdP2 _ _ ?_
    | refine h.rdL2 _ _ ?_
    | refine h.st2 _ _ fun w' h => ?_
    | refine h.st _ fun w' h => ?_
    | refine h.rdvI ?_
    | refine h.rdvB ?_
    | refine h.rdvP ?_
    | refine h.rdvL ?_
    | refine h.rdvT ?_
    | (refine h.rdG ?_; (repeat (first | apply Exists.intro (α := Int) | apply Exists.intro (α := Bool) | apply Exists.intro (α := ByteArray) | (apply Exists.intro (α := Option Addr); apply Exists.intro (α := Nat); apply Exists.intro (α := Nat)) | apply Exists.intro (α := Option Addr) | apply Exists.intro (α := Value))); refine ⟨rfl, ?_⟩)
    | refine h.stG fun w' h => ?_
    | refine h.stV fun w' h => ?_
    | refine h.box fun p w' h => ?_
    | refine h.boxV fun p w' h => ?_
    | refine h.allocZ fun p w' h => ?_
    | refine h.allocZV fun p w' h => ?_
    | (refine RD.bld ?_; (repeat (first | apply Exists.intro (α := Int) | apply Exists.intro (α := Bool) | apply Exists.intro (α := ByteArray) | (apply Exists.intro (α := Option Addr); apply Exists.intro (α := Nat); apply Exists.intro (α := Nat)) | apply Exists.intro (α := Option Addr) | apply Exists.intro (α := Value))); refine ⟨rfl, ?_⟩)
    | (refine RDS.bld ?_; (repeat (first | apply Exists.intro (α := Int) | apply Exists.intro (α := Bool) | apply Exists.intro (α := ByteArray) | (apply Exists.intro (α := Option Addr); apply Exists.intro (α := Nat); apply Exists.intro (α := Nat)) | apply Exists.intro (α := Option Addr) | apply Exists.intro (α := Value))); refine ⟨rfl, ?_⟩)
    | refine St.rdsI _ ?_
    | refine St.rdsB _ ?_
    | refine St.rdsP _ ?_
    | refine St.rdsL _ ?_
    | refine St.rdsT _ ?_
    | refine St.rdsI2 _ _ ?_
    | refine St.rdsB2 _ _ ?_
    | (refine St.rdsG ?_; (repeat (first | apply Exists.intro (α := Int) | apply Exists.intro (α := Bool) | apply Exists.intro (α := ByteArray) | (apply Exists.intro (α := Option Addr); apply Exists.intro (α := Nat); apply Exists.intro (α := Nat)) | apply Exists.intro (α := Option Addr) | apply Exists.intro (α := Value))); refine ⟨rfl, ?_⟩)
    | refine letb rfl ?_
    | refine sat h ?_
    | (have h := h.drew; refine sat h ?_)
    | refine sat1 h (fun _ h => h.to) ?_)
  rw [show IntKind.u64.wrap (base + IntKind.u64.wrap (o.length : Int)) = base + o.length by rw [wrapU64, wrapU64]; omega] at h ⊢
  rw [← bvs_uc o] at h
  exact hk _ _ _ _ _ _ _ _ _ _ o _ _ (by omega) (by omega) lH lY rfl h.to
theorem rput_ok (h : St c w L) (hp : Pick (own 4 1 O1 sz d1 (hv.flatMap bc)) L R1) (hq : Pick (own 5 1 O2 sz d2 (by_.flatMap uc)) R1 R) (hl : hv.length = sz) (hl2 : by_.length = sz) (hsz : sz ≤ 500) (h0 : 0 ≤ base) (h1 : base + sz < 4611686018427387904) {f : Int} (hf : 0 ≤ f) {A : Option Addr} {n d : Nat} {b : List UInt8} (hb : RdIn R A (bvs b)) (hbl : b.length = n) (hn : n ≤ 1000) {Q : Value → World → Prop}
    (hk : ∀ (O1' : Option Addr) (d1' : Nat) (hv' : List Bool) (O2' : Option Addr) (d2' : Nat) (by' : List UInt8) (ok : Bool) (w' : World), hv'.length = sz → by'.length = sz → St c w' (own 4 1 O1' sz d1' (hv'.flatMap bc) :: own 5 1 O2' sz d2' (by'.flatMap uc) :: R) → Q (.tuple #[rxv base O1' d1' O2' d2' sz e kn, .bool ok]) w') :
    CALL PG 94 [rxv base O1 d1 O2 d2 sz e kn, .int .u64 f, .slice A n d] w Q := by
  have h := h.pick2 hp hq
  rw [bvs_uc] at hb
  have l1 : (hv.flatMap bc).length = sz * 1 := by rw [flat_length bc_length, hl]
  have l2 : (by_.flatMap uc).length = sz * 1 := by rw [flat_length uc_length, hl2]
  refine call94 ?_
  unfold N94
  refine h.box fun p w' h => ?_
  refine h.allocZ fun q w' h => ?_
  refine ifd (fun _ => ?_) fun hov => ?_
  · repeat' (first
      | refine nilc ?_
      | refine h.rdI _ ?_
      | refine h.rdB _ ?_
      | refine h.rdP _ ?_
      | refine h.rdL _ ?_
      | refine h.rdT _ ?_
      | refine h.rdI2 _ _ ?_
      | refine h.rdB2 _ _ ?_
      | refine h.rdP2 _ _ ?_
      | refine h.rdL2 _ _ ?_
      | refine h.st2 _ _ fun w' h => ?_
      | refine h.st _ fun w' h => ?_
      | refine h.rdvI ?_
      | refine h.rdvB ?_
      | refine h.rdvP ?_
      | refine h.rdvL ?_
      | refine h.rdvT ?_
      | (refine h.rdG ?_; (repeat (first | apply Exists.intro (α := Int) | apply Exists.intro (α := Bool) | apply Exists.intro (α := ByteArray) | (apply Exists.intro (α := Option Addr); apply Exists.intro (α := Nat); apply Exists.intro (α := Nat)) | apply Exists.intro (α := Option Addr) | apply Exists.intro (α := Value))); refine ⟨rfl, ?_⟩)
      | refine h.stG fun w' h => ?_
      | refine h.stV fun w' h => ?_
      | refine h.box fun p w' h => ?_
      | refine h.boxV fun p w' h => ?_
      | refine h.allocZ fun p w' h => ?_
      | refine h.allocZV fun p w' h => ?_
      | (refine RD.bld ?_; (repeat (first | apply Exists.intro (α := Int) | apply Exists.intro (α := Bool) | apply Exists.intro (α := ByteArray) | (apply Exists.intro (α := Option Addr); apply Exists.intro (α := Nat); apply Exists.intro (α := Nat)) | apply Exists.intro (α := Option Addr) | apply Exists.intro (α := Value))); refine ⟨rfl, ?_⟩)
      | (refine RDS.bld ?_; (repeat (first | apply Exists.intro (α := Int) | apply Exists.intro (α := Bool) | apply Exists.intro (α := ByteArray) | (apply Exists.intro (α := Option Addr); apply Exists.intro (α := Nat); apply Exists.intro (α := Nat)) | apply Exists.intro (α := Option Addr) | apply Exists.intro (α := Value))); refine ⟨rfl, ?_⟩)
      | refine St.rdsI _ ?_
      | refine St.rdsB _ ?_
      | refine St.rdsP _ ?_
      | refine St.rdsL _ ?_
      | refine St.rdsT _ ?_
      | refine St.rdsI2 _ _ ?_
      | refine St.rdsB2 _ _ ?_
      | (refine St.rdsG ?_; (repeat (first | apply Exists.intro (α := Int) | apply Exists.intro (α := Bool) | apply Exists.intro (α := ByteArray) | (apply Exists.intro (α := Option Addr); apply Exists.intro (α := Nat); apply Exists.intro (α := Nat)) | apply Exists.intro (α := Option Addr) | apply Exists.intro (α := Value))); refine ⟨rfl, ?_⟩)
      | refine letb rfl ?_
      | refine sat h ?_
      | (have h := h.drew; refine sat h ?_)
      | refine sat1 h (fun _ h => h.to) ?_)
    exact hk _ _ _ _ _ _ _ _ hl hl2 h.drop.drop
  repeat' (first
    | refine nilc ?_
    | refine h.rdI _ ?_
    | refine h.rdB _ ?_
    | refine h.rdP _ ?_
    | refine h.rdL _ ?_
    | refine h.rdT _ ?_
    | refine h.rdI2 _ _ ?_
    | refine h.rdB2 _ _ ?_
    | refine h.rdP2 _ _ ?_
    | refine h.rdL2 _ _ ?_
    | refine h.st2 _ _ fun w' h => ?_
    | refine h.st _ fun w' h => ?_
    | refine h.rdvI ?_
    | refine h.rdvB ?_
    | refine h.rdvP ?_
    | refine h.rdvL ?_
    | refine h.rdvT ?_
    | (refine h.rdG ?_; (repeat (first | apply Exists.intro (α := Int) | apply Exists.intro (α := Bool) | apply Exists.intro (α := ByteArray) | (apply Exists.intro (α := Option Addr); apply Exists.intro (α := Nat); apply Exists.intro (α := Nat)) | apply Exists.intro (α := Option Addr) | apply Exists.intro (α := Value))); refine ⟨rfl, ?_⟩)
    | refine h.stG fun w' h => ?_
    | refine h.stV fun w' h => ?_
    | refine h.box fun p w' h => ?_
    | refine h.boxV fun p w' h => ?_
    | refine h.allocZ fun p w' h => ?_
    | refine h.allocZV fun p w' h => ?_
    | (refine RD.bld ?_; (repeat (first | apply Exists.intro (α := Int) | apply Exists.intro (α := Bool) | apply Exists.intro (α := ByteArray) | (apply Exists.intro (α := Option Addr); apply Exists.intro (α := Nat); apply Exists.intro (α := Nat)) | apply Exists.intro (α := Option Addr) | apply Exists.intro (α := Value))); refine ⟨rfl, ?_⟩)
    | (refine RDS.bld ?_; (repeat (first | apply Exists.intro (α := Int) | apply Exists.intro (α := Bool) | apply Exists.intro (α := ByteArray) | (apply Exists.intro (α := Option Addr); apply Exists.intro (α := Nat); apply Exists.intro (α := Nat)) | apply Exists.intro (α := Option Addr) | apply Exists.intro (α := Value))); refine ⟨rfl, ?_⟩)
    | refine St.rdsI _ ?_
    | refine St.rdsB _ ?_
    | refine St.rdsP _ ?_
    | refine St.rdsL _ ?_
    | refine St.rdsT _ ?_
    | refine St.rdsI2 _ _ ?_
    | refine St.rdsB2 _ _ ?_
    | (refine St.rdsG ?_; (repeat (first | apply Exists.intro (α := Int) | apply Exists.intro (α := Bool) | apply Exists.intro (α := ByteArray) | (apply Exists.intro (α := Option Addr); apply Exists.intro (α := Nat); apply Exists.intro (α := Nat)) | apply Exists.intro (α := Option Addr) | apply Exists.intro (α := Value))); refine ⟨rfl, ?_⟩)
    | refine letb rfl ?_
    | refine sat h ?_
    | (have h := h.drew; refine sat h ?_)
    | refine sat1 h (fun _ h => h.to) ?_)
  refine redge_ok h h0 (by omega) fun w' h => ?_
  (repeat (first | apply Exists.intro (α := Int) | apply Exists.intro (α := Bool) | apply Exists.intro (α := ByteArray) | (apply Exists.intro (α := Option Addr); apply Exists.intro (α := Nat); apply Exists.intro (α := Nat)) | apply Exists.intro (α := Option Addr) | apply Exists.intro (α := Value)))
  refine ⟨rfl, ?_⟩
  refine leti rfl ⟨fun t w' => t ≤ base + sz ∧ St c w' (Br.blk q 78 [.int .u64 0, .slice none 0 0, .slice none 0 0, .int .i64 0, .int .u64 0, .bool false] :: Br.blk p 78 (rxl base O1 d1 O2 d2 sz e kn) :: own 4 1 O1 sz d1 (hv.flatMap bc) :: own 5 1 O2 sz d2 (by_.flatMap uc) :: R), ?_, ?_⟩
  rotate_left
  · rintro t w' ⟨ht, h⟩
    repeat' (first
      | refine nilc ?_
      | refine h.rdI _ ?_
      | refine h.rdB _ ?_
      | refine h.rdP _ ?_
      | refine h.rdL _ ?_
      | refine h.rdT _ ?_
      | refine h.rdI2 _ _ ?_
      | refine h.rdB2 _ _ ?_
      | refine h.rdP2 _ _ ?_
      | refine h.rdL2 _ _ ?_
      | refine h.st2 _ _ fun w' h => ?_
      | refine h.st _ fun w' h => ?_
      | refine h.rdvI ?_
      | refine h.rdvB ?_
      | refine h.rdvP ?_
      | refine h.rdvL ?_
      | refine h.rdvT ?_
      | (refine h.rdG ?_; (repeat (first | apply Exists.intro (α := Int) | apply Exists.intro (α := Bool) | apply Exists.intro (α := ByteArray) | (apply Exists.intro (α := Option Addr); apply Exists.intro (α := Nat); apply Exists.intro (α := Nat)) | apply Exists.intro (α := Option Addr) | apply Exists.intro (α := Value))); refine ⟨rfl, ?_⟩)
      | refine h.stG fun w' h => ?_
      | refine h.stV fun w' h => ?_
      | refine h.box fun p w' h => ?_
      | refine h.boxV fun p w' h => ?_
      | refine h.allocZ fun p w' h => ?_
      | refine h.allocZV fun p w' h => ?_
      | (refine RD.bld ?_; (repeat (first | apply Exists.intro (α := Int) | apply Exists.intro (α := Bool) | apply Exists.intro (α := ByteArray) | (apply Exists.intro (α := Option Addr); apply Exists.intro (α := Nat); apply Exists.intro (α := Nat)) | apply Exists.intro (α := Option Addr) | apply Exists.intro (α := Value))); refine ⟨rfl, ?_⟩)
      | (refine RDS.bld ?_; (repeat (first | apply Exists.intro (α := Int) | apply Exists.intro (α := Bool) | apply Exists.intro (α := ByteArray) | (apply Exists.intro (α := Option Addr); apply Exists.intro (α := Nat); apply Exists.intro (α := Nat)) | apply Exists.intro (α := Option Addr) | apply Exists.intro (α := Value))); refine ⟨rfl, ?_⟩)
      | refine St.rdsI _ ?_
      | refine St.rdsB _ ?_
      | refine St.rdsP _ ?_
      | refine St.rdsL _ ?_
      | refine St.rdsT _ ?_
      | refine St.rdsI2 _ _ ?_
      | refine St.rdsB2 _ _ ?_
      | (refine St.rdsG ?_; (repeat (first | apply Exists.intro (α := Int) | apply Exists.intro (α := Bool) | apply Exists.intro (α := ByteArray) | (apply Exists.intro (α := Option Addr); apply Exists.intro (α := Nat); apply Exists.intro (α := Nat)) | apply Exists.intro (α := Option Addr) | apply Exists.intro (α := Value))); refine ⟨rfl, ?_⟩)
      | refine letb rfl ?_
      | refine sat h ?_
      | (have h := h.drew; refine sat h ?_)
      | refine sat1 h (fun _ h => h.to) ?_)
    refine rnext_ok h (RdIn.own (.tail (.tail .head))) hl h0 (by omega) fun k w' hks h => ?_
    (repeat (first | apply Exists.intro (α := Int) | apply Exists.intro (α := Bool) | apply Exists.intro (α := ByteArray) | (apply Exists.intro (α := Option Addr); apply Exists.intro (α := Nat); apply Exists.intro (α := Nat)) | apply Exists.intro (α := Option Addr) | apply Exists.intro (α := Value)))
    refine ⟨rfl, ?_⟩
    refine leti rfl ?_
    refine h.lit (n := 0) 4 1 [] fun q1 w' h => ?_
    repeat' (first
      | refine nilc ?_
      | refine h.rdI _ ?_
      | refine h.rdB _ ?_
      | refine h.rdP _ ?_
      | refine h.rdL _ ?_
      | refine h.rdT _ ?_
      | refine h.rdI2 _ _ ?_
      | refine h.rdB2 _ _ ?_
      | refine h.rdP2 _ _ ?_
      | refine h.rdL2 _ _ ?_
      | refine h.st2 _ _ fun w' h => ?_
      | refine h.st _ fun w' h => ?_
      | refine h.rdvI ?_
      | refine h.rdvB ?_
      | refine h.rdvP ?_
      | refine h.rdvL ?_
      | refine h.rdvT ?_
      | (refine h.rdG ?_; (repeat (first | apply Exists.intro (α := Int) | apply Exists.intro (α := Bool) | apply Exists.intro (α := ByteArray) | (apply Exists.intro (α := Option Addr); apply Exists.intro (α := Nat); apply Exists.intro (α := Nat)) | apply Exists.intro (α := Option Addr) | apply Exists.intro (α := Value))); refine ⟨rfl, ?_⟩)
      | refine h.stG fun w' h => ?_
      | refine h.stV fun w' h => ?_
      | refine h.box fun p w' h => ?_
      | refine h.boxV fun p w' h => ?_
      | refine h.allocZ fun p w' h => ?_
      | refine h.allocZV fun p w' h => ?_
      | (refine RD.bld ?_; (repeat (first | apply Exists.intro (α := Int) | apply Exists.intro (α := Bool) | apply Exists.intro (α := ByteArray) | (apply Exists.intro (α := Option Addr); apply Exists.intro (α := Nat); apply Exists.intro (α := Nat)) | apply Exists.intro (α := Option Addr) | apply Exists.intro (α := Value))); refine ⟨rfl, ?_⟩)
      | (refine RDS.bld ?_; (repeat (first | apply Exists.intro (α := Int) | apply Exists.intro (α := Bool) | apply Exists.intro (α := ByteArray) | (apply Exists.intro (α := Option Addr); apply Exists.intro (α := Nat); apply Exists.intro (α := Nat)) | apply Exists.intro (α := Option Addr) | apply Exists.intro (α := Value))); refine ⟨rfl, ?_⟩)
      | refine St.rdsI _ ?_
      | refine St.rdsB _ ?_
      | refine St.rdsP _ ?_
      | refine St.rdsL _ ?_
      | refine St.rdsT _ ?_
      | refine St.rdsI2 _ _ ?_
      | refine St.rdsB2 _ _ ?_
      | (refine St.rdsG ?_; (repeat (first | apply Exists.intro (α := Int) | apply Exists.intro (α := Bool) | apply Exists.intro (α := ByteArray) | (apply Exists.intro (α := Option Addr); apply Exists.intro (α := Nat); apply Exists.intro (α := Nat)) | apply Exists.intro (α := Option Addr) | apply Exists.intro (α := Value))); refine ⟨rfl, ?_⟩)
      | refine letb rfl ?_
      | refine sat h ?_
      | (have h := h.drew; refine sat h ?_)
      | refine sat1 h (fun _ h => h.to) ?_)
    refine h.append huBools tiBool .head (RdIn.own (.tail (.tail (.tail .head)))) (m := sz) l1 (bc_flat _) (by omega) fun O3 d3 w' h => ?_
    rw [List.nil_append, Nat.zero_add] at h
    rw [Nat.zero_add]
    repeat' (first
      | refine nilc ?_
      | refine h.rdI _ ?_
      | refine h.rdB _ ?_
      | refine h.rdP _ ?_
      | refine h.rdL _ ?_
      | refine h.rdT _ ?_
      | refine h.rdI2 _ _ ?_
      | refine h.rdB2 _ _ ?_
      | refine h.rdP2 _ _ ?_
      | refine h.rdL2 _ _ ?_
      | refine h.st2 _ _ fun w' h => ?_
      | refine h.st _ fun w' h => ?_
      | refine h.rdvI ?_
      | refine h.rdvB ?_
      | refine h.rdvP ?_
      | refine h.rdvL ?_
      | refine h.rdvT ?_
      | (refine h.rdG ?_; (repeat (first | apply Exists.intro (α := Int) | apply Exists.intro (α := Bool) | apply Exists.intro (α := ByteArray) | (apply Exists.intro (α := Option Addr); apply Exists.intro (α := Nat); apply Exists.intro (α := Nat)) | apply Exists.intro (α := Option Addr) | apply Exists.intro (α := Value))); refine ⟨rfl, ?_⟩)
      | refine h.stG fun w' h => ?_
      | refine h.stV fun w' h => ?_
      | refine h.box fun p w' h => ?_
      | refine h.boxV fun p w' h => ?_
      | refine h.allocZ fun p w' h => ?_
      | refine h.allocZV fun p w' h => ?_
      | (refine RD.bld ?_; (repeat (first | apply Exists.intro (α := Int) | apply Exists.intro (α := Bool) | apply Exists.intro (α := ByteArray) | (apply Exists.intro (α := Option Addr); apply Exists.intro (α := Nat); apply Exists.intro (α := Nat)) | apply Exists.intro (α := Option Addr) | apply Exists.intro (α := Value))); refine ⟨rfl, ?_⟩)
      | (refine RDS.bld ?_; (repeat (first | apply Exists.intro (α := Int) | apply Exists.intro (α := Bool) | apply Exists.intro (α := ByteArray) | (apply Exists.intro (α := Option Addr); apply Exists.intro (α := Nat); apply Exists.intro (α := Nat)) | apply Exists.intro (α := Option Addr) | apply Exists.intro (α := Value))); refine ⟨rfl, ?_⟩)
      | refine St.rdsI _ ?_
      | refine St.rdsB _ ?_
      | refine St.rdsP _ ?_
      | refine St.rdsL _ ?_
      | refine St.rdsT _ ?_
      | refine St.rdsI2 _ _ ?_
      | refine St.rdsB2 _ _ ?_
      | (refine St.rdsG ?_; (repeat (first | apply Exists.intro (α := Int) | apply Exists.intro (α := Bool) | apply Exists.intro (α := ByteArray) | (apply Exists.intro (α := Option Addr); apply Exists.intro (α := Nat); apply Exists.intro (α := Nat)) | apply Exists.intro (α := Option Addr) | apply Exists.intro (α := Value))); refine ⟨rfl, ?_⟩)
      | refine letb rfl ?_
      | refine sat h ?_
      | (have h := h.drew; refine sat h ?_)
      | refine sat1 h (fun _ h => h.to) ?_)
    have h := h.to (L' := own 4 1 O3 sz d3 (hv.flatMap bc) :: Br.blk p 78 (rxl base O3 d3 O2 d2 sz e kn) :: Br.blk q 78 [.int .u64 0, .slice none 0 0, .slice none 0 0, .int .i64 0, .int .u64 0, .bool false] :: own 5 1 O2 sz d2 (by_.flatMap uc) :: R)
    refine h.lit (n := 0) 5 1 [] fun q2 w' h => ?_
    repeat' (first
      | refine nilc ?_
      | refine h.rdI _ ?_
      | refine h.rdB _ ?_
      | refine h.rdP _ ?_
      | refine h.rdL _ ?_
      | refine h.rdT _ ?_
      | refine h.rdI2 _ _ ?_
      | refine h.rdB2 _ _ ?_
      | refine h.rdP2 _ _ ?_
      | refine h.rdL2 _ _ ?_
      | refine h.st2 _ _ fun w' h => ?_
      | refine h.st _ fun w' h => ?_
      | refine h.rdvI ?_
      | refine h.rdvB ?_
      | refine h.rdvP ?_
      | refine h.rdvL ?_
      | refine h.rdvT ?_
      | (refine h.rdG ?_; (repeat (first | apply Exists.intro (α := Int) | apply Exists.intro (α := Bool) | apply Exists.intro (α := ByteArray) | (apply Exists.intro (α := Option Addr); apply Exists.intro (α := Nat); apply Exists.intro (α := Nat)) | apply Exists.intro (α := Option Addr) | apply Exists.intro (α := Value))); refine ⟨rfl, ?_⟩)
      | refine h.stG fun w' h => ?_
      | refine h.stV fun w' h => ?_
      | refine h.box fun p w' h => ?_
      | refine h.boxV fun p w' h => ?_
      | refine h.allocZ fun p w' h => ?_
      | refine h.allocZV fun p w' h => ?_
      | (refine RD.bld ?_; (repeat (first | apply Exists.intro (α := Int) | apply Exists.intro (α := Bool) | apply Exists.intro (α := ByteArray) | (apply Exists.intro (α := Option Addr); apply Exists.intro (α := Nat); apply Exists.intro (α := Nat)) | apply Exists.intro (α := Option Addr) | apply Exists.intro (α := Value))); refine ⟨rfl, ?_⟩)
      | (refine RDS.bld ?_; (repeat (first | apply Exists.intro (α := Int) | apply Exists.intro (α := Bool) | apply Exists.intro (α := ByteArray) | (apply Exists.intro (α := Option Addr); apply Exists.intro (α := Nat); apply Exists.intro (α := Nat)) | apply Exists.intro (α := Option Addr) | apply Exists.intro (α := Value))); refine ⟨rfl, ?_⟩)
      | refine St.rdsI _ ?_
      | refine St.rdsB _ ?_
      | refine St.rdsP _ ?_
      | refine St.rdsL _ ?_
      | refine St.rdsT _ ?_
      | refine St.rdsI2 _ _ ?_
      | refine St.rdsB2 _ _ ?_
      | (refine St.rdsG ?_; (repeat (first | apply Exists.intro (α := Int) | apply Exists.intro (α := Bool) | apply Exists.intro (α := ByteArray) | (apply Exists.intro (α := Option Addr); apply Exists.intro (α := Nat); apply Exists.intro (α := Nat)) | apply Exists.intro (α := Option Addr) | apply Exists.intro (α := Value))); refine ⟨rfl, ?_⟩)
      | refine letb rfl ?_
      | refine sat h ?_
      | (have h := h.drew; refine sat h ?_)
      | refine sat1 h (fun _ h => h.to) ?_)
    refine h.append huBytes tiU8 .head (RdIn.own (.tail (.tail (.tail (.tail .head))))) (m := sz) l2 (uc_flat _) (by omega) fun O4 d4 w' h => ?_
    rw [List.nil_append, Nat.zero_add] at h
    rw [Nat.zero_add]
    repeat' (first
      | refine nilc ?_
      | refine h.rdI _ ?_
      | refine h.rdB _ ?_
      | refine h.rdP _ ?_
      | refine h.rdL _ ?_
      | refine h.rdT _ ?_
      | refine h.rdI2 _ _ ?_
      | refine h.rdB2 _ _ ?_
      | refine h.rdP2 _ _ ?_
      | refine h.rdL2 _ _ ?_
      | refine h.st2 _ _ fun w' h => ?_
      | refine h.st _ fun w' h => ?_
      | refine h.rdvI ?_
      | refine h.rdvB ?_
      | refine h.rdvP ?_
      | refine h.rdvL ?_
      | refine h.rdvT ?_
      | (refine h.rdG ?_; (repeat (first | apply Exists.intro (α := Int) | apply Exists.intro (α := Bool) | apply Exists.intro (α := ByteArray) | (apply Exists.intro (α := Option Addr); apply Exists.intro (α := Nat); apply Exists.intro (α := Nat)) | apply Exists.intro (α := Option Addr) | apply Exists.intro (α := Value))); refine ⟨rfl, ?_⟩)
      | refine h.stG fun w' h => ?_
      | refine h.stV fun w' h => ?_
      | refine h.box fun p w' h => ?_
      | refine h.boxV fun p w' h => ?_
      | refine h.allocZ fun p w' h => ?_
      | refine h.allocZV fun p w' h => ?_
      | (refine RD.bld ?_; (repeat (first | apply Exists.intro (α := Int) | apply Exists.intro (α := Bool) | apply Exists.intro (α := ByteArray) | (apply Exists.intro (α := Option Addr); apply Exists.intro (α := Nat); apply Exists.intro (α := Nat)) | apply Exists.intro (α := Option Addr) | apply Exists.intro (α := Value))); refine ⟨rfl, ?_⟩)
      | (refine RDS.bld ?_; (repeat (first | apply Exists.intro (α := Int) | apply Exists.intro (α := Bool) | apply Exists.intro (α := ByteArray) | (apply Exists.intro (α := Option Addr); apply Exists.intro (α := Nat); apply Exists.intro (α := Nat)) | apply Exists.intro (α := Option Addr) | apply Exists.intro (α := Value))); refine ⟨rfl, ?_⟩)
      | refine St.rdsI _ ?_
      | refine St.rdsB _ ?_
      | refine St.rdsP _ ?_
      | refine St.rdsL _ ?_
      | refine St.rdsT _ ?_
      | refine St.rdsI2 _ _ ?_
      | refine St.rdsB2 _ _ ?_
      | (refine St.rdsG ?_; (repeat (first | apply Exists.intro (α := Int) | apply Exists.intro (α := Bool) | apply Exists.intro (α := ByteArray) | (apply Exists.intro (α := Option Addr); apply Exists.intro (α := Nat); apply Exists.intro (α := Nat)) | apply Exists.intro (α := Option Addr) | apply Exists.intro (α := Value))); refine ⟨rfl, ?_⟩)
      | refine letb rfl ?_
      | refine sat h ?_
      | (have h := h.drew; refine sat h ?_)
      | refine sat1 h (fun _ h => h.to) ?_)
    have h := h.to (L' := own 4 1 O3 sz d3 (hv.flatMap bc) :: own 5 1 O4 sz d4 (by_.flatMap uc) :: Br.blk p 78 (rxl base O3 d3 O4 d4 sz e kn) :: Br.blk q 78 [.int .u64 0, .slice none 0 0, .slice none 0 0, .int .i64 0, .int .u64 0, .bool false] :: R)
    refine h.lit (n := 0) 4 1 [] fun q3 w' h => ?_
    repeat' (first
      | refine nilc ?_
      | refine h.rdI _ ?_
      | refine h.rdB _ ?_
      | refine h.rdP _ ?_
      | refine h.rdL _ ?_
      | refine h.rdT _ ?_
      | refine h.rdI2 _ _ ?_
      | refine h.rdB2 _ _ ?_
      | refine h.rdP2 _ _ ?_
      | refine h.rdL2 _ _ ?_
      | refine h.st2 _ _ fun w' h => ?_
      | refine h.st _ fun w' h => ?_
      | refine h.rdvI ?_
      | refine h.rdvB ?_
      | refine h.rdvP ?_
      | refine h.rdvL ?_
      | refine h.rdvT ?_
      | (refine h.rdG ?_; (repeat (first | apply Exists.intro (α := Int) | apply Exists.intro (α := Bool) | apply Exists.intro (α := ByteArray) | (apply Exists.intro (α := Option Addr); apply Exists.intro (α := Nat); apply Exists.intro (α := Nat)) | apply Exists.intro (α := Option Addr) | apply Exists.intro (α := Value))); refine ⟨rfl, ?_⟩)
      | refine h.stG fun w' h => ?_
      | refine h.stV fun w' h => ?_
      | refine h.box fun p w' h => ?_
      | refine h.boxV fun p w' h => ?_
      | refine h.allocZ fun p w' h => ?_
      | refine h.allocZV fun p w' h => ?_
      | (refine RD.bld ?_; (repeat (first | apply Exists.intro (α := Int) | apply Exists.intro (α := Bool) | apply Exists.intro (α := ByteArray) | (apply Exists.intro (α := Option Addr); apply Exists.intro (α := Nat); apply Exists.intro (α := Nat)) | apply Exists.intro (α := Option Addr) | apply Exists.intro (α := Value))); refine ⟨rfl, ?_⟩)
      | (refine RDS.bld ?_; (repeat (first | apply Exists.intro (α := Int) | apply Exists.intro (α := Bool) | apply Exists.intro (α := ByteArray) | (apply Exists.intro (α := Option Addr); apply Exists.intro (α := Nat); apply Exists.intro (α := Nat)) | apply Exists.intro (α := Option Addr) | apply Exists.intro (α := Value))); refine ⟨rfl, ?_⟩)
      | refine St.rdsI _ ?_
      | refine St.rdsB _ ?_
      | refine St.rdsP _ ?_
      | refine St.rdsL _ ?_
      | refine St.rdsT _ ?_
      | refine St.rdsI2 _ _ ?_
      | refine St.rdsB2 _ _ ?_
      | (refine St.rdsG ?_; (repeat (first | apply Exists.intro (α := Int) | apply Exists.intro (α := Bool) | apply Exists.intro (α := ByteArray) | (apply Exists.intro (α := Option Addr); apply Exists.intro (α := Nat); apply Exists.intro (α := Nat)) | apply Exists.intro (α := Option Addr) | apply Exists.intro (α := Value))); refine ⟨rfl, ?_⟩)
      | refine letb rfl ?_
      | refine sat h ?_
      | (have h := h.drew; refine sat h ?_)
      | refine sat1 h (fun _ h => h.to) ?_)
    refine h.append huBools tiBool .head (RdIn.own (.tail .head)) (m := sz) l1 (bc_flat _) (by omega) fun O5 d5 w' h => ?_
    rw [List.nil_append, Nat.zero_add] at h
    rw [Nat.zero_add]
    refine h.lit (n := 0) 5 1 [] fun q4 w' h => ?_
    repeat' (first
      | refine nilc ?_
      | refine h.rdI _ ?_
      | refine h.rdB _ ?_
      | refine h.rdP _ ?_
      | refine h.rdL _ ?_
      | refine h.rdT _ ?_
      | refine h.rdI2 _ _ ?_
      | refine h.rdB2 _ _ ?_
      | refine h.rdP2 _ _ ?_
      | refine h.rdL2 _ _ ?_
      | refine h.st2 _ _ fun w' h => ?_
      | refine h.st _ fun w' h => ?_
      | refine h.rdvI ?_
      | refine h.rdvB ?_
      | refine h.rdvP ?_
      | refine h.rdvL ?_
      | refine h.rdvT ?_
      | (refine h.rdG ?_; (repeat (first | apply Exists.intro (α := Int) | apply Exists.intro (α := Bool) | apply Exists.intro (α := ByteArray) | (apply Exists.intro (α := Option Addr); apply Exists.intro (α := Nat); apply Exists.intro (α := Nat)) | apply Exists.intro (α := Option Addr) | apply Exists.intro (α := Value))); refine ⟨rfl, ?_⟩)
      | refine h.stG fun w' h => ?_
      | refine h.stV fun w' h => ?_
      | refine h.box fun p w' h => ?_
      | refine h.boxV fun p w' h => ?_
      | refine h.allocZ fun p w' h => ?_
      | refine h.allocZV fun p w' h => ?_
      | (refine RD.bld ?_; (repeat (first | apply Exists.intro (α := Int) | apply Exists.intro (α := Bool) | apply Exists.intro (α := ByteArray) | (apply Exists.intro (α := Option Addr); apply Exists.intro (α := Nat); apply Exists.intro (α := Nat)) | apply Exists.intro (α := Option Addr) | apply Exists.intro (α := Value))); refine ⟨rfl, ?_⟩)
      | (refine RDS.bld ?_; (repeat (first | apply Exists.intro (α := Int) | apply Exists.intro (α := Bool) | apply Exists.intro (α := ByteArray) | (apply Exists.intro (α := Option Addr); apply Exists.intro (α := Nat); apply Exists.intro (α := Nat)) | apply Exists.intro (α := Option Addr) | apply Exists.intro (α := Value))); refine ⟨rfl, ?_⟩)
      | refine St.rdsI _ ?_
      | refine St.rdsB _ ?_
      | refine St.rdsP _ ?_
      | refine St.rdsL _ ?_
      | refine St.rdsT _ ?_
      | refine St.rdsI2 _ _ ?_
      | refine St.rdsB2 _ _ ?_
      | (refine St.rdsG ?_; (repeat (first | apply Exists.intro (α := Int) | apply Exists.intro (α := Bool) | apply Exists.intro (α := ByteArray) | (apply Exists.intro (α := Option Addr); apply Exists.intro (α := Nat); apply Exists.intro (α := Nat)) | apply Exists.intro (α := Option Addr) | apply Exists.intro (α := Value))); refine ⟨rfl, ?_⟩)
      | refine letb rfl ?_
      | refine sat h ?_
      | (have h := h.drew; refine sat h ?_)
      | refine sat1 h (fun _ h => h.to) ?_)
    refine h.append huBytes tiU8 .head (RdIn.own (.tail (.tail (.tail .head)))) (m := sz) l2 (uc_flat _) (by omega) fun O6 d6 w' h => ?_
    rw [List.nil_append, Nat.zero_add] at h
    rw [Nat.zero_add]
    refine ⟨fun m wh le an i w' => ∃ (j : Nat) (hN : List Bool) (yN : List UInt8), j + m = n ∧ i = (j : Int) ∧ hN.length = sz ∧ yN.length = sz ∧ St c w' (own 4 1 O5 sz d5 (hN.flatMap bc) :: own 5 1 O6 sz d6 (yN.flatMap uc) :: own 4 1 O3 sz d3 (hv.flatMap bc) :: own 5 1 O4 sz d4 (by_.flatMap uc) :: Br.blk p 78 (rxl base O3 d3 O4 d4 sz e kn) :: Br.blk q 78 [.int .u64 0, .slice none 0 0, .slice none 0 0, .int .i64 0, .int .u64 0, .bool false] :: R), ⟨n, 0, hv, by_, by omega, rfl, hl, hl2, h.to⟩, ?_⟩
    clear h
    rintro m wh le an _ w' ⟨j, hN, yN, hj, rfl, lN, lY, h⟩
    refine ifd (fun hlt => ?_) fun hge => ?_
    · obtain ⟨nn, hnn⟩ : ∃ x, x = IntKind.u64.wrap (f + IntKind.u64.wrap (j : Int)) := ⟨_, rfl⟩
      refine leti hnn.symm (ifd (fun _ => leti (wrap_i64 (n := (j : Int) + 1) (by omega) (by omega)) ⟨m - 1, by omega, j + 1, hN, yN, by omega, by omega, lN, lY, h⟩) fun g1 => ifd (fun _ => leti (wrap_i64 (n := (j : Int) + 1) (by omega) (by omega)) ⟨m - 1, by omega, j + 1, hN, yN, by omega, by omega, lN, lY, h⟩) fun g2 => ?_)
      refine ⟨fun _ _ w' => St c w' (own 4 1 O5 sz d5 (hN.flatMap bc) :: own 5 1 O6 sz d6 (yN.flatMap uc) :: own 4 1 O3 sz d3 (hv.flatMap bc) :: own 5 1 O4 sz d4 (by_.flatMap uc) :: Br.blk p 78 (rxl base O3 d3 O4 d4 sz e kn) :: Br.blk q 78 [.int .u64 0, .slice none 0 0, .slice none 0 0, .int .i64 0, .int .u64 0, .bool false] :: R), ifnot (fun _ => leti rfl h) fun _ => h, ?_⟩
      clear h
      intro le2 an2 w' h
      repeat' (first
        | refine nilc ?_
        | refine h.rdI _ ?_
        | refine h.rdB _ ?_
        | refine h.rdP _ ?_
        | refine h.rdL _ ?_
        | refine h.rdT _ ?_
        | refine h.rdI2 _ _ ?_
        | refine h.rdB2 _ _ ?_
        | refine h.rdP2 _ _ ?_
        | refine h.rdL2 _ _ ?_
        | refine h.st2 _ _ fun w' h => ?_
        | refine h.st _ fun w' h => ?_
        | refine h.rdvI ?_
        | refine h.rdvB ?_
        | refine h.rdvP ?_
        | refine h.rdvL ?_
        | refine h.rdvT ?_
        | (refine h.rdG ?_; (repeat (first | apply Exists.intro (α := Int) | apply Exists.intro (α := Bool) | apply Exists.intro (α := ByteArray) | (apply Exists.intro (α := Option Addr); apply Exists.intro (α := Nat); apply Exists.intro (α := Nat)) | apply Exists.intro (α := Option Addr) | apply Exists.intro (α := Value))); refine ⟨rfl, ?_⟩)
        | refine h.stG fun w' h => ?_
        | refine h.stV fun w' h => ?_
        | refine h.box fun p w' h => ?_
        | refine h.boxV fun p w' h => ?_
        | refine h.allocZ fun p w' h => ?_
        | refine h.allocZV fun p w' h => ?_
        | (refine RD.bld ?_; (repeat (first | apply Exists.intro (α := Int) | apply Exists.intro (α := Bool) | apply Exists.intro (α := ByteArray) | (apply Exists.intro (α := Option Addr); apply Exists.intro (α := Nat); apply Exists.intro (α := Nat)) | apply Exists.intro (α := Option Addr) | apply Exists.intro (α := Value))); refine ⟨rfl, ?_⟩)
        | (refine RDS.bld ?_; (repeat (first | apply Exists.intro (α := Int) | apply Exists.intro (α := Bool) | apply Exists.intro (α := ByteArray) | (apply Exists.intro (α := Option Addr); apply Exists.intro (α := Nat); apply Exists.intro (α := Nat)) | apply Exists.intro (α := Option Addr) | apply Exists.intro (α := Value))); refine ⟨rfl, ?_⟩)
        | refine St.rdsI _ ?_
        | refine St.rdsB _ ?_
        | refine St.rdsP _ ?_
        | refine St.rdsL _ ?_
        | refine St.rdsT _ ?_
        | refine St.rdsI2 _ _ ?_
        | refine St.rdsB2 _ _ ?_
        | (refine St.rdsG ?_; (repeat (first | apply Exists.intro (α := Int) | apply Exists.intro (α := Bool) | apply Exists.intro (α := ByteArray) | (apply Exists.intro (α := Option Addr); apply Exists.intro (α := Nat); apply Exists.intro (α := Nat)) | apply Exists.intro (α := Option Addr) | apply Exists.intro (α := Value))); refine ⟨rfl, ?_⟩)
        | refine letb rfl ?_
        | refine sat h ?_
        | (have h := h.drew; refine sat h ?_)
        | refine sat1 h (fun _ h => h.to) ?_)
      rw [show IntKind.u64.wrap (nn - base) = ((nn - base).toNat : Int) by rw [wrapU64]; omega]
      obtain ⟨x, hx⟩ := ex_get (L := hv) (j := (nn - base).toNat) (by omega)
      refine h.ix (z := 0) (RdIn.own (.tail (.tail .head))) hx (fun b0 hb0 => ?_) (by omega)
      subst hb0
      refine h.rdWB (RdIn.own (.tail (.tail .head))) hx ?_
      refine ifnot (fun _ => ?_) fun _ => leti (wrap_i64 (n := (j : Int) + 1) (by omega) (by omega)) ⟨m - 1, by omega, j + 1, hN, yN, by omega, by omega, lN, lY, h⟩
      have h := h.drew
      refine sat h.drop ?_
      refine St.rdsI 0 ?_
      refine St.rdsI 0 ?_
      rw [show IntKind.u64.wrap (nn - base) = ((nn - base).toNat : Int) by rw [wrapU64]; omega]
      obtain ⟨y, hy⟩ := ex_get (L := b) (j := j) (by omega)
      refine h.ix (z := 0) hb.more.more.more.more.more.more hy (fun b1 hb1 => ?_) (by omega)
      have hb2 := hb
      rw [hb1] at hb2
      refine St.rdsWI hb2.more.more.more.more.more hy ?_
      obtain ⟨z1, hz1⟩ := ex_get (L := hN) (j := (nn - base).toNat) (by omega)
      refine h.ix (z := 0) (RdIn.own .head) hz1 (fun b3 hb3 => ?_) (by omega)
      subst hb3
      refine h.stE .head (by omega) true (bc_flat1 true) fun w' h => ?_
      refine sat1 h.drop (fun _ h => h) ?_
      obtain ⟨z2, hz2⟩ := ex_get (L := yN) (j := (nn - base).toNat) (by omega)
      refine h.ix (z := 0) (RdIn.own (.tail .head)) hz2 (fun b4 hb4 => ?_) (by omega)
      subst hb4
      refine h.stE (.tail .head) (by omega) y (uc_flat1 y) fun w' h => ?_
      exact leti (wrap_i64 (n := (j : Int) + 1) (by omega) (by omega)) ⟨m - 1, by omega, j + 1, _, _, by omega, by omega, by rw [List.length_set]; exact lN, by rw [List.length_set]; exact lY, h.swap⟩
    refine ifnot (fun _ => ?_) fun _ => ?_
    · repeat' (first
        | refine nilc ?_
        | refine h.rdI _ ?_
        | refine h.rdB _ ?_
        | refine h.rdP _ ?_
        | refine h.rdL _ ?_
        | refine h.rdT _ ?_
        | refine h.rdI2 _ _ ?_
        | refine h.rdB2 _ _ ?_
        | refine h.rdP2 _ _ ?_
        | refine h.rdL2 _ _ ?_
        | refine h.st2 _ _ fun w' h => ?_
        | refine h.st _ fun w' h => ?_
        | refine h.rdvI ?_
        | refine h.rdvB ?_
        | refine h.rdvP ?_
        | refine h.rdvL ?_
        | refine h.rdvT ?_
        | (refine h.rdG ?_; (repeat (first | apply Exists.intro (α := Int) | apply Exists.intro (α := Bool) | apply Exists.intro (α := ByteArray) | (apply Exists.intro (α := Option Addr); apply Exists.intro (α := Nat); apply Exists.intro (α := Nat)) | apply Exists.intro (α := Option Addr) | apply Exists.intro (α := Value))); refine ⟨rfl, ?_⟩)
        | refine h.stG fun w' h => ?_
        | refine h.stV fun w' h => ?_
        | refine h.box fun p w' h => ?_
        | refine h.boxV fun p w' h => ?_
        | refine h.allocZ fun p w' h => ?_
        | refine h.allocZV fun p w' h => ?_
        | (refine RD.bld ?_; (repeat (first | apply Exists.intro (α := Int) | apply Exists.intro (α := Bool) | apply Exists.intro (α := ByteArray) | (apply Exists.intro (α := Option Addr); apply Exists.intro (α := Nat); apply Exists.intro (α := Nat)) | apply Exists.intro (α := Option Addr) | apply Exists.intro (α := Value))); refine ⟨rfl, ?_⟩)
        | (refine RDS.bld ?_; (repeat (first | apply Exists.intro (α := Int) | apply Exists.intro (α := Bool) | apply Exists.intro (α := ByteArray) | (apply Exists.intro (α := Option Addr); apply Exists.intro (α := Nat); apply Exists.intro (α := Nat)) | apply Exists.intro (α := Option Addr) | apply Exists.intro (α := Value))); refine ⟨rfl, ?_⟩)
        | refine St.rdsI _ ?_
        | refine St.rdsB _ ?_
        | refine St.rdsP _ ?_
        | refine St.rdsL _ ?_
        | refine St.rdsT _ ?_
        | refine St.rdsI2 _ _ ?_
        | refine St.rdsB2 _ _ ?_
        | (refine St.rdsG ?_; (repeat (first | apply Exists.intro (α := Int) | apply Exists.intro (α := Bool) | apply Exists.intro (α := ByteArray) | (apply Exists.intro (α := Option Addr); apply Exists.intro (α := Nat); apply Exists.intro (α := Nat)) | apply Exists.intro (α := Option Addr) | apply Exists.intro (α := Value))); refine ⟨rfl, ?_⟩)
        | refine letb rfl ?_
        | refine sat h ?_
        | (have h := h.drew; refine sat h ?_)
        | refine sat1 h (fun _ h => h.to) ?_)
      exact hk _ _ _ _ _ _ _ _ hl hl2 h.to
    refine ifd (fun _ => ?_) fun _ => ?_
    · repeat' (first
        | refine nilc ?_
        | refine h.rdI _ ?_
        | refine h.rdB _ ?_
        | refine h.rdP _ ?_
        | refine h.rdL _ ?_
        | refine h.rdT _ ?_
        | refine h.rdI2 _ _ ?_
        | refine h.rdB2 _ _ ?_
        | refine h.rdP2 _ _ ?_
        | refine h.rdL2 _ _ ?_
        | refine h.st2 _ _ fun w' h => ?_
        | refine h.st _ fun w' h => ?_
        | refine h.rdvI ?_
        | refine h.rdvB ?_
        | refine h.rdvP ?_
        | refine h.rdvL ?_
        | refine h.rdvT ?_
        | (refine h.rdG ?_; (repeat (first | apply Exists.intro (α := Int) | apply Exists.intro (α := Bool) | apply Exists.intro (α := ByteArray) | (apply Exists.intro (α := Option Addr); apply Exists.intro (α := Nat); apply Exists.intro (α := Nat)) | apply Exists.intro (α := Option Addr) | apply Exists.intro (α := Value))); refine ⟨rfl, ?_⟩)
        | refine h.stG fun w' h => ?_
        | refine h.stV fun w' h => ?_
        | refine h.box fun p w' h => ?_
        | refine h.boxV fun p w' h => ?_
        | refine h.allocZ fun p w' h => ?_
        | refine h.allocZV fun p w' h => ?_
        | (refine RD.bld ?_; (repeat (first | apply Exists.intro (α := Int) | apply Exists.intro (α := Bool) | apply Exists.intro (α := ByteArray) | (apply Exists.intro (α := Option Addr); apply Exists.intro (α := Nat); apply Exists.intro (α := Nat)) | apply Exists.intro (α := Option Addr) | apply Exists.intro (α := Value))); refine ⟨rfl, ?_⟩)
        | (refine RDS.bld ?_; (repeat (first | apply Exists.intro (α := Int) | apply Exists.intro (α := Bool) | apply Exists.intro (α := ByteArray) | (apply Exists.intro (α := Option Addr); apply Exists.intro (α := Nat); apply Exists.intro (α := Nat)) | apply Exists.intro (α := Option Addr) | apply Exists.intro (α := Value))); refine ⟨rfl, ?_⟩)
        | refine St.rdsI _ ?_
        | refine St.rdsB _ ?_
        | refine St.rdsP _ ?_
        | refine St.rdsL _ ?_
        | refine St.rdsT _ ?_
        | refine St.rdsI2 _ _ ?_
        | refine St.rdsB2 _ _ ?_
        | (refine St.rdsG ?_; (repeat (first | apply Exists.intro (α := Int) | apply Exists.intro (α := Bool) | apply Exists.intro (α := ByteArray) | (apply Exists.intro (α := Option Addr); apply Exists.intro (α := Nat); apply Exists.intro (α := Nat)) | apply Exists.intro (α := Option Addr) | apply Exists.intro (α := Value))); refine ⟨rfl, ?_⟩)
        | refine letb rfl ?_
        | refine sat h ?_
        | (have h := h.drew; refine sat h ?_)
        | refine sat1 h (fun _ h => h.to) ?_)
      refine rpieces_ok h (RdIn.own (.tail (.tail .head))) hl hsz h0 h1 fun A1 n1 k1 w' h => ?_
      (repeat (first | apply Exists.intro (α := Int) | apply Exists.intro (α := Bool) | apply Exists.intro (α := ByteArray) | (apply Exists.intro (α := Option Addr); apply Exists.intro (α := Nat); apply Exists.intro (α := Nat)) | apply Exists.intro (α := Option Addr) | apply Exists.intro (α := Value)))
      refine ⟨rfl, ?_⟩
      repeat' (first
        | refine nilc ?_
        | refine h.rdI _ ?_
        | refine h.rdB _ ?_
        | refine h.rdP _ ?_
        | refine h.rdL _ ?_
        | refine h.rdT _ ?_
        | refine h.rdI2 _ _ ?_
        | refine h.rdB2 _ _ ?_
        | refine h.rdP2 _ _ ?_
        | refine h.rdL2 _ _ ?_
        | refine h.st2 _ _ fun w' h => ?_
        | refine h.st _ fun w' h => ?_
        | refine h.rdvI ?_
        | refine h.rdvB ?_
        | refine h.rdvP ?_
        | refine h.rdvL ?_
        | refine h.rdvT ?_
        | (refine h.rdG ?_; (repeat (first | apply Exists.intro (α := Int) | apply Exists.intro (α := Bool) | apply Exists.intro (α := ByteArray) | (apply Exists.intro (α := Option Addr); apply Exists.intro (α := Nat); apply Exists.intro (α := Nat)) | apply Exists.intro (α := Option Addr) | apply Exists.intro (α := Value))); refine ⟨rfl, ?_⟩)
        | refine h.stG fun w' h => ?_
        | refine h.stV fun w' h => ?_
        | refine h.box fun p w' h => ?_
        | refine h.boxV fun p w' h => ?_
        | refine h.allocZ fun p w' h => ?_
        | refine h.allocZV fun p w' h => ?_
        | (refine RD.bld ?_; (repeat (first | apply Exists.intro (α := Int) | apply Exists.intro (α := Bool) | apply Exists.intro (α := ByteArray) | (apply Exists.intro (α := Option Addr); apply Exists.intro (α := Nat); apply Exists.intro (α := Nat)) | apply Exists.intro (α := Option Addr) | apply Exists.intro (α := Value))); refine ⟨rfl, ?_⟩)
        | (refine RDS.bld ?_; (repeat (first | apply Exists.intro (α := Int) | apply Exists.intro (α := Bool) | apply Exists.intro (α := ByteArray) | (apply Exists.intro (α := Option Addr); apply Exists.intro (α := Nat); apply Exists.intro (α := Nat)) | apply Exists.intro (α := Option Addr) | apply Exists.intro (α := Value))); refine ⟨rfl, ?_⟩)
        | refine St.rdsI _ ?_
        | refine St.rdsB _ ?_
        | refine St.rdsP _ ?_
        | refine St.rdsL _ ?_
        | refine St.rdsT _ ?_
        | refine St.rdsI2 _ _ ?_
        | refine St.rdsB2 _ _ ?_
        | (refine St.rdsG ?_; (repeat (first | apply Exists.intro (α := Int) | apply Exists.intro (α := Bool) | apply Exists.intro (α := ByteArray) | (apply Exists.intro (α := Option Addr); apply Exists.intro (α := Nat); apply Exists.intro (α := Nat)) | apply Exists.intro (α := Option Addr) | apply Exists.intro (α := Value))); refine ⟨rfl, ?_⟩)
        | refine letb rfl ?_
        | refine sat h ?_
        | (have h := h.drew; refine sat h ?_)
        | refine sat1 h (fun _ h => h.to) ?_)
      refine rpieces_ok h (hv := hN) (RdIn.own (.tail .head)) lN hsz h0 h1 fun A2 n2 k2 w' h => ?_
      (repeat (first | apply Exists.intro (α := Int) | apply Exists.intro (α := Bool) | apply Exists.intro (α := ByteArray) | (apply Exists.intro (α := Option Addr); apply Exists.intro (α := Nat); apply Exists.intro (α := Nat)) | apply Exists.intro (α := Option Addr) | apply Exists.intro (α := Value)))
      refine ⟨rfl, ?_⟩
      refine sat1 h (fun _ h => h) ?_
      refine ifd (fun _ => ?_) fun _ => ?_
      · repeat' (first
          | refine nilc ?_
          | refine h.rdI _ ?_
          | refine h.rdB _ ?_
          | refine h.rdP _ ?_
          | refine h.rdL _ ?_
          | refine h.rdT _ ?_
          | refine h.rdI2 _ _ ?_
          | refine h.rdB2 _ _ ?_
          | refine h.rdP2 _ _ ?_
          | refine h.rdL2 _ _ ?_
          | refine h.st2 _ _ fun w' h => ?_
          | refine h.st _ fun w' h => ?_
          | refine h.rdvI ?_
          | refine h.rdvB ?_
          | refine h.rdvP ?_
          | refine h.rdvL ?_
          | refine h.rdvT ?_
          | (refine h.rdG ?_; (repeat (first | apply Exists.intro (α := Int) | apply Exists.intro (α := Bool) | apply Exists.intro (α := ByteArray) | (apply Exists.intro (α := Option Addr); apply Exists.intro (α := Nat); apply Exists.intro (α := Nat)) | apply Exists.intro (α := Option Addr) | apply Exists.intro (α := Value))); refine ⟨rfl, ?_⟩)
          | refine h.stG fun w' h => ?_
          | refine h.stV fun w' h => ?_
          | refine h.box fun p w' h => ?_
          | refine h.boxV fun p w' h => ?_
          | refine h.allocZ fun p w' h => ?_
          | refine h.allocZV fun p w' h => ?_
          | (refine RD.bld ?_; (repeat (first | apply Exists.intro (α := Int) | apply Exists.intro (α := Bool) | apply Exists.intro (α := ByteArray) | (apply Exists.intro (α := Option Addr); apply Exists.intro (α := Nat); apply Exists.intro (α := Nat)) | apply Exists.intro (α := Option Addr) | apply Exists.intro (α := Value))); refine ⟨rfl, ?_⟩)
          | (refine RDS.bld ?_; (repeat (first | apply Exists.intro (α := Int) | apply Exists.intro (α := Bool) | apply Exists.intro (α := ByteArray) | (apply Exists.intro (α := Option Addr); apply Exists.intro (α := Nat); apply Exists.intro (α := Nat)) | apply Exists.intro (α := Option Addr) | apply Exists.intro (α := Value))); refine ⟨rfl, ?_⟩)
          | refine St.rdsI _ ?_
          | refine St.rdsB _ ?_
          | refine St.rdsP _ ?_
          | refine St.rdsL _ ?_
          | refine St.rdsT _ ?_
          | refine St.rdsI2 _ _ ?_
          | refine St.rdsB2 _ _ ?_
          | (refine St.rdsG ?_; (repeat (first | apply Exists.intro (α := Int) | apply Exists.intro (α := Bool) | apply Exists.intro (α := ByteArray) | (apply Exists.intro (α := Option Addr); apply Exists.intro (α := Nat); apply Exists.intro (α := Nat)) | apply Exists.intro (α := Option Addr) | apply Exists.intro (α := Value))); refine ⟨rfl, ?_⟩)
          | refine letb rfl ?_
          | refine sat h ?_
          | (have h := h.drew; refine sat h ?_)
          | refine sat1 h (fun _ h => h.to) ?_)
        refine rpieces_ok h (hv := hN) (RdIn.own (.tail .head)) lN hsz h0 h1 fun A3 n3 k3 w' h => ?_
        (repeat (first | apply Exists.intro (α := Int) | apply Exists.intro (α := Bool) | apply Exists.intro (α := ByteArray) | (apply Exists.intro (α := Option Addr); apply Exists.intro (α := Nat); apply Exists.intro (α := Nat)) | apply Exists.intro (α := Option Addr) | apply Exists.intro (α := Value)))
        refine ⟨rfl, ?_⟩
        refine sat1 h (fun _ h => h) ?_
        refine ifd (fun _ => ?_) fun _ => ?_
        · repeat' (first
            | refine nilc ?_
            | refine h.rdI _ ?_
            | refine h.rdB _ ?_
            | refine h.rdP _ ?_
            | refine h.rdL _ ?_
            | refine h.rdT _ ?_
            | refine h.rdI2 _ _ ?_
            | refine h.rdB2 _ _ ?_
            | refine h.rdP2 _ _ ?_
            | refine h.rdL2 _ _ ?_
            | refine h.st2 _ _ fun w' h => ?_
            | refine h.st _ fun w' h => ?_
            | refine h.rdvI ?_
            | refine h.rdvB ?_
            | refine h.rdvP ?_
            | refine h.rdvL ?_
            | refine h.rdvT ?_
            | (refine h.rdG ?_; (repeat (first | apply Exists.intro (α := Int) | apply Exists.intro (α := Bool) | apply Exists.intro (α := ByteArray) | (apply Exists.intro (α := Option Addr); apply Exists.intro (α := Nat); apply Exists.intro (α := Nat)) | apply Exists.intro (α := Option Addr) | apply Exists.intro (α := Value))); refine ⟨rfl, ?_⟩)
            | refine h.stG fun w' h => ?_
            | refine h.stV fun w' h => ?_
            | refine h.box fun p w' h => ?_
            | refine h.boxV fun p w' h => ?_
            | refine h.allocZ fun p w' h => ?_
            | refine h.allocZV fun p w' h => ?_
            | (refine RD.bld ?_; (repeat (first | apply Exists.intro (α := Int) | apply Exists.intro (α := Bool) | apply Exists.intro (α := ByteArray) | (apply Exists.intro (α := Option Addr); apply Exists.intro (α := Nat); apply Exists.intro (α := Nat)) | apply Exists.intro (α := Option Addr) | apply Exists.intro (α := Value))); refine ⟨rfl, ?_⟩)
            | (refine RDS.bld ?_; (repeat (first | apply Exists.intro (α := Int) | apply Exists.intro (α := Bool) | apply Exists.intro (α := ByteArray) | (apply Exists.intro (α := Option Addr); apply Exists.intro (α := Nat); apply Exists.intro (α := Nat)) | apply Exists.intro (α := Option Addr) | apply Exists.intro (α := Value))); refine ⟨rfl, ?_⟩)
            | refine St.rdsI _ ?_
            | refine St.rdsB _ ?_
            | refine St.rdsP _ ?_
            | refine St.rdsL _ ?_
            | refine St.rdsT _ ?_
            | refine St.rdsI2 _ _ ?_
            | refine St.rdsB2 _ _ ?_
            | (refine St.rdsG ?_; (repeat (first | apply Exists.intro (α := Int) | apply Exists.intro (α := Bool) | apply Exists.intro (α := ByteArray) | (apply Exists.intro (α := Option Addr); apply Exists.intro (α := Nat); apply Exists.intro (α := Nat)) | apply Exists.intro (α := Option Addr) | apply Exists.intro (α := Value))); refine ⟨rfl, ?_⟩)
            | refine letb rfl ?_
            | refine sat h ?_
            | (have h := h.drew; refine sat h ?_)
            | refine sat1 h (fun _ h => h.to) ?_)
          exact hk _ _ _ _ _ _ _ _ hl hl2 h.to
        · repeat' (first
            | refine nilc ?_
            | refine h.rdI _ ?_
            | refine h.rdB _ ?_
            | refine h.rdP _ ?_
            | refine h.rdL _ ?_
            | refine h.rdT _ ?_
            | refine h.rdI2 _ _ ?_
            | refine h.rdB2 _ _ ?_
            | refine h.rdP2 _ _ ?_
            | refine h.rdL2 _ _ ?_
            | refine h.st2 _ _ fun w' h => ?_
            | refine h.st _ fun w' h => ?_
            | refine h.rdvI ?_
            | refine h.rdvB ?_
            | refine h.rdvP ?_
            | refine h.rdvL ?_
            | refine h.rdvT ?_
            | (refine h.rdG ?_; (repeat (first | apply Exists.intro (α := Int) | apply Exists.intro (α := Bool) | apply Exists.intro (α := ByteArray) | (apply Exists.intro (α := Option Addr); apply Exists.intro (α := Nat); apply Exists.intro (α := Nat)) | apply Exists.intro (α := Option Addr) | apply Exists.intro (α := Value))); refine ⟨rfl, ?_⟩)
            | refine h.stG fun w' h => ?_
            | refine h.stV fun w' h => ?_
            | refine h.box fun p w' h => ?_
            | refine h.boxV fun p w' h => ?_
            | refine h.allocZ fun p w' h => ?_
            | refine h.allocZV fun p w' h => ?_
            | (refine RD.bld ?_; (repeat (first | apply Exists.intro (α := Int) | apply Exists.intro (α := Bool) | apply Exists.intro (α := ByteArray) | (apply Exists.intro (α := Option Addr); apply Exists.intro (α := Nat); apply Exists.intro (α := Nat)) | apply Exists.intro (α := Option Addr) | apply Exists.intro (α := Value))); refine ⟨rfl, ?_⟩)
            | (refine RDS.bld ?_; (repeat (first | apply Exists.intro (α := Int) | apply Exists.intro (α := Bool) | apply Exists.intro (α := ByteArray) | (apply Exists.intro (α := Option Addr); apply Exists.intro (α := Nat); apply Exists.intro (α := Nat)) | apply Exists.intro (α := Option Addr) | apply Exists.intro (α := Value))); refine ⟨rfl, ?_⟩)
            | refine St.rdsI _ ?_
            | refine St.rdsB _ ?_
            | refine St.rdsP _ ?_
            | refine St.rdsL _ ?_
            | refine St.rdsT _ ?_
            | refine St.rdsI2 _ _ ?_
            | refine St.rdsB2 _ _ ?_
            | (refine St.rdsG ?_; (repeat (first | apply Exists.intro (α := Int) | apply Exists.intro (α := Bool) | apply Exists.intro (α := ByteArray) | (apply Exists.intro (α := Option Addr); apply Exists.intro (α := Nat); apply Exists.intro (α := Nat)) | apply Exists.intro (α := Option Addr) | apply Exists.intro (α := Value))); refine ⟨rfl, ?_⟩)
            | refine letb rfl ?_
            | refine sat h ?_
            | (have h := h.drew; refine sat h ?_)
            | refine sat1 h (fun _ h => h.to) ?_)
          exact hk _ _ _ _ _ _ _ _ lN lY h.to
      · repeat' (first
          | refine nilc ?_
          | refine h.rdI _ ?_
          | refine h.rdB _ ?_
          | refine h.rdP _ ?_
          | refine h.rdL _ ?_
          | refine h.rdT _ ?_
          | refine h.rdI2 _ _ ?_
          | refine h.rdB2 _ _ ?_
          | refine h.rdP2 _ _ ?_
          | refine h.rdL2 _ _ ?_
          | refine h.st2 _ _ fun w' h => ?_
          | refine h.st _ fun w' h => ?_
          | refine h.rdvI ?_
          | refine h.rdvB ?_
          | refine h.rdvP ?_
          | refine h.rdvL ?_
          | refine h.rdvT ?_
          | (refine h.rdG ?_; (repeat (first | apply Exists.intro (α := Int) | apply Exists.intro (α := Bool) | apply Exists.intro (α := ByteArray) | (apply Exists.intro (α := Option Addr); apply Exists.intro (α := Nat); apply Exists.intro (α := Nat)) | apply Exists.intro (α := Option Addr) | apply Exists.intro (α := Value))); refine ⟨rfl, ?_⟩)
          | refine h.stG fun w' h => ?_
          | refine h.stV fun w' h => ?_
          | refine h.box fun p w' h => ?_
          | refine h.boxV fun p w' h => ?_
          | refine h.allocZ fun p w' h => ?_
          | refine h.allocZV fun p w' h => ?_
          | (refine RD.bld ?_; (repeat (first | apply Exists.intro (α := Int) | apply Exists.intro (α := Bool) | apply Exists.intro (α := ByteArray) | (apply Exists.intro (α := Option Addr); apply Exists.intro (α := Nat); apply Exists.intro (α := Nat)) | apply Exists.intro (α := Option Addr) | apply Exists.intro (α := Value))); refine ⟨rfl, ?_⟩)
          | (refine RDS.bld ?_; (repeat (first | apply Exists.intro (α := Int) | apply Exists.intro (α := Bool) | apply Exists.intro (α := ByteArray) | (apply Exists.intro (α := Option Addr); apply Exists.intro (α := Nat); apply Exists.intro (α := Nat)) | apply Exists.intro (α := Option Addr) | apply Exists.intro (α := Value))); refine ⟨rfl, ?_⟩)
          | refine St.rdsI _ ?_
          | refine St.rdsB _ ?_
          | refine St.rdsP _ ?_
          | refine St.rdsL _ ?_
          | refine St.rdsT _ ?_
          | refine St.rdsI2 _ _ ?_
          | refine St.rdsB2 _ _ ?_
          | (refine St.rdsG ?_; (repeat (first | apply Exists.intro (α := Int) | apply Exists.intro (α := Bool) | apply Exists.intro (α := ByteArray) | (apply Exists.intro (α := Option Addr); apply Exists.intro (α := Nat); apply Exists.intro (α := Nat)) | apply Exists.intro (α := Option Addr) | apply Exists.intro (α := Value))); refine ⟨rfl, ?_⟩)
          | refine letb rfl ?_
          | refine sat h ?_
          | (have h := h.drew; refine sat h ?_)
          | refine sat1 h (fun _ h => h.to) ?_)
        exact hk _ _ _ _ _ _ _ _ lN lY h.to
    · repeat' (first
        | refine nilc ?_
        | refine h.rdI _ ?_
        | refine h.rdB _ ?_
        | refine h.rdP _ ?_
        | refine h.rdL _ ?_
        | refine h.rdT _ ?_
        | refine h.rdI2 _ _ ?_
        | refine h.rdB2 _ _ ?_
        | refine h.rdP2 _ _ ?_
        | refine h.rdL2 _ _ ?_
        | refine h.st2 _ _ fun w' h => ?_
        | refine h.st _ fun w' h => ?_
        | refine h.rdvI ?_
        | refine h.rdvB ?_
        | refine h.rdvP ?_
        | refine h.rdvL ?_
        | refine h.rdvT ?_
        | (refine h.rdG ?_; (repeat (first | apply Exists.intro (α := Int) | apply Exists.intro (α := Bool) | apply Exists.intro (α := ByteArray) | (apply Exists.intro (α := Option Addr); apply Exists.intro (α := Nat); apply Exists.intro (α := Nat)) | apply Exists.intro (α := Option Addr) | apply Exists.intro (α := Value))); refine ⟨rfl, ?_⟩)
        | refine h.stG fun w' h => ?_
        | refine h.stV fun w' h => ?_
        | refine h.box fun p w' h => ?_
        | refine h.boxV fun p w' h => ?_
        | refine h.allocZ fun p w' h => ?_
        | refine h.allocZV fun p w' h => ?_
        | (refine RD.bld ?_; (repeat (first | apply Exists.intro (α := Int) | apply Exists.intro (α := Bool) | apply Exists.intro (α := ByteArray) | (apply Exists.intro (α := Option Addr); apply Exists.intro (α := Nat); apply Exists.intro (α := Nat)) | apply Exists.intro (α := Option Addr) | apply Exists.intro (α := Value))); refine ⟨rfl, ?_⟩)
        | (refine RDS.bld ?_; (repeat (first | apply Exists.intro (α := Int) | apply Exists.intro (α := Bool) | apply Exists.intro (α := ByteArray) | (apply Exists.intro (α := Option Addr); apply Exists.intro (α := Nat); apply Exists.intro (α := Nat)) | apply Exists.intro (α := Option Addr) | apply Exists.intro (α := Value))); refine ⟨rfl, ?_⟩)
        | refine St.rdsI _ ?_
        | refine St.rdsB _ ?_
        | refine St.rdsP _ ?_
        | refine St.rdsL _ ?_
        | refine St.rdsT _ ?_
        | refine St.rdsI2 _ _ ?_
        | refine St.rdsB2 _ _ ?_
        | (refine St.rdsG ?_; (repeat (first | apply Exists.intro (α := Int) | apply Exists.intro (α := Bool) | apply Exists.intro (α := ByteArray) | (apply Exists.intro (α := Option Addr); apply Exists.intro (α := Nat); apply Exists.intro (α := Nat)) | apply Exists.intro (α := Option Addr) | apply Exists.intro (α := Value))); refine ⟨rfl, ?_⟩)
        | refine letb rfl ?_
        | refine sat h ?_
        | (have h := h.drew; refine sat h ?_)
        | refine sat1 h (fun _ h => h.to) ?_)
      exact hk _ _ _ _ _ _ _ _ lN lY h.to
  · repeat' (first
      | refine nilc ?_
      | refine h.rdI _ ?_
      | refine h.rdB _ ?_
      | refine h.rdP _ ?_
      | refine h.rdL _ ?_
      | refine h.rdT _ ?_
      | refine h.rdI2 _ _ ?_
      | refine h.rdB2 _ _ ?_
      | refine h.rdP2 _ _ ?_
      | refine h.rdL2 _ _ ?_
      | refine h.st2 _ _ fun w' h => ?_
      | refine h.st _ fun w' h => ?_
      | refine h.rdvI ?_
      | refine h.rdvB ?_
      | refine h.rdvP ?_
      | refine h.rdvL ?_
      | refine h.rdvT ?_
      | (refine h.rdG ?_; (repeat (first | apply Exists.intro (α := Int) | apply Exists.intro (α := Bool) | apply Exists.intro (α := ByteArray) | (apply Exists.intro (α := Option Addr); apply Exists.intro (α := Nat); apply Exists.intro (α := Nat)) | apply Exists.intro (α := Option Addr) | apply Exists.intro (α := Value))); refine ⟨rfl, ?_⟩)
      | refine h.stG fun w' h => ?_
      | refine h.stV fun w' h => ?_
      | refine h.box fun p w' h => ?_
      | refine h.boxV fun p w' h => ?_
      | refine h.allocZ fun p w' h => ?_
      | refine h.allocZV fun p w' h => ?_
      | (refine RD.bld ?_; (repeat (first | apply Exists.intro (α := Int) | apply Exists.intro (α := Bool) | apply Exists.intro (α := ByteArray) | (apply Exists.intro (α := Option Addr); apply Exists.intro (α := Nat); apply Exists.intro (α := Nat)) | apply Exists.intro (α := Option Addr) | apply Exists.intro (α := Value))); refine ⟨rfl, ?_⟩)
      | (refine RDS.bld ?_; (repeat (first | apply Exists.intro (α := Int) | apply Exists.intro (α := Bool) | apply Exists.intro (α := ByteArray) | (apply Exists.intro (α := Option Addr); apply Exists.intro (α := Nat); apply Exists.intro (α := Nat)) | apply Exists.intro (α := Option Addr) | apply Exists.intro (α := Value))); refine ⟨rfl, ?_⟩)
      | refine St.rdsI _ ?_
      | refine St.rdsB _ ?_
      | refine St.rdsP _ ?_
      | refine St.rdsL _ ?_
      | refine St.rdsT _ ?_
      | refine St.rdsI2 _ _ ?_
      | refine St.rdsB2 _ _ ?_
      | (refine St.rdsG ?_; (repeat (first | apply Exists.intro (α := Int) | apply Exists.intro (α := Bool) | apply Exists.intro (α := ByteArray) | (apply Exists.intro (α := Option Addr); apply Exists.intro (α := Nat); apply Exists.intro (α := Nat)) | apply Exists.intro (α := Option Addr) | apply Exists.intro (α := Value))); refine ⟨rfl, ?_⟩)
      | refine letb rfl ?_
      | refine sat h ?_
      | (have h := h.drew; refine sat h ?_)
      | refine sat1 h (fun _ h => h.to) ?_)
    refine ifb (fun _ => ?_) fun _ => ⟨Int.le_refl _, h⟩
    repeat' (first
      | refine nilc ?_
      | refine h.rdI _ ?_
      | refine h.rdB _ ?_
      | refine h.rdP _ ?_
      | refine h.rdL _ ?_
      | refine h.rdT _ ?_
      | refine h.rdI2 _ _ ?_
      | refine h.rdB2 _ _ ?_
      | refine h.rdP2 _ _ ?_
      | refine h.rdL2 _ _ ?_
      | refine h.st2 _ _ fun w' h => ?_
      | refine h.st _ fun w' h => ?_
      | refine h.rdvI ?_
      | refine h.rdvB ?_
      | refine h.rdvP ?_
      | refine h.rdvL ?_
      | refine h.rdvT ?_
      | (refine h.rdG ?_; (repeat (first | apply Exists.intro (α := Int) | apply Exists.intro (α := Bool) | apply Exists.intro (α := ByteArray) | (apply Exists.intro (α := Option Addr); apply Exists.intro (α := Nat); apply Exists.intro (α := Nat)) | apply Exists.intro (α := Option Addr) | apply Exists.intro (α := Value))); refine ⟨rfl, ?_⟩)
      | refine h.stG fun w' h => ?_
      | refine h.stV fun w' h => ?_
      | refine h.box fun p w' h => ?_
      | refine h.boxV fun p w' h => ?_
      | refine h.allocZ fun p w' h => ?_
      | refine h.allocZV fun p w' h => ?_
      | (refine RD.bld ?_; (repeat (first | apply Exists.intro (α := Int) | apply Exists.intro (α := Bool) | apply Exists.intro (α := ByteArray) | (apply Exists.intro (α := Option Addr); apply Exists.intro (α := Nat); apply Exists.intro (α := Nat)) | apply Exists.intro (α := Option Addr) | apply Exists.intro (α := Value))); refine ⟨rfl, ?_⟩)
      | (refine RDS.bld ?_; (repeat (first | apply Exists.intro (α := Int) | apply Exists.intro (α := Bool) | apply Exists.intro (α := ByteArray) | (apply Exists.intro (α := Option Addr); apply Exists.intro (α := Nat); apply Exists.intro (α := Nat)) | apply Exists.intro (α := Option Addr) | apply Exists.intro (α := Value))); refine ⟨rfl, ?_⟩)
      | refine St.rdsI _ ?_
      | refine St.rdsB _ ?_
      | refine St.rdsP _ ?_
      | refine St.rdsL _ ?_
      | refine St.rdsT _ ?_
      | refine St.rdsI2 _ _ ?_
      | refine St.rdsB2 _ _ ?_
      | (refine St.rdsG ?_; (repeat (first | apply Exists.intro (α := Int) | apply Exists.intro (α := Bool) | apply Exists.intro (α := ByteArray) | (apply Exists.intro (α := Option Addr); apply Exists.intro (α := Nat); apply Exists.intro (α := Nat)) | apply Exists.intro (α := Option Addr) | apply Exists.intro (α := Value))); refine ⟨rfl, ?_⟩)
      | refine letb rfl ?_
      | refine sat h ?_
      | (have h := h.drew; refine sat h ?_)
      | refine sat1 h (fun _ h => h.to) ?_)
    refine ifd (fun _ => ?_) fun _ => ⟨Int.le_refl _, h⟩
    repeat' (first
      | refine nilc ?_
      | refine h.rdI _ ?_
      | refine h.rdB _ ?_
      | refine h.rdP _ ?_
      | refine h.rdL _ ?_
      | refine h.rdT _ ?_
      | refine h.rdI2 _ _ ?_
      | refine h.rdB2 _ _ ?_
      | refine h.rdP2 _ _ ?_
      | refine h.rdL2 _ _ ?_
      | refine h.st2 _ _ fun w' h => ?_
      | refine h.st _ fun w' h => ?_
      | refine h.rdvI ?_
      | refine h.rdvB ?_
      | refine h.rdvP ?_
      | refine h.rdvL ?_
      | refine h.rdvT ?_
      | (refine h.rdG ?_; (repeat (first | apply Exists.intro (α := Int) | apply Exists.intro (α := Bool) | apply Exists.intro (α := ByteArray) | (apply Exists.intro (α := Option Addr); apply Exists.intro (α := Nat); apply Exists.intro (α := Nat)) | apply Exists.intro (α := Option Addr) | apply Exists.intro (α := Value))); refine ⟨rfl, ?_⟩)
      | refine h.stG fun w' h => ?_
      | refine h.stV fun w' h => ?_
      | refine h.box fun p w' h => ?_
      | refine h.boxV fun p w' h => ?_
      | refine h.allocZ fun p w' h => ?_
      | refine h.allocZV fun p w' h => ?_
      | (refine RD.bld ?_; (repeat (first | apply Exists.intro (α := Int) | apply Exists.intro (α := Bool) | apply Exists.intro (α := ByteArray) | (apply Exists.intro (α := Option Addr); apply Exists.intro (α := Nat); apply Exists.intro (α := Nat)) | apply Exists.intro (α := Option Addr) | apply Exists.intro (α := Value))); refine ⟨rfl, ?_⟩)
      | (refine RDS.bld ?_; (repeat (first | apply Exists.intro (α := Int) | apply Exists.intro (α := Bool) | apply Exists.intro (α := ByteArray) | (apply Exists.intro (α := Option Addr); apply Exists.intro (α := Nat); apply Exists.intro (α := Nat)) | apply Exists.intro (α := Option Addr) | apply Exists.intro (α := Value))); refine ⟨rfl, ?_⟩)
      | refine St.rdsI _ ?_
      | refine St.rdsB _ ?_
      | refine St.rdsP _ ?_
      | refine St.rdsL _ ?_
      | refine St.rdsT _ ?_
      | refine St.rdsI2 _ _ ?_
      | refine St.rdsB2 _ _ ?_
      | (refine St.rdsG ?_; (repeat (first | apply Exists.intro (α := Int) | apply Exists.intro (α := Bool) | apply Exists.intro (α := ByteArray) | (apply Exists.intro (α := Option Addr); apply Exists.intro (α := Nat); apply Exists.intro (α := Nat)) | apply Exists.intro (α := Option Addr) | apply Exists.intro (α := Value))); refine ⟨rfl, ?_⟩)
      | refine letb rfl ?_
      | refine sat h ?_
      | (have h := h.drew; refine sat h ?_)
      | refine sat1 h (fun _ h => h.to) ?_)
    exact leti rfl ⟨by omega, h⟩
end
end Go.Br
