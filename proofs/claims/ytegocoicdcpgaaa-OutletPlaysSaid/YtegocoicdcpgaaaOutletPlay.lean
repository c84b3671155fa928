/- The document's stream that one writes, and the law of its plays. -/
import Derived.Test.YtegocoicdcpgaaaNOutletPlay
import Derived.Test.YtegocoicdcpgaaaOutletLaw
import Derived.Test.YtegocoicdcpgaaaBrSep
set_option linter.unusedVariables false
namespace Go.Br
open Go
attribute [local irreducible] Addr.add

theorem tiO17 : TI PG 93 5 48 (.agg #[.slice none 0 0, .int .u64 0, .int .i64 0, .bool false, .bool false]) := tiOf (by kernel_rfl)
theorem tiU8 : TI PG 5 1 1 (.int .u8 0) := tiOf (by kernel_rfl)
abbrev ovs (A : Option Addr) (n k : Nat) (base : Nat) (size : Int) (cl dn : Bool) : List Value := [.slice A n k, .int .u64 (base : Int), .int .i64 size, .bool cl, .bool dn]
abbrev ov (A : Option Addr) (n k : Nat) (base : Nat) (size : Int) (cl dn : Bool) : Value := .agg #[.slice A n k, .int .u64 (base : Int), .int .i64 size, .bool cl, .bool dn]

theorem rEnd_ok {c : Ctx} {w : World} {L : List SA} (h : St c w L) {A : Option Addr} {n k base : Nat} {size : Int} {cl dn : Bool} (hb : base + n < 18446744073709551616) {Q : Value → World → Prop} (hk : ∀ w', St c w' L → Q (.int .u64 ((base + n : Nat) : Int)) w') :
    CALL PG 60 [ov A n k base size cl dn] w Q := by
  refine call60 ?_
  unfold N60
  refine h.box fun p w' h => ?_
  repeat' (first
    | ((with_reducible show RDI _ (loadVar _ (Addr.add _ _)) _ _ _); refine h.rdI _ ?_)
    | ((with_reducible show RDB _ (loadVar _ (Addr.add _ _)) _ _); refine h.rdB _ ?_)
    | ((with_reducible show RDP _ (loadVar _ (Addr.add _ _)) _ _); refine h.rdP _ ?_)
    | ((with_reducible show RDL _ (loadVar _ (Addr.add _ _)) _ _); refine h.rdL _ ?_)
    | ((with_reducible show RDT _ (loadVar _ (Addr.add _ _)) _ _); refine h.rdT _ ?_)
    | ((with_reducible show RUNU _ (storeVar _ (Addr.add _ _) _) _ _); refine h.st _ fun w' h => ?_)
    | ((with_reducible show RDI _ (loadVar _ ⟨_, _, _⟩) _ _ _); refine h.rdvI ?_)
    | ((with_reducible show RDB _ (loadVar _ ⟨_, _, _⟩) _ _); refine h.rdvB ?_)
    | ((with_reducible show RDP _ (loadVar _ ⟨_, _, _⟩) _ _); refine h.rdvP ?_)
    | ((with_reducible show RDL _ (loadVar _ ⟨_, _, _⟩) _ _); refine h.rdvL ?_)
    | ((with_reducible show RDT _ (loadVar _ ⟨_, _, _⟩) _ _); refine h.rdvT ?_)
    | ((with_reducible show RD _ (loadVar _ ⟨_, _, _⟩) _ _); refine h.rdG ?_; first | refine ⟨_, rfl, ?_⟩ | refine ⟨_, _, rfl, ?_⟩ | refine ⟨_, _, _, rfl, ?_⟩ | refine ⟨_, _, _, _, rfl, ?_⟩ | refine ⟨_, _, _, _, _, rfl, ?_⟩ | refine ⟨_, _, _, _, _, _, rfl, ?_⟩ | refine ⟨_, _, _, _, _, _, _, rfl, ?_⟩ | refine ⟨_, _, _, _, _, _, _, _, rfl, ?_⟩ | refine ⟨_, _, _, _, _, _, _, _, _, rfl, ?_⟩)
    | ((with_reducible show RUNU _ (storeVar _ ⟨_, _, _⟩ (.agg _)) _ _); refine h.stG fun w' h => ?_)
    | ((with_reducible show RUNU _ (storeVar _ ⟨_, _, _⟩ _) _ _); refine h.stV fun w' h => ?_))
  exact leti (by rw [u64_id (y := (n : Int)) (by omega) (by omega), u64_id (by omega) (by omega)]; omega) (hk _ h.drop)
theorem rTop_ok {c : Ctx} {w : World} {L : List SA} (h : St c w L) {A : Option Addr} {n k base : Nat} {size : Int} {cl dn : Bool} (hb : base + n + 1 < 18446744073709551616) {Q : Value → World → Prop} (hk : ∀ w', St c w' L → Q (.int .u64 (topN base n cl : Int)) w') :
    CALL PG 61 [ov A n k base size cl dn] w Q := by
  refine call61 ?_
  unfold N61
  refine h.box fun p w' h => ?_
  repeat' (first
    | ((with_reducible show RDI _ (loadVar _ (Addr.add _ _)) _ _ _); refine h.rdI _ ?_)
    | ((with_reducible show RDB _ (loadVar _ (Addr.add _ _)) _ _); refine h.rdB _ ?_)
    | ((with_reducible show RDP _ (loadVar _ (Addr.add _ _)) _ _); refine h.rdP _ ?_)
    | ((with_reducible show RDL _ (loadVar _ (Addr.add _ _)) _ _); refine h.rdL _ ?_)
    | ((with_reducible show RDT _ (loadVar _ (Addr.add _ _)) _ _); refine h.rdT _ ?_)
    | ((with_reducible show RUNU _ (storeVar _ (Addr.add _ _) _) _ _); refine h.st _ fun w' h => ?_)
    | ((with_reducible show RDI _ (loadVar _ ⟨_, _, _⟩) _ _ _); refine h.rdvI ?_)
    | ((with_reducible show RDB _ (loadVar _ ⟨_, _, _⟩) _ _); refine h.rdvB ?_)
    | ((with_reducible show RDP _ (loadVar _ ⟨_, _, _⟩) _ _); refine h.rdvP ?_)
    | ((with_reducible show RDL _ (loadVar _ ⟨_, _, _⟩) _ _); refine h.rdvL ?_)
    | ((with_reducible show RDT _ (loadVar _ ⟨_, _, _⟩) _ _); refine h.rdvT ?_)
    | ((with_reducible show RD _ (loadVar _ ⟨_, _, _⟩) _ _); refine h.rdG ?_; first | refine ⟨_, rfl, ?_⟩ | refine ⟨_, _, rfl, ?_⟩ | refine ⟨_, _, _, rfl, ?_⟩ | refine ⟨_, _, _, _, rfl, ?_⟩ | refine ⟨_, _, _, _, _, rfl, ?_⟩ | refine ⟨_, _, _, _, _, _, rfl, ?_⟩ | refine ⟨_, _, _, _, _, _, _, rfl, ?_⟩ | refine ⟨_, _, _, _, _, _, _, _, rfl, ?_⟩ | refine ⟨_, _, _, _, _, _, _, _, _, rfl, ?_⟩)
    | ((with_reducible show RUNU _ (storeVar _ ⟨_, _, _⟩ (.agg _)) _ _); refine h.stG fun w' h => ?_)
    | ((with_reducible show RUNU _ (storeVar _ ⟨_, _, _⟩ _) _ _); refine h.stV fun w' h => ?_))
  unfold topN at hk
  cases cl with
  | true =>
    refine ift rfl ?_
    repeat' (first
      | ((with_reducible show RDI _ (loadVar _ (Addr.add _ _)) _ _ _); refine h.rdI _ ?_)
      | ((with_reducible show RDB _ (loadVar _ (Addr.add _ _)) _ _); refine h.rdB _ ?_)
      | ((with_reducible show RDP _ (loadVar _ (Addr.add _ _)) _ _); refine h.rdP _ ?_)
      | ((with_reducible show RDL _ (loadVar _ (Addr.add _ _)) _ _); refine h.rdL _ ?_)
      | ((with_reducible show RDT _ (loadVar _ (Addr.add _ _)) _ _); refine h.rdT _ ?_)
      | ((with_reducible show RUNU _ (storeVar _ (Addr.add _ _) _) _ _); refine h.st _ fun w' h => ?_)
      | ((with_reducible show RDI _ (loadVar _ ⟨_, _, _⟩) _ _ _); refine h.rdvI ?_)
      | ((with_reducible show RDB _ (loadVar _ ⟨_, _, _⟩) _ _); refine h.rdvB ?_)
      | ((with_reducible show RDP _ (loadVar _ ⟨_, _, _⟩) _ _); refine h.rdvP ?_)
      | ((with_reducible show RDL _ (loadVar _ ⟨_, _, _⟩) _ _); refine h.rdvL ?_)
      | ((with_reducible show RDT _ (loadVar _ ⟨_, _, _⟩) _ _); refine h.rdvT ?_)
      | ((with_reducible show RD _ (loadVar _ ⟨_, _, _⟩) _ _); refine h.rdG ?_; first | refine ⟨_, rfl, ?_⟩ | refine ⟨_, _, rfl, ?_⟩ | refine ⟨_, _, _, rfl, ?_⟩ | refine ⟨_, _, _, _, rfl, ?_⟩ | refine ⟨_, _, _, _, _, rfl, ?_⟩ | refine ⟨_, _, _, _, _, _, rfl, ?_⟩ | refine ⟨_, _, _, _, _, _, _, rfl, ?_⟩ | refine ⟨_, _, _, _, _, _, _, _, rfl, ?_⟩ | refine ⟨_, _, _, _, _, _, _, _, _, rfl, ?_⟩)
      | ((with_reducible show RUNU _ (storeVar _ ⟨_, _, _⟩ (.agg _)) _ _); refine h.stG fun w' h => ?_)
      | ((with_reducible show RUNU _ (storeVar _ ⟨_, _, _⟩ _) _ _); refine h.stV fun w' h => ?_))
    refine rEnd_ok h (by omega) fun w' h => ⟨_, rfl, leti (by rw [u64_id (by omega) (by omega)]; rfl) (hk _ h.drop)⟩
  | false =>
    refine iff_ rfl ?_
    repeat' (first
      | ((with_reducible show RDI _ (loadVar _ (Addr.add _ _)) _ _ _); refine h.rdI _ ?_)
      | ((with_reducible show RDB _ (loadVar _ (Addr.add _ _)) _ _); refine h.rdB _ ?_)
      | ((with_reducible show RDP _ (loadVar _ (Addr.add _ _)) _ _); refine h.rdP _ ?_)
      | ((with_reducible show RDL _ (loadVar _ (Addr.add _ _)) _ _); refine h.rdL _ ?_)
      | ((with_reducible show RDT _ (loadVar _ (Addr.add _ _)) _ _); refine h.rdT _ ?_)
      | ((with_reducible show RUNU _ (storeVar _ (Addr.add _ _) _) _ _); refine h.st _ fun w' h => ?_)
      | ((with_reducible show RDI _ (loadVar _ ⟨_, _, _⟩) _ _ _); refine h.rdvI ?_)
      | ((with_reducible show RDB _ (loadVar _ ⟨_, _, _⟩) _ _); refine h.rdvB ?_)
      | ((with_reducible show RDP _ (loadVar _ ⟨_, _, _⟩) _ _); refine h.rdvP ?_)
      | ((with_reducible show RDL _ (loadVar _ ⟨_, _, _⟩) _ _); refine h.rdvL ?_)
      | ((with_reducible show RDT _ (loadVar _ ⟨_, _, _⟩) _ _); refine h.rdvT ?_)
      | ((with_reducible show RD _ (loadVar _ ⟨_, _, _⟩) _ _); refine h.rdG ?_; first | refine ⟨_, rfl, ?_⟩ | refine ⟨_, _, rfl, ?_⟩ | refine ⟨_, _, _, rfl, ?_⟩ | refine ⟨_, _, _, _, rfl, ?_⟩ | refine ⟨_, _, _, _, _, rfl, ?_⟩ | refine ⟨_, _, _, _, _, _, rfl, ?_⟩ | refine ⟨_, _, _, _, _, _, _, rfl, ?_⟩ | refine ⟨_, _, _, _, _, _, _, _, rfl, ?_⟩ | refine ⟨_, _, _, _, _, _, _, _, _, rfl, ?_⟩)
      | ((with_reducible show RUNU _ (storeVar _ ⟨_, _, _⟩ (.agg _)) _ _); refine h.stG fun w' h => ?_)
      | ((with_reducible show RUNU _ (storeVar _ ⟨_, _, _⟩ _) _ _); refine h.stV fun w' h => ?_))
    refine rEnd_ok h (by omega) fun w' h => ⟨_, rfl, leti rfl (hk _ h.drop)⟩
theorem undBytes2 : PG.underlying 28 = some (.slice 5) := by kernel_rfl
theorem rAt_ok {c : Ctx} {w : World} {L : List SA} (h : St c w L) {size : Int} {base : Nat} {Q : Value → World → Prop}
    (hbad : ∀ w', St c w' L → Strm < base → Q (.tuple #[ov none 0 0 0 0 false false, .int .i64 215]) w')
    (hbad2 : ∀ w', St c w' L → base ≤ Strm → size < 1 ∨ 65536 < size → Q (.tuple #[ov none 0 0 0 0 false false, .int .i64 50]) w')
    (hk : ∀ w', St c w' L → base ≤ Strm → 1 ≤ size → size ≤ 65536 → Q (.tuple #[ov none 0 0 base size false false, .int .i64 0]) w') : CALL PG 58 [.int .i64 size, .int .u64 (base : Int)] w Q := by
  refine call58 ?_
  unfold N58
  unfold Strm at *
  have b0 : ∀ w, (Instr.build 93 #[]).run PG w = .ok (ov none 0 0 0 0 false false) w := by intro w; kernel_rfl
  have b1 : ∀ w, (Instr.build 93 #[(2, .int .i64 size), (1, .int .u64 (base : Int))]).run PG w = .ok (ov none 0 0 base size false false) w := by intro w; kernel_rfl
  refine h.allocG tiO17 fun p w' h => ?_
  refine ifd (fun h1 => ?_) fun h1 => ifd (fun h2 => ?_) fun h2 => ifd (fun h3 => ?_) fun h3 => ?_
  · refine RD.of (b0 _) ⟨_, _, _, _, _, _, _, rfl, ?_⟩
    repeat' (first
      | ((with_reducible show RDI _ (loadVar _ (Addr.add _ _)) _ _ _); refine h.rdI _ ?_)
      | ((with_reducible show RDB _ (loadVar _ (Addr.add _ _)) _ _); refine h.rdB _ ?_)
      | ((with_reducible show RDP _ (loadVar _ (Addr.add _ _)) _ _); refine h.rdP _ ?_)
      | ((with_reducible show RDL _ (loadVar _ (Addr.add _ _)) _ _); refine h.rdL _ ?_)
      | ((with_reducible show RDT _ (loadVar _ (Addr.add _ _)) _ _); refine h.rdT _ ?_)
      | ((with_reducible show RUNU _ (storeVar _ (Addr.add _ _) _) _ _); refine h.st _ fun w' h => ?_)
      | ((with_reducible show RDI _ (loadVar _ ⟨_, _, _⟩) _ _ _); refine h.rdvI ?_)
      | ((with_reducible show RDB _ (loadVar _ ⟨_, _, _⟩) _ _); refine h.rdvB ?_)
      | ((with_reducible show RDP _ (loadVar _ ⟨_, _, _⟩) _ _); refine h.rdvP ?_)
      | ((with_reducible show RDL _ (loadVar _ ⟨_, _, _⟩) _ _); refine h.rdvL ?_)
      | ((with_reducible show RDT _ (loadVar _ ⟨_, _, _⟩) _ _); refine h.rdvT ?_)
      | ((with_reducible show RD _ (loadVar _ ⟨_, _, _⟩) _ _); refine h.rdG ?_; first | refine ⟨_, rfl, ?_⟩ | refine ⟨_, _, rfl, ?_⟩ | refine ⟨_, _, _, rfl, ?_⟩ | refine ⟨_, _, _, _, rfl, ?_⟩ | refine ⟨_, _, _, _, _, rfl, ?_⟩ | refine ⟨_, _, _, _, _, _, rfl, ?_⟩ | refine ⟨_, _, _, _, _, _, _, rfl, ?_⟩ | refine ⟨_, _, _, _, _, _, _, _, rfl, ?_⟩ | refine ⟨_, _, _, _, _, _, _, _, _, rfl, ?_⟩)
      | ((with_reducible show RUNU _ (storeVar _ ⟨_, _, _⟩ (.agg _)) _ _); refine h.stG fun w' h => ?_)
      | ((with_reducible show RUNU _ (storeVar _ ⟨_, _, _⟩ _) _ _); refine h.stV fun w' h => ?_))
    exact hbad _ h.drop (by omega)
  · refine RD.of (b0 _) ⟨_, _, _, _, _, _, _, rfl, ?_⟩
    repeat' (first
      | ((with_reducible show RDI _ (loadVar _ (Addr.add _ _)) _ _ _); refine h.rdI _ ?_)
      | ((with_reducible show RDB _ (loadVar _ (Addr.add _ _)) _ _); refine h.rdB _ ?_)
      | ((with_reducible show RDP _ (loadVar _ (Addr.add _ _)) _ _); refine h.rdP _ ?_)
      | ((with_reducible show RDL _ (loadVar _ (Addr.add _ _)) _ _); refine h.rdL _ ?_)
      | ((with_reducible show RDT _ (loadVar _ (Addr.add _ _)) _ _); refine h.rdT _ ?_)
      | ((with_reducible show RUNU _ (storeVar _ (Addr.add _ _) _) _ _); refine h.st _ fun w' h => ?_)
      | ((with_reducible show RDI _ (loadVar _ ⟨_, _, _⟩) _ _ _); refine h.rdvI ?_)
      | ((with_reducible show RDB _ (loadVar _ ⟨_, _, _⟩) _ _); refine h.rdvB ?_)
      | ((with_reducible show RDP _ (loadVar _ ⟨_, _, _⟩) _ _); refine h.rdvP ?_)
      | ((with_reducible show RDL _ (loadVar _ ⟨_, _, _⟩) _ _); refine h.rdvL ?_)
      | ((with_reducible show RDT _ (loadVar _ ⟨_, _, _⟩) _ _); refine h.rdvT ?_)
      | ((with_reducible show RD _ (loadVar _ ⟨_, _, _⟩) _ _); refine h.rdG ?_; first | refine ⟨_, rfl, ?_⟩ | refine ⟨_, _, rfl, ?_⟩ | refine ⟨_, _, _, rfl, ?_⟩ | refine ⟨_, _, _, _, rfl, ?_⟩ | refine ⟨_, _, _, _, _, rfl, ?_⟩ | refine ⟨_, _, _, _, _, _, rfl, ?_⟩ | refine ⟨_, _, _, _, _, _, _, rfl, ?_⟩ | refine ⟨_, _, _, _, _, _, _, _, rfl, ?_⟩ | refine ⟨_, _, _, _, _, _, _, _, _, rfl, ?_⟩)
      | ((with_reducible show RUNU _ (storeVar _ ⟨_, _, _⟩ (.agg _)) _ _); refine h.stG fun w' h => ?_)
      | ((with_reducible show RUNU _ (storeVar _ ⟨_, _, _⟩ _) _ _); refine h.stV fun w' h => ?_))
    exact hbad2 _ h.drop (by omega) (.inl h2)
  · refine RD.of (b0 _) ⟨_, _, _, _, _, _, _, rfl, ?_⟩
    repeat' (first
      | ((with_reducible show RDI _ (loadVar _ (Addr.add _ _)) _ _ _); refine h.rdI _ ?_)
      | ((with_reducible show RDB _ (loadVar _ (Addr.add _ _)) _ _); refine h.rdB _ ?_)
      | ((with_reducible show RDP _ (loadVar _ (Addr.add _ _)) _ _); refine h.rdP _ ?_)
      | ((with_reducible show RDL _ (loadVar _ (Addr.add _ _)) _ _); refine h.rdL _ ?_)
      | ((with_reducible show RDT _ (loadVar _ (Addr.add _ _)) _ _); refine h.rdT _ ?_)
      | ((with_reducible show RUNU _ (storeVar _ (Addr.add _ _) _) _ _); refine h.st _ fun w' h => ?_)
      | ((with_reducible show RDI _ (loadVar _ ⟨_, _, _⟩) _ _ _); refine h.rdvI ?_)
      | ((with_reducible show RDB _ (loadVar _ ⟨_, _, _⟩) _ _); refine h.rdvB ?_)
      | ((with_reducible show RDP _ (loadVar _ ⟨_, _, _⟩) _ _); refine h.rdvP ?_)
      | ((with_reducible show RDL _ (loadVar _ ⟨_, _, _⟩) _ _); refine h.rdvL ?_)
      | ((with_reducible show RDT _ (loadVar _ ⟨_, _, _⟩) _ _); refine h.rdvT ?_)
      | ((with_reducible show RD _ (loadVar _ ⟨_, _, _⟩) _ _); refine h.rdG ?_; first | refine ⟨_, rfl, ?_⟩ | refine ⟨_, _, rfl, ?_⟩ | refine ⟨_, _, _, rfl, ?_⟩ | refine ⟨_, _, _, _, rfl, ?_⟩ | refine ⟨_, _, _, _, _, rfl, ?_⟩ | refine ⟨_, _, _, _, _, _, rfl, ?_⟩ | refine ⟨_, _, _, _, _, _, _, rfl, ?_⟩ | refine ⟨_, _, _, _, _, _, _, _, rfl, ?_⟩ | refine ⟨_, _, _, _, _, _, _, _, _, rfl, ?_⟩)
      | ((with_reducible show RUNU _ (storeVar _ ⟨_, _, _⟩ (.agg _)) _ _); refine h.stG fun w' h => ?_)
      | ((with_reducible show RUNU _ (storeVar _ ⟨_, _, _⟩ _) _ _); refine h.stV fun w' h => ?_))
    exact hbad2 _ h.drop (by omega) (.inr h3)
  · refine RD.of (b1 _) ⟨_, _, _, _, _, _, _, rfl, ?_⟩
    repeat' (first
      | ((with_reducible show RDI _ (loadVar _ (Addr.add _ _)) _ _ _); refine h.rdI _ ?_)
      | ((with_reducible show RDB _ (loadVar _ (Addr.add _ _)) _ _); refine h.rdB _ ?_)
      | ((with_reducible show RDP _ (loadVar _ (Addr.add _ _)) _ _); refine h.rdP _ ?_)
      | ((with_reducible show RDL _ (loadVar _ (Addr.add _ _)) _ _); refine h.rdL _ ?_)
      | ((with_reducible show RDT _ (loadVar _ (Addr.add _ _)) _ _); refine h.rdT _ ?_)
      | ((with_reducible show RUNU _ (storeVar _ (Addr.add _ _) _) _ _); refine h.st _ fun w' h => ?_)
      | ((with_reducible show RDI _ (loadVar _ ⟨_, _, _⟩) _ _ _); refine h.rdvI ?_)
      | ((with_reducible show RDB _ (loadVar _ ⟨_, _, _⟩) _ _); refine h.rdvB ?_)
      | ((with_reducible show RDP _ (loadVar _ ⟨_, _, _⟩) _ _); refine h.rdvP ?_)
      | ((with_reducible show RDL _ (loadVar _ ⟨_, _, _⟩) _ _); refine h.rdvL ?_)
      | ((with_reducible show RDT _ (loadVar _ ⟨_, _, _⟩) _ _); refine h.rdvT ?_)
      | ((with_reducible show RD _ (loadVar _ ⟨_, _, _⟩) _ _); refine h.rdG ?_; first | refine ⟨_, rfl, ?_⟩ | refine ⟨_, _, rfl, ?_⟩ | refine ⟨_, _, _, rfl, ?_⟩ | refine ⟨_, _, _, _, rfl, ?_⟩ | refine ⟨_, _, _, _, _, rfl, ?_⟩ | refine ⟨_, _, _, _, _, _, rfl, ?_⟩ | refine ⟨_, _, _, _, _, _, _, rfl, ?_⟩ | refine ⟨_, _, _, _, _, _, _, _, rfl, ?_⟩ | refine ⟨_, _, _, _, _, _, _, _, _, rfl, ?_⟩)
      | ((with_reducible show RUNU _ (storeVar _ ⟨_, _, _⟩ (.agg _)) _ _); refine h.stG fun w' h => ?_)
      | ((with_reducible show RUNU _ (storeVar _ ⟨_, _, _⟩ _) _ _); refine h.stV fun w' h => ?_))
    exact hk _ h.drop (by omega) (by omega) (by omega)

theorem rPut_ok {c : Ctx} {w : World} {L R : List SA} (h : St c w L) {A B : Option Addr} {k d base sz : Nat} {C xs : List UInt8} {cl dn : Bool} (hA : Pick (rows A (bvs C)) L R) (hB : RdIn L B (bvs xs)) (hx : xs.length ≤ d) (hk1 : C.length ≤ k) (hs : sz ≤ 65536) (hC : C.length ≤ sz) (hx2 : xs.length ≤ 1000) (hb : base + C.length ≤ Strm) {Q : Value → World → Prop}
    (hk : ∀ A' k' w', St c w' (rows A' (bvs (C ++ xs.take (putN C.length sz base cl xs.length).1)) :: L) → (C ++ xs.take (putN C.length sz base cl xs.length).1).length ≤ k' →
      Q (.tuple #[ov A' (C ++ xs.take (putN C.length sz base cl xs.length).1).length k' base sz cl dn, .int .i64 ((putN C.length sz base cl xs.length).1 : Int), .int .i64 (putN C.length sz base cl xs.length).2]) w') :
    CALL PG 109 [ov A C.length k base sz cl dn, .slice B xs.length d] w Q := by
  refine call109 ?_
  unfold N109
  have stay : ∀ w', St c w' L → ∀ e : Int, putN C.length sz base cl xs.length = (0, e) → Q (.tuple #[ov A C.length k base sz cl dn, .int .i64 0, .int .i64 e]) w' := by
    intro w' h e he
    have := hk A k w'
    simp only [he, List.take_zero, List.append_nil] at this
    exact this (h.addRo hA fun _ h => h) hk1
  refine h.box fun p w' h => ?_
  refine h.allocG tiO17 fun q w' h => ?_
  repeat' (first
    | ((with_reducible show RDI _ (loadVar _ (Addr.add _ _)) _ _ _); refine h.rdI _ ?_)
    | ((with_reducible show RDB _ (loadVar _ (Addr.add _ _)) _ _); refine h.rdB _ ?_)
    | ((with_reducible show RDP _ (loadVar _ (Addr.add _ _)) _ _); refine h.rdP _ ?_)
    | ((with_reducible show RDL _ (loadVar _ (Addr.add _ _)) _ _); refine h.rdL _ ?_)
    | ((with_reducible show RDT _ (loadVar _ (Addr.add _ _)) _ _); refine h.rdT _ ?_)
    | ((with_reducible show RUNU _ (storeVar _ (Addr.add _ _) _) _ _); refine h.st _ fun w' h => ?_)
    | ((with_reducible show RDI _ (loadVar _ ⟨_, _, _⟩) _ _ _); refine h.rdvI ?_)
    | ((with_reducible show RDB _ (loadVar _ ⟨_, _, _⟩) _ _); refine h.rdvB ?_)
    | ((with_reducible show RDP _ (loadVar _ ⟨_, _, _⟩) _ _); refine h.rdvP ?_)
    | ((with_reducible show RDL _ (loadVar _ ⟨_, _, _⟩) _ _); refine h.rdvL ?_)
    | ((with_reducible show RDT _ (loadVar _ ⟨_, _, _⟩) _ _); refine h.rdvT ?_)
    | ((with_reducible show RD _ (loadVar _ ⟨_, _, _⟩) _ _); refine h.rdG ?_; first | refine ⟨_, rfl, ?_⟩ | refine ⟨_, _, rfl, ?_⟩ | refine ⟨_, _, _, rfl, ?_⟩ | refine ⟨_, _, _, _, rfl, ?_⟩ | refine ⟨_, _, _, _, _, rfl, ?_⟩ | refine ⟨_, _, _, _, _, _, rfl, ?_⟩ | refine ⟨_, _, _, _, _, _, _, rfl, ?_⟩ | refine ⟨_, _, _, _, _, _, _, _, rfl, ?_⟩ | refine ⟨_, _, _, _, _, _, _, _, _, rfl, ?_⟩)
    | ((with_reducible show RUNU _ (storeVar _ ⟨_, _, _⟩ (.agg _)) _ _); refine h.stG fun w' h => ?_)
    | ((with_reducible show RUNU _ (storeVar _ ⟨_, _, _⟩ _) _ _); refine h.stV fun w' h => ?_))
  cases cl with
  | true =>
    refine ift rfl ?_
    repeat' (first
      | ((with_reducible show RDI _ (loadVar _ (Addr.add _ _)) _ _ _); refine h.rdI _ ?_)
      | ((with_reducible show RDB _ (loadVar _ (Addr.add _ _)) _ _); refine h.rdB _ ?_)
      | ((with_reducible show RDP _ (loadVar _ (Addr.add _ _)) _ _); refine h.rdP _ ?_)
      | ((with_reducible show RDL _ (loadVar _ (Addr.add _ _)) _ _); refine h.rdL _ ?_)
      | ((with_reducible show RDT _ (loadVar _ (Addr.add _ _)) _ _); refine h.rdT _ ?_)
      | ((with_reducible show RUNU _ (storeVar _ (Addr.add _ _) _) _ _); refine h.st _ fun w' h => ?_)
      | ((with_reducible show RDI _ (loadVar _ ⟨_, _, _⟩) _ _ _); refine h.rdvI ?_)
      | ((with_reducible show RDB _ (loadVar _ ⟨_, _, _⟩) _ _); refine h.rdvB ?_)
      | ((with_reducible show RDP _ (loadVar _ ⟨_, _, _⟩) _ _); refine h.rdvP ?_)
      | ((with_reducible show RDL _ (loadVar _ ⟨_, _, _⟩) _ _); refine h.rdvL ?_)
      | ((with_reducible show RDT _ (loadVar _ ⟨_, _, _⟩) _ _); refine h.rdvT ?_)
      | ((with_reducible show RD _ (loadVar _ ⟨_, _, _⟩) _ _); refine h.rdG ?_; first | refine ⟨_, rfl, ?_⟩ | refine ⟨_, _, rfl, ?_⟩ | refine ⟨_, _, _, rfl, ?_⟩ | refine ⟨_, _, _, _, rfl, ?_⟩ | refine ⟨_, _, _, _, _, rfl, ?_⟩ | refine ⟨_, _, _, _, _, _, rfl, ?_⟩ | refine ⟨_, _, _, _, _, _, _, rfl, ?_⟩ | refine ⟨_, _, _, _, _, _, _, _, rfl, ?_⟩ | refine ⟨_, _, _, _, _, _, _, _, _, rfl, ?_⟩)
      | ((with_reducible show RUNU _ (storeVar _ ⟨_, _, _⟩ (.agg _)) _ _); refine h.stG fun w' h => ?_)
      | ((with_reducible show RUNU _ (storeVar _ ⟨_, _, _⟩ _) _ _); refine h.stV fun w' h => ?_))
    exact stay _ h.drop.drop 212 (by simp [putN])
  | false =>
    refine iff_ rfl (ifq (fun h1 => ?_) fun h1 => ?_)
    · repeat' (first
        | ((with_reducible show RDI _ (loadVar _ (Addr.add _ _)) _ _ _); refine h.rdI _ ?_)
        | ((with_reducible show RDB _ (loadVar _ (Addr.add _ _)) _ _); refine h.rdB _ ?_)
        | ((with_reducible show RDP _ (loadVar _ (Addr.add _ _)) _ _); refine h.rdP _ ?_)
        | ((with_reducible show RDL _ (loadVar _ (Addr.add _ _)) _ _); refine h.rdL _ ?_)
        | ((with_reducible show RDT _ (loadVar _ (Addr.add _ _)) _ _); refine h.rdT _ ?_)
        | ((with_reducible show RUNU _ (storeVar _ (Addr.add _ _) _) _ _); refine h.st _ fun w' h => ?_)
        | ((with_reducible show RDI _ (loadVar _ ⟨_, _, _⟩) _ _ _); refine h.rdvI ?_)
        | ((with_reducible show RDB _ (loadVar _ ⟨_, _, _⟩) _ _); refine h.rdvB ?_)
        | ((with_reducible show RDP _ (loadVar _ ⟨_, _, _⟩) _ _); refine h.rdvP ?_)
        | ((with_reducible show RDL _ (loadVar _ ⟨_, _, _⟩) _ _); refine h.rdvL ?_)
        | ((with_reducible show RDT _ (loadVar _ ⟨_, _, _⟩) _ _); refine h.rdvT ?_)
        | ((with_reducible show RD _ (loadVar _ ⟨_, _, _⟩) _ _); refine h.rdG ?_; first | refine ⟨_, rfl, ?_⟩ | refine ⟨_, _, rfl, ?_⟩ | refine ⟨_, _, _, rfl, ?_⟩ | refine ⟨_, _, _, _, rfl, ?_⟩ | refine ⟨_, _, _, _, _, rfl, ?_⟩ | refine ⟨_, _, _, _, _, _, rfl, ?_⟩ | refine ⟨_, _, _, _, _, _, _, rfl, ?_⟩ | refine ⟨_, _, _, _, _, _, _, _, rfl, ?_⟩ | refine ⟨_, _, _, _, _, _, _, _, _, rfl, ?_⟩)
        | ((with_reducible show RUNU _ (storeVar _ ⟨_, _, _⟩ (.agg _)) _ _); refine h.stG fun w' h => ?_)
        | ((with_reducible show RUNU _ (storeVar _ ⟨_, _, _⟩ _) _ _); refine h.stV fun w' h => ?_))
      exact stay _ h.drop.drop 0 (by simp [putN, show xs.length = 0 by omega])
    repeat' (first
      | ((with_reducible show RDI _ (loadVar _ (Addr.add _ _)) _ _ _); refine h.rdI _ ?_)
      | ((with_reducible show RDB _ (loadVar _ (Addr.add _ _)) _ _); refine h.rdB _ ?_)
      | ((with_reducible show RDP _ (loadVar _ (Addr.add _ _)) _ _); refine h.rdP _ ?_)
      | ((with_reducible show RDL _ (loadVar _ (Addr.add _ _)) _ _); refine h.rdL _ ?_)
      | ((with_reducible show RDT _ (loadVar _ (Addr.add _ _)) _ _); refine h.rdT _ ?_)
      | ((with_reducible show RUNU _ (storeVar _ (Addr.add _ _) _) _ _); refine h.st _ fun w' h => ?_)
      | ((with_reducible show RDI _ (loadVar _ ⟨_, _, _⟩) _ _ _); refine h.rdvI ?_)
      | ((with_reducible show RDB _ (loadVar _ ⟨_, _, _⟩) _ _); refine h.rdvB ?_)
      | ((with_reducible show RDP _ (loadVar _ ⟨_, _, _⟩) _ _); refine h.rdvP ?_)
      | ((with_reducible show RDL _ (loadVar _ ⟨_, _, _⟩) _ _); refine h.rdvL ?_)
      | ((with_reducible show RDT _ (loadVar _ ⟨_, _, _⟩) _ _); refine h.rdvT ?_)
      | ((with_reducible show RD _ (loadVar _ ⟨_, _, _⟩) _ _); refine h.rdG ?_; first | refine ⟨_, rfl, ?_⟩ | refine ⟨_, _, rfl, ?_⟩ | refine ⟨_, _, _, rfl, ?_⟩ | refine ⟨_, _, _, _, rfl, ?_⟩ | refine ⟨_, _, _, _, _, rfl, ?_⟩ | refine ⟨_, _, _, _, _, _, rfl, ?_⟩ | refine ⟨_, _, _, _, _, _, _, rfl, ?_⟩ | refine ⟨_, _, _, _, _, _, _, _, rfl, ?_⟩ | refine ⟨_, _, _, _, _, _, _, _, _, rfl, ?_⟩)
      | ((with_reducible show RUNU _ (storeVar _ ⟨_, _, _⟩ (.agg _)) _ _); refine h.stG fun w' h => ?_)
      | ((with_reducible show RUNU _ (storeVar _ ⟨_, _, _⟩ _) _ _); refine h.stV fun w' h => ?_))
    refine rEnd_ok h (by unfold Strm at *; omega) fun w' h => ⟨_, rfl, ifq (fun h2 => ?_) fun h2 => ?_⟩
    · repeat' (first
        | ((with_reducible show RDI _ (loadVar _ (Addr.add _ _)) _ _ _); refine h.rdI _ ?_)
        | ((with_reducible show RDB _ (loadVar _ (Addr.add _ _)) _ _); refine h.rdB _ ?_)
        | ((with_reducible show RDP _ (loadVar _ (Addr.add _ _)) _ _); refine h.rdP _ ?_)
        | ((with_reducible show RDL _ (loadVar _ (Addr.add _ _)) _ _); refine h.rdL _ ?_)
        | ((with_reducible show RDT _ (loadVar _ (Addr.add _ _)) _ _); refine h.rdT _ ?_)
        | ((with_reducible show RUNU _ (storeVar _ (Addr.add _ _) _) _ _); refine h.st _ fun w' h => ?_)
        | ((with_reducible show RDI _ (loadVar _ ⟨_, _, _⟩) _ _ _); refine h.rdvI ?_)
        | ((with_reducible show RDB _ (loadVar _ ⟨_, _, _⟩) _ _); refine h.rdvB ?_)
        | ((with_reducible show RDP _ (loadVar _ ⟨_, _, _⟩) _ _); refine h.rdvP ?_)
        | ((with_reducible show RDL _ (loadVar _ ⟨_, _, _⟩) _ _); refine h.rdvL ?_)
        | ((with_reducible show RDT _ (loadVar _ ⟨_, _, _⟩) _ _); refine h.rdvT ?_)
        | ((with_reducible show RD _ (loadVar _ ⟨_, _, _⟩) _ _); refine h.rdG ?_; first | refine ⟨_, rfl, ?_⟩ | refine ⟨_, _, rfl, ?_⟩ | refine ⟨_, _, _, rfl, ?_⟩ | refine ⟨_, _, _, _, rfl, ?_⟩ | refine ⟨_, _, _, _, _, rfl, ?_⟩ | refine ⟨_, _, _, _, _, _, rfl, ?_⟩ | refine ⟨_, _, _, _, _, _, _, rfl, ?_⟩ | refine ⟨_, _, _, _, _, _, _, _, rfl, ?_⟩ | refine ⟨_, _, _, _, _, _, _, _, _, rfl, ?_⟩)
        | ((with_reducible show RUNU _ (storeVar _ ⟨_, _, _⟩ (.agg _)) _ _); refine h.stG fun w' h => ?_)
        | ((with_reducible show RUNU _ (storeVar _ ⟨_, _, _⟩ _) _ _); refine h.stV fun w' h => ?_))
      exact stay _ h.drop.drop 215 (by unfold putN Strm at *; simp [show xs.length ≠ 0 by omega]; omega)
    repeat' (first
      | ((with_reducible show RDI _ (loadVar _ (Addr.add _ _)) _ _ _); refine h.rdI _ ?_)
      | ((with_reducible show RDB _ (loadVar _ (Addr.add _ _)) _ _); refine h.rdB _ ?_)
      | ((with_reducible show RDP _ (loadVar _ (Addr.add _ _)) _ _); refine h.rdP _ ?_)
      | ((with_reducible show RDL _ (loadVar _ (Addr.add _ _)) _ _); refine h.rdL _ ?_)
      | ((with_reducible show RDT _ (loadVar _ (Addr.add _ _)) _ _); refine h.rdT _ ?_)
      | ((with_reducible show RUNU _ (storeVar _ (Addr.add _ _) _) _ _); refine h.st _ fun w' h => ?_)
      | ((with_reducible show RDI _ (loadVar _ ⟨_, _, _⟩) _ _ _); refine h.rdvI ?_)
      | ((with_reducible show RDB _ (loadVar _ ⟨_, _, _⟩) _ _); refine h.rdvB ?_)
      | ((with_reducible show RDP _ (loadVar _ ⟨_, _, _⟩) _ _); refine h.rdvP ?_)
      | ((with_reducible show RDL _ (loadVar _ ⟨_, _, _⟩) _ _); refine h.rdvL ?_)
      | ((with_reducible show RDT _ (loadVar _ ⟨_, _, _⟩) _ _); refine h.rdvT ?_)
      | ((with_reducible show RD _ (loadVar _ ⟨_, _, _⟩) _ _); refine h.rdG ?_; first | refine ⟨_, rfl, ?_⟩ | refine ⟨_, _, rfl, ?_⟩ | refine ⟨_, _, _, rfl, ?_⟩ | refine ⟨_, _, _, _, rfl, ?_⟩ | refine ⟨_, _, _, _, _, rfl, ?_⟩ | refine ⟨_, _, _, _, _, _, rfl, ?_⟩ | refine ⟨_, _, _, _, _, _, _, rfl, ?_⟩ | refine ⟨_, _, _, _, _, _, _, _, rfl, ?_⟩ | refine ⟨_, _, _, _, _, _, _, _, _, rfl, ?_⟩)
      | ((with_reducible show RUNU _ (storeVar _ ⟨_, _, _⟩ (.agg _)) _ _); refine h.stG fun w' h => ?_)
      | ((with_reducible show RUNU _ (storeVar _ ⟨_, _, _⟩ _) _ _); refine h.stV fun w' h => ?_))
    have hm : xs.length ≠ 0 := by omega
    have he : base + C.length ≠ Strm := by unfold Strm at *; omega
    refine ifq (fun h3 => ?_) fun h3 => ?_
    · repeat' (first
        | ((with_reducible show RDI _ (loadVar _ (Addr.add _ _)) _ _ _); refine h.rdI _ ?_)
        | ((with_reducible show RDB _ (loadVar _ (Addr.add _ _)) _ _); refine h.rdB _ ?_)
        | ((with_reducible show RDP _ (loadVar _ (Addr.add _ _)) _ _); refine h.rdP _ ?_)
        | ((with_reducible show RDL _ (loadVar _ (Addr.add _ _)) _ _); refine h.rdL _ ?_)
        | ((with_reducible show RDT _ (loadVar _ (Addr.add _ _)) _ _); refine h.rdT _ ?_)
        | ((with_reducible show RUNU _ (storeVar _ (Addr.add _ _) _) _ _); refine h.st _ fun w' h => ?_)
        | ((with_reducible show RDI _ (loadVar _ ⟨_, _, _⟩) _ _ _); refine h.rdvI ?_)
        | ((with_reducible show RDB _ (loadVar _ ⟨_, _, _⟩) _ _); refine h.rdvB ?_)
        | ((with_reducible show RDP _ (loadVar _ ⟨_, _, _⟩) _ _); refine h.rdvP ?_)
        | ((with_reducible show RDL _ (loadVar _ ⟨_, _, _⟩) _ _); refine h.rdvL ?_)
        | ((with_reducible show RDT _ (loadVar _ ⟨_, _, _⟩) _ _); refine h.rdvT ?_)
        | ((with_reducible show RD _ (loadVar _ ⟨_, _, _⟩) _ _); refine h.rdG ?_; first | refine ⟨_, rfl, ?_⟩ | refine ⟨_, _, rfl, ?_⟩ | refine ⟨_, _, _, rfl, ?_⟩ | refine ⟨_, _, _, _, rfl, ?_⟩ | refine ⟨_, _, _, _, _, rfl, ?_⟩ | refine ⟨_, _, _, _, _, _, rfl, ?_⟩ | refine ⟨_, _, _, _, _, _, _, rfl, ?_⟩ | refine ⟨_, _, _, _, _, _, _, _, rfl, ?_⟩ | refine ⟨_, _, _, _, _, _, _, _, _, rfl, ?_⟩)
        | ((with_reducible show RUNU _ (storeVar _ ⟨_, _, _⟩ (.agg _)) _ _); refine h.stG fun w' h => ?_)
        | ((with_reducible show RUNU _ (storeVar _ ⟨_, _, _⟩ _) _ _); refine h.stV fun w' h => ?_))
      refine stay _ h.drop.drop 210 ?_
      unfold putN
      rw [if_neg (by simp), if_neg hm, if_neg he, if_pos (by omega)]
    have hp : putN C.length sz base false xs.length = (min (min xs.length (Strm - (base + C.length))) (sz - C.length), 0) := by
      unfold putN
      rw [if_neg (by simp), if_neg hm, if_neg he, if_neg (by unfold Strm at *; omega)]
    rw [hp] at hk
    refine leti rfl ?_
    refine ⟨fun n w' => n = ((min xs.length (sz - C.length) : Nat) : Int) ∧ St c w' (blk p 93 (ovs A C.length k base sz false dn) :: blk q 93 (ovs none 0 0 0 0 false false) :: L), ?_, ?_⟩
    · repeat' (first
        | ((with_reducible show RDI _ (loadVar _ (Addr.add _ _)) _ _ _); refine h.rdI _ ?_)
        | ((with_reducible show RDB _ (loadVar _ (Addr.add _ _)) _ _); refine h.rdB _ ?_)
        | ((with_reducible show RDP _ (loadVar _ (Addr.add _ _)) _ _); refine h.rdP _ ?_)
        | ((with_reducible show RDL _ (loadVar _ (Addr.add _ _)) _ _); refine h.rdL _ ?_)
        | ((with_reducible show RDT _ (loadVar _ (Addr.add _ _)) _ _); refine h.rdT _ ?_)
        | ((with_reducible show RUNU _ (storeVar _ (Addr.add _ _) _) _ _); refine h.st _ fun w' h => ?_)
        | ((with_reducible show RDI _ (loadVar _ ⟨_, _, _⟩) _ _ _); refine h.rdvI ?_)
        | ((with_reducible show RDB _ (loadVar _ ⟨_, _, _⟩) _ _); refine h.rdvB ?_)
        | ((with_reducible show RDP _ (loadVar _ ⟨_, _, _⟩) _ _); refine h.rdvP ?_)
        | ((with_reducible show RDL _ (loadVar _ ⟨_, _, _⟩) _ _); refine h.rdvL ?_)
        | ((with_reducible show RDT _ (loadVar _ ⟨_, _, _⟩) _ _); refine h.rdvT ?_)
        | ((with_reducible show RD _ (loadVar _ ⟨_, _, _⟩) _ _); refine h.rdG ?_; first | refine ⟨_, rfl, ?_⟩ | refine ⟨_, _, rfl, ?_⟩ | refine ⟨_, _, _, rfl, ?_⟩ | refine ⟨_, _, _, _, rfl, ?_⟩ | refine ⟨_, _, _, _, _, rfl, ?_⟩ | refine ⟨_, _, _, _, _, _, rfl, ?_⟩ | refine ⟨_, _, _, _, _, _, _, rfl, ?_⟩ | refine ⟨_, _, _, _, _, _, _, _, rfl, ?_⟩ | refine ⟨_, _, _, _, _, _, _, _, _, rfl, ?_⟩)
        | ((with_reducible show RUNU _ (storeVar _ ⟨_, _, _⟩ (.agg _)) _ _); refine h.stG fun w' h => ?_)
        | ((with_reducible show RUNU _ (storeVar _ ⟨_, _, _⟩ _) _ _); refine h.stV fun w' h => ?_))
      rw [wrap_i64 (by omega) (by omega)]
      refine ifd (fun h4 => ?_) fun h4 => ?_
      · repeat' (first
          | ((with_reducible show RDI _ (loadVar _ (Addr.add _ _)) _ _ _); refine h.rdI _ ?_)
          | ((with_reducible show RDB _ (loadVar _ (Addr.add _ _)) _ _); refine h.rdB _ ?_)
          | ((with_reducible show RDP _ (loadVar _ (Addr.add _ _)) _ _); refine h.rdP _ ?_)
          | ((with_reducible show RDL _ (loadVar _ (Addr.add _ _)) _ _); refine h.rdL _ ?_)
          | ((with_reducible show RDT _ (loadVar _ (Addr.add _ _)) _ _); refine h.rdT _ ?_)
          | ((with_reducible show RUNU _ (storeVar _ (Addr.add _ _) _) _ _); refine h.st _ fun w' h => ?_)
          | ((with_reducible show RDI _ (loadVar _ ⟨_, _, _⟩) _ _ _); refine h.rdvI ?_)
          | ((with_reducible show RDB _ (loadVar _ ⟨_, _, _⟩) _ _); refine h.rdvB ?_)
          | ((with_reducible show RDP _ (loadVar _ ⟨_, _, _⟩) _ _); refine h.rdvP ?_)
          | ((with_reducible show RDL _ (loadVar _ ⟨_, _, _⟩) _ _); refine h.rdvL ?_)
          | ((with_reducible show RDT _ (loadVar _ ⟨_, _, _⟩) _ _); refine h.rdvT ?_)
          | ((with_reducible show RD _ (loadVar _ ⟨_, _, _⟩) _ _); refine h.rdG ?_; first | refine ⟨_, rfl, ?_⟩ | refine ⟨_, _, rfl, ?_⟩ | refine ⟨_, _, _, rfl, ?_⟩ | refine ⟨_, _, _, _, rfl, ?_⟩ | refine ⟨_, _, _, _, _, rfl, ?_⟩ | refine ⟨_, _, _, _, _, _, rfl, ?_⟩ | refine ⟨_, _, _, _, _, _, _, rfl, ?_⟩ | refine ⟨_, _, _, _, _, _, _, _, rfl, ?_⟩ | refine ⟨_, _, _, _, _, _, _, _, _, rfl, ?_⟩)
          | ((with_reducible show RUNU _ (storeVar _ ⟨_, _, _⟩ (.agg _)) _ _); refine h.stG fun w' h => ?_)
          | ((with_reducible show RUNU _ (storeVar _ ⟨_, _, _⟩ _) _ _); refine h.stV fun w' h => ?_))
        exact letw ⟨by omega, h.to⟩
      · exact ⟨by omega, h.to⟩
    rintro n w' ⟨rfl, h⟩
    obtain ⟨m, hm2⟩ : ∃ m : Nat, m = min (min xs.length (Strm - (base + C.length))) (sz - C.length) := ⟨_, rfl⟩
    refine ⟨fun n w' => n = (m : Int) ∧ St c w' (blk p 93 (ovs A C.length k base sz false dn) :: blk q 93 (ovs none 0 0 0 0 false false) :: L), ?_, ?_⟩
    · repeat' (first
        | ((with_reducible show RDI _ (loadVar _ (Addr.add _ _)) _ _ _); refine h.rdI _ ?_)
        | ((with_reducible show RDB _ (loadVar _ (Addr.add _ _)) _ _); refine h.rdB _ ?_)
        | ((with_reducible show RDP _ (loadVar _ (Addr.add _ _)) _ _); refine h.rdP _ ?_)
        | ((with_reducible show RDL _ (loadVar _ (Addr.add _ _)) _ _); refine h.rdL _ ?_)
        | ((with_reducible show RDT _ (loadVar _ (Addr.add _ _)) _ _); refine h.rdT _ ?_)
        | ((with_reducible show RUNU _ (storeVar _ (Addr.add _ _) _) _ _); refine h.st _ fun w' h => ?_)
        | ((with_reducible show RDI _ (loadVar _ ⟨_, _, _⟩) _ _ _); refine h.rdvI ?_)
        | ((with_reducible show RDB _ (loadVar _ ⟨_, _, _⟩) _ _); refine h.rdvB ?_)
        | ((with_reducible show RDP _ (loadVar _ ⟨_, _, _⟩) _ _); refine h.rdvP ?_)
        | ((with_reducible show RDL _ (loadVar _ ⟨_, _, _⟩) _ _); refine h.rdvL ?_)
        | ((with_reducible show RDT _ (loadVar _ ⟨_, _, _⟩) _ _); refine h.rdvT ?_)
        | ((with_reducible show RD _ (loadVar _ ⟨_, _, _⟩) _ _); refine h.rdG ?_; first | refine ⟨_, rfl, ?_⟩ | refine ⟨_, _, rfl, ?_⟩ | refine ⟨_, _, _, rfl, ?_⟩ | refine ⟨_, _, _, _, rfl, ?_⟩ | refine ⟨_, _, _, _, _, rfl, ?_⟩ | refine ⟨_, _, _, _, _, _, rfl, ?_⟩ | refine ⟨_, _, _, _, _, _, _, rfl, ?_⟩ | refine ⟨_, _, _, _, _, _, _, _, rfl, ?_⟩ | refine ⟨_, _, _, _, _, _, _, _, _, rfl, ?_⟩)
        | ((with_reducible show RUNU _ (storeVar _ ⟨_, _, _⟩ (.agg _)) _ _); refine h.stG fun w' h => ?_)
        | ((with_reducible show RUNU _ (storeVar _ ⟨_, _, _⟩ _) _ _); refine h.stV fun w' h => ?_))
      refine rEnd_ok h (by unfold Strm at *; omega) fun w' h => ⟨_, rfl, ?_⟩
      rw [u64_id (y := ((min xs.length (sz - C.length) : Nat) : Int)) (by omega) (by omega), u64_id (y := (4611686018427387904 : Int) - ((base + C.length : Nat) : Int)) (by unfold Strm at *; omega) (by omega)]
      refine ifd (fun h4 => ?_) fun h4 => ?_
      · repeat' (first
          | ((with_reducible show RDI _ (loadVar _ (Addr.add _ _)) _ _ _); refine h.rdI _ ?_)
          | ((with_reducible show RDB _ (loadVar _ (Addr.add _ _)) _ _); refine h.rdB _ ?_)
          | ((with_reducible show RDP _ (loadVar _ (Addr.add _ _)) _ _); refine h.rdP _ ?_)
          | ((with_reducible show RDL _ (loadVar _ (Addr.add _ _)) _ _); refine h.rdL _ ?_)
          | ((with_reducible show RDT _ (loadVar _ (Addr.add _ _)) _ _); refine h.rdT _ ?_)
          | ((with_reducible show RUNU _ (storeVar _ (Addr.add _ _) _) _ _); refine h.st _ fun w' h => ?_)
          | ((with_reducible show RDI _ (loadVar _ ⟨_, _, _⟩) _ _ _); refine h.rdvI ?_)
          | ((with_reducible show RDB _ (loadVar _ ⟨_, _, _⟩) _ _); refine h.rdvB ?_)
          | ((with_reducible show RDP _ (loadVar _ ⟨_, _, _⟩) _ _); refine h.rdvP ?_)
          | ((with_reducible show RDL _ (loadVar _ ⟨_, _, _⟩) _ _); refine h.rdvL ?_)
          | ((with_reducible show RDT _ (loadVar _ ⟨_, _, _⟩) _ _); refine h.rdvT ?_)
          | ((with_reducible show RD _ (loadVar _ ⟨_, _, _⟩) _ _); refine h.rdG ?_; first | refine ⟨_, rfl, ?_⟩ | refine ⟨_, _, rfl, ?_⟩ | refine ⟨_, _, _, rfl, ?_⟩ | refine ⟨_, _, _, _, rfl, ?_⟩ | refine ⟨_, _, _, _, _, rfl, ?_⟩ | refine ⟨_, _, _, _, _, _, rfl, ?_⟩ | refine ⟨_, _, _, _, _, _, _, rfl, ?_⟩ | refine ⟨_, _, _, _, _, _, _, _, rfl, ?_⟩ | refine ⟨_, _, _, _, _, _, _, _, _, rfl, ?_⟩)
          | ((with_reducible show RUNU _ (storeVar _ ⟨_, _, _⟩ (.agg _)) _ _); refine h.stG fun w' h => ?_)
          | ((with_reducible show RUNU _ (storeVar _ ⟨_, _, _⟩ _) _ _); refine h.stV fun w' h => ?_))
        refine rEnd_ok h (by unfold Strm at *; omega) fun w' h => ⟨_, rfl, ?_⟩
        rw [u64_id (y := (4611686018427387904 : Int) - ((base + C.length : Nat) : Int)) (by unfold Strm at *; omega) (by omega)]
        exact letw ⟨by unfold Strm at *; omega, h⟩ (by unfold Strm at *; omega) (by unfold Strm at *; omega)
      · exact ⟨by unfold Strm at *; omega, h⟩
    rintro _ w' ⟨rfl, h⟩
    simp only [← hm2] at hk
    have hmx : m ≤ xs.length := by omega
    have hCm : (C ++ xs.take m).length = C.length + m := by simp; omega
    have hd := h.drew
    refine ⟨fun w => St c w (blk p 93 (ovs A C.length k base sz false dn) :: blk q 93 (ovs none 0 0 0 0 false false) :: L), hd, St.rdsL _ ⟨⟨by omega, by omega, by omega⟩, ?_⟩⟩
    refine hd.lit 5 1 [] fun r w' h => ⟨fun w => St c w _, fun _ h => h, h.drop, ?_⟩
    refine h.append undBytes2 tiU8 .head (RdIn.more (RdIn.more (RdIn.more (RdIn.rows hA)))) (by simp) (Flat.bvs _) (by omega) fun A1 k1 w' h => ⟨fun w => St c w _, fun _ h => h, h.drop, ?_⟩
    have hB' := (RdIn.cut (hB.take m) (c := d) (z := 1) (by simp; omega) 0)
    rw [cutA_zero] at hB' ⊢
    simp only [Int.toNat_natCast, Int.toNat_zero, Nat.sub_zero, Nat.zero_mul, List.drop_zero, Nat.zero_add, List.nil_append] at hB' h ⊢
    refine h.append undBytes2 tiU8 .head hB'.more.more.more (by simp; omega) ((Flat.bvs _).take _) (by omega) fun A2 k2 w' h => ?_
    repeat' (first
      | ((with_reducible show RDI _ (loadVar _ (Addr.add _ _)) _ _ _); refine h.rdI _ ?_)
      | ((with_reducible show RDB _ (loadVar _ (Addr.add _ _)) _ _); refine h.rdB _ ?_)
      | ((with_reducible show RDP _ (loadVar _ (Addr.add _ _)) _ _); refine h.rdP _ ?_)
      | ((with_reducible show RDL _ (loadVar _ (Addr.add _ _)) _ _); refine h.rdL _ ?_)
      | ((with_reducible show RDT _ (loadVar _ (Addr.add _ _)) _ _); refine h.rdT _ ?_)
      | ((with_reducible show RUNU _ (storeVar _ (Addr.add _ _) _) _ _); refine h.st _ fun w' h => ?_)
      | ((with_reducible show RDI _ (loadVar _ ⟨_, _, _⟩) _ _ _); refine h.rdvI ?_)
      | ((with_reducible show RDB _ (loadVar _ ⟨_, _, _⟩) _ _); refine h.rdvB ?_)
      | ((with_reducible show RDP _ (loadVar _ ⟨_, _, _⟩) _ _); refine h.rdvP ?_)
      | ((with_reducible show RDL _ (loadVar _ ⟨_, _, _⟩) _ _); refine h.rdvL ?_)
      | ((with_reducible show RDT _ (loadVar _ ⟨_, _, _⟩) _ _); refine h.rdvT ?_)
      | ((with_reducible show RD _ (loadVar _ ⟨_, _, _⟩) _ _); refine h.rdG ?_; first | refine ⟨_, rfl, ?_⟩ | refine ⟨_, _, rfl, ?_⟩ | refine ⟨_, _, _, rfl, ?_⟩ | refine ⟨_, _, _, _, rfl, ?_⟩ | refine ⟨_, _, _, _, _, rfl, ?_⟩ | refine ⟨_, _, _, _, _, _, rfl, ?_⟩ | refine ⟨_, _, _, _, _, _, _, rfl, ?_⟩ | refine ⟨_, _, _, _, _, _, _, _, rfl, ?_⟩ | refine ⟨_, _, _, _, _, _, _, _, _, rfl, ?_⟩)
      | ((with_reducible show RUNU _ (storeVar _ ⟨_, _, _⟩ (.agg _)) _ _); refine h.stG fun w' h => ?_)
      | ((with_reducible show RUNU _ (storeVar _ ⟨_, _, _⟩ _) _ _); refine h.stV fun w' h => ?_))
    refine leti rfl ?_
    repeat' (first
      | ((with_reducible show RDI _ (loadVar _ (Addr.add _ _)) _ _ _); refine h.rdI _ ?_)
      | ((with_reducible show RDB _ (loadVar _ (Addr.add _ _)) _ _); refine h.rdB _ ?_)
      | ((with_reducible show RDP _ (loadVar _ (Addr.add _ _)) _ _); refine h.rdP _ ?_)
      | ((with_reducible show RDL _ (loadVar _ (Addr.add _ _)) _ _); refine h.rdL _ ?_)
      | ((with_reducible show RDT _ (loadVar _ (Addr.add _ _)) _ _); refine h.rdT _ ?_)
      | ((with_reducible show RUNU _ (storeVar _ (Addr.add _ _) _) _ _); refine h.st _ fun w' h => ?_)
      | ((with_reducible show RDI _ (loadVar _ ⟨_, _, _⟩) _ _ _); refine h.rdvI ?_)
      | ((with_reducible show RDB _ (loadVar _ ⟨_, _, _⟩) _ _); refine h.rdvB ?_)
      | ((with_reducible show RDP _ (loadVar _ ⟨_, _, _⟩) _ _); refine h.rdvP ?_)
      | ((with_reducible show RDL _ (loadVar _ ⟨_, _, _⟩) _ _); refine h.rdvL ?_)
      | ((with_reducible show RDT _ (loadVar _ ⟨_, _, _⟩) _ _); refine h.rdvT ?_)
      | ((with_reducible show RD _ (loadVar _ ⟨_, _, _⟩) _ _); refine h.rdG ?_; first | refine ⟨_, rfl, ?_⟩ | refine ⟨_, _, rfl, ?_⟩ | refine ⟨_, _, _, rfl, ?_⟩ | refine ⟨_, _, _, _, rfl, ?_⟩ | refine ⟨_, _, _, _, _, rfl, ?_⟩ | refine ⟨_, _, _, _, _, _, rfl, ?_⟩ | refine ⟨_, _, _, _, _, _, _, rfl, ?_⟩ | refine ⟨_, _, _, _, _, _, _, _, rfl, ?_⟩ | refine ⟨_, _, _, _, _, _, _, _, _, rfl, ?_⟩)
      | ((with_reducible show RUNU _ (storeVar _ ⟨_, _, _⟩ (.agg _)) _ _); refine h.stG fun w' h => ?_)
      | ((with_reducible show RUNU _ (storeVar _ ⟨_, _, _⟩ _) _ _); refine h.stV fun w' h => ?_))
    rw [bvs_take, bvs_append] at h
    have hl := (h.own (.tail (.tail .head))).le
    have := hk A2 k2 _ ((h.drop.drop.enth own_rows)) (by omega)
    rw [hCm] at this
    exact this

theorem rAcked_ok {c : Ctx} {w : World} {L R : List SA} (h : St c w L) {A : Option Addr} {k base sz T : Nat} {C : List UInt8} {cl dn : Bool} (hA : Pick (rows A (bvs C)) L R) (hk1 : C.length ≤ k) (hC : C.length ≤ 65536) (hb : base + C.length ≤ Strm) (hT : T < 18446744073709551616) {Q : Value → World → Prop}
    (hno : (T ≤ base ∨ topN base C.length cl < T ∨ dn = true) → ∀ w', St c w' L → Q (.tuple #[ov A C.length k base sz cl dn, .bool false]) w')
    (hyes : base < T → T ≤ topN base C.length cl → dn = false → ∀ (t : Nat) (g : Bool), ((T = topN base C.length cl ∧ cl = true ∧ t = T - 1 ∧ g = true) ∨ (¬ (T = topN base C.length cl ∧ cl = true) ∧ t = T ∧ g = dn)) →
      ∀ A' k' w', St c w' (rows A' (bvs (C.drop (t - base))) :: L) → (C.drop (t - base)).length ≤ k' → Q (.tuple #[ov A' (C.drop (t - base)).length k' t sz cl g, .bool true]) w') :
    CALL PG 107 [ov A C.length k base sz cl dn, .int .u64 (T : Int)] w Q := by
  refine call107 ?_
  unfold N107
  have hb2 : base + C.length ≤ 4611686018427387904 := hb
  refine h.box fun p w' h => ?_
  refine h.allocG tiO17 fun q w' h => ?_
  repeat' (first
    | ((with_reducible show RDI _ (loadVar _ (Addr.add _ _)) _ _ _); refine h.rdI _ ?_)
    | ((with_reducible show RDB _ (loadVar _ (Addr.add _ _)) _ _); refine h.rdB _ ?_)
    | ((with_reducible show RDP _ (loadVar _ (Addr.add _ _)) _ _); refine h.rdP _ ?_)
    | ((with_reducible show RDL _ (loadVar _ (Addr.add _ _)) _ _); refine h.rdL _ ?_)
    | ((with_reducible show RDT _ (loadVar _ (Addr.add _ _)) _ _); refine h.rdT _ ?_)
    | ((with_reducible show RUNU _ (storeVar _ (Addr.add _ _) _) _ _); refine h.st _ fun w' h => ?_)
    | ((with_reducible show RDI _ (loadVar _ ⟨_, _, _⟩) _ _ _); refine h.rdvI ?_)
    | ((with_reducible show RDB _ (loadVar _ ⟨_, _, _⟩) _ _); refine h.rdvB ?_)
    | ((with_reducible show RDP _ (loadVar _ ⟨_, _, _⟩) _ _); refine h.rdvP ?_)
    | ((with_reducible show RDL _ (loadVar _ ⟨_, _, _⟩) _ _); refine h.rdvL ?_)
    | ((with_reducible show RDT _ (loadVar _ ⟨_, _, _⟩) _ _); refine h.rdvT ?_)
    | ((with_reducible show RD _ (loadVar _ ⟨_, _, _⟩) _ _); refine h.rdG ?_; first | refine ⟨_, rfl, ?_⟩ | refine ⟨_, _, rfl, ?_⟩ | refine ⟨_, _, _, rfl, ?_⟩ | refine ⟨_, _, _, _, rfl, ?_⟩ | refine ⟨_, _, _, _, _, rfl, ?_⟩ | refine ⟨_, _, _, _, _, _, rfl, ?_⟩ | refine ⟨_, _, _, _, _, _, _, rfl, ?_⟩ | refine ⟨_, _, _, _, _, _, _, _, rfl, ?_⟩ | refine ⟨_, _, _, _, _, _, _, _, _, rfl, ?_⟩)
    | ((with_reducible show RUNU _ (storeVar _ ⟨_, _, _⟩ (.agg _)) _ _); refine h.stG fun w' h => ?_)
    | ((with_reducible show RUNU _ (storeVar _ ⟨_, _, _⟩ _) _ _); refine h.stV fun w' h => ?_))
  refine ifd (fun h1 => ?_) fun h1 => ?_
  · repeat' (first
      | ((with_reducible show RDI _ (loadVar _ (Addr.add _ _)) _ _ _); refine h.rdI _ ?_)
      | ((with_reducible show RDB _ (loadVar _ (Addr.add _ _)) _ _); refine h.rdB _ ?_)
      | ((with_reducible show RDP _ (loadVar _ (Addr.add _ _)) _ _); refine h.rdP _ ?_)
      | ((with_reducible show RDL _ (loadVar _ (Addr.add _ _)) _ _); refine h.rdL _ ?_)
      | ((with_reducible show RDT _ (loadVar _ (Addr.add _ _)) _ _); refine h.rdT _ ?_)
      | ((with_reducible show RUNU _ (storeVar _ (Addr.add _ _) _) _ _); refine h.st _ fun w' h => ?_)
      | ((with_reducible show RDI _ (loadVar _ ⟨_, _, _⟩) _ _ _); refine h.rdvI ?_)
      | ((with_reducible show RDB _ (loadVar _ ⟨_, _, _⟩) _ _); refine h.rdvB ?_)
      | ((with_reducible show RDP _ (loadVar _ ⟨_, _, _⟩) _ _); refine h.rdvP ?_)
      | ((with_reducible show RDL _ (loadVar _ ⟨_, _, _⟩) _ _); refine h.rdvL ?_)
      | ((with_reducible show RDT _ (loadVar _ ⟨_, _, _⟩) _ _); refine h.rdvT ?_)
      | ((with_reducible show RD _ (loadVar _ ⟨_, _, _⟩) _ _); refine h.rdG ?_; first | refine ⟨_, rfl, ?_⟩ | refine ⟨_, _, rfl, ?_⟩ | refine ⟨_, _, _, rfl, ?_⟩ | refine ⟨_, _, _, _, rfl, ?_⟩ | refine ⟨_, _, _, _, _, rfl, ?_⟩ | refine ⟨_, _, _, _, _, _, rfl, ?_⟩ | refine ⟨_, _, _, _, _, _, _, rfl, ?_⟩ | refine ⟨_, _, _, _, _, _, _, _, rfl, ?_⟩ | refine ⟨_, _, _, _, _, _, _, _, _, rfl, ?_⟩)
      | ((with_reducible show RUNU _ (storeVar _ ⟨_, _, _⟩ (.agg _)) _ _); refine h.stG fun w' h => ?_)
      | ((with_reducible show RUNU _ (storeVar _ ⟨_, _, _⟩ _) _ _); refine h.stV fun w' h => ?_))
    exact hno (.inl (by omega)) _ h.drop.drop
  repeat' (first
    | ((with_reducible show RDI _ (loadVar _ (Addr.add _ _)) _ _ _); refine h.rdI _ ?_)
    | ((with_reducible show RDB _ (loadVar _ (Addr.add _ _)) _ _); refine h.rdB _ ?_)
    | ((with_reducible show RDP _ (loadVar _ (Addr.add _ _)) _ _); refine h.rdP _ ?_)
    | ((with_reducible show RDL _ (loadVar _ (Addr.add _ _)) _ _); refine h.rdL _ ?_)
    | ((with_reducible show RDT _ (loadVar _ (Addr.add _ _)) _ _); refine h.rdT _ ?_)
    | ((with_reducible show RUNU _ (storeVar _ (Addr.add _ _) _) _ _); refine h.st _ fun w' h => ?_)
    | ((with_reducible show RDI _ (loadVar _ ⟨_, _, _⟩) _ _ _); refine h.rdvI ?_)
    | ((with_reducible show RDB _ (loadVar _ ⟨_, _, _⟩) _ _); refine h.rdvB ?_)
    | ((with_reducible show RDP _ (loadVar _ ⟨_, _, _⟩) _ _); refine h.rdvP ?_)
    | ((with_reducible show RDL _ (loadVar _ ⟨_, _, _⟩) _ _); refine h.rdvL ?_)
    | ((with_reducible show RDT _ (loadVar _ ⟨_, _, _⟩) _ _); refine h.rdvT ?_)
    | ((with_reducible show RD _ (loadVar _ ⟨_, _, _⟩) _ _); refine h.rdG ?_; first | refine ⟨_, rfl, ?_⟩ | refine ⟨_, _, rfl, ?_⟩ | refine ⟨_, _, _, rfl, ?_⟩ | refine ⟨_, _, _, _, rfl, ?_⟩ | refine ⟨_, _, _, _, _, rfl, ?_⟩ | refine ⟨_, _, _, _, _, _, rfl, ?_⟩ | refine ⟨_, _, _, _, _, _, _, rfl, ?_⟩ | refine ⟨_, _, _, _, _, _, _, _, rfl, ?_⟩ | refine ⟨_, _, _, _, _, _, _, _, _, rfl, ?_⟩)
    | ((with_reducible show RUNU _ (storeVar _ ⟨_, _, _⟩ (.agg _)) _ _); refine h.stG fun w' h => ?_)
    | ((with_reducible show RUNU _ (storeVar _ ⟨_, _, _⟩ _) _ _); refine h.stV fun w' h => ?_))
  refine rTop_ok h (by omega) fun w' h => ⟨_, rfl, ifd (fun h2 => ?_) fun h2 => ?_⟩
  · repeat' (first
      | ((with_reducible show RDI _ (loadVar _ (Addr.add _ _)) _ _ _); refine h.rdI _ ?_)
      | ((with_reducible show RDB _ (loadVar _ (Addr.add _ _)) _ _); refine h.rdB _ ?_)
      | ((with_reducible show RDP _ (loadVar _ (Addr.add _ _)) _ _); refine h.rdP _ ?_)
      | ((with_reducible show RDL _ (loadVar _ (Addr.add _ _)) _ _); refine h.rdL _ ?_)
      | ((with_reducible show RDT _ (loadVar _ (Addr.add _ _)) _ _); refine h.rdT _ ?_)
      | ((with_reducible show RUNU _ (storeVar _ (Addr.add _ _) _) _ _); refine h.st _ fun w' h => ?_)
      | ((with_reducible show RDI _ (loadVar _ ⟨_, _, _⟩) _ _ _); refine h.rdvI ?_)
      | ((with_reducible show RDB _ (loadVar _ ⟨_, _, _⟩) _ _); refine h.rdvB ?_)
      | ((with_reducible show RDP _ (loadVar _ ⟨_, _, _⟩) _ _); refine h.rdvP ?_)
      | ((with_reducible show RDL _ (loadVar _ ⟨_, _, _⟩) _ _); refine h.rdvL ?_)
      | ((with_reducible show RDT _ (loadVar _ ⟨_, _, _⟩) _ _); refine h.rdvT ?_)
      | ((with_reducible show RD _ (loadVar _ ⟨_, _, _⟩) _ _); refine h.rdG ?_; first | refine ⟨_, rfl, ?_⟩ | refine ⟨_, _, rfl, ?_⟩ | refine ⟨_, _, _, rfl, ?_⟩ | refine ⟨_, _, _, _, rfl, ?_⟩ | refine ⟨_, _, _, _, _, rfl, ?_⟩ | refine ⟨_, _, _, _, _, _, rfl, ?_⟩ | refine ⟨_, _, _, _, _, _, _, rfl, ?_⟩ | refine ⟨_, _, _, _, _, _, _, _, rfl, ?_⟩ | refine ⟨_, _, _, _, _, _, _, _, _, rfl, ?_⟩)
      | ((with_reducible show RUNU _ (storeVar _ ⟨_, _, _⟩ (.agg _)) _ _); refine h.stG fun w' h => ?_)
      | ((with_reducible show RUNU _ (storeVar _ ⟨_, _, _⟩ _) _ _); refine h.stV fun w' h => ?_))
    exact hno (.inr (.inl (by omega))) _ h.drop.drop
  repeat' (first
    | ((with_reducible show RDI _ (loadVar _ (Addr.add _ _)) _ _ _); refine h.rdI _ ?_)
    | ((with_reducible show RDB _ (loadVar _ (Addr.add _ _)) _ _); refine h.rdB _ ?_)
    | ((with_reducible show RDP _ (loadVar _ (Addr.add _ _)) _ _); refine h.rdP _ ?_)
    | ((with_reducible show RDL _ (loadVar _ (Addr.add _ _)) _ _); refine h.rdL _ ?_)
    | ((with_reducible show RDT _ (loadVar _ (Addr.add _ _)) _ _); refine h.rdT _ ?_)
    | ((with_reducible show RUNU _ (storeVar _ (Addr.add _ _) _) _ _); refine h.st _ fun w' h => ?_)
    | ((with_reducible show RDI _ (loadVar _ ⟨_, _, _⟩) _ _ _); refine h.rdvI ?_)
    | ((with_reducible show RDB _ (loadVar _ ⟨_, _, _⟩) _ _); refine h.rdvB ?_)
    | ((with_reducible show RDP _ (loadVar _ ⟨_, _, _⟩) _ _); refine h.rdvP ?_)
    | ((with_reducible show RDL _ (loadVar _ ⟨_, _, _⟩) _ _); refine h.rdvL ?_)
    | ((with_reducible show RDT _ (loadVar _ ⟨_, _, _⟩) _ _); refine h.rdvT ?_)
    | ((with_reducible show RD _ (loadVar _ ⟨_, _, _⟩) _ _); refine h.rdG ?_; first | refine ⟨_, rfl, ?_⟩ | refine ⟨_, _, rfl, ?_⟩ | refine ⟨_, _, _, rfl, ?_⟩ | refine ⟨_, _, _, _, rfl, ?_⟩ | refine ⟨_, _, _, _, _, rfl, ?_⟩ | refine ⟨_, _, _, _, _, _, rfl, ?_⟩ | refine ⟨_, _, _, _, _, _, _, rfl, ?_⟩ | refine ⟨_, _, _, _, _, _, _, _, rfl, ?_⟩ | refine ⟨_, _, _, _, _, _, _, _, _, rfl, ?_⟩)
    | ((with_reducible show RUNU _ (storeVar _ ⟨_, _, _⟩ (.agg _)) _ _); refine h.stG fun w' h => ?_)
    | ((with_reducible show RUNU _ (storeVar _ ⟨_, _, _⟩ _) _ _); refine h.stV fun w' h => ?_))
  refine ifb (fun h3 => ?_) fun h3 => ?_
  · repeat' (first
      | ((with_reducible show RDI _ (loadVar _ (Addr.add _ _)) _ _ _); refine h.rdI _ ?_)
      | ((with_reducible show RDB _ (loadVar _ (Addr.add _ _)) _ _); refine h.rdB _ ?_)
      | ((with_reducible show RDP _ (loadVar _ (Addr.add _ _)) _ _); refine h.rdP _ ?_)
      | ((with_reducible show RDL _ (loadVar _ (Addr.add _ _)) _ _); refine h.rdL _ ?_)
      | ((with_reducible show RDT _ (loadVar _ (Addr.add _ _)) _ _); refine h.rdT _ ?_)
      | ((with_reducible show RUNU _ (storeVar _ (Addr.add _ _) _) _ _); refine h.st _ fun w' h => ?_)
      | ((with_reducible show RDI _ (loadVar _ ⟨_, _, _⟩) _ _ _); refine h.rdvI ?_)
      | ((with_reducible show RDB _ (loadVar _ ⟨_, _, _⟩) _ _); refine h.rdvB ?_)
      | ((with_reducible show RDP _ (loadVar _ ⟨_, _, _⟩) _ _); refine h.rdvP ?_)
      | ((with_reducible show RDL _ (loadVar _ ⟨_, _, _⟩) _ _); refine h.rdvL ?_)
      | ((with_reducible show RDT _ (loadVar _ ⟨_, _, _⟩) _ _); refine h.rdvT ?_)
      | ((with_reducible show RD _ (loadVar _ ⟨_, _, _⟩) _ _); refine h.rdG ?_; first | refine ⟨_, rfl, ?_⟩ | refine ⟨_, _, rfl, ?_⟩ | refine ⟨_, _, _, rfl, ?_⟩ | refine ⟨_, _, _, _, rfl, ?_⟩ | refine ⟨_, _, _, _, _, rfl, ?_⟩ | refine ⟨_, _, _, _, _, _, rfl, ?_⟩ | refine ⟨_, _, _, _, _, _, _, rfl, ?_⟩ | refine ⟨_, _, _, _, _, _, _, _, rfl, ?_⟩ | refine ⟨_, _, _, _, _, _, _, _, _, rfl, ?_⟩)
      | ((with_reducible show RUNU _ (storeVar _ ⟨_, _, _⟩ (.agg _)) _ _); refine h.stG fun w' h => ?_)
      | ((with_reducible show RUNU _ (storeVar _ ⟨_, _, _⟩ _) _ _); refine h.stV fun w' h => ?_))
    exact hno (.inr (.inr h3)) _ h.drop.drop
  subst h3
  have hto : T ≤ base + C.length + 1 := by unfold topN at h2; split at h2 <;> omega
  refine ⟨fun t' w' => ∃ (t : Nat) (g : Bool), t' = (t : Int) ∧ ((T = topN base C.length cl ∧ cl = true ∧ t = T - 1 ∧ g = true) ∨ (¬ (T = topN base C.length cl ∧ cl = true) ∧ t = T ∧ g = false)) ∧ St c w' (blk p 93 (ovs A C.length k base sz cl g) :: blk q 93 (ovs none 0 0 0 0 false false) :: L), ?_, ?_⟩
  · repeat' (first
      | ((with_reducible show RDI _ (loadVar _ (Addr.add _ _)) _ _ _); refine h.rdI _ ?_)
      | ((with_reducible show RDB _ (loadVar _ (Addr.add _ _)) _ _); refine h.rdB _ ?_)
      | ((with_reducible show RDP _ (loadVar _ (Addr.add _ _)) _ _); refine h.rdP _ ?_)
      | ((with_reducible show RDL _ (loadVar _ (Addr.add _ _)) _ _); refine h.rdL _ ?_)
      | ((with_reducible show RDT _ (loadVar _ (Addr.add _ _)) _ _); refine h.rdT _ ?_)
      | ((with_reducible show RUNU _ (storeVar _ (Addr.add _ _) _) _ _); refine h.st _ fun w' h => ?_)
      | ((with_reducible show RDI _ (loadVar _ ⟨_, _, _⟩) _ _ _); refine h.rdvI ?_)
      | ((with_reducible show RDB _ (loadVar _ ⟨_, _, _⟩) _ _); refine h.rdvB ?_)
      | ((with_reducible show RDP _ (loadVar _ ⟨_, _, _⟩) _ _); refine h.rdvP ?_)
      | ((with_reducible show RDL _ (loadVar _ ⟨_, _, _⟩) _ _); refine h.rdvL ?_)
      | ((with_reducible show RDT _ (loadVar _ ⟨_, _, _⟩) _ _); refine h.rdvT ?_)
      | ((with_reducible show RD _ (loadVar _ ⟨_, _, _⟩) _ _); refine h.rdG ?_; first | refine ⟨_, rfl, ?_⟩ | refine ⟨_, _, rfl, ?_⟩ | refine ⟨_, _, _, rfl, ?_⟩ | refine ⟨_, _, _, _, rfl, ?_⟩ | refine ⟨_, _, _, _, _, rfl, ?_⟩ | refine ⟨_, _, _, _, _, _, rfl, ?_⟩ | refine ⟨_, _, _, _, _, _, _, rfl, ?_⟩ | refine ⟨_, _, _, _, _, _, _, _, rfl, ?_⟩ | refine ⟨_, _, _, _, _, _, _, _, _, rfl, ?_⟩)
      | ((with_reducible show RUNU _ (storeVar _ ⟨_, _, _⟩ (.agg _)) _ _); refine h.stG fun w' h => ?_)
      | ((with_reducible show RUNU _ (storeVar _ ⟨_, _, _⟩ _) _ _); refine h.stV fun w' h => ?_))
    refine rEnd_ok h (by omega) fun w' h => ⟨_, rfl, ifd (fun h4 => ?_) fun h4 => ?_⟩
    · have hcl : cl = true := by
        cases cl with
        | true => rfl
        | false => unfold topN at h2; simp at h2; omega
      subst hcl
      have : T = base + C.length + 1 := by omega
      refine h.st _ fun w' h => ?_
      repeat' (first
        | ((with_reducible show RDI _ (loadVar _ (Addr.add _ _)) _ _ _); refine h.rdI _ ?_)
        | ((with_reducible show RDB _ (loadVar _ (Addr.add _ _)) _ _); refine h.rdB _ ?_)
        | ((with_reducible show RDP _ (loadVar _ (Addr.add _ _)) _ _); refine h.rdP _ ?_)
        | ((with_reducible show RDL _ (loadVar _ (Addr.add _ _)) _ _); refine h.rdL _ ?_)
        | ((with_reducible show RDT _ (loadVar _ (Addr.add _ _)) _ _); refine h.rdT _ ?_)
        | ((with_reducible show RUNU _ (storeVar _ (Addr.add _ _) _) _ _); refine h.st _ fun w' h => ?_)
        | ((with_reducible show RDI _ (loadVar _ ⟨_, _, _⟩) _ _ _); refine h.rdvI ?_)
        | ((with_reducible show RDB _ (loadVar _ ⟨_, _, _⟩) _ _); refine h.rdvB ?_)
        | ((with_reducible show RDP _ (loadVar _ ⟨_, _, _⟩) _ _); refine h.rdvP ?_)
        | ((with_reducible show RDL _ (loadVar _ ⟨_, _, _⟩) _ _); refine h.rdvL ?_)
        | ((with_reducible show RDT _ (loadVar _ ⟨_, _, _⟩) _ _); refine h.rdvT ?_)
        | ((with_reducible show RD _ (loadVar _ ⟨_, _, _⟩) _ _); refine h.rdG ?_; first | refine ⟨_, rfl, ?_⟩ | refine ⟨_, _, rfl, ?_⟩ | refine ⟨_, _, _, rfl, ?_⟩ | refine ⟨_, _, _, _, rfl, ?_⟩ | refine ⟨_, _, _, _, _, rfl, ?_⟩ | refine ⟨_, _, _, _, _, _, rfl, ?_⟩ | refine ⟨_, _, _, _, _, _, _, rfl, ?_⟩ | refine ⟨_, _, _, _, _, _, _, _, rfl, ?_⟩ | refine ⟨_, _, _, _, _, _, _, _, _, rfl, ?_⟩)
        | ((with_reducible show RUNU _ (storeVar _ ⟨_, _, _⟩ (.agg _)) _ _); refine h.stG fun w' h => ?_)
        | ((with_reducible show RUNU _ (storeVar _ ⟨_, _, _⟩ _) _ _); refine h.stV fun w' h => ?_))
      refine rEnd_ok h (by omega) fun w' h => ⟨_, rfl, leti rfl ⟨base + C.length, true, rfl, .inl ⟨by unfold topN; simp; omega, rfl, by omega, rfl⟩, h.to⟩⟩
    · refine ⟨T, false, rfl, .inr ⟨fun hc => ?_, rfl, rfl⟩, h.to⟩
      obtain ⟨h5, rfl⟩ := hc
      unfold topN at h5; simp at h5; omega
  rintro _ w' ⟨t, g, rfl, ht, h⟩
  have htb : base ≤ t ∧ t ≤ base + C.length := by
    unfold topN at ht
    rcases ht with ⟨a, rfl, b, _⟩ | ⟨a, b, _⟩
    · simp at a; omega
    · cases cl with
      | true => simp at a; omega
      | false => unfold topN at h2; simp at h2; omega
  refine h.lit 5 1 [] fun r w' h => ?_
  repeat' (first
    | ((with_reducible show RDI _ (loadVar _ (Addr.add _ _)) _ _ _); refine h.rdI _ ?_)
    | ((with_reducible show RDB _ (loadVar _ (Addr.add _ _)) _ _); refine h.rdB _ ?_)
    | ((with_reducible show RDP _ (loadVar _ (Addr.add _ _)) _ _); refine h.rdP _ ?_)
    | ((with_reducible show RDL _ (loadVar _ (Addr.add _ _)) _ _); refine h.rdL _ ?_)
    | ((with_reducible show RDT _ (loadVar _ (Addr.add _ _)) _ _); refine h.rdT _ ?_)
    | ((with_reducible show RUNU _ (storeVar _ (Addr.add _ _) _) _ _); refine h.st _ fun w' h => ?_)
    | ((with_reducible show RDI _ (loadVar _ ⟨_, _, _⟩) _ _ _); refine h.rdvI ?_)
    | ((with_reducible show RDB _ (loadVar _ ⟨_, _, _⟩) _ _); refine h.rdvB ?_)
    | ((with_reducible show RDP _ (loadVar _ ⟨_, _, _⟩) _ _); refine h.rdvP ?_)
    | ((with_reducible show RDL _ (loadVar _ ⟨_, _, _⟩) _ _); refine h.rdvL ?_)
    | ((with_reducible show RDT _ (loadVar _ ⟨_, _, _⟩) _ _); refine h.rdvT ?_)
    | ((with_reducible show RD _ (loadVar _ ⟨_, _, _⟩) _ _); refine h.rdG ?_; first | refine ⟨_, rfl, ?_⟩ | refine ⟨_, _, rfl, ?_⟩ | refine ⟨_, _, _, rfl, ?_⟩ | refine ⟨_, _, _, _, rfl, ?_⟩ | refine ⟨_, _, _, _, _, rfl, ?_⟩ | refine ⟨_, _, _, _, _, _, rfl, ?_⟩ | refine ⟨_, _, _, _, _, _, _, rfl, ?_⟩ | refine ⟨_, _, _, _, _, _, _, _, rfl, ?_⟩ | refine ⟨_, _, _, _, _, _, _, _, _, rfl, ?_⟩)
    | ((with_reducible show RUNU _ (storeVar _ ⟨_, _, _⟩ (.agg _)) _ _); refine h.stG fun w' h => ?_)
    | ((with_reducible show RUNU _ (storeVar _ ⟨_, _, _⟩ _) _ _); refine h.stV fun w' h => ?_))
  rw [u64_id (by omega) (by omega)]
  refine ⟨⟨by omega, by omega, by omega⟩, ?_⟩
  have e1 : Int.toNat ((t : Int) - base) = t - base := by omega
  have hr2 : RdIn (blk p 93 (ovs A C.length k base sz cl g) :: blk q 93 (ovs none 0 0 0 0 false false) :: L) (cutA A k 1 ((t : Int) - base)) ((bvs C).drop (t - base)) := by
    have := RdIn.cut (RdIn.more (X := blk p 93 (ovs A C.length k base sz cl g)) (RdIn.more (X := blk q 93 (ovs none 0 0 0 0 false false)) (RdIn.rows hA))) (c := k) (z := 1) (by simp; omega) ((t : Int) - base)
    rwa [e1, Nat.mul_one] at this
  rw [e1]
  have el : (C.drop (t - base)).length = C.length - (t - base) := by simp
  refine h.append undBytes2 tiU8 .head hr2.more (by simp) ((Flat.bvs _).drop _) (by omega) fun A1 k1 w' h => ?_
  repeat' (first
    | ((with_reducible show RDI _ (loadVar _ (Addr.add _ _)) _ _ _); refine h.rdI _ ?_)
    | ((with_reducible show RDB _ (loadVar _ (Addr.add _ _)) _ _); refine h.rdB _ ?_)
    | ((with_reducible show RDP _ (loadVar _ (Addr.add _ _)) _ _); refine h.rdP _ ?_)
    | ((with_reducible show RDL _ (loadVar _ (Addr.add _ _)) _ _); refine h.rdL _ ?_)
    | ((with_reducible show RDT _ (loadVar _ (Addr.add _ _)) _ _); refine h.rdT _ ?_)
    | ((with_reducible show RUNU _ (storeVar _ (Addr.add _ _) _) _ _); refine h.st _ fun w' h => ?_)
    | ((with_reducible show RDI _ (loadVar _ ⟨_, _, _⟩) _ _ _); refine h.rdvI ?_)
    | ((with_reducible show RDB _ (loadVar _ ⟨_, _, _⟩) _ _); refine h.rdvB ?_)
    | ((with_reducible show RDP _ (loadVar _ ⟨_, _, _⟩) _ _); refine h.rdvP ?_)
    | ((with_reducible show RDL _ (loadVar _ ⟨_, _, _⟩) _ _); refine h.rdvL ?_)
    | ((with_reducible show RDT _ (loadVar _ ⟨_, _, _⟩) _ _); refine h.rdvT ?_)
    | ((with_reducible show RD _ (loadVar _ ⟨_, _, _⟩) _ _); refine h.rdG ?_; first | refine ⟨_, rfl, ?_⟩ | refine ⟨_, _, rfl, ?_⟩ | refine ⟨_, _, _, rfl, ?_⟩ | refine ⟨_, _, _, _, rfl, ?_⟩ | refine ⟨_, _, _, _, _, rfl, ?_⟩ | refine ⟨_, _, _, _, _, _, rfl, ?_⟩ | refine ⟨_, _, _, _, _, _, _, rfl, ?_⟩ | refine ⟨_, _, _, _, _, _, _, _, rfl, ?_⟩ | refine ⟨_, _, _, _, _, _, _, _, _, rfl, ?_⟩)
    | ((with_reducible show RUNU _ (storeVar _ ⟨_, _, _⟩ (.agg _)) _ _); refine h.stG fun w' h => ?_)
    | ((with_reducible show RUNU _ (storeVar _ ⟨_, _, _⟩ _) _ _); refine h.stV fun w' h => ?_))
  have hl := (h.own (.tail (.tail .head))).le
  have := hyes (by omega) (by omega) rfl t g ht A1 k1 _ ((h.drop.drop.enth (own_rows.trans (by rw [List.nil_append, bvs_drop]; exact Ent.refl _)))) (by rw [el]; omega)
  rw [el] at this
  simpa using this

theorem rBytes_ok {c : Ctx} {w : World} {L R : List SA} (h : St c w L) {A : Option Addr} {k base sz F : Nat} {C : List UInt8} {cl dn : Bool} {many : Int} (hA : Pick (rows A (bvs C)) L R) (hC : C.length ≤ 65536) (hb : base + C.length ≤ Strm) (hF : F < 18446744073709551616) {Q : Value → World → Prop}
    (hk : ∀ A' k' w' xs, xs = (if F < base then [] else (C.drop (F - base)).take many.toNat) → St c w' (rows A' (bvs xs) :: L) → Q (.slice A' xs.length k') w') :
    CALL PG 108 [ov A C.length k base sz cl dn, .int .u64 (F : Int), .int .i64 many] w Q := by
  refine call108 ?_
  unfold N108
  have hb2 : base + C.length ≤ 4611686018427387904 := hb
  refine h.box fun p w' h => ?_
  repeat' (first
    | ((with_reducible show RDI _ (loadVar _ (Addr.add _ _)) _ _ _); refine h.rdI _ ?_)
    | ((with_reducible show RDB _ (loadVar _ (Addr.add _ _)) _ _); refine h.rdB _ ?_)
    | ((with_reducible show RDP _ (loadVar _ (Addr.add _ _)) _ _); refine h.rdP _ ?_)
    | ((with_reducible show RDL _ (loadVar _ (Addr.add _ _)) _ _); refine h.rdL _ ?_)
    | ((with_reducible show RDT _ (loadVar _ (Addr.add _ _)) _ _); refine h.rdT _ ?_)
    | ((with_reducible show RUNU _ (storeVar _ (Addr.add _ _) _) _ _); refine h.st _ fun w' h => ?_)
    | ((with_reducible show RDI _ (loadVar _ ⟨_, _, _⟩) _ _ _); refine h.rdvI ?_)
    | ((with_reducible show RDB _ (loadVar _ ⟨_, _, _⟩) _ _); refine h.rdvB ?_)
    | ((with_reducible show RDP _ (loadVar _ ⟨_, _, _⟩) _ _); refine h.rdvP ?_)
    | ((with_reducible show RDL _ (loadVar _ ⟨_, _, _⟩) _ _); refine h.rdvL ?_)
    | ((with_reducible show RDT _ (loadVar _ ⟨_, _, _⟩) _ _); refine h.rdvT ?_)
    | ((with_reducible show RD _ (loadVar _ ⟨_, _, _⟩) _ _); refine h.rdG ?_; first | refine ⟨_, rfl, ?_⟩ | refine ⟨_, _, rfl, ?_⟩ | refine ⟨_, _, _, rfl, ?_⟩ | refine ⟨_, _, _, _, rfl, ?_⟩ | refine ⟨_, _, _, _, _, rfl, ?_⟩ | refine ⟨_, _, _, _, _, _, rfl, ?_⟩ | refine ⟨_, _, _, _, _, _, _, rfl, ?_⟩ | refine ⟨_, _, _, _, _, _, _, _, rfl, ?_⟩ | refine ⟨_, _, _, _, _, _, _, _, _, rfl, ?_⟩)
    | ((with_reducible show RUNU _ (storeVar _ ⟨_, _, _⟩ (.agg _)) _ _); refine h.stG fun w' h => ?_)
    | ((with_reducible show RUNU _ (storeVar _ ⟨_, _, _⟩ _) _ _); refine h.stV fun w' h => ?_))
  refine ifd (fun h1 => hk none 0 _ [] (by rw [if_pos (by omega)]) (h.drop.addNil fun w => Row.nil w none)) fun h1 => ?_
  rw [if_neg (by omega)] at hk
  repeat' (first
    | ((with_reducible show RDI _ (loadVar _ (Addr.add _ _)) _ _ _); refine h.rdI _ ?_)
    | ((with_reducible show RDB _ (loadVar _ (Addr.add _ _)) _ _); refine h.rdB _ ?_)
    | ((with_reducible show RDP _ (loadVar _ (Addr.add _ _)) _ _); refine h.rdP _ ?_)
    | ((with_reducible show RDL _ (loadVar _ (Addr.add _ _)) _ _); refine h.rdL _ ?_)
    | ((with_reducible show RDT _ (loadVar _ (Addr.add _ _)) _ _); refine h.rdT _ ?_)
    | ((with_reducible show RUNU _ (storeVar _ (Addr.add _ _) _) _ _); refine h.st _ fun w' h => ?_)
    | ((with_reducible show RDI _ (loadVar _ ⟨_, _, _⟩) _ _ _); refine h.rdvI ?_)
    | ((with_reducible show RDB _ (loadVar _ ⟨_, _, _⟩) _ _); refine h.rdvB ?_)
    | ((with_reducible show RDP _ (loadVar _ ⟨_, _, _⟩) _ _); refine h.rdvP ?_)
    | ((with_reducible show RDL _ (loadVar _ ⟨_, _, _⟩) _ _); refine h.rdvL ?_)
    | ((with_reducible show RDT _ (loadVar _ ⟨_, _, _⟩) _ _); refine h.rdvT ?_)
    | ((with_reducible show RD _ (loadVar _ ⟨_, _, _⟩) _ _); refine h.rdG ?_; first | refine ⟨_, rfl, ?_⟩ | refine ⟨_, _, rfl, ?_⟩ | refine ⟨_, _, _, rfl, ?_⟩ | refine ⟨_, _, _, _, rfl, ?_⟩ | refine ⟨_, _, _, _, _, rfl, ?_⟩ | refine ⟨_, _, _, _, _, _, rfl, ?_⟩ | refine ⟨_, _, _, _, _, _, _, rfl, ?_⟩ | refine ⟨_, _, _, _, _, _, _, _, rfl, ?_⟩ | refine ⟨_, _, _, _, _, _, _, _, _, rfl, ?_⟩)
    | ((with_reducible show RUNU _ (storeVar _ ⟨_, _, _⟩ (.agg _)) _ _); refine h.stG fun w' h => ?_)
    | ((with_reducible show RUNU _ (storeVar _ ⟨_, _, _⟩ _) _ _); refine h.stV fun w' h => ?_))
  refine rEnd_ok h (by omega) fun w' h => ⟨_, rfl, ifd (fun h2 => hk none 0 _ [] (by rw [List.drop_eq_nil_of_le (by omega), List.take_nil]) (h.drop.addNil fun w => Row.nil w none)) fun h2 => ?_⟩
  repeat' (first
    | ((with_reducible show RDI _ (loadVar _ (Addr.add _ _)) _ _ _); refine h.rdI _ ?_)
    | ((with_reducible show RDB _ (loadVar _ (Addr.add _ _)) _ _); refine h.rdB _ ?_)
    | ((with_reducible show RDP _ (loadVar _ (Addr.add _ _)) _ _); refine h.rdP _ ?_)
    | ((with_reducible show RDL _ (loadVar _ (Addr.add _ _)) _ _); refine h.rdL _ ?_)
    | ((with_reducible show RDT _ (loadVar _ (Addr.add _ _)) _ _); refine h.rdT _ ?_)
    | ((with_reducible show RUNU _ (storeVar _ (Addr.add _ _) _) _ _); refine h.st _ fun w' h => ?_)
    | ((with_reducible show RDI _ (loadVar _ ⟨_, _, _⟩) _ _ _); refine h.rdvI ?_)
    | ((with_reducible show RDB _ (loadVar _ ⟨_, _, _⟩) _ _); refine h.rdvB ?_)
    | ((with_reducible show RDP _ (loadVar _ ⟨_, _, _⟩) _ _); refine h.rdvP ?_)
    | ((with_reducible show RDL _ (loadVar _ ⟨_, _, _⟩) _ _); refine h.rdvL ?_)
    | ((with_reducible show RDT _ (loadVar _ ⟨_, _, _⟩) _ _); refine h.rdvT ?_)
    | ((with_reducible show RD _ (loadVar _ ⟨_, _, _⟩) _ _); refine h.rdG ?_; first | refine ⟨_, rfl, ?_⟩ | refine ⟨_, _, rfl, ?_⟩ | refine ⟨_, _, _, rfl, ?_⟩ | refine ⟨_, _, _, _, rfl, ?_⟩ | refine ⟨_, _, _, _, _, rfl, ?_⟩ | refine ⟨_, _, _, _, _, _, rfl, ?_⟩ | refine ⟨_, _, _, _, _, _, _, rfl, ?_⟩ | refine ⟨_, _, _, _, _, _, _, _, rfl, ?_⟩ | refine ⟨_, _, _, _, _, _, _, _, _, rfl, ?_⟩)
    | ((with_reducible show RUNU _ (storeVar _ ⟨_, _, _⟩ (.agg _)) _ _); refine h.stG fun w' h => ?_)
    | ((with_reducible show RUNU _ (storeVar _ ⟨_, _, _⟩ _) _ _); refine h.stV fun w' h => ?_))
  rw [u64_id (by omega) (by omega)]
  refine leti (y := ((F - base : Nat) : Int)) (by omega) ?_
  obtain ⟨s, hs⟩ : ∃ s, s = F - base := ⟨_, rfl⟩
  rw [← hs] at hk ⊢
  refine ⟨fun m out n k' i w' => ∃ j : Nat, j + m = C.length - s ∧ i = ((s + j : Nat) : Int) ∧ j = n ∧ (j : Int) ≤ (many.toNat : Int) ∧ St c w' (own 5 1 out n k' (bvs ((C.drop s).take j)) :: blk p 93 (ovs A C.length k base sz cl dn) :: L), ⟨C.length - s, 0, by omega, by omega, rfl, by omega, by simpa [bvs] using h.addOwnNil _ _⟩, ?_⟩
  rintro m out n k' _ w' ⟨j, hj, rfl, rfl, hjm, h⟩
  repeat' (first
    | ((with_reducible show RDI _ (loadVar _ (Addr.add _ _)) _ _ _); refine h.rdI _ ?_)
    | ((with_reducible show RDB _ (loadVar _ (Addr.add _ _)) _ _); refine h.rdB _ ?_)
    | ((with_reducible show RDP _ (loadVar _ (Addr.add _ _)) _ _); refine h.rdP _ ?_)
    | ((with_reducible show RDL _ (loadVar _ (Addr.add _ _)) _ _); refine h.rdL _ ?_)
    | ((with_reducible show RDT _ (loadVar _ (Addr.add _ _)) _ _); refine h.rdT _ ?_)
    | ((with_reducible show RUNU _ (storeVar _ (Addr.add _ _) _) _ _); refine h.st _ fun w' h => ?_)
    | ((with_reducible show RDI _ (loadVar _ ⟨_, _, _⟩) _ _ _); refine h.rdvI ?_)
    | ((with_reducible show RDB _ (loadVar _ ⟨_, _, _⟩) _ _); refine h.rdvB ?_)
    | ((with_reducible show RDP _ (loadVar _ ⟨_, _, _⟩) _ _); refine h.rdvP ?_)
    | ((with_reducible show RDL _ (loadVar _ ⟨_, _, _⟩) _ _); refine h.rdvL ?_)
    | ((with_reducible show RDT _ (loadVar _ ⟨_, _, _⟩) _ _); refine h.rdvT ?_)
    | ((with_reducible show RD _ (loadVar _ ⟨_, _, _⟩) _ _); refine h.rdG ?_; first | refine ⟨_, rfl, ?_⟩ | refine ⟨_, _, rfl, ?_⟩ | refine ⟨_, _, _, rfl, ?_⟩ | refine ⟨_, _, _, _, rfl, ?_⟩ | refine ⟨_, _, _, _, _, rfl, ?_⟩ | refine ⟨_, _, _, _, _, _, rfl, ?_⟩ | refine ⟨_, _, _, _, _, _, _, rfl, ?_⟩ | refine ⟨_, _, _, _, _, _, _, _, rfl, ?_⟩ | refine ⟨_, _, _, _, _, _, _, _, _, rfl, ?_⟩)
    | ((with_reducible show RUNU _ (storeVar _ ⟨_, _, _⟩ (.agg _)) _ _); refine h.stG fun w' h => ?_)
    | ((with_reducible show RUNU _ (storeVar _ ⟨_, _, _⟩ _) _ _); refine h.stV fun w' h => ?_))
  rw [u64_id (y := (C.length : Int)) (by omega) (by omega)]
  have fin : (j = C.length - s ∨ many.toNat ≤ j) → (C.drop s).take many.toNat = (C.drop s).take j ∧ ((C.drop s).take j).length = j := by
    intro hc
    have e : (C.drop s).length = C.length - s := by simp
    constructor
    · rcases hc with hc | hc
      · rw [List.take_of_length_le (by omega), List.take_of_length_le (by omega)]
      · congr 1; omega
    · rw [List.length_take]; omega
  have done : (j = C.length - s ∨ many.toNat ≤ j) → Q (.slice out j k') w' := fun hc => by
    have := hk out k' w' _ (fin hc).1.symm (h.enth own_rows).to
    rwa [(fin hc).2] at this
  refine ifd (fun h3 => ifd (fun h4 => ?_) fun h4 => done (.inr (by omega))) fun h3 => done (.inl (by omega))
  repeat' (first
    | ((with_reducible show RDI _ (loadVar _ (Addr.add _ _)) _ _ _); refine h.rdI _ ?_)
    | ((with_reducible show RDB _ (loadVar _ (Addr.add _ _)) _ _); refine h.rdB _ ?_)
    | ((with_reducible show RDP _ (loadVar _ (Addr.add _ _)) _ _); refine h.rdP _ ?_)
    | ((with_reducible show RDL _ (loadVar _ (Addr.add _ _)) _ _); refine h.rdL _ ?_)
    | ((with_reducible show RDT _ (loadVar _ (Addr.add _ _)) _ _); refine h.rdT _ ?_)
    | ((with_reducible show RUNU _ (storeVar _ (Addr.add _ _) _) _ _); refine h.st _ fun w' h => ?_)
    | ((with_reducible show RDI _ (loadVar _ ⟨_, _, _⟩) _ _ _); refine h.rdvI ?_)
    | ((with_reducible show RDB _ (loadVar _ ⟨_, _, _⟩) _ _); refine h.rdvB ?_)
    | ((with_reducible show RDP _ (loadVar _ ⟨_, _, _⟩) _ _); refine h.rdvP ?_)
    | ((with_reducible show RDL _ (loadVar _ ⟨_, _, _⟩) _ _); refine h.rdvL ?_)
    | ((with_reducible show RDT _ (loadVar _ ⟨_, _, _⟩) _ _); refine h.rdvT ?_)
    | ((with_reducible show RD _ (loadVar _ ⟨_, _, _⟩) _ _); refine h.rdG ?_; first | refine ⟨_, rfl, ?_⟩ | refine ⟨_, _, rfl, ?_⟩ | refine ⟨_, _, _, rfl, ?_⟩ | refine ⟨_, _, _, _, rfl, ?_⟩ | refine ⟨_, _, _, _, _, rfl, ?_⟩ | refine ⟨_, _, _, _, _, _, rfl, ?_⟩ | refine ⟨_, _, _, _, _, _, _, rfl, ?_⟩ | refine ⟨_, _, _, _, _, _, _, _, rfl, ?_⟩ | refine ⟨_, _, _, _, _, _, _, _, _, rfl, ?_⟩)
    | ((with_reducible show RUNU _ (storeVar _ ⟨_, _, _⟩ (.agg _)) _ _); refine h.stG fun w' h => ?_)
    | ((with_reducible show RUNU _ (storeVar _ ⟨_, _, _⟩ _) _ _); refine h.stV fun w' h => ?_))
  obtain ⟨x, hx⟩ := ex_get (L := C) (j := s + j) (by omega)
  have hrd : RdIn (own 5 1 out j k' (bvs ((C.drop s).take j)) :: blk p 93 (ovs A C.length k base sz cl dn) :: L) A (C.flatMap fun b => [bv b]) := by
    rw [← bvs_flat]; exact RdIn.more (RdIn.more (RdIn.rows hA))
  refine h.ix (z := 0) hrd hx fun a ha => ?_
  subst ha
  refine h.rdWI hrd hx ?_
  refine h.app1 undBytes2 tiU8 [bv x] .head (flat_all rfl) (by omega) fun A1 k1 w' h => ?_
  refine leti (y := ((s + (j + 1) : Nat) : Int)) (by rw [u64_id (by omega) (by omega)]; omega) ⟨m - 1, by omega, j + 1, by omega, rfl, rfl, by omega, ?_⟩
  have e : bvs ((C.drop s).take j) ++ [bv x] = bvs ((C.drop s).take (j + 1)) := by
    rw [take_snoc' (L := C.drop s) (x := x) (by rw [List.getElem?_drop]; exact hx)]
    simp [bvs]
  rw [e] at h
  exact h
end Go.Br
