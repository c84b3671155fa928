/- The document's path, walked. -/
import Derived.Test.YtggajodoaooafaaNLinkPlay
import Derived.Test.YtggajodoaooafaaLinkKeep2
set_option linter.unusedVariables false
set_option linter.unusedSimpArgs false
set_option linter.unnecessarySimpa false
namespace Go.Br
open Go
attribute [local irreducible] Addr.add

theorem tiL : TI PG 76 14 128 (.agg #[.int .i64 0, .int .i64 0, .int .i64 0, .int .i64 0, .int .i64 0, .int .i64 0, .int .u64 0, .int .i64 0, .slice none 0 0, .int .i64 0, .int .i64 0, .int .i64 0, .int .i64 0, .int .i64 0]) := tiOf (by kernel_rfl)
theorem tiP : TI PG 170 2 24 (.agg #[.int .i64 0, .string (ByteArray.mk #[])]) := tiOf (by kernel_rfl)
theorem huPs : PG.underlying 74 = some (.slice 170) := by kernel_rfl
/-- A packet under way, of the document. -/
structure Pk where
  tm : Int
  b : ByteArray
def pkc (x : Pk) : List Value := [.int .i64 x.tm, .string x.b]
abbrev pkcv (x : Pk) : Value := .agg #[.int .i64 x.tm, .string x.b]
theorem pkc_length (x : Pk) : (pkc x).length = 2 := rfl
theorem pkc_flat1 (x : Pk) : Flat (pkc x) := by intro v hv; simp [pkc] at hv; rcases hv with rfl | rfl <;> rfl
theorem pkc_flat (L : List Pk) : Flat (L.flatMap pkc) := by
  intro v hv
  simp only [List.mem_flatMap] at hv
  obtain ⟨x, _, hx⟩ := hv
  exact pkc_flat1 x v hx
/-- The document's path. -/
structure Ds where
  m : Mo
  x : Int
  now : Int
  sent : Int
  lost : Int
  full : Int
  dbl : Int
  came : Int
  W : List Pk
abbrev dcs (d : Ds) (A : Option Addr) (k : Nat) : List Value := [.int .i64 d.m.d, .int .i64 d.m.j, .int .i64 d.m.lo, .int .i64 d.m.db, .int .i64 d.m.q, .int .i64 d.m.r, .int .u64 d.x, .int .i64 d.now, .slice A d.W.length k, .int .i64 d.sent, .int .i64 d.lost, .int .i64 d.full, .int .i64 d.dbl, .int .i64 d.came]
abbrev dv (d : Ds) (A : Option Addr) (k : Nat) : Value := .agg #[.int .i64 d.m.d, .int .i64 d.m.j, .int .i64 d.m.lo, .int .i64 d.m.db, .int .i64 d.m.q, .int .i64 d.m.r, .int .u64 d.x, .int .i64 d.now, .slice A d.W.length k, .int .i64 d.sent, .int .i64 d.lost, .int .i64 d.full, .int .i64 d.dbl, .int .i64 d.came]
abbrev dz : List Value := dcs ⟨⟨0, 0, 0, 0, 0, 0⟩, 0, 0, 0, 0, 0, 0, 0, []⟩ none 0
section
variable {c : Ctx} {w : World} {L R : List SA}
def ds0 (m : Mo) (seed : Int) : Ds := ⟨m, sd seed, 0, 0, 0, 0, 0, 0, []⟩
theorem rnew_ok (h : St c w L) {m : Mo} {seed : Int} {Q : Value → World → Prop} (hk : ∀ w', St c w' L → Q (dv (ds0 m seed) none 0) w') : CALL PG 34 [mov m, .int .u64 seed] w Q := by
  refine call34 ?_
  unfold N34
  have eb : ∀ (x : Int) w, (Instr.build 76 #[(0, mov m), (1, .int .u64 x)]).run PG w = .ok (dv ⟨m, x, 0, 0, 0, 0, 0, 0, []⟩ none 0) w := by intro x w; kernel_rfl
  refine h.box fun a2 w' h => ?_
  refine h.allocG tiL fun a4 w' h => ?_
  refine ifq (fun h0 => ?_) fun h0 => ?_
  · repeat' (first
      | ((with_reducible show NILC (some _) _); refine nilc ?_)
      | ((with_reducible show RDI _ (loadVar _ (Addr.add (Addr.add ⟨_, 0, none⟩ _) _)) _ _ _); refine h.rdI2 _ _ ?_)
      | ((with_reducible show RDB _ (loadVar _ (Addr.add (Addr.add ⟨_, 0, none⟩ _) _)) _ _); refine h.rdB2 _ _ ?_)
      | ((with_reducible show RDP _ (loadVar _ (Addr.add (Addr.add ⟨_, 0, none⟩ _) _)) _ _); refine h.rdP2 _ _ ?_)
      | ((with_reducible show RDL _ (loadVar _ (Addr.add (Addr.add ⟨_, 0, none⟩ _) _)) _ _); refine h.rdL2 _ _ ?_)
      | ((with_reducible show RDI _ (loadVar _ (Addr.add _ _)) _ _ _); refine h.rdI _ ?_)
      | ((with_reducible show RDB _ (loadVar _ (Addr.add _ _)) _ _); refine h.rdB _ ?_)
      | ((with_reducible show RDP _ (loadVar _ (Addr.add _ _)) _ _); refine h.rdP _ ?_)
      | ((with_reducible show RDL _ (loadVar _ (Addr.add _ _)) _ _); refine h.rdL _ ?_)
      | ((with_reducible show RDT _ (loadVar _ (Addr.add _ _)) _ _); refine h.rdT _ ?_)
      | ((with_reducible show RUNU _ (storeVar _ (Addr.add (Addr.add ⟨_, 0, none⟩ _) _) _) _ _); refine h.st2 _ _ fun w' h => ?_)
      | ((with_reducible show RUNU _ (storeVar _ (Addr.add _ _) _) _ _); refine h.st _ fun w' h => ?_)
      | ((with_reducible show RDI _ (loadVar _ ⟨_, _, _⟩) _ _ _); refine h.rdvI ?_)
      | ((with_reducible show RDB _ (loadVar _ ⟨_, _, _⟩) _ _); refine h.rdvB ?_)
      | ((with_reducible show RDP _ (loadVar _ ⟨_, _, _⟩) _ _); refine h.rdvP ?_)
      | ((with_reducible show RDL _ (loadVar _ ⟨_, _, _⟩) _ _); refine h.rdvL ?_)
      | ((with_reducible show RDT _ (loadVar _ ⟨_, _, _⟩) _ _); refine h.rdvT ?_)
      | ((with_reducible show RD _ (loadVar _ ⟨_, _, _⟩) _ _); refine h.rdG ?_; first | refine ⟨_, rfl, ?_⟩ | refine ⟨_, _, rfl, ?_⟩ | refine ⟨_, _, _, rfl, ?_⟩ | refine ⟨_, _, _, _, rfl, ?_⟩ | refine ⟨_, _, _, _, _, rfl, ?_⟩ | refine ⟨_, _, _, _, _, _, rfl, ?_⟩ | refine ⟨_, _, _, _, _, _, _, rfl, ?_⟩ | refine ⟨_, _, _, _, _, _, _, _, rfl, ?_⟩ | refine ⟨_, _, _, _, _, _, _, _, _, rfl, ?_⟩)
      | ((with_reducible show RUNU _ (storeVar _ ⟨_, _, _⟩ (.agg _)) _ _); refine h.stG fun w' h => ?_)
      | ((with_reducible show RUNU _ (storeVar _ ⟨_, _, _⟩ _) _ _); refine h.stV fun w' h => ?_))
    refine RD.of (eb _ _) ⟨_, _, _, _, _, _, _, _, _, _, _, _, _, _, _, _, rfl, ?_⟩
    refine h.stG fun w' h => ?_
    refine h.rdG ⟨_, _, _, _, _, _, _, _, _, _, _, _, _, _, _, _, rfl, ?_⟩
    have := hk _ h.drop.drop
    unfold ds0 sd at this
    rw [if_pos h0] at this
    exact this
  · repeat' (first
      | ((with_reducible show NILC (some _) _); refine nilc ?_)
      | ((with_reducible show RDI _ (loadVar _ (Addr.add (Addr.add ⟨_, 0, none⟩ _) _)) _ _ _); refine h.rdI2 _ _ ?_)
      | ((with_reducible show RDB _ (loadVar _ (Addr.add (Addr.add ⟨_, 0, none⟩ _) _)) _ _); refine h.rdB2 _ _ ?_)
      | ((with_reducible show RDP _ (loadVar _ (Addr.add (Addr.add ⟨_, 0, none⟩ _) _)) _ _); refine h.rdP2 _ _ ?_)
      | ((with_reducible show RDL _ (loadVar _ (Addr.add (Addr.add ⟨_, 0, none⟩ _) _)) _ _); refine h.rdL2 _ _ ?_)
      | ((with_reducible show RDI _ (loadVar _ (Addr.add _ _)) _ _ _); refine h.rdI _ ?_)
      | ((with_reducible show RDB _ (loadVar _ (Addr.add _ _)) _ _); refine h.rdB _ ?_)
      | ((with_reducible show RDP _ (loadVar _ (Addr.add _ _)) _ _); refine h.rdP _ ?_)
      | ((with_reducible show RDL _ (loadVar _ (Addr.add _ _)) _ _); refine h.rdL _ ?_)
      | ((with_reducible show RDT _ (loadVar _ (Addr.add _ _)) _ _); refine h.rdT _ ?_)
      | ((with_reducible show RUNU _ (storeVar _ (Addr.add (Addr.add ⟨_, 0, none⟩ _) _) _) _ _); refine h.st2 _ _ fun w' h => ?_)
      | ((with_reducible show RUNU _ (storeVar _ (Addr.add _ _) _) _ _); refine h.st _ fun w' h => ?_)
      | ((with_reducible show RDI _ (loadVar _ ⟨_, _, _⟩) _ _ _); refine h.rdvI ?_)
      | ((with_reducible show RDB _ (loadVar _ ⟨_, _, _⟩) _ _); refine h.rdvB ?_)
      | ((with_reducible show RDP _ (loadVar _ ⟨_, _, _⟩) _ _); refine h.rdvP ?_)
      | ((with_reducible show RDL _ (loadVar _ ⟨_, _, _⟩) _ _); refine h.rdvL ?_)
      | ((with_reducible show RDT _ (loadVar _ ⟨_, _, _⟩) _ _); refine h.rdvT ?_)
      | ((with_reducible show RD _ (loadVar _ ⟨_, _, _⟩) _ _); refine h.rdG ?_; first | refine ⟨_, rfl, ?_⟩ | refine ⟨_, _, rfl, ?_⟩ | refine ⟨_, _, _, rfl, ?_⟩ | refine ⟨_, _, _, _, rfl, ?_⟩ | refine ⟨_, _, _, _, _, rfl, ?_⟩ | refine ⟨_, _, _, _, _, _, rfl, ?_⟩ | refine ⟨_, _, _, _, _, _, _, rfl, ?_⟩ | refine ⟨_, _, _, _, _, _, _, _, rfl, ?_⟩ | refine ⟨_, _, _, _, _, _, _, _, _, rfl, ?_⟩)
      | ((with_reducible show RUNU _ (storeVar _ ⟨_, _, _⟩ (.agg _)) _ _); refine h.stG fun w' h => ?_)
      | ((with_reducible show RUNU _ (storeVar _ ⟨_, _, _⟩ _) _ _); refine h.stV fun w' h => ?_))
    refine RD.of (eb _ _) ⟨_, _, _, _, _, _, _, _, _, _, _, _, _, _, _, _, rfl, ?_⟩
    refine h.stG fun w' h => ?_
    refine h.rdG ⟨_, _, _, _, _, _, _, _, _, _, _, _, _, _, _, _, rfl, ?_⟩
    have := hk _ h.drop.drop
    unfold ds0 sd at this
    rw [if_neg h0] at this
    exact this
theorem rbelow_ok (h : St c w L) {d : Ds} {A : Option Addr} {k : Nat} {n : Int} (hn : 1 ≤ n) (hn' : n ≤ 1000000) {Q : Value → World → Prop} (hk : ∀ w', St c w' L → Q (.tuple #[dv { d with x := nx d.x } A k, .int .i64 (bl d.x n)]) w') : CALL PG 85 [dv d A k, .int .i64 n] w Q := by
  refine call85 ?_
  unfold N85
  refine h.box fun a2 w' h => ?_
  refine h.allocG tiL fun a4 w' h => ?_
  repeat' (first
    | ((with_reducible show NILC (some _) _); refine nilc ?_)
    | ((with_reducible show RDI _ (loadVar _ (Addr.add (Addr.add ⟨_, 0, none⟩ _) _)) _ _ _); refine h.rdI2 _ _ ?_)
    | ((with_reducible show RDB _ (loadVar _ (Addr.add (Addr.add ⟨_, 0, none⟩ _) _)) _ _); refine h.rdB2 _ _ ?_)
    | ((with_reducible show RDP _ (loadVar _ (Addr.add (Addr.add ⟨_, 0, none⟩ _) _)) _ _); refine h.rdP2 _ _ ?_)
    | ((with_reducible show RDL _ (loadVar _ (Addr.add (Addr.add ⟨_, 0, none⟩ _) _)) _ _); refine h.rdL2 _ _ ?_)
    | ((with_reducible show RDI _ (loadVar _ (Addr.add _ _)) _ _ _); refine h.rdI _ ?_)
    | ((with_reducible show RDB _ (loadVar _ (Addr.add _ _)) _ _); refine h.rdB _ ?_)
    | ((with_reducible show RDP _ (loadVar _ (Addr.add _ _)) _ _); refine h.rdP _ ?_)
    | ((with_reducible show RDL _ (loadVar _ (Addr.add _ _)) _ _); refine h.rdL _ ?_)
    | ((with_reducible show RDT _ (loadVar _ (Addr.add _ _)) _ _); refine h.rdT _ ?_)
    | ((with_reducible show RUNU _ (storeVar _ (Addr.add (Addr.add ⟨_, 0, none⟩ _) _) _) _ _); refine h.st2 _ _ fun w' h => ?_)
    | ((with_reducible show RUNU _ (storeVar _ (Addr.add _ _) _) _ _); refine h.st _ fun w' h => ?_)
    | ((with_reducible show RDI _ (loadVar _ ⟨_, _, _⟩) _ _ _); refine h.rdvI ?_)
    | ((with_reducible show RDB _ (loadVar _ ⟨_, _, _⟩) _ _); refine h.rdvB ?_)
    | ((with_reducible show RDP _ (loadVar _ ⟨_, _, _⟩) _ _); refine h.rdvP ?_)
    | ((with_reducible show RDL _ (loadVar _ ⟨_, _, _⟩) _ _); refine h.rdvL ?_)
    | ((with_reducible show RDT _ (loadVar _ ⟨_, _, _⟩) _ _); refine h.rdvT ?_)
    | ((with_reducible show RD _ (loadVar _ ⟨_, _, _⟩) _ _); refine h.rdG ?_; first | refine ⟨_, rfl, ?_⟩ | refine ⟨_, _, rfl, ?_⟩ | refine ⟨_, _, _, rfl, ?_⟩ | refine ⟨_, _, _, _, rfl, ?_⟩ | refine ⟨_, _, _, _, _, rfl, ?_⟩ | refine ⟨_, _, _, _, _, _, rfl, ?_⟩ | refine ⟨_, _, _, _, _, _, _, rfl, ?_⟩ | refine ⟨_, _, _, _, _, _, _, _, rfl, ?_⟩ | refine ⟨_, _, _, _, _, _, _, _, _, rfl, ?_⟩)
    | ((with_reducible show RUNU _ (storeVar _ ⟨_, _, _⟩ (.agg _)) _ _); refine h.stG fun w' h => ?_)
    | ((with_reducible show RUNU _ (storeVar _ ⟨_, _, _⟩ _) _ _); refine h.stV fun w' h => ?_))
  refine rnext_ok ⟨_, rfl, ?_⟩
  repeat' (first
    | ((with_reducible show NILC (some _) _); refine nilc ?_)
    | ((with_reducible show RDI _ (loadVar _ (Addr.add (Addr.add ⟨_, 0, none⟩ _) _)) _ _ _); refine h.rdI2 _ _ ?_)
    | ((with_reducible show RDB _ (loadVar _ (Addr.add (Addr.add ⟨_, 0, none⟩ _) _)) _ _); refine h.rdB2 _ _ ?_)
    | ((with_reducible show RDP _ (loadVar _ (Addr.add (Addr.add ⟨_, 0, none⟩ _) _)) _ _); refine h.rdP2 _ _ ?_)
    | ((with_reducible show RDL _ (loadVar _ (Addr.add (Addr.add ⟨_, 0, none⟩ _) _)) _ _); refine h.rdL2 _ _ ?_)
    | ((with_reducible show RDI _ (loadVar _ (Addr.add _ _)) _ _ _); refine h.rdI _ ?_)
    | ((with_reducible show RDB _ (loadVar _ (Addr.add _ _)) _ _); refine h.rdB _ ?_)
    | ((with_reducible show RDP _ (loadVar _ (Addr.add _ _)) _ _); refine h.rdP _ ?_)
    | ((with_reducible show RDL _ (loadVar _ (Addr.add _ _)) _ _); refine h.rdL _ ?_)
    | ((with_reducible show RDT _ (loadVar _ (Addr.add _ _)) _ _); refine h.rdT _ ?_)
    | ((with_reducible show RUNU _ (storeVar _ (Addr.add (Addr.add ⟨_, 0, none⟩ _) _) _) _ _); refine h.st2 _ _ fun w' h => ?_)
    | ((with_reducible show RUNU _ (storeVar _ (Addr.add _ _) _) _ _); refine h.st _ fun w' h => ?_)
    | ((with_reducible show RDI _ (loadVar _ ⟨_, _, _⟩) _ _ _); refine h.rdvI ?_)
    | ((with_reducible show RDB _ (loadVar _ ⟨_, _, _⟩) _ _); refine h.rdvB ?_)
    | ((with_reducible show RDP _ (loadVar _ ⟨_, _, _⟩) _ _); refine h.rdvP ?_)
    | ((with_reducible show RDL _ (loadVar _ ⟨_, _, _⟩) _ _); refine h.rdvL ?_)
    | ((with_reducible show RDT _ (loadVar _ ⟨_, _, _⟩) _ _); refine h.rdvT ?_)
    | ((with_reducible show RD _ (loadVar _ ⟨_, _, _⟩) _ _); refine h.rdG ?_; first | refine ⟨_, rfl, ?_⟩ | refine ⟨_, _, rfl, ?_⟩ | refine ⟨_, _, _, rfl, ?_⟩ | refine ⟨_, _, _, _, rfl, ?_⟩ | refine ⟨_, _, _, _, _, rfl, ?_⟩ | refine ⟨_, _, _, _, _, _, rfl, ?_⟩ | refine ⟨_, _, _, _, _, _, _, rfl, ?_⟩ | refine ⟨_, _, _, _, _, _, _, _, rfl, ?_⟩ | refine ⟨_, _, _, _, _, _, _, _, _, rfl, ?_⟩)
    | ((with_reducible show RUNU _ (storeVar _ ⟨_, _, _⟩ (.agg _)) _ _); refine h.stG fun w' h => ?_)
    | ((with_reducible show RUNU _ (storeVar _ ⟨_, _, _⟩ _) _ _); refine h.stV fun w' h => ?_))
  have h := h.drew
  have h1 : St c w'.drew [blk a2 76 (dcs { d with x := nx d.x } A k)] := h.to
  refine ⟨fun w => St c w [blk a2 76 (dcs { d with x := nx d.x } A k)], h1, ?_⟩
  refine St.rdsG ⟨_, _, _, _, _, _, _, _, _, _, _, _, _, _, _, _, rfl, ?_⟩
  refine St.rdsI 6 ⟨by rw [u64w (by omega) (by omega)]; omega, ?_⟩
  refine h.stG fun w' h => ?_
  refine ⟨fun w => St c w [blk a2 76 (dcs { d with x := nx d.x } A k)], fun _ h => h, h.to, ?_⟩
  refine leti rfl ?_
  refine h.rdG ⟨_, _, _, _, _, _, _, _, _, _, _, _, _, _, _, _, rfl, ?_⟩
  exact hk _ h.drop.drop
def dlate (d : Ds) : Int := if d.m.j > 0 then bl d.x (d.m.j + 1) else 0
def ddrawn (d : Ds) : Int := if d.m.j > 0 then nx d.x else d.x
theorem snoc_cases {α : Type} (U : List α) : U = [] ∨ ∃ V y, U = V ++ [y] := by
  rcases List.eq_nil_or_concat U with h | ⟨V, y, h⟩
  · exact .inl h
  · exact .inr ⟨V, y, by rw [h, List.concat_eq_append]⟩
theorem swap_last {α : Type} {U V : List α} {x y : α} : ((U ++ [y] ++ x :: V).set (U ++ [y]).length y).set U.length x = U ++ x :: y :: V := by
  rw [List.set_append_right _ _ (Nat.le_refl _), Nat.sub_self, List.append_assoc, List.set_append_right _ _ (Nat.le_refl _), Nat.sub_self]
  rfl
/-- Where a packet goes: behind those that arrive no later. -/
structure Put (W : List Pk) (t : Int) (A B : List Pk) : Prop where
  e : W = A ++ B
  b : ∀ y ∈ B, t < y.tm
  a : ∀ y, A.getLast? = some y → y.tm ≤ t
theorem rput_ok {X : SA} (h : St c w (X :: L)) {d : Ds} {A : Option Addr} {k : Nat} {b : ByteArray} (hr : RdIn (X :: L) A (d.W.flatMap pkc)) (hR : RightM d.m) (hnow : 0 ≤ d.now ∧ d.now ≤ 100000) (hf : 0 ≤ d.full ∧ d.full ≤ 1000000) (hl : (d.W.length : Int) ≤ 256) {Q : Value → World → Prop}
    (hfull : d.m.q ≤ (d.W.length : Int) → ∀ w', St c w' (X :: L) → Q (dv { d with full := d.full + 1 } A k) w')
    (hk : ¬ d.m.q ≤ (d.W.length : Int) → ∀ U V A' k' w', Put d.W (d.now + d.m.d + dlate d) U V → St c w' (own 170 2 A' (U ++ ⟨d.now + d.m.d + dlate d, b⟩ :: V).length k' ((U ++ ⟨d.now + d.m.d + dlate d, b⟩ :: V).flatMap pkc) :: L) → Q (dv { d with x := ddrawn d, W := U ++ ⟨d.now + d.m.d + dlate d, b⟩ :: V } A' k') w') :
    CALL PG 86 [dv d A k, .string b] w Q := by
  obtain ⟨m1, m2, m3, m4, m5, m6⟩ := id hR
  refine call86 ?_
  unfold N86
  refine h.box fun a2 w' h => ?_
  refine h.allocG tiL fun a4 w' h => ?_
  repeat' (first
    | ((with_reducible show NILC (some _) _); refine nilc ?_)
    | ((with_reducible show RDI _ (loadVar _ (Addr.add (Addr.add ⟨_, 0, none⟩ _) _)) _ _ _); refine h.rdI2 _ _ ?_)
    | ((with_reducible show RDB _ (loadVar _ (Addr.add (Addr.add ⟨_, 0, none⟩ _) _)) _ _); refine h.rdB2 _ _ ?_)
    | ((with_reducible show RDP _ (loadVar _ (Addr.add (Addr.add ⟨_, 0, none⟩ _) _)) _ _); refine h.rdP2 _ _ ?_)
    | ((with_reducible show RDL _ (loadVar _ (Addr.add (Addr.add ⟨_, 0, none⟩ _) _)) _ _); refine h.rdL2 _ _ ?_)
    | ((with_reducible show RDI _ (loadVar _ (Addr.add _ _)) _ _ _); refine h.rdI _ ?_)
    | ((with_reducible show RDB _ (loadVar _ (Addr.add _ _)) _ _); refine h.rdB _ ?_)
    | ((with_reducible show RDP _ (loadVar _ (Addr.add _ _)) _ _); refine h.rdP _ ?_)
    | ((with_reducible show RDL _ (loadVar _ (Addr.add _ _)) _ _); refine h.rdL _ ?_)
    | ((with_reducible show RDT _ (loadVar _ (Addr.add _ _)) _ _); refine h.rdT _ ?_)
    | ((with_reducible show RUNU _ (storeVar _ (Addr.add (Addr.add ⟨_, 0, none⟩ _) _) _) _ _); refine h.st2 _ _ fun w' h => ?_)
    | ((with_reducible show RUNU _ (storeVar _ (Addr.add _ _) _) _ _); refine h.st _ fun w' h => ?_)
    | ((with_reducible show RDI _ (loadVar _ ⟨_, _, _⟩) _ _ _); refine h.rdvI ?_)
    | ((with_reducible show RDB _ (loadVar _ ⟨_, _, _⟩) _ _); refine h.rdvB ?_)
    | ((with_reducible show RDP _ (loadVar _ ⟨_, _, _⟩) _ _); refine h.rdvP ?_)
    | ((with_reducible show RDL _ (loadVar _ ⟨_, _, _⟩) _ _); refine h.rdvL ?_)
    | ((with_reducible show RDT _ (loadVar _ ⟨_, _, _⟩) _ _); refine h.rdvT ?_)
    | ((with_reducible show RD _ (loadVar _ ⟨_, _, _⟩) _ _); refine h.rdG ?_; first | refine ⟨_, rfl, ?_⟩ | refine ⟨_, _, rfl, ?_⟩ | refine ⟨_, _, _, rfl, ?_⟩ | refine ⟨_, _, _, _, rfl, ?_⟩ | refine ⟨_, _, _, _, _, rfl, ?_⟩ | refine ⟨_, _, _, _, _, _, rfl, ?_⟩ | refine ⟨_, _, _, _, _, _, _, rfl, ?_⟩ | refine ⟨_, _, _, _, _, _, _, _, rfl, ?_⟩ | refine ⟨_, _, _, _, _, _, _, _, _, rfl, ?_⟩)
    | ((with_reducible show RUNU _ (storeVar _ ⟨_, _, _⟩ (.agg _)) _ _); refine h.stG fun w' h => ?_)
    | ((with_reducible show RUNU _ (storeVar _ ⟨_, _, _⟩ _) _ _); refine h.stV fun w' h => ?_))
  refine ifd (fun hq => ?_) fun hq => ?_
  · repeat' (first
      | ((with_reducible show NILC (some _) _); refine nilc ?_)
      | ((with_reducible show RDI _ (loadVar _ (Addr.add (Addr.add ⟨_, 0, none⟩ _) _)) _ _ _); refine h.rdI2 _ _ ?_)
      | ((with_reducible show RDB _ (loadVar _ (Addr.add (Addr.add ⟨_, 0, none⟩ _) _)) _ _); refine h.rdB2 _ _ ?_)
      | ((with_reducible show RDP _ (loadVar _ (Addr.add (Addr.add ⟨_, 0, none⟩ _) _)) _ _); refine h.rdP2 _ _ ?_)
      | ((with_reducible show RDL _ (loadVar _ (Addr.add (Addr.add ⟨_, 0, none⟩ _) _)) _ _); refine h.rdL2 _ _ ?_)
      | ((with_reducible show RDI _ (loadVar _ (Addr.add _ _)) _ _ _); refine h.rdI _ ?_)
      | ((with_reducible show RDB _ (loadVar _ (Addr.add _ _)) _ _); refine h.rdB _ ?_)
      | ((with_reducible show RDP _ (loadVar _ (Addr.add _ _)) _ _); refine h.rdP _ ?_)
      | ((with_reducible show RDL _ (loadVar _ (Addr.add _ _)) _ _); refine h.rdL _ ?_)
      | ((with_reducible show RDT _ (loadVar _ (Addr.add _ _)) _ _); refine h.rdT _ ?_)
      | ((with_reducible show RUNU _ (storeVar _ (Addr.add (Addr.add ⟨_, 0, none⟩ _) _) _) _ _); refine h.st2 _ _ fun w' h => ?_)
      | ((with_reducible show RUNU _ (storeVar _ (Addr.add _ _) _) _ _); refine h.st _ fun w' h => ?_)
      | ((with_reducible show RDI _ (loadVar _ ⟨_, _, _⟩) _ _ _); refine h.rdvI ?_)
      | ((with_reducible show RDB _ (loadVar _ ⟨_, _, _⟩) _ _); refine h.rdvB ?_)
      | ((with_reducible show RDP _ (loadVar _ ⟨_, _, _⟩) _ _); refine h.rdvP ?_)
      | ((with_reducible show RDL _ (loadVar _ ⟨_, _, _⟩) _ _); refine h.rdvL ?_)
      | ((with_reducible show RDT _ (loadVar _ ⟨_, _, _⟩) _ _); refine h.rdvT ?_)
      | ((with_reducible show RD _ (loadVar _ ⟨_, _, _⟩) _ _); refine h.rdG ?_; first | refine ⟨_, rfl, ?_⟩ | refine ⟨_, _, rfl, ?_⟩ | refine ⟨_, _, _, rfl, ?_⟩ | refine ⟨_, _, _, _, rfl, ?_⟩ | refine ⟨_, _, _, _, _, rfl, ?_⟩ | refine ⟨_, _, _, _, _, _, rfl, ?_⟩ | refine ⟨_, _, _, _, _, _, _, rfl, ?_⟩ | refine ⟨_, _, _, _, _, _, _, _, rfl, ?_⟩ | refine ⟨_, _, _, _, _, _, _, _, _, rfl, ?_⟩)
      | ((with_reducible show RUNU _ (storeVar _ ⟨_, _, _⟩ (.agg _)) _ _); refine h.stG fun w' h => ?_)
      | ((with_reducible show RUNU _ (storeVar _ ⟨_, _, _⟩ _) _ _); refine h.stV fun w' h => ?_))
    rw [wrap_i64 (by omega) (by omega)] at h
    refine h.rdG ⟨_, _, _, _, _, _, _, _, _, _, _, _, _, _, _, _, rfl, ?_⟩
    refine h.stG fun w' h => ?_
    refine h.rdG ⟨_, _, _, _, _, _, _, _, _, _, _, _, _, _, _, _, rfl, ?_⟩
    exact hfull hq _ h.drop.drop
  have hlate : 0 ≤ dlate d ∧ dlate d ≤ 256 := by
    unfold dlate
    split
    · have := bl_rng d.x (n := d.m.j + 1) (by omega) (by omega)
      omega
    · omega
  refine ⟨fun la w' => la = dlate d ∧ St c w' (blk a2 76 (dcs { d with x := ddrawn d } A k) :: blk a4 76 dz :: X :: L), ?_, ?_⟩
  · repeat' (first
      | ((with_reducible show NILC (some _) _); refine nilc ?_)
      | ((with_reducible show RDI _ (loadVar _ (Addr.add (Addr.add ⟨_, 0, none⟩ _) _)) _ _ _); refine h.rdI2 _ _ ?_)
      | ((with_reducible show RDB _ (loadVar _ (Addr.add (Addr.add ⟨_, 0, none⟩ _) _)) _ _); refine h.rdB2 _ _ ?_)
      | ((with_reducible show RDP _ (loadVar _ (Addr.add (Addr.add ⟨_, 0, none⟩ _) _)) _ _); refine h.rdP2 _ _ ?_)
      | ((with_reducible show RDL _ (loadVar _ (Addr.add (Addr.add ⟨_, 0, none⟩ _) _)) _ _); refine h.rdL2 _ _ ?_)
      | ((with_reducible show RDI _ (loadVar _ (Addr.add _ _)) _ _ _); refine h.rdI _ ?_)
      | ((with_reducible show RDB _ (loadVar _ (Addr.add _ _)) _ _); refine h.rdB _ ?_)
      | ((with_reducible show RDP _ (loadVar _ (Addr.add _ _)) _ _); refine h.rdP _ ?_)
      | ((with_reducible show RDL _ (loadVar _ (Addr.add _ _)) _ _); refine h.rdL _ ?_)
      | ((with_reducible show RDT _ (loadVar _ (Addr.add _ _)) _ _); refine h.rdT _ ?_)
      | ((with_reducible show RUNU _ (storeVar _ (Addr.add (Addr.add ⟨_, 0, none⟩ _) _) _) _ _); refine h.st2 _ _ fun w' h => ?_)
      | ((with_reducible show RUNU _ (storeVar _ (Addr.add _ _) _) _ _); refine h.st _ fun w' h => ?_)
      | ((with_reducible show RDI _ (loadVar _ ⟨_, _, _⟩) _ _ _); refine h.rdvI ?_)
      | ((with_reducible show RDB _ (loadVar _ ⟨_, _, _⟩) _ _); refine h.rdvB ?_)
      | ((with_reducible show RDP _ (loadVar _ ⟨_, _, _⟩) _ _); refine h.rdvP ?_)
      | ((with_reducible show RDL _ (loadVar _ ⟨_, _, _⟩) _ _); refine h.rdvL ?_)
      | ((with_reducible show RDT _ (loadVar _ ⟨_, _, _⟩) _ _); refine h.rdvT ?_)
      | ((with_reducible show RD _ (loadVar _ ⟨_, _, _⟩) _ _); refine h.rdG ?_; first | refine ⟨_, rfl, ?_⟩ | refine ⟨_, _, rfl, ?_⟩ | refine ⟨_, _, _, rfl, ?_⟩ | refine ⟨_, _, _, _, rfl, ?_⟩ | refine ⟨_, _, _, _, _, rfl, ?_⟩ | refine ⟨_, _, _, _, _, _, rfl, ?_⟩ | refine ⟨_, _, _, _, _, _, _, rfl, ?_⟩ | refine ⟨_, _, _, _, _, _, _, _, rfl, ?_⟩ | refine ⟨_, _, _, _, _, _, _, _, _, rfl, ?_⟩)
      | ((with_reducible show RUNU _ (storeVar _ ⟨_, _, _⟩ (.agg _)) _ _); refine h.stG fun w' h => ?_)
      | ((with_reducible show RUNU _ (storeVar _ ⟨_, _, _⟩ _) _ _); refine h.stV fun w' h => ?_))
    refine ifd (fun hj => ?_) fun hj => ?_
    · refine h.rdG ⟨_, _, _, _, _, _, _, _, _, _, _, _, _, _, _, _, rfl, ?_⟩
      repeat' (first
        | ((with_reducible show NILC (some _) _); refine nilc ?_)
        | ((with_reducible show RDI _ (loadVar _ (Addr.add (Addr.add ⟨_, 0, none⟩ _) _)) _ _ _); refine h.rdI2 _ _ ?_)
        | ((with_reducible show RDB _ (loadVar _ (Addr.add (Addr.add ⟨_, 0, none⟩ _) _)) _ _); refine h.rdB2 _ _ ?_)
        | ((with_reducible show RDP _ (loadVar _ (Addr.add (Addr.add ⟨_, 0, none⟩ _) _)) _ _); refine h.rdP2 _ _ ?_)
        | ((with_reducible show RDL _ (loadVar _ (Addr.add (Addr.add ⟨_, 0, none⟩ _) _)) _ _); refine h.rdL2 _ _ ?_)
        | ((with_reducible show RDI _ (loadVar _ (Addr.add _ _)) _ _ _); refine h.rdI _ ?_)
        | ((with_reducible show RDB _ (loadVar _ (Addr.add _ _)) _ _); refine h.rdB _ ?_)
        | ((with_reducible show RDP _ (loadVar _ (Addr.add _ _)) _ _); refine h.rdP _ ?_)
        | ((with_reducible show RDL _ (loadVar _ (Addr.add _ _)) _ _); refine h.rdL _ ?_)
        | ((with_reducible show RDT _ (loadVar _ (Addr.add _ _)) _ _); refine h.rdT _ ?_)
        | ((with_reducible show RUNU _ (storeVar _ (Addr.add (Addr.add ⟨_, 0, none⟩ _) _) _) _ _); refine h.st2 _ _ fun w' h => ?_)
        | ((with_reducible show RUNU _ (storeVar _ (Addr.add _ _) _) _ _); refine h.st _ fun w' h => ?_)
        | ((with_reducible show RDI _ (loadVar _ ⟨_, _, _⟩) _ _ _); refine h.rdvI ?_)
        | ((with_reducible show RDB _ (loadVar _ ⟨_, _, _⟩) _ _); refine h.rdvB ?_)
        | ((with_reducible show RDP _ (loadVar _ ⟨_, _, _⟩) _ _); refine h.rdvP ?_)
        | ((with_reducible show RDL _ (loadVar _ ⟨_, _, _⟩) _ _); refine h.rdvL ?_)
        | ((with_reducible show RDT _ (loadVar _ ⟨_, _, _⟩) _ _); refine h.rdvT ?_)
        | ((with_reducible show RD _ (loadVar _ ⟨_, _, _⟩) _ _); refine h.rdG ?_; first | refine ⟨_, rfl, ?_⟩ | refine ⟨_, _, rfl, ?_⟩ | refine ⟨_, _, _, rfl, ?_⟩ | refine ⟨_, _, _, _, rfl, ?_⟩ | refine ⟨_, _, _, _, _, rfl, ?_⟩ | refine ⟨_, _, _, _, _, _, rfl, ?_⟩ | refine ⟨_, _, _, _, _, _, _, rfl, ?_⟩ | refine ⟨_, _, _, _, _, _, _, _, rfl, ?_⟩ | refine ⟨_, _, _, _, _, _, _, _, _, rfl, ?_⟩)
        | ((with_reducible show RUNU _ (storeVar _ ⟨_, _, _⟩ (.agg _)) _ _); refine h.stG fun w' h => ?_)
        | ((with_reducible show RUNU _ (storeVar _ ⟨_, _, _⟩ _) _ _); refine h.stV fun w' h => ?_))
      rw [wrap_i64 (by omega) (by omega)]
      refine rbelow_ok h (d := d) (A := A) (k := k) (by omega) (by omega) fun w' h => ⟨_, _, _, _, _, _, _, _, _, _, _, _, _, _, _, _, _, rfl, ?_⟩
      refine h.stG fun w' h => ?_
      refine leti rfl ⟨?_, ?_⟩
      · unfold dlate; rw [if_pos hj]
      · unfold ddrawn; rw [if_pos hj]; exact h.to
    · refine ⟨?_, ?_⟩
      · unfold dlate; rw [if_neg hj]
      · unfold ddrawn; rw [if_neg hj]; exact h.to
  rintro _ w' ⟨rfl, h⟩
  have h := h.drew
  refine ⟨fun w => St c w [blk a2 76 (dcs { d with x := ddrawn d } A k)], h.to, ?_⟩
  refine St.rdsL 8 (St.rdsI 7 (St.rdsI2 _ _ ?_))
  rw [wrap_i64 (n := d.now + d.m.d) (by omega) (by omega), wrap_i64 (by omega) (by omega)]
  generalize ht : d.now + d.m.d + dlate d = t at hk
  have eb : ∀ w, (Instr.build 170 #[(0, .int .i64 t), (1, .string b)]).run PG w = .ok (pkcv ⟨t, b⟩) w := by intro w; kernel_rfl
  refine ⟨_, fun w _ => eb w, _, _, rfl, ?_⟩
  have nf : Flat (pkc ⟨t, b⟩) := pkc_flat1 _
  refine ⟨?_, ?_⟩
  refine h.lit (n := 0) 170 2 [] fun q w' h => ?_
  refine ⟨fun w => St c w [blk a2 76 (dcs { d with x := ddrawn d } A k)], fun _ h => h, h.to, ?_⟩
  refine ⟨?_, ?_⟩
  -- the first order
  refine h.append huPs tiP .head hr.more.more.more (m := d.W.length) (flat_length pkc_length d.W) (pkc_flat d.W) (by omega) fun A1 k1 w' h => ?_
  rw [Nat.zero_add] at h ⊢
  refine ⟨fun w => St c w [blk a2 76 (dcs { d with x := ddrawn d } A k)], fun _ h => h, h.to, ?_⟩
  refine h.lit (n := 1) 170 2 (pkc ⟨t, b⟩) fun q w' h => ?_
  refine ⟨fun w => St c w [blk a2 76 (dcs { d with x := ddrawn d } A k)], fun _ h => h, h.to, ?_⟩
  refine h.append huPs tiP (.tail .head) (RdIn.own .head) (m := 1) rfl nf (by omega) fun A' k' w' h => ?_
  have h : St c w' (own 170 2 A' (d.W.length + 1) k' (d.W.flatMap pkc ++ pkc ⟨t, b⟩) :: blk a2 76 (dcs { d with x := ddrawn d } A k) :: blk a4 76 dz :: L) := h.to
  rotate_left
  -- the second
  refine h.lit (n := 1) 170 2 (pkc ⟨t, b⟩) fun q w' h => ?_
  refine ⟨fun w => St c w [blk a2 76 (dcs { d with x := ddrawn d } A k)], fun _ h => h, h.to, ?_⟩
  refine h.append huPs tiP (.tail .head) hr.more.more.more.more (m := d.W.length) (flat_length pkc_length d.W) (pkc_flat d.W) (by omega) fun A1 k1 w' h => ?_
  rw [Nat.zero_add] at h ⊢
  refine ⟨fun w => St c w [blk a2 76 (dcs { d with x := ddrawn d } A k)], fun _ h => h, h.to, ?_⟩
  refine h.append huPs tiP .head (RdIn.own (.tail .head)) (m := 1) rfl nf (by omega) fun A' k' w' h => ?_
  have h : St c w' (own 170 2 A' (d.W.length + 1) k' (d.W.flatMap pkc ++ pkc ⟨t, b⟩) :: blk a2 76 (dcs { d with x := ddrawn d } A k) :: blk a4 76 dz :: L) := h.to
  rotate_left
  -- the third
  refine h.lit (n := 1) 170 2 (pkc ⟨t, b⟩) fun q w' h => ?_
  refine ⟨fun w => St c w [blk a2 76 (dcs { d with x := ddrawn d } A k)], fun _ h => h, h.to, ?_⟩
  refine h.lit (n := 0) 170 2 [] fun q w' h => ?_
  refine ⟨fun w => St c w [blk a2 76 (dcs { d with x := ddrawn d } A k)], fun _ h => h, h.to, ?_⟩
  refine h.append huPs tiP .head hr.more.more.more.more (m := d.W.length) (flat_length pkc_length d.W) (pkc_flat d.W) (by omega) fun A1 k1 w' h => ?_
  rw [Nat.zero_add] at h ⊢
  refine ⟨fun w => St c w [blk a2 76 (dcs { d with x := ddrawn d } A k)], fun _ h => h, h.to, ?_⟩
  refine h.append huPs tiP .head (RdIn.own (.tail .head)) (m := 1) rfl nf (by omega) fun A' k' w' h => ?_
  have h : St c w' (own 170 2 A' (d.W.length + 1) k' (d.W.flatMap pkc ++ pkc ⟨t, b⟩) :: blk a2 76 (dcs { d with x := ddrawn d } A k) :: blk a4 76 dz :: L) := h.to
  all_goals
    refine leti (y := (d.W.length : Int)) (by rw [wrap_i64 (by omega) (by omega)]; omega) ?_
    refine ⟨fun m i w' => ∃ U V, U.length = m ∧ i = (U.length : Int) ∧ d.W = U ++ V ∧ (∀ y ∈ V, t < y.tm) ∧ St c w' (own 170 2 A' (d.W.length + 1) k' ((U ++ ⟨t, b⟩ :: V).flatMap pkc) :: blk a2 76 (dcs { d with x := ddrawn d } A k) :: blk a4 76 dz :: L),
      ⟨d.W.length, d.W, [], rfl, rfl, by simp, by simp, by simpa using h⟩, ?_⟩
    clear h
    rintro m1 _ w' ⟨U, V, rfl, rfl, hW, hV, h⟩
    have eN : (U ++ (⟨t, b⟩ : Pk) :: V).length = d.W.length + 1 := by rw [hW]; simp only [List.length_append, List.length_cons]; omega
    have hkU := hk hq U V
    simp only [dv, eN] at hkU
    have lW : U.length ≤ d.W.length := by rw [hW]; simp
    rcases snoc_cases U with rfl | ⟨U, y, rfl⟩
    · refine ifdf (by simp) ?_
      have h := h.drew
      repeat' (first
        | ((with_reducible show NILC (some _) _); refine nilc ?_)
        | ((with_reducible show RDI _ (loadVar _ (Addr.add (Addr.add ⟨_, 0, none⟩ _) _)) _ _ _); refine h.rdI2 _ _ ?_)
        | ((with_reducible show RDB _ (loadVar _ (Addr.add (Addr.add ⟨_, 0, none⟩ _) _)) _ _); refine h.rdB2 _ _ ?_)
        | ((with_reducible show RDP _ (loadVar _ (Addr.add (Addr.add ⟨_, 0, none⟩ _) _)) _ _); refine h.rdP2 _ _ ?_)
        | ((with_reducible show RDL _ (loadVar _ (Addr.add (Addr.add ⟨_, 0, none⟩ _) _)) _ _); refine h.rdL2 _ _ ?_)
        | ((with_reducible show RDI _ (loadVar _ (Addr.add _ _)) _ _ _); refine h.rdI _ ?_)
        | ((with_reducible show RDB _ (loadVar _ (Addr.add _ _)) _ _); refine h.rdB _ ?_)
        | ((with_reducible show RDP _ (loadVar _ (Addr.add _ _)) _ _); refine h.rdP _ ?_)
        | ((with_reducible show RDL _ (loadVar _ (Addr.add _ _)) _ _); refine h.rdL _ ?_)
        | ((with_reducible show RDT _ (loadVar _ (Addr.add _ _)) _ _); refine h.rdT _ ?_)
        | ((with_reducible show RUNU _ (storeVar _ (Addr.add (Addr.add ⟨_, 0, none⟩ _) _) _) _ _); refine h.st2 _ _ fun w' h => ?_)
        | ((with_reducible show RUNU _ (storeVar _ (Addr.add _ _) _) _ _); refine h.st _ fun w' h => ?_)
        | ((with_reducible show RDI _ (loadVar _ ⟨_, _, _⟩) _ _ _); refine h.rdvI ?_)
        | ((with_reducible show RDB _ (loadVar _ ⟨_, _, _⟩) _ _); refine h.rdvB ?_)
        | ((with_reducible show RDP _ (loadVar _ ⟨_, _, _⟩) _ _); refine h.rdvP ?_)
        | ((with_reducible show RDL _ (loadVar _ ⟨_, _, _⟩) _ _); refine h.rdvL ?_)
        | ((with_reducible show RDT _ (loadVar _ ⟨_, _, _⟩) _ _); refine h.rdvT ?_)
        | ((with_reducible show RD _ (loadVar _ ⟨_, _, _⟩) _ _); refine h.rdG ?_; first | refine ⟨_, rfl, ?_⟩ | refine ⟨_, _, rfl, ?_⟩ | refine ⟨_, _, _, rfl, ?_⟩ | refine ⟨_, _, _, _, rfl, ?_⟩ | refine ⟨_, _, _, _, _, rfl, ?_⟩ | refine ⟨_, _, _, _, _, _, rfl, ?_⟩ | refine ⟨_, _, _, _, _, _, _, rfl, ?_⟩ | refine ⟨_, _, _, _, _, _, _, _, rfl, ?_⟩ | refine ⟨_, _, _, _, _, _, _, _, _, rfl, ?_⟩)
        | ((with_reducible show RUNU _ (storeVar _ ⟨_, _, _⟩ (.agg _)) _ _); refine h.stG fun w' h => ?_)
        | ((with_reducible show RUNU _ (storeVar _ ⟨_, _, _⟩ _) _ _); refine h.stV fun w' h => ?_))
      refine h.rdG ⟨_, _, _, _, _, _, _, _, _, _, _, _, _, _, _, _, rfl, ?_⟩
      refine h.stG fun w' h => ?_
      refine h.rdG ⟨_, _, _, _, _, _, _, _, _, _, _, _, _, _, _, _, rfl, ?_⟩
      exact hkU A' k' _ ⟨hW, hV, by simp⟩ h.drop.drop
    have eL : (U ++ [y]).length = U.length + 1 := by simp
    refine ifdt (by omega) ?_
    have h := h.drew
    have ei : IntKind.i64.wrap (((U ++ [y]).length : Int) - 1) = (U.length : Int) := by rw [eL, wrap_i64 (by omega) (by omega)]; omega
    rw [ei]
    have g1 : (U ++ [y] ++ (⟨t, b⟩ : Pk) :: V)[(U ++ [y]).length]? = some ⟨t, b⟩ := by rw [List.getElem?_append_right (Nat.le_refl _)]; simp
    have g2 : (U ++ [y] ++ (⟨t, b⟩ : Pk) :: V)[U.length]? = some y := by rw [List.append_assoc, List.getElem?_append_right (Nat.le_refl _)]; simp
    have lU : U.length + 1 ≤ d.W.length := by omega
    refine h.ix (z := 1) (RdIn.own .head) g1 (fun a ha => ?_) (by omega)
    subst ha
    refine h.rdEI 0 (RdIn.own .head) g1 ?_
    refine h.ix (z := 1) (RdIn.own .head) g2 (fun a ha => ?_) (by omega)
    injection ha with ha
    subst ha
    refine h.rdEI 0 (RdIn.own .head) g2 ?_
    refine ifd (fun hlt => ?_) fun hge => ?_
    rotate_left
    · repeat' (first
        | ((with_reducible show NILC (some _) _); refine nilc ?_)
        | ((with_reducible show RDI _ (loadVar _ (Addr.add (Addr.add ⟨_, 0, none⟩ _) _)) _ _ _); refine h.rdI2 _ _ ?_)
        | ((with_reducible show RDB _ (loadVar _ (Addr.add (Addr.add ⟨_, 0, none⟩ _) _)) _ _); refine h.rdB2 _ _ ?_)
        | ((with_reducible show RDP _ (loadVar _ (Addr.add (Addr.add ⟨_, 0, none⟩ _) _)) _ _); refine h.rdP2 _ _ ?_)
        | ((with_reducible show RDL _ (loadVar _ (Addr.add (Addr.add ⟨_, 0, none⟩ _) _)) _ _); refine h.rdL2 _ _ ?_)
        | ((with_reducible show RDI _ (loadVar _ (Addr.add _ _)) _ _ _); refine h.rdI _ ?_)
        | ((with_reducible show RDB _ (loadVar _ (Addr.add _ _)) _ _); refine h.rdB _ ?_)
        | ((with_reducible show RDP _ (loadVar _ (Addr.add _ _)) _ _); refine h.rdP _ ?_)
        | ((with_reducible show RDL _ (loadVar _ (Addr.add _ _)) _ _); refine h.rdL _ ?_)
        | ((with_reducible show RDT _ (loadVar _ (Addr.add _ _)) _ _); refine h.rdT _ ?_)
        | ((with_reducible show RUNU _ (storeVar _ (Addr.add (Addr.add ⟨_, 0, none⟩ _) _) _) _ _); refine h.st2 _ _ fun w' h => ?_)
        | ((with_reducible show RUNU _ (storeVar _ (Addr.add _ _) _) _ _); refine h.st _ fun w' h => ?_)
        | ((with_reducible show RDI _ (loadVar _ ⟨_, _, _⟩) _ _ _); refine h.rdvI ?_)
        | ((with_reducible show RDB _ (loadVar _ ⟨_, _, _⟩) _ _); refine h.rdvB ?_)
        | ((with_reducible show RDP _ (loadVar _ ⟨_, _, _⟩) _ _); refine h.rdvP ?_)
        | ((with_reducible show RDL _ (loadVar _ ⟨_, _, _⟩) _ _); refine h.rdvL ?_)
        | ((with_reducible show RDT _ (loadVar _ ⟨_, _, _⟩) _ _); refine h.rdvT ?_)
        | ((with_reducible show RD _ (loadVar _ ⟨_, _, _⟩) _ _); refine h.rdG ?_; first | refine ⟨_, rfl, ?_⟩ | refine ⟨_, _, rfl, ?_⟩ | refine ⟨_, _, _, rfl, ?_⟩ | refine ⟨_, _, _, _, rfl, ?_⟩ | refine ⟨_, _, _, _, _, rfl, ?_⟩ | refine ⟨_, _, _, _, _, _, rfl, ?_⟩ | refine ⟨_, _, _, _, _, _, _, rfl, ?_⟩ | refine ⟨_, _, _, _, _, _, _, _, rfl, ?_⟩ | refine ⟨_, _, _, _, _, _, _, _, _, rfl, ?_⟩)
        | ((with_reducible show RUNU _ (storeVar _ ⟨_, _, _⟩ (.agg _)) _ _); refine h.stG fun w' h => ?_)
        | ((with_reducible show RUNU _ (storeVar _ ⟨_, _, _⟩ _) _ _); refine h.stV fun w' h => ?_))
      refine h.rdG ⟨_, _, _, _, _, _, _, _, _, _, _, _, _, _, _, _, rfl, ?_⟩
      refine h.stG fun w' h => ?_
      refine h.rdG ⟨_, _, _, _, _, _, _, _, _, _, _, _, _, _, _, _, rfl, ?_⟩
      exact hkU _ k' _ ⟨hW, hV, fun z hz => by simp at hz; subst hz; exact Int.not_lt.1 hge⟩ h.drop.drop
    have h := h.drew
    refine h.ix (z := 1) (RdIn.own .head) g2 (fun a ha => ?_) (by omega)
    injection ha with ha
    subst ha
    refine h.rdEG (RdIn.own .head) g2 ⟨_, _, rfl, ?_⟩
    refine h.ix (z := 1) (RdIn.own .head) g1 (fun a ha => ?_) (by omega)
    injection ha with ha
    subst ha
    refine h.rdEG (RdIn.own .head) g1 ⟨_, _, rfl, ?_⟩
    refine h.ix (z := 1) (RdIn.own .head) g1 (fun a ha => ?_) (by omega)
    injection ha with ha
    subst ha
    refine h.stE .head (by omega) y (pkc_flat1 y) fun w' h => ?_
    have g3 : ((U ++ [y] ++ (⟨t, b⟩ : Pk) :: V).set (U ++ [y]).length y)[U.length]? = some y := by rw [List.getElem?_set_ne (by omega)]; exact g2
    refine h.ix (z := 1) (RdIn.own .head) g3 (fun a ha => ?_) (by omega)
    injection ha with ha
    subst ha
    refine h.stE .head (by rw [List.length_set]; omega) ⟨t, b⟩ (pkc_flat1 _) fun w' h => ?_
    rw [swap_last] at h
    refine leti rfl ⟨U.length, by omega, U, y :: V, rfl, rfl, by rw [hW]; simp, fun z hz => ?_, h⟩
    rcases List.mem_cons.1 hz with rfl | hz
    · exact hlt
    · exact hV z hz
end
end Go.Br
