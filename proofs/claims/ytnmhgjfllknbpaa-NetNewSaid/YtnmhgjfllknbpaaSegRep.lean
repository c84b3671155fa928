/- A segment in memory. -/
import Derived.Test.YtnmhgjfllknbpaaBrOwn
import Derived.Test.YtnmhgjfllknbpaaBrSeat
import Derived.Test.YtnmhgjfllknbpaaParsePure
set_option linter.unusedVariables false
set_option linter.unusedSimpArgs false
set_option linter.unnecessarySimpa false
namespace Go.Br
open Go
attribute [local irreducible] Addr.add RD RDS RUN RUNU NILC LETB CALL CALLX CALLV

theorem tiOpx : TI PG 139 2 32 (.agg #[.int .u8 0, .slice none 0 0]) := tiOf (by kernel_rfl)
theorem tiU8 : TI PG 5 1 1 (.int .u8 0) := tiOf (by kernel_rfl)
theorem huOpx : PG.underlying 149 = some (.slice 139) := by kernel_rfl
theorem huBytes : PG.underlying 80 = some (.slice 5) := by kernel_rfl
structure Opx where
  kind : Int
  body : Option Addr
  bodyC : Nat
  bodys : List UInt8
def opx (x : Opx) : List Value := [.int .u8 x.kind, .slice x.body x.bodys.length x.bodyC]
abbrev opxv (x : Opx) : Value := .agg #[.int .u8 x.kind, .slice x.body x.bodys.length x.bodyC]
theorem opx_length (x : Opx) : (opx x).length = 2 := rfl
theorem opx_flat1 (x : Opx) : Flat (opx x) := by intro v hv; simp [opx] at hv; rcases hv with rfl | rfl <;> rfl
theorem opx_flat (L : List Opx) : Flat (L.flatMap opx) := by
  intro v hv
  simp only [List.mem_flatMap] at hv
  obtain ⟨x, _, hx⟩ := hv
  exact opx_flat1 x v hx
/-- A segment as it is held. -/
structure Sg where
  src : Int
  dst : Int
  seq : Int
  ack : Int
  flags : Int
  oA : Option Addr
  oC : Nat
  os : List Opx
  dA : Option Addr
  dC : Nat
  ds : List UInt8
abbrev sgv (s : Sg) : Value := .agg #[.int .u16 s.src, .int .u16 s.dst, .int .u32 s.seq, .int .u32 s.ack, .int .u8 s.flags, .slice s.oA s.os.length s.oC, .slice s.dA s.ds.length s.dC]
def SgAt (s : Sg) (w : World) : Prop := Row w s.oA (s.os.flatMap opx) ∧ (∀ o ∈ s.os, Row w o.body (bvs o.bodys)) ∧ Row w s.dA (bvs s.ds)
abbrev sgp (s : Sg) : SA := Br.ro (SgAt s)
/-- What a segment says. -/
structure SgP where
  src : Int
  dst : Int
  seq : Int
  ack : Int
  flags : Int
  os : List (Int × List UInt8)
  ds : List UInt8
def opl (o : Opx) : Int × List UInt8 := (o.kind, o.bodys)
def Sg.pl (s : Sg) : SgP := ⟨s.src, s.dst, s.seq, s.ack, s.flags, s.os.map opl, s.ds⟩
/-- The segment of some bytes, or the error. -/
def parseS (b : List UInt8) : Except Int SgP :=
  if b.length < 14 ∨ 7 < (b.getD 12 0).toNat then .error 70
  else if 200 < (b.getD 13 0).toNat ∨ b.length - 14 < (b.getD 13 0).toNat then .error 71
  else match optsS ((b.drop 14).take (b.getD 13 0).toNat) with
    | none => .error 71
    | some os => if 1024 < b.length - 14 - (b.getD 13 0).toNat then .error 72
      else .ok ⟨beN (b.take 2), beN ((b.drop 2).take 2), beN ((b.drop 4).take 4), beN ((b.drop 8).take 4), ((b.getD 12 0).toNat : Int), os, b.drop (14 + (b.getD 13 0).toNat)⟩
section
variable {c : Ctx} {w : World} {L R : List SA}
theorem St.ro2 {φ ψ : World → Prop} (h : St c w (Br.ro φ :: Br.ro ψ :: L)) : St c w (Br.ro (fun w => φ w ∧ ψ w) :: L) := by
  refine h.ent fun F G w h => ?_
  rw [all_cons] at h
  obtain ⟨F1, G1, F2, G2, rfl, rfl, h1, h2, h3, h4⟩ := h
  rw [all_cons] at h2
  obtain ⟨F3, G3, F4, G4, rfl, rfl, k1, k2, k3, k4⟩ := h2
  rw [ro_p] at h1 k1
  obtain ⟨rfl, a1, a2⟩ := h1
  obtain ⟨rfl, b1, b2⟩ := k1
  refine ⟨[] ++ F4, (G1 ++ G3) ++ G4, all_cons.2 ⟨[], G1 ++ G3, F4, G4, rfl, rfl, ro_p.2 ⟨rfl, fun i hi => ?_, fun w' hw => ⟨a2 w' fun i hi => hw i (by simp [hi]), b2 w' fun i hi => hw i (by simp [hi])⟩⟩, k2, by simp, fun i hi hc => ?_⟩, by simp, fun i hi => ?_⟩
  · rw [List.mem_append] at hi
    exact hi.elim (a1 i) (b1 i)
  · rw [List.mem_append] at hc
    rcases hc with hc | hc
    · exact h4 i (by simp [hi]) hc
    · exact k4 i hi hc
  · simp only [List.mem_append] at hi ⊢
    rcases hi with (hi | hi) | hi <;> simp [hi]
theorem St.roW {φ ψ : World → Prop} (h : St c w (Br.ro φ :: L)) (hi : ∀ w, φ w → ψ w) : St c w (Br.ro ψ :: L) := (h.addRo .head hi).swap.drop
theorem St.ownRows {e z n k : Nat} {A : Option Addr} {cs : List Value} (h : St c w (Br.own e z A n k cs :: L)) : St c w (rows A cs :: L) := h.enth own_rows
theorem pick_app0 {A : SA} {L : List SA} : ∀ {M : List SA}, Pick A (M ++ A :: L) (M ++ L)
  | [] => .head
  | B :: M => .tail pick_app0
theorem St.dropM : ∀ {M : List SA} {w : World} {L : List SA}, St c w (M ++ L) → St c w L
  | [], w, L, h => h
  | A :: M, w, L, h => St.dropM (M := M) (St.drop h)
end
end Go.Br
