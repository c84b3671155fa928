/- A segment's bytes: of the program and of the document. -/
import Derived.Test.YtnmhgjfllknbpaaNSegEnc
import Derived.Test.YtnmhgjfllknbpaaSegRep
import Derived.Test.YtnmhgjfllknbpaaPack
set_option linter.unusedVariables false
set_option linter.unusedSimpArgs false
set_option linter.unnecessarySimpa false
namespace Go.Br
open Go
instance biSegEnca (x0 : Int) (x1 : Option Addr) (n1 c1 : Nat) : Bld PG (Instr.build 139 #[(0, .int .u8 x0), (1, .slice x1 n1 c1)]) (.agg #[.int .u8 x0, .slice x1 n1 c1]) := ⟨fun w => by kernel_rfl⟩
instance biSegEncb : Zro PG 139 2 32 (.agg #[.int .u8 0, .slice none 0 0]) := ⟨tiOf (by kernel_rfl)⟩
instance biSegEncc : Zro PG 151 7 64 (.agg #[.int .u16 0, .int .u16 0, .int .u32 0, .int .u32 0, .int .u8 0, .slice none 0 0, .slice none 0 0]) := ⟨tiOf (by kernel_rfl)⟩
attribute [local irreducible] Addr.add RD RDS RUN RUNU NILC LETB CALL CALLX CALLV

def SgIn (L : List SA) (s : Sg) : Prop := ∀ c w, St c w L → SgAt s w
theorem SgIn.more {L : List SA} {s : Sg} {X : SA} (h : SgIn L s) : SgIn (X :: L) s := fun c w hs => h c w hs.drop
theorem SgIn.here {L R : List SA} {s : Sg} (hp : Pick (sgp s) L R) : SgIn L s := fun c w hs => hs.ro hp
theorem SgIn.opts {L : List SA} {s : Sg} (h : SgIn L s) : RdIn L s.oA (s.os.flatMap opx) := fun c w hs => (h c w hs).1
theorem SgIn.opt {L : List SA} {s : Sg} (h : SgIn L s) {o : Opx} (ho : o ∈ s.os) : RdIn L o.body (bvs o.bodys) := fun c w hs => (h c w hs).2.1 o ho
theorem SgIn.data {L : List SA} {s : Sg} (h : SgIn L s) : RdIn L s.dA (bvs s.ds) := fun c w hs => (h c w hs).2.2
def keyB (key tag : Int) (answer : Bool) : List UInt8 := if answer then beB key 8 ++ beB tag 8 else beB key 8
/-- An option's bytes. -/
def obP (o : Int × List UInt8) : List UInt8 := byteOf o.1 :: UInt8.ofNat o.2.length :: o.2
def obs (os : List (Int × List UInt8)) : List UInt8 := os.flatMap obP
def hdB (s : SgP) : List UInt8 := beB s.src 2 ++ beB s.dst 2 ++ beB s.seq 4 ++ beB s.ack 4 ++ beB s.flags 1
/-- A segment's bytes. -/
def encB (s : SgP) : List UInt8 := hdB s ++ [UInt8.ofNat (obs s.os).length] ++ obs s.os ++ s.ds
/-- A segment that may be. -/
structure SgOk (s : SgP) : Prop where
  src : 0 ≤ s.src ∧ s.src < 65536
  dst : 0 ≤ s.dst ∧ s.dst < 65536
  seq : 0 ≤ s.seq ∧ s.seq < 4294967296
  ack : 0 ≤ s.ack ∧ s.ack < 4294967296
  flags : 0 ≤ s.flags ∧ s.flags ≤ 7
  opts : ∀ o ∈ s.os, (1 ≤ o.1 ∧ o.1 < 256) ∧ o.2.length ≤ 255
  room : (obs s.os).length ≤ 200
  data : s.ds.length ≤ 1024
theorem obs_take {os : List Opx} {j : Nat} {o : Opx} (h : os[j]? = some o) : obs ((os.take (j + 1)).map opl) = obs ((os.take j).map opl) ++ obP (opl o) := by
  unfold obs
  rw [take_snoc' h]
  simp
theorem obs_le {os : List Opx} (j : Nat) : (obs ((os.take j).map opl)).length ≤ (obs (os.map opl)).length := by
  have e : obs (os.map opl) = obs ((os.take j).map opl) ++ obs ((os.drop j).map opl) := by
    unfold obs
    rw [← List.flatMap_append, ← List.map_append, List.take_append_drop]
  rw [e, List.length_append]
  omega
theorem obP_length (o : Int × List UInt8) : (obP o).length = 2 + o.2.length := by simp [obP]; omega
theorem obs_two : ∀ os : List (Int × List UInt8), 2 * os.length ≤ (obs os).length
  | [] => by simp
  | o :: r => by
    have := obs_two r
    have h := obP_length o
    unfold obs at this ⊢
    rw [List.flatMap_cons, List.length_append, List.length_cons]
    omega
theorem hdB_length (s : SgP) : (hdB s).length = 13 := by simp [hdB, beB_length]
theorem bv_of {n : Int} (h0 : 0 ≤ n) (h1 : n < 256) : Value.int .u8 n = bv (byteOf n) := by
  unfold bv
  rw [byteOf_val]
  congr 1
  omega
theorem bv_nat {n : Nat} (h1 : n < 256) : Value.int .u8 (n : Int) = bv (UInt8.ofNat n) := by
  unfold bv
  congr 1
  rw [UInt8.toNat_ofNat']
  omega
section
variable {c : Ctx} {w : World} {L R : List SA}
abbrev opp (o : Opx) : SA := rows o.body (bvs o.bodys)
theorem okey_ok (h : St c w L) {key tag : Int} {ans : Bool} (h0 : 0 ≤ key) (h1 : key < 18446744073709551616) (h2 : 0 ≤ tag) (h3 : tag < 18446744073709551616) {Q : Value → World → Prop}
    (hk : ∀ o w', opl o = (1, keyB key tag ans) → St c w' (opp o :: L) → Q (opxv o) w') : CALL PG 54 [.agg #[.int .u64 key, .bool ans, .int .u64 tag]] w Q := by
  refine call54 ?_
  unfold N54
  repeat' (first
    | refine nilc ?_
    | refine h.rdI _ ?_
    | refine h.rdB _ ?_
    | refine h.rdP _ ?_
    | refine h.rdL _ ?_
    | refine h.rdT _ ?_
    | refine h.rdI2 _ _ ?_
    | refine h.rdB2 _ _ ?_
    | refine h.rdP2 _ _ ?_
    | refine h.rdL2 _ _ ?_
    | refine h.st2 _ _ fun w' h => ?_
    | refine h.st _ fun w' h => ?_
    | refine h.rdvI ?_
    | refine h.rdvB ?_
    | refine h.rdvP ?_
    | refine h.rdvL ?_
    | refine h.rdvT ?_
    | (refine h.rdG ?_; (repeat (first | apply Exists.intro (α := Int) | apply Exists.intro (α := Bool) | apply Exists.intro (α := ByteArray) | (apply Exists.intro (α := Option Addr); apply Exists.intro (α := Nat); apply Exists.intro (α := Nat)) | apply Exists.intro (α := Option Addr) | apply Exists.intro (α := Value))); refine ⟨rfl, ?_⟩)
    | refine h.stG fun w' h => ?_
    | refine h.stV fun w' h => ?_
    | refine h.box fun p w' h => ?_
    | refine h.boxV fun p w' h => ?_
    | refine h.allocZ fun p w' h => ?_
    | refine h.allocZV fun p w' h => ?_
    | (refine RD.bld ?_; (repeat (first | apply Exists.intro (α := Int) | apply Exists.intro (α := Bool) | apply Exists.intro (α := ByteArray) | (apply Exists.intro (α := Option Addr); apply Exists.intro (α := Nat); apply Exists.intro (α := Nat)) | apply Exists.intro (α := Option Addr) | apply Exists.intro (α := Value))); refine ⟨rfl, ?_⟩)
    | (refine RDS.bld ?_; (repeat (first | apply Exists.intro (α := Int) | apply Exists.intro (α := Bool) | apply Exists.intro (α := ByteArray) | (apply Exists.intro (α := Option Addr); apply Exists.intro (α := Nat); apply Exists.intro (α := Nat)) | apply Exists.intro (α := Option Addr) | apply Exists.intro (α := Value))); refine ⟨rfl, ?_⟩)
    | refine St.rdsI _ ?_
    | refine St.rdsB _ ?_
    | refine St.rdsP _ ?_
    | refine St.rdsL _ ?_
    | refine St.rdsT _ ?_
    | refine St.rdsI2 _ _ ?_
    | refine St.rdsB2 _ _ ?_
    | (refine St.rdsG ?_; (repeat (first | apply Exists.intro (α := Int) | apply Exists.intro (α := Bool) | apply Exists.intro (α := ByteArray) | (apply Exists.intro (α := Option Addr); apply Exists.intro (α := Nat); apply Exists.intro (α := Nat)) | apply Exists.intro (α := Option Addr) | apply Exists.intro (α := Value))); refine ⟨rfl, ?_⟩)
    | refine letb rfl ?_
    | refine sat h ?_
    | (have h := h.drew; refine sat h ?_)
    | refine sat1 h (fun _ h => h.to) ?_)
  refine packQ_ok h fun w' h => ?_
  (repeat (first | apply Exists.intro (α := Int) | apply Exists.intro (α := Bool) | apply Exists.intro (α := ByteArray) | (apply Exists.intro (α := Option Addr); apply Exists.intro (α := Nat); apply Exists.intro (α := Nat)) | apply Exists.intro (α := Option Addr) | apply Exists.intro (α := Value)))
  refine ⟨rfl, ?_⟩
  refine h.lit (n := 1) 127 2 ([(⟨8, key⟩ : Fd)].flatMap fd) fun q w' h => ?_
  refine pput_ok h (A := none) (bs := []) (C := 0) (fs := [⟨8, key⟩]) RdIn.nil (RdIn.own .head) (by simp [FdOk]; omega) (by simp) (by simp) fun O k w' h => ⟨_, _, _, rfl, ?_⟩
  have e1 : ([] : List UInt8) ++ [(⟨8, key⟩ : Fd)].flatMap fdb = beB key 8 := by simp [fdb]
  rw [e1] at h ⊢
  repeat' (first
    | refine nilc ?_
    | refine h.rdI _ ?_
    | refine h.rdB _ ?_
    | refine h.rdP _ ?_
    | refine h.rdL _ ?_
    | refine h.rdT _ ?_
    | refine h.rdI2 _ _ ?_
    | refine h.rdB2 _ _ ?_
    | refine h.rdP2 _ _ ?_
    | refine h.rdL2 _ _ ?_
    | refine h.st2 _ _ fun w' h => ?_
    | refine h.st _ fun w' h => ?_
    | refine h.rdvI ?_
    | refine h.rdvB ?_
    | refine h.rdvP ?_
    | refine h.rdvL ?_
    | refine h.rdvT ?_
    | (refine h.rdG ?_; (repeat (first | apply Exists.intro (α := Int) | apply Exists.intro (α := Bool) | apply Exists.intro (α := ByteArray) | (apply Exists.intro (α := Option Addr); apply Exists.intro (α := Nat); apply Exists.intro (α := Nat)) | apply Exists.intro (α := Option Addr) | apply Exists.intro (α := Value))); refine ⟨rfl, ?_⟩)
    | refine h.stG fun w' h => ?_
    | refine h.stV fun w' h => ?_
    | refine h.box fun p w' h => ?_
    | refine h.boxV fun p w' h => ?_
    | refine h.allocZ fun p w' h => ?_
    | refine h.allocZV fun p w' h => ?_
    | (refine RD.bld ?_; (repeat (first | apply Exists.intro (α := Int) | apply Exists.intro (α := Bool) | apply Exists.intro (α := ByteArray) | (apply Exists.intro (α := Option Addr); apply Exists.intro (α := Nat); apply Exists.intro (α := Nat)) | apply Exists.intro (α := Option Addr) | apply Exists.intro (α := Value))); refine ⟨rfl, ?_⟩)
    | (refine RDS.bld ?_; (repeat (first | apply Exists.intro (α := Int) | apply Exists.intro (α := Bool) | apply Exists.intro (α := ByteArray) | (apply Exists.intro (α := Option Addr); apply Exists.intro (α := Nat); apply Exists.intro (α := Nat)) | apply Exists.intro (α := Option Addr) | apply Exists.intro (α := Value))); refine ⟨rfl, ?_⟩)
    | refine St.rdsI _ ?_
    | refine St.rdsB _ ?_
    | refine St.rdsP _ ?_
    | refine St.rdsL _ ?_
    | refine St.rdsT _ ?_
    | refine St.rdsI2 _ _ ?_
    | refine St.rdsB2 _ _ ?_
    | (refine St.rdsG ?_; (repeat (first | apply Exists.intro (α := Int) | apply Exists.intro (α := Bool) | apply Exists.intro (α := ByteArray) | (apply Exists.intro (α := Option Addr); apply Exists.intro (α := Nat); apply Exists.intro (α := Nat)) | apply Exists.intro (α := Option Addr) | apply Exists.intro (α := Value))); refine ⟨rfl, ?_⟩)
    | refine letb rfl ?_
    | refine sat h ?_
    | (have h := h.drew; refine sat h ?_)
    | refine sat1 h (fun _ h => h.to) ?_)
  refine ifb (fun ha => ?_) fun ha => ?_
  · repeat' (first
      | refine nilc ?_
      | refine h.rdI _ ?_
      | refine h.rdB _ ?_
      | refine h.rdP _ ?_
      | refine h.rdL _ ?_
      | refine h.rdT _ ?_
      | refine h.rdI2 _ _ ?_
      | refine h.rdB2 _ _ ?_
      | refine h.rdP2 _ _ ?_
      | refine h.rdL2 _ _ ?_
      | refine h.st2 _ _ fun w' h => ?_
      | refine h.st _ fun w' h => ?_
      | refine h.rdvI ?_
      | refine h.rdvB ?_
      | refine h.rdvP ?_
      | refine h.rdvL ?_
      | refine h.rdvT ?_
      | (refine h.rdG ?_; (repeat (first | apply Exists.intro (α := Int) | apply Exists.intro (α := Bool) | apply Exists.intro (α := ByteArray) | (apply Exists.intro (α := Option Addr); apply Exists.intro (α := Nat); apply Exists.intro (α := Nat)) | apply Exists.intro (α := Option Addr) | apply Exists.intro (α := Value))); refine ⟨rfl, ?_⟩)
      | refine h.stG fun w' h => ?_
      | refine h.stV fun w' h => ?_
      | refine h.box fun p w' h => ?_
      | refine h.boxV fun p w' h => ?_
      | refine h.allocZ fun p w' h => ?_
      | refine h.allocZV fun p w' h => ?_
      | (refine RD.bld ?_; (repeat (first | apply Exists.intro (α := Int) | apply Exists.intro (α := Bool) | apply Exists.intro (α := ByteArray) | (apply Exists.intro (α := Option Addr); apply Exists.intro (α := Nat); apply Exists.intro (α := Nat)) | apply Exists.intro (α := Option Addr) | apply Exists.intro (α := Value))); refine ⟨rfl, ?_⟩)
      | (refine RDS.bld ?_; (repeat (first | apply Exists.intro (α := Int) | apply Exists.intro (α := Bool) | apply Exists.intro (α := ByteArray) | (apply Exists.intro (α := Option Addr); apply Exists.intro (α := Nat); apply Exists.intro (α := Nat)) | apply Exists.intro (α := Option Addr) | apply Exists.intro (α := Value))); refine ⟨rfl, ?_⟩)
      | refine St.rdsI _ ?_
      | refine St.rdsB _ ?_
      | refine St.rdsP _ ?_
      | refine St.rdsL _ ?_
      | refine St.rdsT _ ?_
      | refine St.rdsI2 _ _ ?_
      | refine St.rdsB2 _ _ ?_
      | (refine St.rdsG ?_; (repeat (first | apply Exists.intro (α := Int) | apply Exists.intro (α := Bool) | apply Exists.intro (α := ByteArray) | (apply Exists.intro (α := Option Addr); apply Exists.intro (α := Nat); apply Exists.intro (α := Nat)) | apply Exists.intro (α := Option Addr) | apply Exists.intro (α := Value))); refine ⟨rfl, ?_⟩)
      | refine letb rfl ?_
      | refine sat h ?_
      | (have h := h.drew; refine sat h ?_)
      | refine sat1 h (fun _ h => h.to) ?_)
    refine packQ_ok h fun w' h => ?_
    (repeat (first | apply Exists.intro (α := Int) | apply Exists.intro (α := Bool) | apply Exists.intro (α := ByteArray) | (apply Exists.intro (α := Option Addr); apply Exists.intro (α := Nat); apply Exists.intro (α := Nat)) | apply Exists.intro (α := Option Addr) | apply Exists.intro (α := Value)))
    refine ⟨rfl, ?_⟩
    refine h.lit (n := 1) 127 2 ([(⟨8, tag⟩ : Fd)].flatMap fd) fun q w' h => ?_
    refine pput_ok h (bs := beB key 8) (fs := [⟨8, tag⟩]) (RdIn.own (.tail .head)) (RdIn.own .head) (by simp [FdOk]; omega) (by rw [beB_length]; decide) (by simp) fun O2 k2 w' h => ⟨_, _, _, rfl, ?_⟩
    have e2 : beB key 8 ++ [(⟨8, tag⟩ : Fd)].flatMap fdb = keyB key tag ans := by simp [fdb, keyB, ha]
    rw [e2] at h ⊢
    repeat' (first
      | refine nilc ?_
      | refine h.rdI _ ?_
      | refine h.rdB _ ?_
      | refine h.rdP _ ?_
      | refine h.rdL _ ?_
      | refine h.rdT _ ?_
      | refine h.rdI2 _ _ ?_
      | refine h.rdB2 _ _ ?_
      | refine h.rdP2 _ _ ?_
      | refine h.rdL2 _ _ ?_
      | refine h.st2 _ _ fun w' h => ?_
      | refine h.st _ fun w' h => ?_
      | refine h.rdvI ?_
      | refine h.rdvB ?_
      | refine h.rdvP ?_
      | refine h.rdvL ?_
      | refine h.rdvT ?_
      | (refine h.rdG ?_; (repeat (first | apply Exists.intro (α := Int) | apply Exists.intro (α := Bool) | apply Exists.intro (α := ByteArray) | (apply Exists.intro (α := Option Addr); apply Exists.intro (α := Nat); apply Exists.intro (α := Nat)) | apply Exists.intro (α := Option Addr) | apply Exists.intro (α := Value))); refine ⟨rfl, ?_⟩)
      | refine h.stG fun w' h => ?_
      | refine h.stV fun w' h => ?_
      | refine h.box fun p w' h => ?_
      | refine h.boxV fun p w' h => ?_
      | refine h.allocZ fun p w' h => ?_
      | refine h.allocZV fun p w' h => ?_
      | (refine RD.bld ?_; (repeat (first | apply Exists.intro (α := Int) | apply Exists.intro (α := Bool) | apply Exists.intro (α := ByteArray) | (apply Exists.intro (α := Option Addr); apply Exists.intro (α := Nat); apply Exists.intro (α := Nat)) | apply Exists.intro (α := Option Addr) | apply Exists.intro (α := Value))); refine ⟨rfl, ?_⟩)
      | (refine RDS.bld ?_; (repeat (first | apply Exists.intro (α := Int) | apply Exists.intro (α := Bool) | apply Exists.intro (α := ByteArray) | (apply Exists.intro (α := Option Addr); apply Exists.intro (α := Nat); apply Exists.intro (α := Nat)) | apply Exists.intro (α := Option Addr) | apply Exists.intro (α := Value))); refine ⟨rfl, ?_⟩)
      | refine St.rdsI _ ?_
      | refine St.rdsB _ ?_
      | refine St.rdsP _ ?_
      | refine St.rdsL _ ?_
      | refine St.rdsT _ ?_
      | refine St.rdsI2 _ _ ?_
      | refine St.rdsB2 _ _ ?_
      | (refine St.rdsG ?_; (repeat (first | apply Exists.intro (α := Int) | apply Exists.intro (α := Bool) | apply Exists.intro (α := ByteArray) | (apply Exists.intro (α := Option Addr); apply Exists.intro (α := Nat); apply Exists.intro (α := Nat)) | apply Exists.intro (α := Option Addr) | apply Exists.intro (α := Value))); refine ⟨rfl, ?_⟩)
      | refine letb rfl ?_
      | refine sat h ?_
      | (have h := h.drew; refine sat h ?_)
      | refine sat1 h (fun _ h => h.to) ?_)
    exact hk ⟨1, O2, k2, keyB key tag ans⟩ _ rfl (h.to : St c _ (own 5 1 O2 (keyB key tag ans).length k2 (bvs (keyB key tag ans)) :: L)).ownRows
  · have e2 : beB key 8 = keyB key tag ans := by simp [keyB, ha]
    rw [e2] at h ⊢
    repeat' (first
      | refine nilc ?_
      | refine h.rdI _ ?_
      | refine h.rdB _ ?_
      | refine h.rdP _ ?_
      | refine h.rdL _ ?_
      | refine h.rdT _ ?_
      | refine h.rdI2 _ _ ?_
      | refine h.rdB2 _ _ ?_
      | refine h.rdP2 _ _ ?_
      | refine h.rdL2 _ _ ?_
      | refine h.st2 _ _ fun w' h => ?_
      | refine h.st _ fun w' h => ?_
      | refine h.rdvI ?_
      | refine h.rdvB ?_
      | refine h.rdvP ?_
      | refine h.rdvL ?_
      | refine h.rdvT ?_
      | (refine h.rdG ?_; (repeat (first | apply Exists.intro (α := Int) | apply Exists.intro (α := Bool) | apply Exists.intro (α := ByteArray) | (apply Exists.intro (α := Option Addr); apply Exists.intro (α := Nat); apply Exists.intro (α := Nat)) | apply Exists.intro (α := Option Addr) | apply Exists.intro (α := Value))); refine ⟨rfl, ?_⟩)
      | refine h.stG fun w' h => ?_
      | refine h.stV fun w' h => ?_
      | refine h.box fun p w' h => ?_
      | refine h.boxV fun p w' h => ?_
      | refine h.allocZ fun p w' h => ?_
      | refine h.allocZV fun p w' h => ?_
      | (refine RD.bld ?_; (repeat (first | apply Exists.intro (α := Int) | apply Exists.intro (α := Bool) | apply Exists.intro (α := ByteArray) | (apply Exists.intro (α := Option Addr); apply Exists.intro (α := Nat); apply Exists.intro (α := Nat)) | apply Exists.intro (α := Option Addr) | apply Exists.intro (α := Value))); refine ⟨rfl, ?_⟩)
      | (refine RDS.bld ?_; (repeat (first | apply Exists.intro (α := Int) | apply Exists.intro (α := Bool) | apply Exists.intro (α := ByteArray) | (apply Exists.intro (α := Option Addr); apply Exists.intro (α := Nat); apply Exists.intro (α := Nat)) | apply Exists.intro (α := Option Addr) | apply Exists.intro (α := Value))); refine ⟨rfl, ?_⟩)
      | refine St.rdsI _ ?_
      | refine St.rdsB _ ?_
      | refine St.rdsP _ ?_
      | refine St.rdsL _ ?_
      | refine St.rdsT _ ?_
      | refine St.rdsI2 _ _ ?_
      | refine St.rdsB2 _ _ ?_
      | (refine St.rdsG ?_; (repeat (first | apply Exists.intro (α := Int) | apply Exists.intro (α := Bool) | apply Exists.intro (α := ByteArray) | (apply Exists.intro (α := Option Addr); apply Exists.intro (α := Nat); apply Exists.intro (α := Nat)) | apply Exists.intro (α := Option Addr) | apply Exists.intro (α := Value))); refine ⟨rfl, ?_⟩)
      | refine letb rfl ?_
      | refine sat h ?_
      | (have h := h.drew; refine sat h ?_)
      | refine sat1 h (fun _ h => h.to) ?_)
    exact hk ⟨1, O, k, keyB key tag ans⟩ _ rfl (h.to : St c _ (own 5 1 O (keyB key tag ans).length k (bvs (keyB key tag ans)) :: L)).ownRows
/-- A segment with these options. -/
theorem sof_ok (h : St c w L) {s : Sg} {A : Option Addr} {K : Nat} {os : List Opx} (hr : RdIn L A (os.flatMap opx)) (hn : os.length ≤ 1000) {Q : Value → World → Prop}
    (hk : ∀ O k w', St c w' (own 139 2 O os.length k (os.flatMap opx) :: L) → Q (sgv { s with oA := O, oC := k, os := os }) w') : CALL PG 70 [sgv s, .slice A os.length K] w Q := by
  refine call70 ?_
  unfold N70
  repeat' (first
    | refine nilc ?_
    | refine h.rdI _ ?_
    | refine h.rdB _ ?_
    | refine h.rdP _ ?_
    | refine h.rdL _ ?_
    | refine h.rdT _ ?_
    | refine h.rdI2 _ _ ?_
    | refine h.rdB2 _ _ ?_
    | refine h.rdP2 _ _ ?_
    | refine h.rdL2 _ _ ?_
    | refine h.st2 _ _ fun w' h => ?_
    | refine h.st _ fun w' h => ?_
    | refine h.rdvI ?_
    | refine h.rdvB ?_
    | refine h.rdvP ?_
    | refine h.rdvL ?_
    | refine h.rdvT ?_
    | (refine h.rdG ?_; (repeat (first | apply Exists.intro (α := Int) | apply Exists.intro (α := Bool) | apply Exists.intro (α := ByteArray) | (apply Exists.intro (α := Option Addr); apply Exists.intro (α := Nat); apply Exists.intro (α := Nat)) | apply Exists.intro (α := Option Addr) | apply Exists.intro (α := Value))); refine ⟨rfl, ?_⟩)
    | refine h.stG fun w' h => ?_
    | refine h.stV fun w' h => ?_
    | refine h.box fun p w' h => ?_
    | refine h.boxV fun p w' h => ?_
    | refine h.allocZ fun p w' h => ?_
    | refine h.allocZV fun p w' h => ?_
    | (refine RD.bld ?_; (repeat (first | apply Exists.intro (α := Int) | apply Exists.intro (α := Bool) | apply Exists.intro (α := ByteArray) | (apply Exists.intro (α := Option Addr); apply Exists.intro (α := Nat); apply Exists.intro (α := Nat)) | apply Exists.intro (α := Option Addr) | apply Exists.intro (α := Value))); refine ⟨rfl, ?_⟩)
    | (refine RDS.bld ?_; (repeat (first | apply Exists.intro (α := Int) | apply Exists.intro (α := Bool) | apply Exists.intro (α := ByteArray) | (apply Exists.intro (α := Option Addr); apply Exists.intro (α := Nat); apply Exists.intro (α := Nat)) | apply Exists.intro (α := Option Addr) | apply Exists.intro (α := Value))); refine ⟨rfl, ?_⟩)
    | refine St.rdsI _ ?_
    | refine St.rdsB _ ?_
    | refine St.rdsP _ ?_
    | refine St.rdsL _ ?_
    | refine St.rdsT _ ?_
    | refine St.rdsI2 _ _ ?_
    | refine St.rdsB2 _ _ ?_
    | (refine St.rdsG ?_; (repeat (first | apply Exists.intro (α := Int) | apply Exists.intro (α := Bool) | apply Exists.intro (α := ByteArray) | (apply Exists.intro (α := Option Addr); apply Exists.intro (α := Nat); apply Exists.intro (α := Nat)) | apply Exists.intro (α := Option Addr) | apply Exists.intro (α := Value))); refine ⟨rfl, ?_⟩)
    | refine letb rfl ?_
    | refine sat h ?_
    | (have h := h.drew; refine sat h ?_)
    | refine sat1 h (fun _ h => h.to) ?_)
  refine (h.addOwnNil 139 2).append huOpx tiOpx .head hr.more.more.more (m := os.length) (flat_length opx_length os) (opx_flat os) (by omega) fun O k w' h => ?_
  simp only [Nat.zero_add, List.nil_append] at h ⊢
  repeat' (first
    | refine nilc ?_
    | refine h.rdI _ ?_
    | refine h.rdB _ ?_
    | refine h.rdP _ ?_
    | refine h.rdL _ ?_
    | refine h.rdT _ ?_
    | refine h.rdI2 _ _ ?_
    | refine h.rdB2 _ _ ?_
    | refine h.rdP2 _ _ ?_
    | refine h.rdL2 _ _ ?_
    | refine h.st2 _ _ fun w' h => ?_
    | refine h.st _ fun w' h => ?_
    | refine h.rdvI ?_
    | refine h.rdvB ?_
    | refine h.rdvP ?_
    | refine h.rdvL ?_
    | refine h.rdvT ?_
    | (refine h.rdG ?_; (repeat (first | apply Exists.intro (α := Int) | apply Exists.intro (α := Bool) | apply Exists.intro (α := ByteArray) | (apply Exists.intro (α := Option Addr); apply Exists.intro (α := Nat); apply Exists.intro (α := Nat)) | apply Exists.intro (α := Option Addr) | apply Exists.intro (α := Value))); refine ⟨rfl, ?_⟩)
    | refine h.stG fun w' h => ?_
    | refine h.stV fun w' h => ?_
    | refine h.box fun p w' h => ?_
    | refine h.boxV fun p w' h => ?_
    | refine h.allocZ fun p w' h => ?_
    | refine h.allocZV fun p w' h => ?_
    | (refine RD.bld ?_; (repeat (first | apply Exists.intro (α := Int) | apply Exists.intro (α := Bool) | apply Exists.intro (α := ByteArray) | (apply Exists.intro (α := Option Addr); apply Exists.intro (α := Nat); apply Exists.intro (α := Nat)) | apply Exists.intro (α := Option Addr) | apply Exists.intro (α := Value))); refine ⟨rfl, ?_⟩)
    | (refine RDS.bld ?_; (repeat (first | apply Exists.intro (α := Int) | apply Exists.intro (α := Bool) | apply Exists.intro (α := ByteArray) | (apply Exists.intro (α := Option Addr); apply Exists.intro (α := Nat); apply Exists.intro (α := Nat)) | apply Exists.intro (α := Option Addr) | apply Exists.intro (α := Value))); refine ⟨rfl, ?_⟩)
    | refine St.rdsI _ ?_
    | refine St.rdsB _ ?_
    | refine St.rdsP _ ?_
    | refine St.rdsL _ ?_
    | refine St.rdsT _ ?_
    | refine St.rdsI2 _ _ ?_
    | refine St.rdsB2 _ _ ?_
    | (refine St.rdsG ?_; (repeat (first | apply Exists.intro (α := Int) | apply Exists.intro (α := Bool) | apply Exists.intro (α := ByteArray) | (apply Exists.intro (α := Option Addr); apply Exists.intro (α := Nat); apply Exists.intro (α := Nat)) | apply Exists.intro (α := Option Addr) | apply Exists.intro (α := Value))); refine ⟨rfl, ?_⟩)
    | refine letb rfl ?_
    | refine sat h ?_
    | (have h := h.drew; refine sat h ?_)
    | refine sat1 h (fun _ h => h.to) ?_)
  exact hk O k _ h.to
theorem segright_ok (h : St c w L) {s : Sg} (hs : SgIn L s) (ok : SgOk s.pl) {Q : Value → World → Prop} (hk : ∀ w', St c w' L → Q (.int .i64 0) w') : CALL PG 73 [sgv s] w Q := by
  have hf : 0 ≤ s.flags ∧ s.flags ≤ 7 := ok.flags
  have hd : s.ds.length ≤ 1024 := ok.data
  have hr : (obs (s.os.map opl)).length ≤ 200 := ok.room
  have hol := obs_two (s.os.map opl)
  rw [List.length_map] at hol
  refine call73 ?_
  unfold N73
  refine h.box fun q w' h => ?_
  refine h.rdI 4 ?_
  refine ifdf (by omega) ?_
  refine h.rdL 5 ?_
  refine ⟨fun m n x w' => ∃ j : Nat, x = j ∧ m = s.os.length - j ∧ j ≤ s.os.length ∧ n = ((obs ((s.os.take j).map opl)).length : Int) ∧ St c w' (blk q 151 [.int .u16 s.src, .int .u16 s.dst, .int .u32 s.seq, .int .u32 s.ack, .int .u8 s.flags, .slice s.oA s.os.length s.oC, .slice s.dA s.ds.length s.dC] :: L), ⟨_, 0, rfl, rfl, by omega, rfl, h⟩, ?_⟩
  clear h
  rintro m _ _ w' ⟨j, rfl, rfl, hj, rfl, h⟩
  refine ifd (fun hlt => ?_) fun hge => ?_
  · obtain ⟨o, hy⟩ := ex_get (L := s.os) (j := j) (by omega)
    have ho := ok.opts (opl o) (List.mem_map_of_mem (List.mem_of_getElem? hy))
    have ho1 : 1 ≤ o.kind ∧ o.kind < 256 := ho.1
    have ho2 : o.bodys.length ≤ 255 := ho.2
    have hT := obs_take hy
    have hle := obs_le (os := s.os) (j + 1)
    rw [hT, List.length_append, obP_length] at hle
    have hl2 : (opl o).2.length = o.bodys.length := rfl
    refine h.ix (z := 1) hs.opts.more hy (fun a ha => ?_) (by omega)
    have hr1 := hs.opts
    rw [ha] at hr1
    refine h.rdEG hr1.more hy ?_
    (repeat (first | apply Exists.intro (α := Int) | apply Exists.intro (α := Bool) | apply Exists.intro (α := ByteArray) | (apply Exists.intro (α := Option Addr); apply Exists.intro (α := Nat); apply Exists.intro (α := Nat)) | apply Exists.intro (α := Option Addr) | apply Exists.intro (α := Value)))
    refine ⟨rfl, ?_⟩
    refine h.allocZ fun p w' h => ?_
    refine h.stG fun w' h => ?_
    refine h.rdI 0 ?_
    refine ifq (fun e => by omega) fun _ => ?_
    refine h.rdL 1 ?_
    refine ifdf (by omega) ?_
    refine h.rdL 1 ?_
    rw [wrap_i64 (n := (2 : Int) + (o.bodys.length : Int)) (by omega) (by omega)]
    refine leti (y := (((obs ((s.os.take (j + 1)).map opl)).length : Nat) : Int)) (by rw [hT, List.length_append, obP_length, wrap_i64 (by omega) (by omega)]; omega) ?_
    refine ifdf (by rw [hT, List.length_append, obP_length]; omega) ⟨_, ?_, j + 1, by rw [wrap_i64 (by omega) (by omega)]; omega, rfl, by omega, rfl, h.drop⟩
    omega
  · refine h.rdL 6 ?_
    refine ifdf (by omega) ?_
    exact hk _ h.drop
theorem seghead_ok (h : St c w L) {s : Sg} (ok : SgOk s.pl) {Q : Value → World → Prop} (hk : ∀ O k w', St c w' (own 5 1 O (hdB s.pl).length k (bvs (hdB s.pl)) :: L) → Q (.slice O (hdB s.pl).length k) w') : CALL PG 74 [sgv s] w Q := by
  have h1 : 0 ≤ s.src ∧ s.src < 65536 := ok.src
  have h2 : 0 ≤ s.dst ∧ s.dst < 65536 := ok.dst
  have h3 : 0 ≤ s.seq ∧ s.seq < 4294967296 := ok.seq
  have h4 : 0 ≤ s.ack ∧ s.ack < 4294967296 := ok.ack
  have h5 : 0 ≤ s.flags ∧ s.flags ≤ 7 := ok.flags
  refine call74 ?_
  unfold N74
  refine h.box fun q w' h => ?_
  have h := h.drew
  refine ⟨fun w => St c w _, h, ?_⟩
  refine St.rdsI 0 (St.rdsI 1 (St.rdsI 2 (St.rdsI 3 (St.rdsI 4 ?_))))
  refine packH_ok h h1.1 h1.2 fun w' h => ?_
  (repeat (first | apply Exists.intro (α := Int) | apply Exists.intro (α := Bool) | apply Exists.intro (α := ByteArray) | (apply Exists.intro (α := Option Addr); apply Exists.intro (α := Nat); apply Exists.intro (α := Nat)) | apply Exists.intro (α := Option Addr) | apply Exists.intro (α := Value)))
  refine ⟨rfl, ?_⟩
  refine ⟨_, fun _ h => h, h, ?_⟩
  refine packH_ok h h2.1 h2.2 fun w' h => ?_
  (repeat (first | apply Exists.intro (α := Int) | apply Exists.intro (α := Bool) | apply Exists.intro (α := ByteArray) | (apply Exists.intro (α := Option Addr); apply Exists.intro (α := Nat); apply Exists.intro (α := Nat)) | apply Exists.intro (α := Option Addr) | apply Exists.intro (α := Value)))
  refine ⟨rfl, ?_⟩
  refine ⟨_, fun _ h => h, h, ?_⟩
  refine packW_ok h h3.1 h3.2 fun w' h => ?_
  (repeat (first | apply Exists.intro (α := Int) | apply Exists.intro (α := Bool) | apply Exists.intro (α := ByteArray) | (apply Exists.intro (α := Option Addr); apply Exists.intro (α := Nat); apply Exists.intro (α := Nat)) | apply Exists.intro (α := Option Addr) | apply Exists.intro (α := Value)))
  refine ⟨rfl, ?_⟩
  refine ⟨_, fun _ h => h, h, ?_⟩
  refine packW_ok h h4.1 h4.2 fun w' h => ?_
  (repeat (first | apply Exists.intro (α := Int) | apply Exists.intro (α := Bool) | apply Exists.intro (α := ByteArray) | (apply Exists.intro (α := Option Addr); apply Exists.intro (α := Nat); apply Exists.intro (α := Nat)) | apply Exists.intro (α := Option Addr) | apply Exists.intro (α := Value)))
  refine ⟨rfl, ?_⟩
  refine ⟨_, fun _ h => h, h, ?_⟩
  refine packB_ok h h5.1 (by omega) fun w' h => ?_
  (repeat (first | apply Exists.intro (α := Int) | apply Exists.intro (α := Bool) | apply Exists.intro (α := ByteArray) | (apply Exists.intro (α := Option Addr); apply Exists.intro (α := Nat); apply Exists.intro (α := Nat)) | apply Exists.intro (α := Option Addr) | apply Exists.intro (α := Value)))
  refine ⟨rfl, ?_⟩
  refine h.lit (n := 5) 127 2 (([⟨2, s.src⟩, ⟨2, s.dst⟩, ⟨4, s.seq⟩, ⟨4, s.ack⟩, ⟨1, s.flags⟩] : List Fd).flatMap fd) fun q2 w' h => ?_
  refine pput_ok h (A := none) (bs := []) (C := 0) (fs := [⟨2, s.src⟩, ⟨2, s.dst⟩, ⟨4, s.seq⟩, ⟨4, s.ack⟩, ⟨1, s.flags⟩]) RdIn.nil (RdIn.own .head) (fun f hf => ?_) (by simp) (by simp) fun O k w' h => ⟨_, _, _, rfl, ?_⟩
  · simp only [List.mem_cons, List.not_mem_nil, or_false] at hf
    rcases hf with rfl | rfl | rfl | rfl | rfl <;> (unfold FdOk; simp only; omega)
  have e : ([] : List UInt8) ++ ([⟨2, s.src⟩, ⟨2, s.dst⟩, ⟨4, s.seq⟩, ⟨4, s.ack⟩, ⟨1, s.flags⟩] : List Fd).flatMap fdb = hdB s.pl := by simp [fdb, hdB, Sg.pl]
  rw [e] at h ⊢
  exact hk _ _ _ (h.sub (.cons .head (Sub.same _).more.more))
theorem senc_ok (h : St c w L) {s : Sg} (hs : SgIn L s) (ok : SgOk s.pl) {Q : Value → World → Prop}
    (hk : ∀ O k w', St c w' (own 5 1 O (encB s.pl).length k (bvs (encB s.pl)) :: L) → Q (.tuple #[.slice O (encB s.pl).length k, .int .i64 0]) w') : CALL PG 69 [sgv s] w Q := by
  have hd : s.ds.length ≤ 1024 := ok.data
  have hr : (obs (s.os.map opl)).length ≤ 200 := ok.room
  have hol := obs_two (s.os.map opl)
  rw [List.length_map] at hol
  refine call69 ?_
  unfold N69
  refine h.box fun q w' h => ?_
  refine h.rdG ?_
  (repeat (first | apply Exists.intro (α := Int) | apply Exists.intro (α := Bool) | apply Exists.intro (α := ByteArray) | (apply Exists.intro (α := Option Addr); apply Exists.intro (α := Nat); apply Exists.intro (α := Nat)) | apply Exists.intro (α := Option Addr) | apply Exists.intro (α := Value)))
  refine ⟨rfl, ?_⟩
  refine segright_ok h hs.more ok fun w' h => ?_
  (repeat (first | apply Exists.intro (α := Int) | apply Exists.intro (α := Bool) | apply Exists.intro (α := ByteArray) | (apply Exists.intro (α := Option Addr); apply Exists.intro (α := Nat); apply Exists.intro (α := Nat)) | apply Exists.intro (α := Option Addr) | apply Exists.intro (α := Value)))
  refine ⟨rfl, ?_⟩
  refine leti rfl (ifnsame rfl (h.rdL 5 ?_))
  have h := h.addOwnNil 5 1
  refine ⟨fun m O oN oC x w' => ∃ j : Nat, x = j ∧ m = s.os.length - j ∧ j ≤ s.os.length ∧ oN = (obs ((s.os.take j).map opl)).length ∧ St c w' (own 5 1 O oN oC (bvs (obs ((s.os.take j).map opl))) :: blk q 151 [.int .u16 s.src, .int .u16 s.dst, .int .u32 s.seq, .int .u32 s.ack, .int .u8 s.flags, .slice s.oA s.os.length s.oC, .slice s.dA s.ds.length s.dC] :: L), ⟨_, 0, rfl, rfl, by omega, rfl, h⟩, ?_⟩
  clear h
  rintro m O oN oC _ w' ⟨j, rfl, rfl, hj, rfl, h⟩
  have hle0 := obs_le (os := s.os) j
  refine ifd (fun hlt => ?_) fun hge => ?_
  · obtain ⟨o, hy⟩ := ex_get (L := s.os) (j := j) (by omega)
    have hm := List.mem_of_getElem? hy
    have ho := ok.opts (opl o) (List.mem_map_of_mem hm)
    have ho1 : 1 ≤ o.kind ∧ o.kind < 256 := ho.1
    have ho2 : o.bodys.length ≤ 255 := ho.2
    have hT := obs_take hy
    refine h.ix (z := 1) hs.opts.more.more hy (fun a ha => ?_) (by omega)
    have hr1 := hs.opts
    rw [ha] at hr1
    refine h.rdEG hr1.more.more hy ?_
    (repeat (first | apply Exists.intro (α := Int) | apply Exists.intro (α := Bool) | apply Exists.intro (α := ByteArray) | (apply Exists.intro (α := Option Addr); apply Exists.intro (α := Nat); apply Exists.intro (α := Nat)) | apply Exists.intro (α := Option Addr) | apply Exists.intro (α := Value)))
    refine ⟨rfl, ?_⟩
    refine h.allocZ fun p w' h => ?_
    refine h.stG fun w' h => ?_
    refine h.rdI 0 (h.rdL 1 ?_)
    rw [show IntKind.u8.wrap (o.bodys.length : Int) = (o.bodys.length : Int) by rw [wrapU8]; omega, bv_of (n := o.kind) (by omega) (by omega), bv_nat (n := o.bodys.length) (by omega)]
    refine h.lit (n := 2) 5 1 (bvs [byteOf o.kind, UInt8.ofNat o.bodys.length]) fun p2 w' h => ?_
    refine h.append huPk tiPkU8 (.tail (.tail .head)) (RdIn.own .head) (m := 2) rfl (Flat.bvs _) (by omega) fun O2 d2 w' h => ?_
    refine h.rdL (B := p) 1 ?_
    refine h.append huPk tiPkU8 .head (hs.opt hm).more.more.more.more (m := o.bodys.length) (by rw [bvs_length]; omega) (Flat.bvs _) (by omega) fun O3 d3 w' h => ?_
    refine ⟨_, by omega, j + 1, by rw [wrap_i64 (by omega) (by omega)]; omega, rfl, by omega, ?_, ?_⟩
    · rw [hT, List.length_append, obP_length]
      show _ = _ + (2 + o.bodys.length)
      omega
    · rw [hT, ← bvs_append]
      have e : bvs (obP (opl o)) = bvs [byteOf o.kind, UInt8.ofNat o.bodys.length] ++ bvs o.bodys := by rw [bvs_append]; rfl
      rw [e, ← List.append_assoc]
      exact h.sub (.cons .head (.cons (.tail (.tail .head)) (Sub.same _).more.more))
  have ej : s.os.take j = s.os := List.take_of_length_le (by omega)
  rw [ej] at h ⊢
  refine h.rdG (B := q) ?_
  (repeat (first | apply Exists.intro (α := Int) | apply Exists.intro (α := Bool) | apply Exists.intro (α := ByteArray) | (apply Exists.intro (α := Option Addr); apply Exists.intro (α := Nat); apply Exists.intro (α := Nat)) | apply Exists.intro (α := Option Addr) | apply Exists.intro (α := Value)))
  refine ⟨rfl, ?_⟩
  refine seghead_ok h ok fun O4 k4 w' h => ?_
  (repeat (first | apply Exists.intro (α := Int) | apply Exists.intro (α := Bool) | apply Exists.intro (α := ByteArray) | (apply Exists.intro (α := Option Addr); apply Exists.intro (α := Nat); apply Exists.intro (α := Nat)) | apply Exists.intro (α := Option Addr) | apply Exists.intro (α := Value)))
  refine ⟨rfl, ?_⟩
  rw [show IntKind.u8.wrap ((obs (s.os.map opl)).length : Int) = ((obs (s.os.map opl)).length : Int) by rw [wrapU8]; omega]
  refine packB_ok h (by omega) (by omega) fun w' h => ?_
  (repeat (first | apply Exists.intro (α := Int) | apply Exists.intro (α := Bool) | apply Exists.intro (α := ByteArray) | (apply Exists.intro (α := Option Addr); apply Exists.intro (α := Nat); apply Exists.intro (α := Nat)) | apply Exists.intro (α := Option Addr) | apply Exists.intro (α := Value)))
  refine ⟨rfl, ?_⟩
  refine h.lit (n := 1) 127 2 (([⟨1, ((obs (s.os.map opl)).length : Int)⟩] : List Fd).flatMap fd) fun q2 w' h => ?_
  refine pput_ok h (bs := hdB s.pl) (fs := [⟨1, ((obs (s.os.map opl)).length : Int)⟩]) (RdIn.own (.tail .head)) (RdIn.own .head) (fun f hf => ?_) (by rw [hdB_length]; decide) (by simp) fun O5 k5 w' h => ⟨_, _, _, rfl, ?_⟩
  · rw [List.mem_singleton] at hf
    subst hf
    unfold FdOk
    simp only
    omega
  have e1 : hdB s.pl ++ ([⟨1, ((obs (s.os.map opl)).length : Int)⟩] : List Fd).flatMap fdb = hdB s.pl ++ [UInt8.ofNat (obs (s.os.map opl)).length] := by
    have : byteOf (((obs (s.os.map opl)).length : Nat) : Int) = UInt8.ofNat (obs (s.os.map opl)).length := by
      apply UInt8.toNat_inj.1
      have e1 := byteOf_val (((obs (s.os.map opl)).length : Nat) : Int)
      rw [UInt8.toNat_ofNat']
      omega
    simp [fdb, beB, this]
  rw [e1] at h ⊢
  have hl13 := hdB_length s.pl
  have h := h.drew
  refine ⟨fun w => St c w (blk q 151 [.int .u16 s.src, .int .u16 s.dst, .int .u32 s.seq, .int .u32 s.ack, .int .u8 s.flags, .slice s.oA s.os.length s.oC, .slice s.dA s.ds.length s.dC] :: L), h.sub (.cons (.tail (.tail (.tail (.tail .head)))) (Sub.same _).more.more.more.more), ?_⟩
  refine St.rdsL 6 ?_
  refine h.append huPk tiPkU8 .head (RdIn.own (.tail (.tail (.tail .head)))) (m := (obs (s.os.map opl)).length) (by rw [bvs_length]; omega) (Flat.bvs _) (by simp only [List.length_append, List.length_singleton]; omega) fun O6 d6 w' h => ?_
  refine ⟨_, fun _ h => h, h.sub (.cons (.tail (.tail (.tail (.tail .head)))) (Sub.same _).more.more.more.more), ?_⟩
  refine h.append huPk tiPkU8 .head hs.data.more.more.more.more.more (m := s.ds.length) (by rw [bvs_length]; omega) (Flat.bvs _) (by simp only [List.length_append, List.length_singleton]; omega) fun O7 d7 w' h => ?_
  have e2 : (hdB s.pl ++ [UInt8.ofNat (obs (s.os.map opl)).length]).length + (obs (s.os.map opl)).length + s.ds.length = (encB s.pl).length := by
    unfold encB
    simp only [Sg.pl, List.length_append]
  rw [e2] at h ⊢
  refine hk _ _ _ ?_
  have e3 : bvs (encB s.pl) = bvs (hdB s.pl ++ [UInt8.ofNat (obs (s.os.map opl)).length]) ++ bvs (obs (s.os.map opl)) ++ bvs s.ds := by rw [bvs_append, bvs_append]; rfl
  rw [e3]
  exact h.sub (.cons .head (Sub.same _).more.more.more.more)
end
end Go.Br
