/- A host's configuration, and a host that is new. -/
import Derived.Test.YtnmhgjfllknbpaaNHostNew
import Derived.Test.YtnmhgjfllknbpaaBrMap
import Derived.Test.YtnmhgjfllknbpaaBrSeat
set_option linter.unusedVariables false
set_option linter.unusedSimpArgs false
set_option linter.unnecessarySimpa false
namespace Go.Br
open Go
instance biHostNewa (x0 : Int) (x1 : Int) : Bld PG (Instr.build 55 #[(0, .agg #[.int .u64 x0, .int .u64 x1])]) (.agg #[.int .u64 x0, .int .u64 x1, .int .u64 0]) := ⟨fun w => by kernel_rfl⟩
attribute [local irreducible] Addr.add RD RDS RUN RUNU NILC LETB CALL CALLX CALLV

structure Cfg where
  ports : Int
  half : Int
  conns : Int
  flows : Int
  buffer : Int
  chunks : Int
  addrs : Int
  paths : Int
  mss : Int
  silence : Int
  keep : Int
  burst : Int
  rate : Int
  score : Int
  policy : Int
def cfg (x : Cfg) : List Value := [.int .i64 x.ports, .int .i64 x.half, .int .i64 x.conns, .int .i64 x.flows, .int .i64 x.buffer, .int .i64 x.chunks, .int .i64 x.addrs, .int .i64 x.paths, .int .i64 x.mss, .int .i64 x.silence, .int .i64 x.keep, .int .i64 x.burst, .int .i64 x.rate, .int .i64 x.score, .int .i64 x.policy]
abbrev cfgv (x : Cfg) : Value := .agg #[.int .i64 x.ports, .int .i64 x.half, .int .i64 x.conns, .int .i64 x.flows, .int .i64 x.buffer, .int .i64 x.chunks, .int .i64 x.addrs, .int .i64 x.paths, .int .i64 x.mss, .int .i64 x.silence, .int .i64 x.keep, .int .i64 x.burst, .int .i64 x.rate, .int .i64 x.score, .int .i64 x.policy]
theorem cfg_length (x : Cfg) : (cfg x).length = 15 := rfl
theorem cfg_flat1 (x : Cfg) : Flat (cfg x) := by intro v hv; simp [cfg] at hv; rcases hv with rfl | rfl | rfl | rfl | rfl | rfl | rfl | rfl | rfl | rfl | rfl | rfl | rfl | rfl | rfl <;> rfl
theorem cfg_flat (L : List Cfg) : Flat (L.flatMap cfg) := by
  intro v hv
  simp only [List.mem_flatMap] at hv
  obtain ⟨x, _, hx⟩ := hv
  exact cfg_flat1 x v hx
def CfgM (g : Cfg) : Prop := (0 ≤ g.ports ∧ g.ports ≤ 8) ∧ (0 ≤ g.half ∧ g.half ≤ 8) ∧ (0 ≤ g.conns ∧ g.conns ≤ 8) ∧ (1 ≤ g.flows ∧ g.flows ≤ 4)
def CfgS (g : Cfg) : Prop := (1 ≤ g.buffer ∧ g.buffer ≤ 4096) ∧ (1 ≤ g.chunks ∧ g.chunks ≤ 64) ∧ (0 ≤ g.addrs ∧ g.addrs ≤ 8) ∧ (1 ≤ g.paths ∧ g.paths ≤ 4) ∧ (1 ≤ g.mss ∧ g.mss ≤ 1024)
def CfgT (g : Cfg) : Prop := (1 ≤ g.keep ∧ g.keep ≤ 4096) ∧ (2 ≤ g.silence ∧ g.silence ≤ 4096) ∧ g.keep < g.silence
def CfgR (g : Cfg) : Prop := (0 ≤ g.burst ∧ g.burst ≤ 4096) ∧ (0 ≤ g.rate ∧ g.rate ≤ 4096) ∧ (1 ≤ g.score ∧ g.score ≤ 4096) ∧ (1 ≤ g.policy ∧ g.policy ≤ 3)
/-- A configuration may be. -/
def CfgOk (g : Cfg) : Prop := CfgM g ∧ CfgS g ∧ CfgT g ∧ CfgR g
instance (g : Cfg) : Decidable (CfgM g) := by unfold CfgM; infer_instance
instance (g : Cfg) : Decidable (CfgS g) := by unfold CfgS; infer_instance
instance (g : Cfg) : Decidable (CfgT g) := by unfold CfgT; infer_instance
instance (g : Cfg) : Decidable (CfgR g) := by unfold CfgR; infer_instance
instance (g : Cfg) : Decidable (CfgOk g) := by unfold CfgOk; infer_instance
section
variable {c : Ctx} {w : World} {L R : List SA}
theorem wi_ok {n lo hi : Int} {Q : Value → World → Prop} (hk : Q (.bool (decide (lo ≤ n ∧ n ≤ hi))) w) : CALL PG 29 [.int .i64 n, .int .i64 lo, .int .i64 hi] w Q := by
  refine call29 ?_
  unfold N29
  exact ifd (fun h => letb (decide_eq_decide.2 (by omega)) hk) fun h => letb (decide_eq_false (by omega)).symm hk
theorem rwi_ok {n lo hi : Int} {Q : Value → World → Prop} (hk : Q (.bool (decide (lo ≤ n ∧ n ≤ hi))) w) : CALL PG 11 [.int .i64 n, .int .i64 lo, .int .i64 hi] w Q := by
  refine call11 ?_
  unfold N11
  exact ifd (fun h => letb (decide_eq_decide.2 (by omega)) hk) fun h => letb (decide_eq_false (by omega)).symm hk
theorem right_ok (h : St c w L) (g : Cfg) {Q : Value → World → Prop} (hk : ∀ w', St c w' L → Q (.int .i64 (if CfgOk g then 0 else 200)) w') : CALL PG 19 [cfgv g] w Q := by
  have f0 : CfgOk g → ∀ {w' X}, St c w' (X :: L) → Q (.int .i64 0) w' := fun e w' X h => by have := hk w' h.drop; rwa [if_pos e] at this
  have f2 : ¬ CfgOk g → ∀ {w' X}, St c w' (X :: L) → Q (.int .i64 200) w' := fun e w' X h => by have := hk w' h.drop; rwa [if_neg e] at this
  refine call19 ?_
  unfold N19
  refine h.box (vs := cfg g) fun q w' h => ?_
  refine ⟨fun b w' => b = decide (CfgM g) ∧ St c w' (blk q 24 (cfg g) :: L), ?_, ?_⟩
  · refine h.rdI 0 ?_
    refine callvT tabOk (by kernel_rfl) (wi_ok ?_)
    (repeat (first | apply Exists.intro (α := Int) | apply Exists.intro (α := Bool) | apply Exists.intro (α := ByteArray) | (apply Exists.intro (α := Option Addr); apply Exists.intro (α := Nat); apply Exists.intro (α := Nat)) | apply Exists.intro (α := Option Addr) | apply Exists.intro (α := Value)))
    refine ⟨rfl, ?_⟩
    refine ifd (fun h0 => ?_) fun h0 => letb rfl ⟨(decide_eq_false (by unfold CfgM; omega)).symm, h⟩
    refine h.rdI 1 ?_
    refine callvT tabOk (by kernel_rfl) (wi_ok ?_)
    (repeat (first | apply Exists.intro (α := Int) | apply Exists.intro (α := Bool) | apply Exists.intro (α := ByteArray) | (apply Exists.intro (α := Option Addr); apply Exists.intro (α := Nat); apply Exists.intro (α := Nat)) | apply Exists.intro (α := Option Addr) | apply Exists.intro (α := Value)))
    refine ⟨rfl, ?_⟩
    refine ifd (fun h1 => ?_) fun h1 => letb rfl ⟨(decide_eq_false (by unfold CfgM; omega)).symm, h⟩
    refine h.rdI 2 ?_
    refine callvT tabOk (by kernel_rfl) (wi_ok ?_)
    (repeat (first | apply Exists.intro (α := Int) | apply Exists.intro (α := Bool) | apply Exists.intro (α := ByteArray) | (apply Exists.intro (α := Option Addr); apply Exists.intro (α := Nat); apply Exists.intro (α := Nat)) | apply Exists.intro (α := Option Addr) | apply Exists.intro (α := Value)))
    refine ⟨rfl, ?_⟩
    refine ifd (fun h2 => ?_) fun h2 => letb rfl ⟨(decide_eq_false (by unfold CfgM; omega)).symm, h⟩
    refine h.rdI 3 ?_
    refine callvT tabOk (by kernel_rfl) (wi_ok ?_)
    (repeat (first | apply Exists.intro (α := Int) | apply Exists.intro (α := Bool) | apply Exists.intro (α := ByteArray) | (apply Exists.intro (α := Option Addr); apply Exists.intro (α := Nat); apply Exists.intro (α := Nat)) | apply Exists.intro (α := Option Addr) | apply Exists.intro (α := Value)))
    refine ⟨rfl, ?_⟩
    exact letb rfl ⟨decide_eq_decide.2 (by unfold CfgM; omega), h⟩
  clear h
  rintro _ w' ⟨rfl, h⟩
  refine ⟨fun b w' => b = decide (CfgS g) ∧ St c w' (blk q 24 (cfg g) :: L), ?_, ?_⟩
  · refine h.rdI 4 ?_
    refine callvT tabOk (by kernel_rfl) (wi_ok ?_)
    (repeat (first | apply Exists.intro (α := Int) | apply Exists.intro (α := Bool) | apply Exists.intro (α := ByteArray) | (apply Exists.intro (α := Option Addr); apply Exists.intro (α := Nat); apply Exists.intro (α := Nat)) | apply Exists.intro (α := Option Addr) | apply Exists.intro (α := Value)))
    refine ⟨rfl, ?_⟩
    refine ifd (fun h0 => ?_) fun h0 => letb rfl ⟨(decide_eq_false (by unfold CfgS; omega)).symm, h⟩
    refine h.rdI 5 ?_
    refine callvT tabOk (by kernel_rfl) (wi_ok ?_)
    (repeat (first | apply Exists.intro (α := Int) | apply Exists.intro (α := Bool) | apply Exists.intro (α := ByteArray) | (apply Exists.intro (α := Option Addr); apply Exists.intro (α := Nat); apply Exists.intro (α := Nat)) | apply Exists.intro (α := Option Addr) | apply Exists.intro (α := Value)))
    refine ⟨rfl, ?_⟩
    refine ifd (fun h1 => ?_) fun h1 => letb rfl ⟨(decide_eq_false (by unfold CfgS; omega)).symm, h⟩
    refine h.rdI 6 ?_
    refine callvT tabOk (by kernel_rfl) (wi_ok ?_)
    (repeat (first | apply Exists.intro (α := Int) | apply Exists.intro (α := Bool) | apply Exists.intro (α := ByteArray) | (apply Exists.intro (α := Option Addr); apply Exists.intro (α := Nat); apply Exists.intro (α := Nat)) | apply Exists.intro (α := Option Addr) | apply Exists.intro (α := Value)))
    refine ⟨rfl, ?_⟩
    refine ifd (fun h2 => ?_) fun h2 => letb rfl ⟨(decide_eq_false (by unfold CfgS; omega)).symm, h⟩
    refine h.rdI 7 ?_
    refine callvT tabOk (by kernel_rfl) (wi_ok ?_)
    (repeat (first | apply Exists.intro (α := Int) | apply Exists.intro (α := Bool) | apply Exists.intro (α := ByteArray) | (apply Exists.intro (α := Option Addr); apply Exists.intro (α := Nat); apply Exists.intro (α := Nat)) | apply Exists.intro (α := Option Addr) | apply Exists.intro (α := Value)))
    refine ⟨rfl, ?_⟩
    refine ifd (fun h3 => ?_) fun h3 => letb rfl ⟨(decide_eq_false (by unfold CfgS; omega)).symm, h⟩
    refine h.rdI 8 ?_
    refine callvT tabOk (by kernel_rfl) (wi_ok ?_)
    (repeat (first | apply Exists.intro (α := Int) | apply Exists.intro (α := Bool) | apply Exists.intro (α := ByteArray) | (apply Exists.intro (α := Option Addr); apply Exists.intro (α := Nat); apply Exists.intro (α := Nat)) | apply Exists.intro (α := Option Addr) | apply Exists.intro (α := Value)))
    refine ⟨rfl, ?_⟩
    exact letb rfl ⟨decide_eq_decide.2 (by unfold CfgS; omega), h⟩
  clear h
  rintro _ w' ⟨rfl, h⟩
  refine ⟨fun b w' => b = decide (CfgT g) ∧ St c w' (blk q 24 (cfg g) :: L), ?_, ?_⟩
  · refine h.rdI 10 ?_
    refine callvT tabOk (by kernel_rfl) (wi_ok ?_)
    (repeat (first | apply Exists.intro (α := Int) | apply Exists.intro (α := Bool) | apply Exists.intro (α := ByteArray) | (apply Exists.intro (α := Option Addr); apply Exists.intro (α := Nat); apply Exists.intro (α := Nat)) | apply Exists.intro (α := Option Addr) | apply Exists.intro (α := Value)))
    refine ⟨rfl, ?_⟩
    refine ifd (fun h0 => ?_) fun h0 => letb rfl ⟨(decide_eq_false (by unfold CfgT; omega)).symm, h⟩
    refine h.rdI 9 ?_
    refine callvT tabOk (by kernel_rfl) (wi_ok ?_)
    (repeat (first | apply Exists.intro (α := Int) | apply Exists.intro (α := Bool) | apply Exists.intro (α := ByteArray) | (apply Exists.intro (α := Option Addr); apply Exists.intro (α := Nat); apply Exists.intro (α := Nat)) | apply Exists.intro (α := Option Addr) | apply Exists.intro (α := Value)))
    refine ⟨rfl, ?_⟩
    refine ifd (fun h1 => ?_) fun h1 => letb rfl ⟨(decide_eq_false (by unfold CfgT; omega)).symm, h⟩
    refine h.rdI 10 ?_
    refine h.rdI 9 ?_
    exact letb rfl ⟨decide_eq_decide.2 (by unfold CfgT; omega), h⟩
  clear h
  rintro _ w' ⟨rfl, h⟩
  have bad : ¬ CfgR g → ∀ {w'}, St c w' (blk q 24 (cfg g) :: L) → IFB (decide (CfgM g)) (IFB (decide (CfgS g)) (IFB (decide (CfgT g)) (IFB false (Q (.int .i64 0) w') (Q (.int .i64 200) w')) (Q (.int .i64 200) w')) (Q (.int .i64 200) w')) (Q (.int .i64 200) w') := fun e w' h =>
    ifd (fun a => ifd (fun b => ifd (fun d => iff_ rfl (f2 (fun k => e k.2.2.2) h)) fun d => f2 (fun k => d k.2.2.1) h) fun b => f2 (fun k => b k.2.1) h) fun a => f2 (fun k => a k.1) h
  refine h.rdI 11 ?_
  refine callvT tabOk (by kernel_rfl) (wi_ok ?_)
  (repeat (first | apply Exists.intro (α := Int) | apply Exists.intro (α := Bool) | apply Exists.intro (α := ByteArray) | (apply Exists.intro (α := Option Addr); apply Exists.intro (α := Nat); apply Exists.intro (α := Nat)) | apply Exists.intro (α := Option Addr) | apply Exists.intro (α := Value)))
  refine ⟨rfl, ?_⟩
  refine ifd (fun h0 => ?_) fun h0 => letb rfl (bad (by unfold CfgR; omega) h)
  refine h.rdI 12 ?_
  refine callvT tabOk (by kernel_rfl) (wi_ok ?_)
  (repeat (first | apply Exists.intro (α := Int) | apply Exists.intro (α := Bool) | apply Exists.intro (α := ByteArray) | (apply Exists.intro (α := Option Addr); apply Exists.intro (α := Nat); apply Exists.intro (α := Nat)) | apply Exists.intro (α := Option Addr) | apply Exists.intro (α := Value)))
  refine ⟨rfl, ?_⟩
  refine ifd (fun h1 => ?_) fun h1 => letb rfl (bad (by unfold CfgR; omega) h)
  refine h.rdI 13 ?_
  refine callvT tabOk (by kernel_rfl) (wi_ok ?_)
  (repeat (first | apply Exists.intro (α := Int) | apply Exists.intro (α := Bool) | apply Exists.intro (α := ByteArray) | (apply Exists.intro (α := Option Addr); apply Exists.intro (α := Nat); apply Exists.intro (α := Nat)) | apply Exists.intro (α := Option Addr) | apply Exists.intro (α := Value)))
  refine ⟨rfl, ?_⟩
  refine ifd (fun h2 => ?_) fun h2 => letb rfl (bad (by unfold CfgR; omega) h)
  refine h.rdI 14 ?_
  refine ifd (fun h3 => ?_) fun h3 => letb rfl (bad (by unfold CfgR; omega) h)
  refine h.rdI 14 ?_
  refine letb rfl (ifd (fun a => ifd (fun b => ifd (fun d => ifd (fun e => f0 ⟨a, b, d, ?_⟩ h) fun e => f2 (fun k => e ?_) h) fun d => f2 (fun k => d k.2.2.1) h) fun b => f2 (fun k => b k.2.1) h) fun a => f2 (fun k => a k.1) h)
  · unfold CfgR; omega
  · have := k.2.2.2; unfold CfgR at this; omega
theorem rright_ok (h : St c w L) (g : Cfg) {Q : Value → World → Prop} (hk : ∀ w', St c w' L → Q (.bool (decide (CfgOk g))) w') : CALL PG 5 [cfgv g] w Q := by
  have f2 : ¬ CfgOk g → ∀ {w' X}, St c w' (X :: L) → Q (.bool false) w' := fun e w' X h => by have := hk w' h.drop; rwa [decide_eq_false e] at this
  refine call5 ?_
  unfold N5
  refine h.box (vs := cfg g) fun q w' h => ?_
  refine ⟨fun b w' => b = decide ((0 ≤ g.ports ∧ g.ports ≤ 8) ∧ (0 ≤ g.half ∧ g.half ≤ 8) ∧ (0 ≤ g.conns ∧ g.conns ≤ 8) ∧ (1 ≤ g.flows ∧ g.flows ≤ 4) ∧ (0 ≤ g.addrs ∧ g.addrs ≤ 8) ∧ (1 ≤ g.paths ∧ g.paths ≤ 4)) ∧ St c w' (blk q 24 (cfg g) :: L), ?_, ?_⟩
  · refine h.rdI 0 ?_
    refine rwi_ok ?_
    (repeat (first | apply Exists.intro (α := Int) | apply Exists.intro (α := Bool) | apply Exists.intro (α := ByteArray) | (apply Exists.intro (α := Option Addr); apply Exists.intro (α := Nat); apply Exists.intro (α := Nat)) | apply Exists.intro (α := Option Addr) | apply Exists.intro (α := Value)))
    refine ⟨rfl, ?_⟩
    refine ifd (fun h0 => ?_) fun h0 => letb rfl ⟨(decide_eq_false (by omega)).symm, h⟩
    refine h.rdI 1 ?_
    refine rwi_ok ?_
    (repeat (first | apply Exists.intro (α := Int) | apply Exists.intro (α := Bool) | apply Exists.intro (α := ByteArray) | (apply Exists.intro (α := Option Addr); apply Exists.intro (α := Nat); apply Exists.intro (α := Nat)) | apply Exists.intro (α := Option Addr) | apply Exists.intro (α := Value)))
    refine ⟨rfl, ?_⟩
    refine ifd (fun h1 => ?_) fun h1 => letb rfl ⟨(decide_eq_false (by omega)).symm, h⟩
    refine h.rdI 2 ?_
    refine rwi_ok ?_
    (repeat (first | apply Exists.intro (α := Int) | apply Exists.intro (α := Bool) | apply Exists.intro (α := ByteArray) | (apply Exists.intro (α := Option Addr); apply Exists.intro (α := Nat); apply Exists.intro (α := Nat)) | apply Exists.intro (α := Option Addr) | apply Exists.intro (α := Value)))
    refine ⟨rfl, ?_⟩
    refine ifd (fun h2 => ?_) fun h2 => letb rfl ⟨(decide_eq_false (by omega)).symm, h⟩
    refine h.rdI 3 ?_
    refine rwi_ok ?_
    (repeat (first | apply Exists.intro (α := Int) | apply Exists.intro (α := Bool) | apply Exists.intro (α := ByteArray) | (apply Exists.intro (α := Option Addr); apply Exists.intro (α := Nat); apply Exists.intro (α := Nat)) | apply Exists.intro (α := Option Addr) | apply Exists.intro (α := Value)))
    refine ⟨rfl, ?_⟩
    refine ifd (fun h3 => ?_) fun h3 => letb rfl ⟨(decide_eq_false (by omega)).symm, h⟩
    refine h.rdI 6 ?_
    refine rwi_ok ?_
    (repeat (first | apply Exists.intro (α := Int) | apply Exists.intro (α := Bool) | apply Exists.intro (α := ByteArray) | (apply Exists.intro (α := Option Addr); apply Exists.intro (α := Nat); apply Exists.intro (α := Nat)) | apply Exists.intro (α := Option Addr) | apply Exists.intro (α := Value)))
    refine ⟨rfl, ?_⟩
    refine ifd (fun h4 => ?_) fun h4 => letb rfl ⟨(decide_eq_false (by omega)).symm, h⟩
    refine h.rdI 7 ?_
    refine rwi_ok ?_
    (repeat (first | apply Exists.intro (α := Int) | apply Exists.intro (α := Bool) | apply Exists.intro (α := ByteArray) | (apply Exists.intro (α := Option Addr); apply Exists.intro (α := Nat); apply Exists.intro (α := Nat)) | apply Exists.intro (α := Option Addr) | apply Exists.intro (α := Value)))
    refine ⟨rfl, ?_⟩
    exact letb rfl ⟨decide_eq_decide.2 (by omega), h⟩
  clear h
  rintro _ w' ⟨rfl, h⟩
  refine ⟨fun b w' => b = decide ((1 ≤ g.buffer ∧ g.buffer ≤ 4096) ∧ (1 ≤ g.chunks ∧ g.chunks ≤ 64) ∧ (1 ≤ g.mss ∧ g.mss ≤ 1024)) ∧ St c w' (blk q 24 (cfg g) :: L), ?_, ?_⟩
  · refine h.rdI 4 ?_
    refine rwi_ok ?_
    (repeat (first | apply Exists.intro (α := Int) | apply Exists.intro (α := Bool) | apply Exists.intro (α := ByteArray) | (apply Exists.intro (α := Option Addr); apply Exists.intro (α := Nat); apply Exists.intro (α := Nat)) | apply Exists.intro (α := Option Addr) | apply Exists.intro (α := Value)))
    refine ⟨rfl, ?_⟩
    refine ifd (fun h0 => ?_) fun h0 => letb rfl ⟨(decide_eq_false (by omega)).symm, h⟩
    refine h.rdI 5 ?_
    refine rwi_ok ?_
    (repeat (first | apply Exists.intro (α := Int) | apply Exists.intro (α := Bool) | apply Exists.intro (α := ByteArray) | (apply Exists.intro (α := Option Addr); apply Exists.intro (α := Nat); apply Exists.intro (α := Nat)) | apply Exists.intro (α := Option Addr) | apply Exists.intro (α := Value)))
    refine ⟨rfl, ?_⟩
    refine ifd (fun h1 => ?_) fun h1 => letb rfl ⟨(decide_eq_false (by omega)).symm, h⟩
    refine h.rdI 8 ?_
    refine rwi_ok ?_
    (repeat (first | apply Exists.intro (α := Int) | apply Exists.intro (α := Bool) | apply Exists.intro (α := ByteArray) | (apply Exists.intro (α := Option Addr); apply Exists.intro (α := Nat); apply Exists.intro (α := Nat)) | apply Exists.intro (α := Option Addr) | apply Exists.intro (α := Value)))
    refine ⟨rfl, ?_⟩
    exact letb rfl ⟨decide_eq_decide.2 (by omega), h⟩
  clear h
  rintro _ w' ⟨rfl, h⟩
  refine ⟨fun b w' => b = decide ((2 ≤ g.silence ∧ g.silence ≤ 4096) ∧ (1 ≤ g.keep ∧ g.keep ≤ 4096) ∧ g.keep < g.silence) ∧ St c w' (blk q 24 (cfg g) :: L), ?_, ?_⟩
  · refine h.rdI 9 ?_
    refine rwi_ok ?_
    (repeat (first | apply Exists.intro (α := Int) | apply Exists.intro (α := Bool) | apply Exists.intro (α := ByteArray) | (apply Exists.intro (α := Option Addr); apply Exists.intro (α := Nat); apply Exists.intro (α := Nat)) | apply Exists.intro (α := Option Addr) | apply Exists.intro (α := Value)))
    refine ⟨rfl, ?_⟩
    refine ifd (fun h0 => ?_) fun h0 => letb rfl ⟨(decide_eq_false (by omega)).symm, h⟩
    refine h.rdI 10 ?_
    refine rwi_ok ?_
    (repeat (first | apply Exists.intro (α := Int) | apply Exists.intro (α := Bool) | apply Exists.intro (α := ByteArray) | (apply Exists.intro (α := Option Addr); apply Exists.intro (α := Nat); apply Exists.intro (α := Nat)) | apply Exists.intro (α := Option Addr) | apply Exists.intro (α := Value)))
    refine ⟨rfl, ?_⟩
    refine ifd (fun h1 => ?_) fun h1 => letb rfl ⟨(decide_eq_false (by omega)).symm, h⟩
    refine h.rdI 10 ?_
    refine h.rdI 9 ?_
    exact letb rfl ⟨decide_eq_decide.2 (by omega), h⟩
  clear h
  rintro _ w' ⟨rfl, h⟩
  have un : CfgOk g ↔ ((0 ≤ g.ports ∧ g.ports ≤ 8) ∧ (0 ≤ g.half ∧ g.half ≤ 8) ∧ (0 ≤ g.conns ∧ g.conns ≤ 8) ∧ (1 ≤ g.flows ∧ g.flows ≤ 4) ∧ (0 ≤ g.addrs ∧ g.addrs ≤ 8) ∧ (1 ≤ g.paths ∧ g.paths ≤ 4)) ∧ ((1 ≤ g.buffer ∧ g.buffer ≤ 4096) ∧ (1 ≤ g.chunks ∧ g.chunks ≤ 64) ∧ (1 ≤ g.mss ∧ g.mss ≤ 1024)) ∧ ((2 ≤ g.silence ∧ g.silence ≤ 4096) ∧ (1 ≤ g.keep ∧ g.keep ≤ 4096) ∧ g.keep < g.silence) ∧ ((0 ≤ g.burst ∧ g.burst ≤ 4096) ∧ (0 ≤ g.rate ∧ g.rate ≤ 4096) ∧ (1 ≤ g.score ∧ g.score ≤ 4096) ∧ (1 ≤ g.policy ∧ g.policy ≤ 3)) := by unfold CfgOk CfgM CfgS CfgT CfgR; constructor <;> (intro; omega)
  refine ifd (fun a => ?_) fun a => letb rfl (f2 (fun k => a (un.1 k).1) h)
  refine ifd (fun b => ?_) fun b => letb rfl (f2 (fun k => b (un.1 k).2.1) h)
  refine ifd (fun d => ?_) fun d => letb rfl (f2 (fun k => d (un.1 k).2.2.1) h)
  refine h.rdI 11 ?_
  refine rwi_ok ?_
  (repeat (first | apply Exists.intro (α := Int) | apply Exists.intro (α := Bool) | apply Exists.intro (α := ByteArray) | (apply Exists.intro (α := Option Addr); apply Exists.intro (α := Nat); apply Exists.intro (α := Nat)) | apply Exists.intro (α := Option Addr) | apply Exists.intro (α := Value)))
  refine ⟨rfl, ?_⟩
  refine ifd (fun h0 => ?_) fun h0 => letb rfl (f2 (fun k => by have := (un.1 k).2.2.2; omega) h)
  refine h.rdI 12 ?_
  refine rwi_ok ?_
  (repeat (first | apply Exists.intro (α := Int) | apply Exists.intro (α := Bool) | apply Exists.intro (α := ByteArray) | (apply Exists.intro (α := Option Addr); apply Exists.intro (α := Nat); apply Exists.intro (α := Nat)) | apply Exists.intro (α := Option Addr) | apply Exists.intro (α := Value)))
  refine ⟨rfl, ?_⟩
  refine ifd (fun h1 => ?_) fun h1 => letb rfl (f2 (fun k => by have := (un.1 k).2.2.2; omega) h)
  refine h.rdI 13 ?_
  refine rwi_ok ?_
  (repeat (first | apply Exists.intro (α := Int) | apply Exists.intro (α := Bool) | apply Exists.intro (α := ByteArray) | (apply Exists.intro (α := Option Addr); apply Exists.intro (α := Nat); apply Exists.intro (α := Nat)) | apply Exists.intro (α := Option Addr) | apply Exists.intro (α := Value)))
  refine ⟨rfl, ?_⟩
  refine ifd (fun h2 => ?_) fun h2 => letb rfl (f2 (fun k => by have := (un.1 k).2.2.2; omega) h)
  refine h.rdI 14 ?_
  refine rwi_ok ?_
  (repeat (first | apply Exists.intro (α := Int) | apply Exists.intro (α := Bool) | apply Exists.intro (α := ByteArray) | (apply Exists.intro (α := Option Addr); apply Exists.intro (α := Nat); apply Exists.intro (α := Nat)) | apply Exists.intro (α := Option Addr) | apply Exists.intro (α := Value)))
  refine ⟨rfl, ?_⟩
  exact letb (decide_eq_decide.2 (by rw [un]; exact ⟨fun e => ⟨a, b, d, by omega⟩, fun k => by have := k.2.2.2; omega⟩)) (hk _ h.drop)
/-- A host's cells. -/
abbrev hcs (mal : Int) (g : Cfg) (k0 k1 n : Int) (pA : Option Addr) (pN pC r : Nat) : List Value := [.int .i64 0, .int .i64 0, .int .i64 0, .int .i64 0, .int .i64 0, .int .i64 0, .int .i64 mal, .int .i64 0, .int .i64 0, .int .i64 0, .int .i64 g.ports, .int .i64 g.half, .int .i64 g.conns, .int .i64 g.flows, .int .i64 g.buffer, .int .i64 g.chunks, .int .i64 g.addrs, .int .i64 g.paths, .int .i64 g.mss, .int .i64 g.silence, .int .i64 g.keep, .int .i64 g.burst, .int .i64 g.rate, .int .i64 g.score, .int .i64 g.policy, .int .u64 k0, .int .u64 k1, .int .u64 n, .slice pA pN pC, .map (some r), .int .i64 1, .slice none 0 0]
instance biHost (x0 x1 x2 x3 x4 x5 x6 x7 x8 x9 x10 x11 x12 x13 x14 : Int) (k0 k1 n : Int) (r : Nat) : Bld PG (Instr.build 62 #[(1, .agg #[.int .i64 x0, .int .i64 x1, .int .i64 x2, .int .i64 x3, .int .i64 x4, .int .i64 x5, .int .i64 x6, .int .i64 x7, .int .i64 x8, .int .i64 x9, .int .i64 x10, .int .i64 x11, .int .i64 x12, .int .i64 x13, .int .i64 x14]), (2, .agg #[.int .u64 k0, .int .u64 k1, .int .u64 n]), (4, .map (some r)), (5, .int .i64 1)]) (.agg (hcs 0 ⟨x0, x1, x2, x3, x4, x5, x6, x7, x8, x9, x10, x11, x12, x13, x14⟩ k0 k1 n none 0 0 r).toArray) := ⟨fun w => by kernel_rfl⟩
theorem hnew_ok (h : St c w L) (g : Cfg) {k0 k1 : Int} {Q : Value → World → Prop} (hbad : ¬ CfgOk g → ∀ w', St c w' L → Q (.tuple #[.pointer none, .int .i64 200]) w')
    (hok : CfgOk g → ∀ p r w', St c w' (blk p 62 (hcs 0 g k0 k1 0 none 0 0 r) :: mp r [] :: L) → Q (.tuple #[.pointer (some ⟨p, 0, none⟩), .int .i64 0]) w') : CALL PG 10 [cfgv g, .agg #[.int .u64 k0, .int .u64 k1]] w Q := by
  refine call10 ?_
  unfold N10
  refine h.box (vs := cfg g) fun q w' h => ?_
  refine h.box fun q2 w' h => ?_
  refine h.rdG ?_
  (repeat (first | apply Exists.intro (α := Int) | apply Exists.intro (α := Bool) | apply Exists.intro (α := ByteArray) | (apply Exists.intro (α := Option Addr); apply Exists.intro (α := Nat); apply Exists.intro (α := Nat)) | apply Exists.intro (α := Option Addr) | apply Exists.intro (α := Value)))
  refine ⟨rfl, ?_⟩
  refine right_ok h g fun w' h => ?_
  (repeat (first | apply Exists.intro (α := Int) | apply Exists.intro (α := Bool) | apply Exists.intro (α := ByteArray) | (apply Exists.intro (α := Option Addr); apply Exists.intro (α := Nat); apply Exists.intro (α := Nat)) | apply Exists.intro (α := Option Addr) | apply Exists.intro (α := Value)))
  refine ⟨rfl, ?_⟩
  refine leti rfl ?_
  refine ifn (fun e => ?_) fun e => ?_
  · have hb : ¬ CfgOk g := fun k => e (if_pos k)
    rw [if_neg hb]
    exact leti rfl (hbad hb _ h.drop.drop)
  have hb : CfgOk g := by
    by_cases k : CfgOk g
    · exact k
    · rw [if_neg k] at e
      cases e
  refine h.rdG ?_
  (repeat (first | apply Exists.intro (α := Int) | apply Exists.intro (α := Bool) | apply Exists.intro (α := ByteArray) | (apply Exists.intro (α := Option Addr); apply Exists.intro (α := Nat); apply Exists.intro (α := Nat)) | apply Exists.intro (α := Option Addr) | apply Exists.intro (α := Value)))
  refine ⟨rfl, ?_⟩
  refine h.rdG ?_
  (repeat (first | apply Exists.intro (α := Int) | apply Exists.intro (α := Bool) | apply Exists.intro (α := ByteArray) | (apply Exists.intro (α := Option Addr); apply Exists.intro (α := Nat); apply Exists.intro (α := Nat)) | apply Exists.intro (α := Option Addr) | apply Exists.intro (α := Value)))
  refine ⟨rfl, ?_⟩
  refine RD.bld ?_
  (repeat (first | apply Exists.intro (α := Int) | apply Exists.intro (α := Bool) | apply Exists.intro (α := ByteArray) | (apply Exists.intro (α := Option Addr); apply Exists.intro (α := Nat); apply Exists.intro (α := Nat)) | apply Exists.intro (α := Option Addr) | apply Exists.intro (α := Value)))
  refine ⟨rfl, ?_⟩
  refine h.mkmap fun r w' h => ⟨_, rfl, ?_⟩
  refine RD.bld ⟨_, rfl, ?_⟩
  refine h.box fun p w' h => ?_
  exact hok hb p r _ (h.sub (.cons .head (.cons .head (Sub.same _).more.more)))
end
end Go.Br
