/- A connection that is new: its parts, its first path. -/
import Derived.Test.YtnmhgjfllknbpaaNConnNew
import Derived.Test.YtnmhgjfllknbpaaHostNew
import Derived.Test.YtnmhgjfllknbpaaPack
set_option linter.unusedVariables false
set_option linter.unusedSimpArgs false
set_option linter.unnecessarySimpa false
namespace Go.Br
open Go
instance biConnNewa (x0 : Int) (x1 : Int) (x2 : Int) (x3 : Int) (x4 : Int) (x5 : Int) (x6 : Int) (x7 : Int) (x8 : Int) (x9 : Int) (x10 : Int) (x11 : Int) (x12 : Int) (x13 : Int) (x14 : Int) (x15 : Int) (x16 : Int) (x17 : Int) (x18 : Int) (x19 : Int) (x20 : Int) (x21 : Int) (x22 : Option Addr) (n22 c22 : Nat) : Bld PG (Instr.build 115 #[(1, .agg #[.int .i64 x0, .int .i64 x1, .int .i64 x2, .int .i64 x3, .int .i64 x4, .int .i64 x5, .int .i64 x6, .int .i64 x7, .int .i64 x8, .int .i64 x9, .int .i64 x10, .int .i64 x11, .int .i64 x12, .int .i64 x13, .int .i64 x14]), (2, .int .i64 x15), (3, .int .i64 x16), (5, .int .u64 x17), (8, .agg #[.int .i64 x18, .int .u16 x19, .int .u16 x20]), (10, .int .i64 x21), (15, .slice x22 n22 c22)]) (.agg #[.int .u64 0, .int .u64 0, .int .u64 0, .int .u64 0, .int .u64 0, .int .u64 0, .int .u64 0, .int .u64 0, .int .u32 0, .int .i64 x0, .int .i64 x1, .int .i64 x2, .int .i64 x3, .int .i64 x4, .int .i64 x5, .int .i64 x6, .int .i64 x7, .int .i64 x8, .int .i64 x9, .int .i64 x10, .int .i64 x11, .int .i64 x12, .int .i64 x13, .int .i64 x14, .int .i64 x15, .int .i64 x16, .int .i64 0, .int .u64 x17, .int .u64 0, .bool false, .int .i64 x18, .int .u16 x19, .int .u16 x20, .slice none 0 0, .int .i64 x21, .pointer none, .pointer none, .pointer none, .pointer none, .slice x22 n22 c22, .int .u64 0, .int .u64 0, .int .u32 0, .int .u32 0, .int .i64 0, .int .i64 0, .int .i64 0, .int .i64 0, .int .i64 0, .slice none 0 0]) := ⟨fun w => by kernel_rfl⟩
instance biConnNewb (x0 : Int) (x1 : Int) (x2 : Int) (x3 : Int) : Bld PG (Instr.build 106 #[(2, .int .i64 x0), (3, .int .i64 x1), (4, .int .u16 x2), (5, .int .u16 x3)]) (.agg #[.int .i64 0, .int .u32 0, .int .u32 0, .int .u32 0, .int .u32 0, .int .i64 0, .int .i64 0, .bool false, .int .i64 0, .int .i64 x0, .int .i64 x1, .int .u16 x2, .int .u16 x3, .bool false, .bool false, .int .u32 0, .int .u32 0, .pointer none, .pointer none, .pointer none, .int .i64 0, .int .i64 0, .bool false, .int .i64 0, .int .i64 0]) := ⟨fun w => by kernel_rfl⟩
instance biConnNewc (x0 : Option Addr) : Bld PG (Instr.build 120 #[(0, .pointer x0)]) (.agg #[.pointer x0, .int .u64 0, .bool false, .bool false]) := ⟨fun w => by kernel_rfl⟩
instance biConnNewd (x0 : Option Addr) (x1 : Option Addr) : Bld PG (Instr.build 123 #[(0, .pointer x0), (1, .pointer x1)]) (.agg #[.pointer x0, .pointer x1, .int .u64 0, .int .u64 0, .bool false]) := ⟨fun w => by kernel_rfl⟩
instance biConnNewe (x0 : Int) : Bld PG (Instr.build 155 #[(0, .int .i64 x0)]) (.agg #[.int .i64 x0, .slice none 0 0]) := ⟨fun w => by kernel_rfl⟩
instance biConnNewf (x0 : Option Addr) (x1 : Int) (x2 : Int) : Bld PG (Instr.build 168 #[(0, .pointer x0), (1, .int .i64 x1), (2, .int .i64 x2)]) (.agg #[.pointer x0, .int .i64 x1, .int .i64 x2, .slice none 0 0]) := ⟨fun w => by kernel_rfl⟩
instance biConnNewg (x0 : Int) (x1 : Int) (x2 : Int) : Bld PG (Instr.build 170 #[(0, .int .i64 x0), (1, .int .i64 x1), (2, .int .i64 x2)]) (.agg #[.int .i64 x0, .int .i64 x1, .int .i64 x2, .int .i64 0, .int .i64 0]) := ⟨fun w => by kernel_rfl⟩
instance biConnNewh (x0 : Int) : Bld PG (Instr.build 172 #[(1, .int .i64 x0)]) (.agg #[.int .i64 0, .int .i64 x0, .int .i64 0]) := ⟨fun w => by kernel_rfl⟩
instance biConnNewi (x0 : Int) (x1 : Int) (x2 : Int) : Bld PG (Instr.build 174 #[(0, .int .i64 x0), (1, .int .i64 x1), (2, .int .i64 x2)]) (.agg #[.int .i64 x0, .int .i64 x1, .int .i64 x2]) := ⟨fun w => by kernel_rfl⟩
instance biConnNewj (x0 : Option Addr) (n0 c0 : Nat) : Bld PG (Instr.build 157 #[(0, .slice x0 n0 c0)]) (.agg #[.slice x0 n0 c0, .int .i64 0, .int .i64 0]) := ⟨fun w => by kernel_rfl⟩
instance biConnNewk (x0 : Int) : Bld PG (Instr.build 188 #[(0, .int .i64 x0)]) (.agg #[.int .i64 x0, .slice none 0 0]) := ⟨fun w => by kernel_rfl⟩
attribute [local irreducible] Addr.add RD RDS RUN RUNU NILC LETB CALL CALLX CALLV

structure Cn where
  keysIDK0 : Int
  keysIDK1 : Int
  keysClientK0 : Int
  keysClientK1 : Int
  keysServerK0 : Int
  keysServerK1 : Int
  keysJoinK0 : Int
  keysJoinK1 : Int
  keysToken : Int
  setPorts : Int
  setHalf : Int
  setConns : Int
  setFlows : Int
  setBuffer : Int
  setChunks : Int
  setAddrs : Int
  setPaths : Int
  setMss : Int
  setSilence : Int
  setKeep : Int
  setBurst : Int
  setRate : Int
  setScore : Int
  setPolicy : Int
  role : Int
  state : Int
  cause : Int
  mine : Int
  theirs : Int
  keyed : Bool
  firstPath : Int
  firstLocal : Int
  firstRemote : Int
  flows : Option Addr
  flowsN : Nat
  flowsC : Nat
  next : Int
  out : Option Addr
  inn : Option Addr
  way : Option Addr
  offers : Option Addr
  mayUse : Option Addr
  mayUseN : Nat
  mayUseC : Nat
  sent : Int
  edge : Int
  heard : Int
  told : Int
  last : Int
  silence : Int
  stall : Int
  rejoin : Int
  now : Int
  post : Option Addr
  postN : Nat
  postC : Nat
def cnc (x : Cn) : List Value := [.int .u64 x.keysIDK0, .int .u64 x.keysIDK1, .int .u64 x.keysClientK0, .int .u64 x.keysClientK1, .int .u64 x.keysServerK0, .int .u64 x.keysServerK1, .int .u64 x.keysJoinK0, .int .u64 x.keysJoinK1, .int .u32 x.keysToken, .int .i64 x.setPorts, .int .i64 x.setHalf, .int .i64 x.setConns, .int .i64 x.setFlows, .int .i64 x.setBuffer, .int .i64 x.setChunks, .int .i64 x.setAddrs, .int .i64 x.setPaths, .int .i64 x.setMss, .int .i64 x.setSilence, .int .i64 x.setKeep, .int .i64 x.setBurst, .int .i64 x.setRate, .int .i64 x.setScore, .int .i64 x.setPolicy, .int .i64 x.role, .int .i64 x.state, .int .i64 x.cause, .int .u64 x.mine, .int .u64 x.theirs, .bool x.keyed, .int .i64 x.firstPath, .int .u16 x.firstLocal, .int .u16 x.firstRemote, .slice x.flows x.flowsN x.flowsC, .int .i64 x.next, .pointer x.out, .pointer x.inn, .pointer x.way, .pointer x.offers, .slice x.mayUse x.mayUseN x.mayUseC, .int .u64 x.sent, .int .u64 x.edge, .int .u32 x.heard, .int .u32 x.told, .int .i64 x.last, .int .i64 x.silence, .int .i64 x.stall, .int .i64 x.rejoin, .int .i64 x.now, .slice x.post x.postN x.postC]
abbrev cncv (x : Cn) : Value := .agg #[.int .u64 x.keysIDK0, .int .u64 x.keysIDK1, .int .u64 x.keysClientK0, .int .u64 x.keysClientK1, .int .u64 x.keysServerK0, .int .u64 x.keysServerK1, .int .u64 x.keysJoinK0, .int .u64 x.keysJoinK1, .int .u32 x.keysToken, .int .i64 x.setPorts, .int .i64 x.setHalf, .int .i64 x.setConns, .int .i64 x.setFlows, .int .i64 x.setBuffer, .int .i64 x.setChunks, .int .i64 x.setAddrs, .int .i64 x.setPaths, .int .i64 x.setMss, .int .i64 x.setSilence, .int .i64 x.setKeep, .int .i64 x.setBurst, .int .i64 x.setRate, .int .i64 x.setScore, .int .i64 x.setPolicy, .int .i64 x.role, .int .i64 x.state, .int .i64 x.cause, .int .u64 x.mine, .int .u64 x.theirs, .bool x.keyed, .int .i64 x.firstPath, .int .u16 x.firstLocal, .int .u16 x.firstRemote, .slice x.flows x.flowsN x.flowsC, .int .i64 x.next, .pointer x.out, .pointer x.inn, .pointer x.way, .pointer x.offers, .slice x.mayUse x.mayUseN x.mayUseC, .int .u64 x.sent, .int .u64 x.edge, .int .u32 x.heard, .int .u32 x.told, .int .i64 x.last, .int .i64 x.silence, .int .i64 x.stall, .int .i64 x.rejoin, .int .i64 x.now, .slice x.post x.postN x.postC]
theorem cnc_length (x : Cn) : (cnc x).length = 50 := rfl
theorem cnc_flat1 (x : Cn) : Flat (cnc x) := by intro v hv; simp [cnc] at hv; rcases hv with rfl | rfl | rfl | rfl | rfl | rfl | rfl | rfl | rfl | rfl | rfl | rfl | rfl | rfl | rfl | rfl | rfl | rfl | rfl | rfl | rfl | rfl | rfl | rfl | rfl | rfl | rfl | rfl | rfl | rfl | rfl | rfl | rfl | rfl | rfl | rfl | rfl | rfl | rfl | rfl | rfl | rfl | rfl | rfl | rfl | rfl | rfl | rfl | rfl | rfl <;> rfl
theorem cnc_flat (L : List Cn) : Flat (L.flatMap cnc) := by
  intro v hv
  simp only [List.mem_flatMap] at hv
  obtain ⟨x, _, hx⟩ := hv
  exact cnc_flat1 x v hx
structure Fw where
  numState : Int
  numFirst : Int
  numAcked : Int
  numNext : Int
  numWait : Int
  estsrtt : Int
  estdev : Int
  estknown : Bool
  estshift : Int
  id : Int
  path : Int
  loc : Int
  rem : Int
  backup : Bool
  fst : Bool
  nonce : Int
  other : Int
  win : Option Addr
  trust : Option Addr
  chall : Option Addr
  idle : Int
  quiet : Int
  heard : Bool
  age : Int
  tries : Int
def fwc (x : Fw) : List Value := [.int .i64 x.numState, .int .u32 x.numFirst, .int .u32 x.numAcked, .int .u32 x.numNext, .int .u32 x.numWait, .int .i64 x.estsrtt, .int .i64 x.estdev, .bool x.estknown, .int .i64 x.estshift, .int .i64 x.id, .int .i64 x.path, .int .u16 x.loc, .int .u16 x.rem, .bool x.backup, .bool x.fst, .int .u32 x.nonce, .int .u32 x.other, .pointer x.win, .pointer x.trust, .pointer x.chall, .int .i64 x.idle, .int .i64 x.quiet, .bool x.heard, .int .i64 x.age, .int .i64 x.tries]
abbrev fwcv (x : Fw) : Value := .agg #[.int .i64 x.numState, .int .u32 x.numFirst, .int .u32 x.numAcked, .int .u32 x.numNext, .int .u32 x.numWait, .int .i64 x.estsrtt, .int .i64 x.estdev, .bool x.estknown, .int .i64 x.estshift, .int .i64 x.id, .int .i64 x.path, .int .u16 x.loc, .int .u16 x.rem, .bool x.backup, .bool x.fst, .int .u32 x.nonce, .int .u32 x.other, .pointer x.win, .pointer x.trust, .pointer x.chall, .int .i64 x.idle, .int .i64 x.quiet, .bool x.heard, .int .i64 x.age, .int .i64 x.tries]
theorem fwc_length (x : Fw) : (fwc x).length = 25 := rfl
theorem fwc_flat1 (x : Fw) : Flat (fwc x) := by intro v hv; simp [fwc] at hv; rcases hv with rfl | rfl | rfl | rfl | rfl | rfl | rfl | rfl | rfl | rfl | rfl | rfl | rfl | rfl | rfl | rfl | rfl | rfl | rfl | rfl | rfl | rfl | rfl | rfl | rfl <;> rfl
theorem fwc_flat (L : List Fw) : Flat (L.flatMap fwc) := by
  intro v hv
  simp only [List.mem_flatMap] at hv
  obtain ⟨x, _, hx⟩ := hv
  exact fwc_flat1 x v hx
def fw0 : Fw := ⟨0, 0, 0, 0, 0, 0, 0, false, 0, 0, 0, 0, 0, false, false, 0, 0, none, none, none, 0, 0, false, 0, 0⟩
/-- A connection of this configuration, role, key, first path. -/
def cn0 (g : Cfg) (role mine path loc rem : Int) (m : Nat) : Cn :=
  ⟨0, 0, 0, 0, 0, 0, 0, 0, 0, g.ports, g.half, g.conns, g.flows, g.buffer, g.chunks, g.addrs, g.paths, g.mss, g.silence, g.keep, g.burst, g.rate, g.score, g.policy, role, 1, 0, mine, 0, false, path, loc, rem, none, 0, 0, 1, none, none, none, none, some ⟨m, 0, none⟩, 1, 1, 0, 0, 0, 0, 0, 0, 0, 0, 0, none, 0, 0⟩
instance biFlowT (x0 x1 x2 x3 : Int) : Bld PG (Instr.build 106 #[(2, .int .i64 x0), (3, .int .i64 x1), (4, .int .u16 x2), (5, .int .u16 x3)]) (.agg (fwc { fw0 with id := x0, path := x1, loc := x2, rem := x3 }).toArray) := ⟨fun w => by kernel_rfl⟩
instance biConn (x0 x1 x2 x3 x4 x5 x6 x7 x8 x9 x10 x11 x12 x13 x14 role mine path loc rem : Int) (m : Nat) : Bld PG (Instr.build 115 #[(1, .agg #[.int .i64 x0, .int .i64 x1, .int .i64 x2, .int .i64 x3, .int .i64 x4, .int .i64 x5, .int .i64 x6, .int .i64 x7, .int .i64 x8, .int .i64 x9, .int .i64 x10, .int .i64 x11, .int .i64 x12, .int .i64 x13, .int .i64 x14]), (2, .int .i64 role), (3, .int .i64 1), (5, .int .u64 mine), (8, .agg #[.int .i64 path, .int .u16 loc, .int .u16 rem]), (10, .int .i64 1), (15, .slice (some ⟨m, 0, none⟩) 1 1)])
    (.agg (cnc (cn0 ⟨x0, x1, x2, x3, x4, x5, x6, x7, x8, x9, x10, x11, x12, x13, x14⟩ role mine path loc rem m)).toArray) := ⟨fun w => by kernel_rfl⟩
abbrev bkc (burst rate tokens : Int) : List Value := [.int .i64 burst, .int .i64 rate, .int .i64 tokens]
section
variable {c : Ctx} {w : World} {L R : List SA}
theorem ringnew_ok (h : St c w L) {n : Int} (h0 : 1 ≤ n) (h1 : n ≤ 65536) {Q : Value → World → Prop}
    (hk : ∀ r b w', St c w' (blk r 157 [.slice (some ⟨b, 0, none⟩) n.toNat n.toNat, .int .i64 0, .int .i64 0] :: blk b 5 (zeros [.int .u8 0] n.toNat) :: L) → Q (.tuple #[.pointer (some ⟨r, 0, none⟩), .int .i64 0]) w') : CALL PG 64 [.int .i64 n] w Q := by
  refine call64 ?_
  unfold N64
  refine ifdf (by omega) (ifdf (by omega) ?_)
  refine h.make huPk tiPkU8 (by omega) (by omega) (by omega) (by omega) fun b w' h => ?_
  refine RD.bld ?_
  (repeat (first | apply Exists.intro (α := Int) | apply Exists.intro (α := Bool) | apply Exists.intro (α := ByteArray) | (apply Exists.intro (α := Option Addr); apply Exists.intro (α := Nat); apply Exists.intro (α := Nat)) | apply Exists.intro (α := Option Addr) | apply Exists.intro (α := Value)))
  refine ⟨rfl, ?_⟩
  refine h.box fun r w' h => ?_
  exact hk r b _ h
theorem outnew_ok (h : St c w L) {n : Int} (h0 : 1 ≤ n) (h1 : n ≤ 65536) {Q : Value → World → Prop}
    (hk : ∀ o r b w', St c w' (blk o 120 [.pointer (some ⟨r, 0, none⟩), .int .u64 0, .bool false, .bool false] :: blk r 157 [.slice (some ⟨b, 0, none⟩) n.toNat n.toNat, .int .i64 0, .int .i64 0] :: blk b 5 (zeros [.int .u8 0] n.toNat) :: L) → Q (.tuple #[.pointer (some ⟨o, 0, none⟩), .int .i64 0]) w') : CALL PG 47 [.int .i64 n] w Q := by
  refine call47 ?_
  unfold N47
  refine ringnew_ok h h0 h1 fun r b w' h => ?_
  (repeat (first | apply Exists.intro (α := Int) | apply Exists.intro (α := Bool) | apply Exists.intro (α := ByteArray) | (apply Exists.intro (α := Option Addr); apply Exists.intro (α := Nat); apply Exists.intro (α := Nat)) | apply Exists.intro (α := Option Addr) | apply Exists.intro (α := Value)))
  refine ⟨rfl, ?_⟩
  refine leti rfl (ifnsame rfl ?_)
  refine RD.bld ?_
  (repeat (first | apply Exists.intro (α := Int) | apply Exists.intro (α := Bool) | apply Exists.intro (α := ByteArray) | (apply Exists.intro (α := Option Addr); apply Exists.intro (α := Nat); apply Exists.intro (α := Nat)) | apply Exists.intro (α := Option Addr) | apply Exists.intro (α := Value)))
  refine ⟨rfl, ?_⟩
  refine h.box fun o w' h => ?_
  exact hk o r b _ h
theorem spansnew_ok (h : St c w L) {n : Int} (h0 : 1 ≤ n) (h1 : n ≤ 64) {Q : Value → World → Prop} (hk : ∀ p w', St c w' (blk p 188 [.int .i64 n, .slice none 0 0] :: L) → Q (.pointer (some ⟨p, 0, none⟩)) w') : CALL PG 65 [.int .i64 n] w Q := by
  refine call65 ?_
  unfold N65
  rw [show minN (maxN n 1) 64 = n by unfold minN maxN; (repeat' split) <;> omega]
  refine RD.bld ?_
  (repeat (first | apply Exists.intro (α := Int) | apply Exists.intro (α := Bool) | apply Exists.intro (α := ByteArray) | (apply Exists.intro (α := Option Addr); apply Exists.intro (α := Nat); apply Exists.intro (α := Nat)) | apply Exists.intro (α := Option Addr) | apply Exists.intro (α := Value)))
  refine ⟨rfl, ?_⟩
  exact h.box fun p w' h => hk p _ h
theorem innew_ok (h : St c w L) {n m : Int} (h0 : 1 ≤ n) (h1 : n ≤ 65536) (h2 : 1 ≤ m) (h3 : m ≤ 64) {Q : Value → World → Prop}
    (hk : ∀ i s r b w', St c w' (blk i 123 [.pointer (some ⟨r, 0, none⟩), .pointer (some ⟨s, 0, none⟩), .int .u64 0, .int .u64 0, .bool false] :: blk s 188 [.int .i64 m, .slice none 0 0] :: blk r 157 [.slice (some ⟨b, 0, none⟩) n.toNat n.toNat, .int .i64 0, .int .i64 0] :: blk b 5 (zeros [.int .u8 0] n.toNat) :: L) → Q (.tuple #[.pointer (some ⟨i, 0, none⟩), .int .i64 0]) w') : CALL PG 48 [.int .i64 n, .int .i64 m] w Q := by
  refine call48 ?_
  unfold N48
  refine ringnew_ok h h0 h1 fun r b w' h => ?_
  (repeat (first | apply Exists.intro (α := Int) | apply Exists.intro (α := Bool) | apply Exists.intro (α := ByteArray) | (apply Exists.intro (α := Option Addr); apply Exists.intro (α := Nat); apply Exists.intro (α := Nat)) | apply Exists.intro (α := Option Addr) | apply Exists.intro (α := Value)))
  refine ⟨rfl, ?_⟩
  refine leti rfl (ifnsame rfl ?_)
  refine spansnew_ok h h2 h3 fun s w' h => ?_
  (repeat (first | apply Exists.intro (α := Int) | apply Exists.intro (α := Bool) | apply Exists.intro (α := ByteArray) | (apply Exists.intro (α := Option Addr); apply Exists.intro (α := Nat); apply Exists.intro (α := Nat)) | apply Exists.intro (α := Option Addr) | apply Exists.intro (α := Value)))
  refine ⟨rfl, ?_⟩
  refine RD.bld ?_
  (repeat (first | apply Exists.intro (α := Int) | apply Exists.intro (α := Bool) | apply Exists.intro (α := ByteArray) | (apply Exists.intro (α := Option Addr); apply Exists.intro (α := Nat); apply Exists.intro (α := Nat)) | apply Exists.intro (α := Option Addr) | apply Exists.intro (α := Value)))
  refine ⟨rfl, ?_⟩
  refine h.box fun i w' h => ?_
  exact hk i s r b _ h
theorem waynew_ok (h : St c w L) {n : Int} (h0 : 1 ≤ n) (h1 : n ≤ 64) {Q : Value → World → Prop} (hk : ∀ p w', St c w' (blk p 155 [.int .i64 n, .slice none 0 0] :: L) → Q (.pointer (some ⟨p, 0, none⟩)) w') : CALL PG 49 [.int .i64 n] w Q := by
  refine call49 ?_
  unfold N49
  rw [show minN (maxN n 1) 64 = n by unfold minN maxN; (repeat' split) <;> omega]
  refine RD.bld ?_
  (repeat (first | apply Exists.intro (α := Int) | apply Exists.intro (α := Bool) | apply Exists.intro (α := ByteArray) | (apply Exists.intro (α := Option Addr); apply Exists.intro (α := Nat); apply Exists.intro (α := Nat)) | apply Exists.intro (α := Option Addr) | apply Exists.intro (α := Value)))
  refine ⟨rfl, ?_⟩
  exact h.box fun p w' h => hk p _ h
theorem bknew_ok (h : St c w L) {n m : Int} (h0 : 0 ≤ n) (h1 : n ≤ 4096) (h2 : 0 ≤ m) (h3 : m ≤ 4096) {Q : Value → World → Prop} (hk : ∀ p w', St c w' (blk p 174 (bkc n m n) :: L) → Q (.pointer (some ⟨p, 0, none⟩)) w') : CALL PG 53 [.int .i64 n, .int .i64 m] w Q := by
  refine call53 ?_
  unfold N53
  refine leti (y := n) (by unfold minN maxN; (repeat' split) <;> omega) ?_
  refine leti (y := m) (by unfold minN maxN; (repeat' split) <;> omega) ?_
  refine RD.bld ?_
  (repeat (first | apply Exists.intro (α := Int) | apply Exists.intro (α := Bool) | apply Exists.intro (α := ByteArray) | (apply Exists.intro (α := Option Addr); apply Exists.intro (α := Nat); apply Exists.intro (α := Nat)) | apply Exists.intro (α := Option Addr) | apply Exists.intro (α := Value)))
  refine ⟨rfl, ?_⟩
  exact h.box fun p w' h => hk p _ h
theorem adnew_ok (h : St c w L) {n m : Int} (h0 : 0 ≤ n) (h1 : n ≤ 8) (h2 : 1 ≤ m) (h3 : m ≤ 4) {Q : Value → World → Prop} (hk : ∀ p b w', St c w' (blk p 168 [.pointer (some ⟨b, 0, none⟩), .int .i64 n, .int .i64 m, .slice none 0 0] :: blk b 174 (bkc 64 1 64) :: L) → Q (.pointer (some ⟨p, 0, none⟩)) w') : CALL PG 50 [.int .i64 n, .int .i64 m] w Q := by
  refine call50 ?_
  unfold N50
  rw [show minN (maxN n 0) 8 = n by unfold minN maxN; (repeat' split) <;> omega, show minN (maxN m 1) 4 = m by unfold minN maxN; (repeat' split) <;> omega]
  refine bknew_ok h (by decide) (by decide) (by decide) (by decide) fun b w' h => ?_
  (repeat (first | apply Exists.intro (α := Int) | apply Exists.intro (α := Bool) | apply Exists.intro (α := ByteArray) | (apply Exists.intro (α := Option Addr); apply Exists.intro (α := Nat); apply Exists.intro (α := Nat)) | apply Exists.intro (α := Option Addr) | apply Exists.intro (α := Value)))
  refine ⟨rfl, ?_⟩
  refine RD.bld ?_
  (repeat (first | apply Exists.intro (α := Int) | apply Exists.intro (α := Bool) | apply Exists.intro (α := ByteArray) | (apply Exists.intro (α := Option Addr); apply Exists.intro (α := Nat); apply Exists.intro (α := Nat)) | apply Exists.intro (α := Option Addr) | apply Exists.intro (α := Value)))
  refine ⟨rfl, ?_⟩
  exact h.box fun p w' h => hk p b _ h
theorem winnew_ok (h : St c w L) {n : Int} (h0 : 1 ≤ n) (h1 : n ≤ 1024) {Q : Value → World → Prop} (hk : ∀ p w', St c w' (blk p 170 [.int .i64 n, .int .i64 (4 * n), .int .i64 (64 * n), .int .i64 0, .int .i64 0] :: L) → Q (.pointer (some ⟨p, 0, none⟩)) w') : CALL PG 51 [.int .i64 n] w Q := by
  refine call51 ?_
  unfold N51
  refine leti (y := n) (by unfold minN maxN; (repeat' split) <;> omega) ?_
  rw [wrap_i64 (n := 4 * n) (by omega) (by omega), wrap_i64 (n := 64 * n) (by omega) (by omega)]
  refine RD.bld ?_
  (repeat (first | apply Exists.intro (α := Int) | apply Exists.intro (α := Bool) | apply Exists.intro (α := ByteArray) | (apply Exists.intro (α := Option Addr); apply Exists.intro (α := Nat); apply Exists.intro (α := Nat)) | apply Exists.intro (α := Option Addr) | apply Exists.intro (α := Value)))
  refine ⟨rfl, ?_⟩
  exact h.box fun p w' h => hk p _ h
theorem quarnew_ok (h : St c w L) {n : Int} (h0 : 1 ≤ n) (h1 : n ≤ 4096) {Q : Value → World → Prop} (hk : ∀ p w', St c w' (blk p 172 [.int .i64 0, .int .i64 n, .int .i64 0] :: L) → Q (.pointer (some ⟨p, 0, none⟩)) w') : CALL PG 52 [.int .i64 n] w Q := by
  refine call52 ?_
  unfold N52
  rw [show minN (maxN n 1) 4096 = n by unfold minN maxN; (repeat' split) <;> omega]
  refine RD.bld ?_
  (repeat (first | apply Exists.intro (α := Int) | apply Exists.intro (α := Bool) | apply Exists.intro (α := ByteArray) | (apply Exists.intro (α := Option Addr); apply Exists.intro (α := Nat); apply Exists.intro (α := Nat)) | apply Exists.intro (α := Option Addr) | apply Exists.intro (α := Value)))
  refine ⟨rfl, ?_⟩
  exact h.box fun p w' h => hk p _ h
/-- A path that isn't asked for yet. -/
def fwN (id path loc rem first : Int) (win trust chall : Nat) : Fw := { fw0 with numState := 1, numFirst := first, numAcked := first, numNext := IntKind.u32.wrap (first + 1), id := id, path := path, loc := loc, rem := rem, win := some ⟨win, 0, none⟩, trust := some ⟨trust, 0, none⟩, chall := some ⟨chall, 0, none⟩ }
/-- The parts of a path that is new. -/
abbrev fwP (g : Cfg) (win trust chall : Nat) (L : List SA) : List SA := blk chall 174 (bkc g.burst g.rate g.burst) :: blk trust 172 [.int .i64 0, .int .i64 g.score, .int .i64 0] :: blk win 170 [.int .i64 g.mss, .int .i64 (4 * g.mss), .int .i64 (64 * g.mss), .int .i64 0, .int .i64 0] :: L
theorem flownew_ok (h : St c w L) {g : Cfg} (hg : CfgOk g) {id path loc rem first : Int} {Q : Value → World → Prop}
    (hk : ∀ f a b d w', St c w' (blk f 106 (fwc (fwN id path loc rem first a b d)) :: fwP g a b d L) → Q (.pointer (some ⟨f, 0, none⟩)) w') : CALL PG 33 [cfgv g, .int .i64 id, .agg #[.int .i64 path, .int .u16 loc, .int .u16 rem], .int .u32 first] w Q := by
  obtain ⟨g1, g2, g3, g4⟩ := hg
  unfold CfgS at g2
  unfold CfgR at g4
  refine call33 ?_
  unfold N33
  refine h.box (vs := cfg g) fun q w' h => ?_
  refine h.box fun q2 w' h => ?_
  refine h.rdI 0 (h.rdI 1 (h.rdI 2 ?_))
  refine RD.bld ⟨_, rfl, ?_⟩
  refine h.box fun f w' h => ?_
  refine h.rdI (B := q) 8 ?_
  refine winnew_ok h (by omega) (by omega) fun a w' h => ?_
  (repeat (first | apply Exists.intro (α := Int) | apply Exists.intro (α := Bool) | apply Exists.intro (α := ByteArray) | (apply Exists.intro (α := Option Addr); apply Exists.intro (α := Nat); apply Exists.intro (α := Nat)) | apply Exists.intro (α := Option Addr) | apply Exists.intro (α := Value)))
  refine ⟨rfl, ?_⟩
  refine h.st (B := f) 17 fun w' h => ?_
  refine h.rdI (B := q) 13 ?_
  refine quarnew_ok h (by omega) (by omega) fun b w' h => ?_
  (repeat (first | apply Exists.intro (α := Int) | apply Exists.intro (α := Bool) | apply Exists.intro (α := ByteArray) | (apply Exists.intro (α := Option Addr); apply Exists.intro (α := Nat); apply Exists.intro (α := Nat)) | apply Exists.intro (α := Option Addr) | apply Exists.intro (α := Value)))
  refine ⟨rfl, ?_⟩
  refine h.st (B := f) 18 fun w' h => ?_
  refine h.rdI (B := q) 11 ?_
  refine h.rdI (B := q) 12 ?_
  refine bknew_ok h (by omega) (by omega) (by omega) (by omega) fun d w' h => ?_
  (repeat (first | apply Exists.intro (α := Int) | apply Exists.intro (α := Bool) | apply Exists.intro (α := ByteArray) | (apply Exists.intro (α := Option Addr); apply Exists.intro (α := Nat); apply Exists.intro (α := Nat)) | apply Exists.intro (α := Option Addr) | apply Exists.intro (α := Value)))
  refine ⟨rfl, ?_⟩
  refine h.st (B := f) 19 fun w' h => ?_
  refine h.st2 (B := f) 0 0 fun w' h => ?_
  refine h.st2 (B := f) 0 1 fun w' h => ?_
  refine h.st2 (B := f) 0 2 fun w' h => ?_
  refine h.st2 (B := f) 0 3 fun w' h => ?_
  refine hk f a b d _ ?_
  exact h.sub (.cons .head (.cons .head (.cons .head (.cons .head (Sub.same _).more.more))))
/-- The parts of a connection that is new. -/
abbrev cnP (g : Cfg) (m o r b i s r2 b2 y ad bk : Nat) (L : List SA) : List SA :=
  blk ad 168 [.pointer (some ⟨bk, 0, none⟩), .int .i64 g.addrs, .int .i64 g.paths, .slice none 0 0] :: blk bk 174 (bkc 64 1 64) :: blk y 155 [.int .i64 g.chunks, .slice none 0 0] ::
  blk i 123 [.pointer (some ⟨r2, 0, none⟩), .pointer (some ⟨s, 0, none⟩), .int .u64 0, .int .u64 0, .bool false] :: blk s 188 [.int .i64 g.chunks, .slice none 0 0] :: blk r2 157 [.slice (some ⟨b2, 0, none⟩) g.buffer.toNat g.buffer.toNat, .int .i64 0, .int .i64 0] :: blk b2 5 (zeros [.int .u8 0] g.buffer.toNat) ::
  blk o 120 [.pointer (some ⟨r, 0, none⟩), .int .u64 0, .bool false, .bool false] :: blk r 157 [.slice (some ⟨b, 0, none⟩) g.buffer.toNat g.buffer.toNat, .int .i64 0, .int .i64 0] :: blk b 5 (zeros [.int .u8 0] g.buffer.toNat) :: L
def cnF (g : Cfg) (role mine path loc rem : Int) (m o i y ad : Nat) : Cn := { cn0 g role mine path loc rem m with out := some ⟨o, 0, none⟩, inn := some ⟨i, 0, none⟩, way := some ⟨y, 0, none⟩, offers := some ⟨ad, 0, none⟩ }
theorem fresh_ok (h : St c w L) {g : Cfg} (hg : CfgOk g) {role mine path loc rem : Int} {Q : Value → World → Prop}
    (hk : ∀ x m o r b i s r2 b2 y ad bk w', St c w' (blk x 115 (cnc (cnF g role mine path loc rem m o i y ad)) :: cnP g m o r b i s r2 b2 y ad bk (own 3 1 (some ⟨m, 0, none⟩) 1 1 [.int .i64 path] :: L)) → Q (.pointer (some ⟨x, 0, none⟩)) w') : CALL PG 32 [cfgv g, .int .i64 role, .int .u64 mine, .agg #[.int .i64 path, .int .u16 loc, .int .u16 rem]] w Q := by
  obtain ⟨g1, g2, g3, g4⟩ := hg
  unfold CfgS at g2
  refine call32 ?_
  unfold N32
  refine h.box (vs := cfg g) fun q w' h => ?_
  refine h.box fun q2 w' h => ?_
  refine h.rdG (B := q) ?_
  (repeat (first | apply Exists.intro (α := Int) | apply Exists.intro (α := Bool) | apply Exists.intro (α := ByteArray) | (apply Exists.intro (α := Option Addr); apply Exists.intro (α := Nat); apply Exists.intro (α := Nat)) | apply Exists.intro (α := Option Addr) | apply Exists.intro (α := Value)))
  refine ⟨rfl, ?_⟩
  refine h.rdG (B := q2) ?_
  (repeat (first | apply Exists.intro (α := Int) | apply Exists.intro (α := Bool) | apply Exists.intro (α := ByteArray) | (apply Exists.intro (α := Option Addr); apply Exists.intro (α := Nat); apply Exists.intro (α := Nat)) | apply Exists.intro (α := Option Addr) | apply Exists.intro (α := Value)))
  refine ⟨rfl, ?_⟩
  refine h.rdI (B := q2) 0 ?_
  refine h.lit (n := 1) 3 1 [.int .i64 path] fun m w' h => ?_
  refine RD.bld ⟨_, rfl, ?_⟩
  refine h.box (vs := cnc (cn0 g role mine path loc rem m)) fun x w' h => ?_
  refine h.rdI (B := q) 4 ?_
  refine outnew_ok h (by omega) (by omega) fun o r b w' h => ?_
  (repeat (first | apply Exists.intro (α := Int) | apply Exists.intro (α := Bool) | apply Exists.intro (α := ByteArray) | (apply Exists.intro (α := Option Addr); apply Exists.intro (α := Nat); apply Exists.intro (α := Nat)) | apply Exists.intro (α := Option Addr) | apply Exists.intro (α := Value)))
  refine ⟨rfl, ?_⟩
  refine h.st (B := x) 35 fun w' h => ?_
  refine h.rdI (B := q) 4 ?_
  refine h.rdI (B := q) 5 ?_
  refine innew_ok h (by omega) (by omega) (by omega) (by omega) fun i s r2 b2 w' h => ?_
  (repeat (first | apply Exists.intro (α := Int) | apply Exists.intro (α := Bool) | apply Exists.intro (α := ByteArray) | (apply Exists.intro (α := Option Addr); apply Exists.intro (α := Nat); apply Exists.intro (α := Nat)) | apply Exists.intro (α := Option Addr) | apply Exists.intro (α := Value)))
  refine ⟨rfl, ?_⟩
  refine h.st (B := x) 36 fun w' h => ?_
  refine h.rdI (B := q) 5 ?_
  refine waynew_ok h (by omega) (by omega) fun y w' h => ?_
  (repeat (first | apply Exists.intro (α := Int) | apply Exists.intro (α := Bool) | apply Exists.intro (α := ByteArray) | (apply Exists.intro (α := Option Addr); apply Exists.intro (α := Nat); apply Exists.intro (α := Nat)) | apply Exists.intro (α := Option Addr) | apply Exists.intro (α := Value)))
  refine ⟨rfl, ?_⟩
  refine h.st (B := x) 37 fun w' h => ?_
  refine h.rdI (B := q) 6 ?_
  refine h.rdI (B := q) 7 ?_
  refine adnew_ok h (by omega) (by omega) (by omega) (by omega) fun ad bk w' h => ?_
  (repeat (first | apply Exists.intro (α := Int) | apply Exists.intro (α := Bool) | apply Exists.intro (α := ByteArray) | (apply Exists.intro (α := Option Addr); apply Exists.intro (α := Nat); apply Exists.intro (α := Nat)) | apply Exists.intro (α := Option Addr) | apply Exists.intro (α := Value)))
  refine ⟨rfl, ?_⟩
  refine h.st (B := x) 38 fun w' h => ?_
  refine hk x m o r b i s r2 b2 y ad bk _ ?_
  exact h.sub (.cons .head (.cons .head (.cons .head (.cons .head (.cons .head (.cons .head (.cons .head (.cons .head (.cons .head (.cons .head (.cons .head (.cons .head (Sub.same _).more.more))))))))))))
end
end Go.Br
