/- A connection is asked for: what is drawn, what is sent. -/
import Derived.Test.YtnmhgjfllknbpaaNConnAsk
import Derived.Test.YtnmhgjfllknbpaaSip
import Derived.Test.YtnmhgjfllknbpaaSegEnc
import Derived.Test.YtnmhgjfllknbpaaConnNew
set_option linter.unusedVariables false
set_option linter.unusedSimpArgs false
set_option linter.unnecessarySimpa false
namespace Go.Br
open Go
instance biConnAska (x0 : Int) : Bld PG (Instr.build 143 #[(0, .int .u64 x0)]) (.agg #[.int .u64 x0, .bool false, .int .u64 0]) := ⟨fun w => by kernel_rfl⟩
instance biConnAskb : Zro PG 139 2 32 (.agg #[.int .u8 0, .slice none 0 0]) := ⟨tiOf (by kernel_rfl)⟩
instance biConnAskc (x0 : Int) (x1 : Option Addr) (n1 c1 : Nat) : Bld PG (Instr.build 82 #[(0, .int .i64 x0), (1, .slice x1 n1 c1)]) (.agg #[.int .i64 x0, .slice x1 n1 c1]) := ⟨fun w => by kernel_rfl⟩
instance biConnAskd (x0 : Int) (x1 : Int) (x2 : Int) (x3 : Int) : Bld PG (Instr.build 151 #[(0, .int .u16 x0), (1, .int .u16 x1), (2, .int .u32 x2), (4, .int .u8 x3)]) (.agg #[.int .u16 x0, .int .u16 x1, .int .u32 x2, .int .u32 0, .int .u8 x3, .slice none 0 0, .slice none 0 0]) := ⟨fun w => by kernel_rfl⟩
instance biConnAske : Zro PG 151 7 64 (.agg #[.int .u16 0, .int .u16 0, .int .u32 0, .int .u32 0, .int .u8 0, .slice none 0 0, .slice none 0 0]) := ⟨tiOf (by kernel_rfl)⟩
attribute [local irreducible] Addr.add RD RDS RUN RUNU NILC LETB CALL CALLX CALLV

structure Hst where
  kTaken : Int
  kUnsealed : Int
  kOutside : Int
  kChallenged : Int
  kLimited : Int
  kRemoved : Int
  kMalformed : Int
  kUnknown : Int
  kRefused : Int
  kBegun : Int
  setPorts : Int
  setHalf : Int
  setConns : Int
  setFlows : Int
  setBuffer : Int
  setChunks : Int
  setAddrs : Int
  setPaths : Int
  setMss : Int
  setSilence : Int
  setKeep : Int
  setBurst : Int
  setRate : Int
  setScore : Int
  setPolicy : Int
  srcSeedK0 : Int
  srcSeedK1 : Int
  srcN : Int
  ports : Option Addr
  portsN : Nat
  portsC : Nat
  conns : Nat
  nx : Int
  post : Option Addr
  postN : Nat
  postC : Nat
def hst (x : Hst) : List Value := [.int .i64 x.kTaken, .int .i64 x.kUnsealed, .int .i64 x.kOutside, .int .i64 x.kChallenged, .int .i64 x.kLimited, .int .i64 x.kRemoved, .int .i64 x.kMalformed, .int .i64 x.kUnknown, .int .i64 x.kRefused, .int .i64 x.kBegun, .int .i64 x.setPorts, .int .i64 x.setHalf, .int .i64 x.setConns, .int .i64 x.setFlows, .int .i64 x.setBuffer, .int .i64 x.setChunks, .int .i64 x.setAddrs, .int .i64 x.setPaths, .int .i64 x.setMss, .int .i64 x.setSilence, .int .i64 x.setKeep, .int .i64 x.setBurst, .int .i64 x.setRate, .int .i64 x.setScore, .int .i64 x.setPolicy, .int .u64 x.srcSeedK0, .int .u64 x.srcSeedK1, .int .u64 x.srcN, .slice x.ports x.portsN x.portsC, .map (some x.conns), .int .i64 x.nx, .slice x.post x.postN x.postC]
abbrev hstv (x : Hst) : Value := .agg #[.int .i64 x.kTaken, .int .i64 x.kUnsealed, .int .i64 x.kOutside, .int .i64 x.kChallenged, .int .i64 x.kLimited, .int .i64 x.kRemoved, .int .i64 x.kMalformed, .int .i64 x.kUnknown, .int .i64 x.kRefused, .int .i64 x.kBegun, .int .i64 x.setPorts, .int .i64 x.setHalf, .int .i64 x.setConns, .int .i64 x.setFlows, .int .i64 x.setBuffer, .int .i64 x.setChunks, .int .i64 x.setAddrs, .int .i64 x.setPaths, .int .i64 x.setMss, .int .i64 x.setSilence, .int .i64 x.setKeep, .int .i64 x.setBurst, .int .i64 x.setRate, .int .i64 x.setScore, .int .i64 x.setPolicy, .int .u64 x.srcSeedK0, .int .u64 x.srcSeedK1, .int .u64 x.srcN, .slice x.ports x.portsN x.portsC, .map (some x.conns), .int .i64 x.nx, .slice x.post x.postN x.postC]
theorem hst_length (x : Hst) : (hst x).length = 32 := rfl
theorem hst_flat1 (x : Hst) : Flat (hst x) := by intro v hv; simp [hst] at hv; rcases hv with rfl | rfl | rfl | rfl | rfl | rfl | rfl | rfl | rfl | rfl | rfl | rfl | rfl | rfl | rfl | rfl | rfl | rfl | rfl | rfl | rfl | rfl | rfl | rfl | rfl | rfl | rfl | rfl | rfl | rfl | rfl | rfl <;> rfl
theorem hst_flat (L : List Hst) : Flat (L.flatMap hst) := by
  intro v hv
  simp only [List.mem_flatMap] at hv
  obtain ⟨x, _, hx⟩ := hv
  exact hst_flat1 x v hx
structure Pkt where
  path : Int
  b : Option Addr
  bC : Nat
  bs : List UInt8
def pkc (x : Pkt) : List Value := [.int .i64 x.path, .slice x.b x.bs.length x.bC]
abbrev pkcv (x : Pkt) : Value := .agg #[.int .i64 x.path, .slice x.b x.bs.length x.bC]
theorem pkc_length (x : Pkt) : (pkc x).length = 2 := rfl
theorem pkc_flat1 (x : Pkt) : Flat (pkc x) := by intro v hv; simp [pkc] at hv; rcases hv with rfl | rfl <;> rfl
theorem pkc_flat (L : List Pkt) : Flat (L.flatMap pkc) := by
  intro v hv
  simp only [List.mem_flatMap] at hv
  obtain ⟨x, _, hx⟩ := hv
  exact pkc_flat1 x v hx
theorem tiPkt : TI PG 82 2 32 (.agg #[.int .i64 0, .slice none 0 0]) := tiOf (by kernel_rfl)
theorem tiFlowp : TI PG 96 1 8 (.pointer none) := tiOf (by kernel_rfl)
theorem huPkts : PG.underlying 60 = some (.slice 82) := by kernel_rfl
theorem huFlowps : PG.underlying 107 = some (.slice 96) := by kernel_rfl
theorem huConns : PG.underlying 56 = some (.map 3 75) := by kernel_rfl
theorem huInt64 : PG.underlying 3 = some (.int .i64) := by kernel_rfl
/-- The number that a seed draws. -/
def drawS (k0 k1 n : Int) : Int := sipS k0 k1 (beB n 8)
theorem drawS_range (k0 k1 n : Int) : 0 ≤ drawS k0 k1 n ∧ drawS k0 k1 n < 18446744073709551616 := sipS_range _ _ _
abbrev bodP (ps : List Pkt) : SA := Br.ro fun w => ∀ p ∈ ps, Row w p.b (bvs p.bs)
section
variable {c : Ctx} {w : World} {L R : List SA}
theorem St.rdMp {B : Nat} {T t : TypeId} {cs : List Value} {r : Nat} {K : Value → Prop} (h : St c w L) (o : Nat) (hk : K (.map (some r))) (hp : Pick (Br.blk B T cs) L R := by exact PkB.pk) (hv : cs[o]? = some (.map (some r)) := by rfl) (ht : ldT PG t = true := by kernel_rfl) : RD PG (loadVar t (Addr.add ⟨B, 0, none⟩ o)) w K :=
  RD.of (ld o (h.blk hp) hv ht) hk
theorem St.mlen {P : Program} {t kt e ty : TypeId} {r : Nat} {E : List (Int × Value)} {K : Int → Prop} (h : St c w L) (hp : Pick (mp r E) L R) (hk : K (E.length : Int)) (ht : P.underlying t = some (.map kt e)) : RDI P (Builtin.len_ #[t] ty #[.map (some r)]) .i64 w K := by
  obtain ⟨es, clock, h1, h2, h3⟩ := (h.mapO hp).1
  have he : es.size = E.length := by
    have := congrArg List.length h2
    simpa using this
  unfold RDI
  refine RD.of (v := .int .i64 (E.length : Int)) ?_ ⟨_, rfl, hk⟩
  rw [← he]
  simp [Builtin.len_, run_und ht, run_getMap h1]
  rfl
theorem St.rdGo2 {P : Program} {B : Nat} {T t : TypeId} {cs : List Value} {K : Value → Prop} (h : St c w L) (o o' z : Nat) (hk : K (.agg ((cs.drop (o + o')).take z).toArray))
    (hp : Pick (Br.blk B T cs) L R := by exact PkB.pk) (ht : isAggT P t = true := by kernel_rfl) (hz : sizeAt P t = some z := by kernel_rfl) (hl : o + o' + z ≤ cs.length := by exact Nat.le_of_ble_eq_true rfl) : RD P (loadVar t (Addr.add (Addr.add ⟨B, 0, none⟩ o) o')) w K := by
  rw [add_add]
  exact h.rdGo (o + o') z hk hp ht hz hl
theorem drawn_ok (h : St c w L) {k0 k1 n : Int} (h0 : 0 ≤ n) (h1 : n < 18446744073709551616) {Q : Value → World → Prop} (hk : ∀ w', St c w' L → Q (.int .u64 (drawS k0 k1 n)) w') : CALL PG 31 [.agg #[.int .u64 k0, .int .u64 k1], .int .u64 n] w Q := by
  refine call31 ?_
  unfold N31
  refine h.box fun q w' h => ?_
  have h := h.drew
  refine ⟨fun w => St c w [blk q 27 [.int .u64 k0, .int .u64 k1]], h.sub (.cons .head .nil), ?_⟩
  refine St.rdsG ?_
  (repeat (first | apply Exists.intro (α := Int) | apply Exists.intro (α := Bool) | apply Exists.intro (α := ByteArray) | (apply Exists.intro (α := Option Addr); apply Exists.intro (α := Nat); apply Exists.intro (α := Nat)) | apply Exists.intro (α := Option Addr) | apply Exists.intro (α := Value)))
  refine ⟨rfl, ?_⟩
  refine packQ_ok h fun w' h => ?_
  (repeat (first | apply Exists.intro (α := Int) | apply Exists.intro (α := Bool) | apply Exists.intro (α := ByteArray) | (apply Exists.intro (α := Option Addr); apply Exists.intro (α := Nat); apply Exists.intro (α := Nat)) | apply Exists.intro (α := Option Addr) | apply Exists.intro (α := Value)))
  refine ⟨rfl, ?_⟩
  refine ⟨_, fun _ h => h, h.sub (.cons .head .nil), ?_⟩
  refine h.lit (n := 1) 127 2 ([(⟨8, n⟩ : Fd)].flatMap fd) fun q w' h => ?_
  refine ⟨_, fun _ h => h, h.sub (.cons (.tail .head) .nil), ?_⟩
  refine pput_ok h (A := none) (bs := []) (C := 0) (fs := [⟨8, n⟩]) RdIn.nil (RdIn.own .head) (by simp [FdOk]; omega) (by simp) (by simp) fun O k w' h => ⟨_, _, _, rfl, ?_⟩
  have e1 : ([] : List UInt8) ++ [(⟨8, n⟩ : Fd)].flatMap fdb = beB n 8 := by simp [fdb]
  rw [e1] at h ⊢
  refine ⟨_, fun _ h => h, h.sub (.cons (.tail (.tail .head)) .nil), ?_⟩
  refine h.lit (n := 1) 80 1 (([⟨O, beB n 8, k⟩] : List Bp).flatMap bpv) fun q2 w' h => ?_
  refine ⟨_, fun _ h => h, h.sub (.cons (.tail (.tail (.tail .head))) .nil), ?_⟩
  refine sum_ok h (X := [⟨O, beB n 8, k⟩]) (RdIn.own .head) (fun x hx => ?_) (by simp [beB_length]) (by simp) fun w' h => ?_
  · rw [List.mem_singleton] at hx
    subst hx
    exact RdIn.own (.tail .head)
  (repeat (first | apply Exists.intro (α := Int) | apply Exists.intro (α := Bool) | apply Exists.intro (α := ByteArray) | (apply Exists.intro (α := Option Addr); apply Exists.intro (α := Nat); apply Exists.intro (α := Nat)) | apply Exists.intro (α := Option Addr) | apply Exists.intro (α := Value)))
  refine ⟨rfl, ?_⟩
  refine leti rfl ?_
  have e : sipS k0 k1 (([⟨O, beB n 8, k⟩] : List Bp).flatMap Bp.bs) = drawS k0 k1 n := by simp [drawS]
  rw [e]
  exact hk _ h.drop.drop.drop.drop
/-- The host draws. -/
theorem draw_ok {p : Nat} {H : Hst} (h : St c w (blk p 62 (hst H) :: L)) (h0 : 0 ≤ H.srcN) (h1 : H.srcN < 1000000000) {Q : Value → World → Prop} (hk : ∀ w', St c w' (blk p 62 (hst { H with srcN := H.srcN + 1 }) :: L) → Q (.int .u64 (drawS H.srcSeedK0 H.srcSeedK1 H.srcN)) w') :
    CALL PG 23 [.pointer (some (Addr.add ⟨p, 0, none⟩ 25))] w Q := by
  refine call23 ?_
  unfold N23
  refine nilc (h.rdI2 25 2 (nilc ?_))
  refine h.st2 25 2 fun w' h => nilc ?_
  rw [show IntKind.u64.wrap (H.srcN + 1) = H.srcN + 1 by rw [wrapU64]; omega] at h
  have h := h.drew
  refine h.rdGo2 25 0 2 ?_
  (repeat (first | apply Exists.intro (α := Int) | apply Exists.intro (α := Bool) | apply Exists.intro (α := ByteArray) | (apply Exists.intro (α := Option Addr); apply Exists.intro (α := Nat); apply Exists.intro (α := Nat)) | apply Exists.intro (α := Option Addr) | apply Exists.intro (α := Value)))
  refine ⟨rfl, ?_⟩
  refine nilc (h.rdI2 25 2 ?_)
  rw [show IntKind.u64.wrap (H.srcN + 1 - 1) = H.srcN by rw [wrapU64]; omega]
  refine drawn_ok h h0 (by omega) fun w' h => ?_
  (repeat (first | apply Exists.intro (α := Int) | apply Exists.intro (α := Bool) | apply Exists.intro (α := ByteArray) | (apply Exists.intro (α := Option Addr); apply Exists.intro (α := Nat); apply Exists.intro (α := Nat)) | apply Exists.intro (α := Option Addr) | apply Exists.intro (α := Value)))
  refine ⟨rfl, ?_⟩
  exact leti rfl (hk _ h)
/-- A segment goes out. -/
theorem send_ok {x f : Nat} {X : Cn} {F : Fw} {ps : List Pkt} (h : St c w (blk x 115 (cnc X) :: blk f 106 (fwc F) :: own 82 2 X.post X.postN X.postC (ps.flatMap pkc) :: bodP ps :: L)) (hn : X.postN ≤ 100000) {s : Sg} (hs : SgIn L s) (ok : SgOk s.pl) {Q : Value → World → Prop}
    (hk : ∀ O d p w', p.path = F.path → p.bs = encB s.pl → St c w' (blk x 115 (cnc { X with post := O, postN := X.postN + 1, postC := d }) :: blk f 106 (fwc F) :: own 82 2 O (X.postN + 1) d ((ps ++ [p]).flatMap pkc) :: bodP (ps ++ [p]) :: L) → Q (.tuple #[]) w') :
    CALL PG 57 [.pointer (some ⟨x, 0, none⟩), .pointer (some ⟨f, 0, none⟩), sgv s] w Q := by
  refine call57 ?_
  unfold N57
  refine h.box fun q w' h => ?_
  refine h.rdG (B := q) ?_
  (repeat (first | apply Exists.intro (α := Int) | apply Exists.intro (α := Bool) | apply Exists.intro (α := ByteArray) | (apply Exists.intro (α := Option Addr); apply Exists.intro (α := Nat); apply Exists.intro (α := Nat)) | apply Exists.intro (α := Option Addr) | apply Exists.intro (α := Value)))
  refine ⟨rfl, ?_⟩
  refine senc_ok h hs.more.more.more.more.more ok fun O1 k1 w' h => ?_
  (repeat (first | apply Exists.intro (α := Int) | apply Exists.intro (α := Bool) | apply Exists.intro (α := ByteArray) | (apply Exists.intro (α := Option Addr); apply Exists.intro (α := Nat); apply Exists.intro (α := Nat)) | apply Exists.intro (α := Option Addr) | apply Exists.intro (α := Value)))
  refine ⟨rfl, ?_⟩
  refine leti rfl (ift rfl ?_)
  have h := h.drew
  refine ⟨fun w => St c w [blk x 115 (cnc X), blk f 106 (fwc F)], h.sub (.cons (.tail (.tail .head)) (.cons (.tail (.tail .head)) .nil)), nilc ?_⟩
  refine St.rdsL (B := x) 49 (nilc ?_)
  refine St.rdsI (B := f) 10 ?_
  refine RDS.bld ?_
  (repeat (first | apply Exists.intro (α := Int) | apply Exists.intro (α := Bool) | apply Exists.intro (α := ByteArray) | (apply Exists.intro (α := Option Addr); apply Exists.intro (α := Nat); apply Exists.intro (α := Nat)) | apply Exists.intro (α := Option Addr) | apply Exists.intro (α := Value)))
  refine ⟨rfl, ?_⟩
  refine h.lit (n := 1) 82 2 (pkc ⟨F.path, O1, k1, encB s.pl⟩) fun q2 w' h => ?_
  refine ⟨_, fun _ h => h, h.sub (.cons (.tail (.tail (.tail .head))) (.cons (.tail (.tail (.tail .head))) .nil)), ?_⟩
  refine h.append huPkts tiPkt (.tail (.tail (.tail (.tail (.tail .head))))) (RdIn.own .head) (m := 1) rfl (pkc_flat1 _) (by omega) fun O2 d2 w' h => nilc ?_
  refine h.st (B := x) 49 fun w' h => ?_
  refine hk O2 d2 ⟨F.path, O1, k1, encB s.pl⟩ _ rfl rfl ?_
  have h := h.sub (show Sub _ (own 5 1 O1 (encB s.pl).length k1 (bvs (encB s.pl)) :: bodP ps :: blk x 115 (cnc { X with post := O2, postN := X.postN + 1, postC := d2 }) :: blk f 106 (fwc F) :: own 82 2 O2 (X.postN + 1) d2 (ps.flatMap pkc ++ pkc ⟨F.path, O1, k1, encB s.pl⟩) :: L) from
    .cons (.tail (.tail (.tail .head))) (.cons (.tail (.tail (.tail (.tail (.tail .head))))) (.cons .head (.cons (.tail (.tail (.tail .head))) (.cons .head (Sub.same _).more.more)))))
  have h := h.ownRows.ro2.roW (ψ := fun w => ∀ p ∈ ps ++ [(⟨F.path, O1, k1, encB s.pl⟩ : Pkt)], Row w p.b (bvs p.bs)) fun w ⟨a, b⟩ p hp => by
    rw [List.mem_append, List.mem_singleton] at hp
    rcases hp with hp | rfl
    · exact b p hp
    · exact a
  rw [List.flatMap_append]
  simp only [List.flatMap_cons, List.flatMap_nil, List.append_nil]
  exact h.sub (.cons (.tail .head) (.cons (.tail .head) (.cons (.tail .head) (Sub.same _))))
/-- The first segment of a path that is asked for. -/
theorem fhello_ok {f : Nat} {F : Fw} {o : Opx} (h : St c w (opp o :: blk f 106 (fwc F) :: L)) {Q : Value → World → Prop}
    (hk : ∀ s w', s.pl = ⟨F.loc, F.rem, F.numFirst, 0, 1, [opl o], []⟩ → St c w' (blk f 106 (fwc F) :: sgp s :: L) → Q (sgv s) w') : CALL PG 58 [.pointer (some ⟨f, 0, none⟩), opxv o] w Q := by
  refine call58 ?_
  unfold N58
  refine h.box (vs := opx o) fun q w' h => ?_
  refine h.allocZ fun q2 w' h => ?_
  have h := h.drew
  refine ⟨fun w => St c w [blk q 139 (opx o), blk f 106 (fwc F)], h.sub (.cons (.tail .head) (.cons (.tail (.tail .head)) .nil)), nilc ?_⟩
  refine St.rdsI (B := f) 11 (nilc ?_)
  refine St.rdsI (B := f) 12 (nilc ?_)
  refine St.rdsI2 (B := f) 0 1 ?_
  refine RDS.bld ?_
  (repeat (first | apply Exists.intro (α := Int) | apply Exists.intro (α := Bool) | apply Exists.intro (α := ByteArray) | (apply Exists.intro (α := Option Addr); apply Exists.intro (α := Nat); apply Exists.intro (α := Nat)) | apply Exists.intro (α := Option Addr) | apply Exists.intro (α := Value)))
  refine ⟨rfl, ?_⟩
  refine St.rdsG (B := q) ?_
  (repeat (first | apply Exists.intro (α := Int) | apply Exists.intro (α := Bool) | apply Exists.intro (α := ByteArray) | (apply Exists.intro (α := Option Addr); apply Exists.intro (α := Nat); apply Exists.intro (α := Nat)) | apply Exists.intro (α := Option Addr) | apply Exists.intro (α := Value)))
  refine ⟨rfl, ?_⟩
  refine h.lit (n := 1) 139 2 (([o] : List Opx).flatMap opx) fun q3 w' h => ?_
  refine ⟨_, fun _ h => h, h.sub (.cons (.tail (.tail .head)) (.cons (.tail (.tail (.tail .head))) .nil)), ?_⟩
  refine sof_ok h (s := ⟨F.loc, F.rem, F.numFirst, 0, 1, none, 0, [], none, 0, []⟩) (os := [o]) (RdIn.own .head) (by simp) fun O k w' h => ?_
  (repeat (first | apply Exists.intro (α := Int) | apply Exists.intro (α := Bool) | apply Exists.intro (α := ByteArray) | (apply Exists.intro (α := Option Addr); apply Exists.intro (α := Nat); apply Exists.intro (α := Nat)) | apply Exists.intro (α := Option Addr) | apply Exists.intro (α := Value)))
  refine ⟨rfl, ?_⟩
  refine h.stG (B := q2) fun w' h => ?_
  refine h.rdG (B := q2) ?_
  (repeat (first | apply Exists.intro (α := Int) | apply Exists.intro (α := Bool) | apply Exists.intro (α := ByteArray) | (apply Exists.intro (α := Option Addr); apply Exists.intro (α := Nat); apply Exists.intro (α := Nat)) | apply Exists.intro (α := Option Addr) | apply Exists.intro (α := Value)))
  refine ⟨rfl, ?_⟩
  refine hk ⟨F.loc, F.rem, F.numFirst, 0, 1, O, k, [o], none, 0, []⟩ _ rfl ?_
  have h := h.sub (show Sub _ (own 139 2 O 1 k (([o] : List Opx).flatMap opx) :: opp o :: blk f 106 (fwc F) :: L) from .cons (.tail .head) (.cons (.tail (.tail (.tail .head))) (.cons (.tail (.tail (.tail .head))) (Sub.same _).more.more.more)))
  exact (h.ownRows.ro2.roW fun w ⟨a, b⟩ => (⟨a, fun o' ho => by
    rw [List.mem_singleton] at ho
    subst ho
    exact b, Row.nil w none⟩ : SgAt ⟨F.loc, F.rem, F.numFirst, 0, 1, O, k, [o], none, 0, []⟩ w)).swap
theorem chello_ok {x f : Nat} {X : Cn} {F : Fw} {ps : List Pkt} (h : St c w (blk x 115 (cnc X) :: blk f 106 (fwc F) :: own 82 2 X.post X.postN X.postC (ps.flatMap pkc) :: bodP ps :: L)) (hn : X.postN ≤ 100000) (hf : F.fst = true) (hm : 0 ≤ X.mine ∧ X.mine < 18446744073709551616)
    (hs : SgOk ⟨F.loc, F.rem, F.numFirst, 0, 1, [(1, keyB X.mine 0 false)], []⟩) {Q : Value → World → Prop}
    (hk : ∀ O d p w', p.path = F.path → p.bs = encB ⟨F.loc, F.rem, F.numFirst, 0, 1, [(1, keyB X.mine 0 false)], []⟩ → St c w' (blk x 115 (cnc { X with post := O, postN := X.postN + 1, postC := d }) :: blk f 106 (fwc F) :: own 82 2 O (X.postN + 1) d ((ps ++ [p]).flatMap pkc) :: bodP (ps ++ [p]) :: L) → Q (.tuple #[]) w') :
    CALL PG 34 [.pointer (some ⟨x, 0, none⟩), .pointer (some ⟨f, 0, none⟩)] w Q := by
  refine call34 ?_
  unfold N34
  refine nilc (h.rdI 27 ?_)
  refine RD.bld ?_
  (repeat (first | apply Exists.intro (α := Int) | apply Exists.intro (α := Bool) | apply Exists.intro (α := ByteArray) | (apply Exists.intro (α := Option Addr); apply Exists.intro (α := Nat); apply Exists.intro (α := Nat)) | apply Exists.intro (α := Option Addr) | apply Exists.intro (α := Value)))
  refine ⟨rfl, ?_⟩
  refine okey_ok h hm.1 hm.2 (by decide) (by decide) fun o w' ho h => ?_
  (repeat (first | apply Exists.intro (α := Int) | apply Exists.intro (α := Bool) | apply Exists.intro (α := ByteArray) | (apply Exists.intro (α := Option Addr); apply Exists.intro (α := Nat); apply Exists.intro (α := Nat)) | apply Exists.intro (α := Option Addr) | apply Exists.intro (α := Value)))
  refine ⟨rfl, ?_⟩
  refine h.allocZ fun q w' h => ?_
  refine h.stG (B := q) fun w' h => nilc ?_
  refine h.rdB (B := f) 14 ?_
  rw [hf]
  refine iff_ rfl ?_
  refine h.rdG (B := q) ?_
  (repeat (first | apply Exists.intro (α := Int) | apply Exists.intro (α := Bool) | apply Exists.intro (α := ByteArray) | (apply Exists.intro (α := Option Addr); apply Exists.intro (α := Nat); apply Exists.intro (α := Nat)) | apply Exists.intro (α := Option Addr) | apply Exists.intro (α := Value)))
  refine ⟨rfl, ?_⟩
  have h := h.sub (show Sub _ (opp o :: blk f 106 (fwc F) :: blk x 115 (cnc X) :: own 82 2 X.post X.postN X.postC (ps.flatMap pkc) :: bodP ps :: L) from .cons (.tail .head) (.cons (.tail (.tail .head)) (.cons (.tail .head) (.cons (.tail .head) (.cons (.tail .head) (Sub.same _).more)))))
  refine fhello_ok h fun s w' es h => ?_
  (repeat (first | apply Exists.intro (α := Int) | apply Exists.intro (α := Bool) | apply Exists.intro (α := ByteArray) | (apply Exists.intro (α := Option Addr); apply Exists.intro (α := Nat); apply Exists.intro (α := Nat)) | apply Exists.intro (α := Option Addr) | apply Exists.intro (α := Value)))
  refine ⟨rfl, ?_⟩
  rw [ho] at es
  rw [← es] at hs hk
  have h := h.sub (show Sub _ (blk x 115 (cnc X) :: blk f 106 (fwc F) :: own 82 2 X.post X.postN X.postC (ps.flatMap pkc) :: bodP ps :: sgp s :: L) from .cons (.tail (.tail .head)) (.cons .head (.cons (.tail .head) (.cons (.tail .head) (Sub.same _)))))
  refine send_ok h hn (SgIn.here .head) hs fun O d p w' e1 e2 h => ⟨rfl, ?_⟩
  exact hk O d p _ e1 e2 (h.sub (.cons .head (.cons .head (.cons .head (.cons .head (Sub.same _).more)))))
end
end Go.Br
