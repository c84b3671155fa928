/- What one may see of a host and of its connections. -/
import Derived.Test.YtmdkhgibipojcaaGreatNHostInfo
import Derived.Test.YtmdkhgibipojcaaGreatJConnAsk2
import Derived.Test.YtmdkhgibipojcaaGreatJSortInt
set_option linter.unusedVariables false
set_option linter.unusedSimpArgs false
set_option linter.unnecessarySimpa false
namespace Go.Br
open Go
instance biHostInfoa : Zro PG 52 10 80 (.agg #[.int .i64 0, .int .i64 0, .int .i64 0, .int .i64 0, .int .i64 0, .int .i64 0, .int .i64 0, .int .i64 0, .int .i64 0, .int .i64 0]) := ⟨tiOf (by kernel_rfl)⟩
instance biHostInfob : Zro PG 104 18 128 (.agg #[.int .i64 0, .int .i64 0, .int .i64 0, .int .u64 0, .int .u64 0, .int .i64 0, .int .u16 0, .int .u16 0, .int .u64 0, .int .u64 0, .int .u64 0, .int .u64 0, .bool false, .bool false, .int .i64 0, .int .i64 0, .int .i64 0, .int .i64 0]) := ⟨tiOf (by kernel_rfl)⟩
instance biHostInfoc (x0 : Int) (x1 : Int) (x2 : Int) (x3 : Int) (x4 : Int) (x5 : Int) (x6 : Int) (x7 : Int) (x8 : Int) (x9 : Int) (x10 : Int) (x11 : Int) (x12 : Bool) (x13 : Bool) (x14 : Int) (x15 : Int) (x16 : Int) (x17 : Int) : Bld PG (Instr.build 104 #[(0, .int .i64 x0), (1, .int .i64 x1), (2, .int .i64 x2), (3, .agg #[.int .u64 x3, .int .u64 x4]), (4, .agg #[.int .i64 x5, .int .u16 x6, .int .u16 x7]), (5, .int .u64 x8), (6, .int .u64 x9), (7, .int .u64 x10), (8, .int .u64 x11), (9, .bool x12), (10, .bool x13), (11, .int .i64 x14), (12, .int .i64 x15), (13, .int .i64 x16), (14, .int .i64 x17)]) (.agg #[.int .i64 x0, .int .i64 x1, .int .i64 x2, .int .u64 x3, .int .u64 x4, .int .i64 x5, .int .u16 x6, .int .u16 x7, .int .u64 x8, .int .u64 x9, .int .u64 x10, .int .u64 x11, .bool x12, .bool x13, .int .i64 x14, .int .i64 x15, .int .i64 x16, .int .i64 x17]) := ⟨fun w => by kernel_rfl⟩
attribute [local irreducible] Addr.add RD RDS RUN RUNU NILC LETB CALL CALLX CALLV

theorem tiIntH : TI PG 3 1 8 (.int .i64 0) := tiOf (by kernel_rfl)
theorem tiConnpH : TI PG 81 1 8 (.pointer none) := tiOf (by kernel_rfl)
theorem huIntsH : PG.underlying 71 = some (.slice 3) := by kernel_rfl
structure Inf where
  state : Int
  cause : Int
  role : Int
  idK0 : Int
  idK1 : Int
  firstPath : Int
  firstLocal : Int
  firstRemote : Int
  accepted : Int
  acked : Int
  came : Int
  read : Int
  closed : Bool
  ended : Bool
  silence : Int
  flows : Int
  under : Int
  held : Int
def inf (x : Inf) : List Value := [.int .i64 x.state, .int .i64 x.cause, .int .i64 x.role, .int .u64 x.idK0, .int .u64 x.idK1, .int .i64 x.firstPath, .int .u16 x.firstLocal, .int .u16 x.firstRemote, .int .u64 x.accepted, .int .u64 x.acked, .int .u64 x.came, .int .u64 x.read, .bool x.closed, .bool x.ended, .int .i64 x.silence, .int .i64 x.flows, .int .i64 x.under, .int .i64 x.held]
abbrev infv (x : Inf) : Value := .agg #[.int .i64 x.state, .int .i64 x.cause, .int .i64 x.role, .int .u64 x.idK0, .int .u64 x.idK1, .int .i64 x.firstPath, .int .u16 x.firstLocal, .int .u16 x.firstRemote, .int .u64 x.accepted, .int .u64 x.acked, .int .u64 x.came, .int .u64 x.read, .bool x.closed, .bool x.ended, .int .i64 x.silence, .int .i64 x.flows, .int .i64 x.under, .int .i64 x.held]
theorem inf_length (x : Inf) : (inf x).length = 18 := rfl
theorem inf_flat1 (x : Inf) : Flat (inf x) := by intro v hv; simp [inf] at hv; rcases hv with rfl | rfl | rfl | rfl | rfl | rfl | rfl | rfl | rfl | rfl | rfl | rfl | rfl | rfl | rfl | rfl | rfl | rfl <;> rfl
theorem inf_flat (L : List Inf) : Flat (L.flatMap inf) := by
  intro v hv
  simp only [List.mem_flatMap] at hv
  obtain ⟨x, _, hx⟩ := hv
  exact inf_flat1 x v hx
/-- What of a connection's parts is told. -/
structure Kb where
  o : Nat
  r : Nat
  i : Nat
  r2 : Nat
  y : Nat
  ob : Int
  oc : Bool
  od : Bool
  rA : Option Addr
  rN : Nat
  rC : Nat
  ra : Int
  rl : Int
  s : Option Addr
  ib : Int
  ie : Int
  ik : Bool
  qA : Option Addr
  qN : Nat
  qC : Nat
  qa : Int
  ql : Int
  ym : Int
  yA : Option Addr
  yN : Nat
  yC : Nat
def Cn.at (X : Cn) (K : Kb) : Cn := { X with out := some ⟨K.o, 0, none⟩, inn := some ⟨K.i, 0, none⟩, way := some ⟨K.y, 0, none⟩ }
abbrev coB (x : Nat) (X : Cn) (K : Kb) (L : List SA) : List SA :=
  blk x 126 (cnc (X.at K)) :: blk K.o 167 [.pointer (some ⟨K.r, 0, none⟩), .int .u64 K.ob, .bool K.oc, .bool K.od] :: blk K.r 216 [.slice K.rA K.rN K.rC, .int .i64 K.ra, .int .i64 K.rl] ::
  blk K.i 170 [.pointer (some ⟨K.r2, 0, none⟩), .pointer K.s, .int .u64 K.ib, .int .u64 K.ie, .bool K.ik] :: blk K.r2 216 [.slice K.qA K.qN K.qC, .int .i64 K.qa, .int .i64 K.ql] :: blk K.y 214 [.int .i64 K.ym, .slice K.yA K.yN K.yC] :: L
structure KbOk (K : Kb) : Prop where
  ob : 0 ≤ K.ob ∧ K.ob ≤ 4611686018427387904
  rl : 0 ≤ K.rl ∧ K.rl ≤ 1000000
  ib : 0 ≤ K.ib ∧ K.ib ≤ 4611686018427387904
  ql : 0 ≤ K.ql ∧ K.ql ≤ 1000000
  rN : K.rN ≤ 1000000
  qN : K.qN ≤ 1000000
  yN : K.yN ≤ 1000000
def infOf (X : Cn) (K : Kb) : Inf :=
  ⟨X.state, X.cause, X.role, X.keysIDK0, X.keysIDK1, X.firstPath, X.firstLocal, X.firstRemote, K.ob + K.rl, K.ob, K.ib + K.ql, K.ib, K.oc, K.ik && (K.ib + K.ql == K.ie), X.silence, X.flowsN, K.yN, K.rN + K.qN⟩
section
variable {c : Ctx} {w : World} {L R : List SA}
set_option maxRecDepth 20000 in
theorem cinfo_ok {x : Nat} {X : Cn} {K : Kb} (h : St c w (coB x X K L)) (ok : KbOk K) {Q : Value → World → Prop} (hk : ∀ w', St c w' (coB x X K L) → Q (infv (infOf X K)) w') : CALL PG 33 [.pointer (some ⟨x, 0, none⟩)] w Q := by
  obtain ⟨h1, h2, h3, h4, h5, h6, h7⟩ := ok
  refine call33 ?_
  unfold N33
  refine h.allocZ fun q w' h => ?_
  have h := h.drew
  refine ⟨fun w => St c w [blk x 126 (cnc (X.at K)), blk K.o 167 [.pointer (some ⟨K.r, 0, none⟩), .int .u64 K.ob, .bool K.oc, .bool K.od], blk K.i 170 [.pointer (some ⟨K.r2, 0, none⟩), .pointer K.s, .int .u64 K.ib, .int .u64 K.ie, .bool K.ik]], h.sub (.cons (.tail .head) (.cons (.tail .head) (.cons (.tail (.tail .head)) (.nil)))), ?_⟩
  simp only [add_add, Nat.reduceAdd]
  refine nilc (St.rdsI (B := x) 25 (nilc (St.rdsI (B := x) 26 (nilc (St.rdsI (B := x) 24 (nilc ?_))))))
  refine St.rdsGo (B := x) 0 2 ?_
  (repeat (first | apply Exists.intro (α := Int) | apply Exists.intro (α := Bool) | apply Exists.intro (α := ByteArray) | (apply Exists.intro (α := Option Addr); apply Exists.intro (α := Nat); apply Exists.intro (α := Nat)) | apply Exists.intro (α := Option Addr) | apply Exists.intro (α := Value)))
  refine ⟨rfl, ?_⟩
  refine nilc (St.rdsGo (B := x) 30 3 ?_)
  (repeat (first | apply Exists.intro (α := Int) | apply Exists.intro (α := Bool) | apply Exists.intro (α := ByteArray) | (apply Exists.intro (α := Option Addr); apply Exists.intro (α := Nat); apply Exists.intro (α := Nat)) | apply Exists.intro (α := Option Addr) | apply Exists.intro (α := Value)))
  refine ⟨rfl, ?_⟩
  refine nilc (St.rdsP (B := x) 35 (nilc (St.rdsP (B := x) 35 (nilc (St.rdsP (B := x) 36 (nilc (St.rdsP (B := x) 36 (nilc (St.rdsP (B := x) 35 (nilc (St.rdsP (B := x) 36 (nilc ?_))))))))))))
  refine St.rdsI (B := x) 45 (nilc (St.rdsL (B := x) 33 (nilc (St.rdsP (B := x) 37 (nilc (St.rdsP (B := x) 35 (nilc (St.rdsP (B := K.o) 0 (nilc (St.rdsP (B := x) 36 (nilc (St.rdsP (B := K.i) 0 ?_))))))))))))
  have keep : ∀ {w'} {S : World → Prop}, (∀ w, St c w [blk x 126 (cnc (X.at K)), blk K.o 167 [.pointer (some ⟨K.r, 0, none⟩), .int .u64 K.ob, .bool K.oc, .bool K.od], blk K.i 170 [.pointer (some ⟨K.r2, 0, none⟩), .pointer K.s, .int .u64 K.ib, .int .u64 K.ie, .bool K.ik]] → S w) → St c w' (blk q 104 (inf ⟨0, 0, 0, 0, 0, 0, 0, 0, 0, 0, 0, 0, false, false, 0, 0, 0, 0⟩) :: coB x X K L) → S w' := fun f h => f _ (h.sub (.cons (.tail .head) (.cons (.tail .head) (.cons (.tail (.tail .head)) (.nil)))))
  -- End
  refine call66 ?_
  unfold N66
  have h := h.drew
  refine ⟨fun w => St c w [blk K.o 167 [.pointer (some ⟨K.r, 0, none⟩), .int .u64 K.ob, .bool K.oc, .bool K.od]], h.sub (.cons (.tail (.tail .head)) (.nil)), ?_⟩
  refine nilc (St.rdsI (B := K.o) 1 (nilc (St.rdsP (B := K.o) 0 ?_)))
  refine call110 ?_
  unfold N110
  refine nilc (h.rdI (B := K.r) 2 (leti rfl ⟨_, rfl, _, fun _ h => h, h.sub (.cons (.tail (.tail .head)) (.nil)), leti (y := K.ob + K.rl) ?_ ⟨_, rfl, _, fun _ h => h, keep (fun _ h => h) h, ?_⟩⟩))
  · rw [wrapU64 (n := K.rl), wrapU64]; omega
  -- Base
  refine call67 ?_
  unfold N67
  refine nilc (h.rdI (B := K.o) 1 (leti rfl ⟨_, rfl, _, fun _ h => h, keep (fun _ h => h) h, ?_⟩))
  -- Next
  have nx : ∀ {w'} {Q' : Value → World → Prop}, St c w' (blk q 104 (inf ⟨0, 0, 0, 0, 0, 0, 0, 0, 0, 0, 0, 0, false, false, 0, 0, 0, 0⟩) :: coB x X K L) → (∀ w', St c w' (blk q 104 (inf ⟨0, 0, 0, 0, 0, 0, 0, 0, 0, 0, 0, 0, false, false, 0, 0, 0, 0⟩) :: coB x X K L) → Q' (.int .u64 (K.ib + K.ql)) w') → CALL PG 68 [.pointer (some ⟨K.i, 0, none⟩)] w' Q' := by
    intro w' Q' h hk
    refine call68 ?_
    unfold N68
    have h := h.drew
    refine ⟨fun w => St c w [blk K.i 170 [.pointer (some ⟨K.r2, 0, none⟩), .pointer K.s, .int .u64 K.ib, .int .u64 K.ie, .bool K.ik]], h.sub (.cons (.tail (.tail (.tail (.tail .head)))) (.nil)), ?_⟩
    refine nilc (St.rdsI (B := K.i) 2 (nilc (St.rdsP (B := K.i) 0 ?_)))
    refine call110 ?_
    unfold N110
    refine nilc (h.rdI (B := K.r2) 2 (leti rfl ⟨_, rfl, _, fun _ h => h, h.sub (.cons (.tail (.tail (.tail (.tail .head)))) (.nil)), leti (y := K.ib + K.ql) ?_ (hk _ h)⟩))
    rw [wrapU64 (n := K.ql), wrapU64]; omega
  refine nx h fun w' h => ⟨_, rfl, _, fun _ h => h, keep (fun _ h => h) h, ?_⟩
  refine call69 ?_
  unfold N69
  refine nilc (h.rdI (B := K.i) 2 (leti rfl ⟨_, rfl, _, fun _ h => h, keep (fun _ h => h) h, ?_⟩))
  refine call70 ?_
  unfold N70
  refine nilc (h.rdB (B := K.o) 2 (letb rfl ⟨_, rfl, _, fun _ h => h, keep (fun _ h => h) h, ?_⟩))
  -- Ended
  have en : ∀ {w'} {Q' : Value → World → Prop}, St c w' (blk q 104 (inf ⟨0, 0, 0, 0, 0, 0, 0, 0, 0, 0, 0, 0, false, false, 0, 0, 0, 0⟩) :: coB x X K L) → (∀ w', St c w' (blk q 104 (inf ⟨0, 0, 0, 0, 0, 0, 0, 0, 0, 0, 0, 0, false, false, 0, 0, 0, 0⟩) :: coB x X K L) → Q' (.bool (K.ik && (K.ib + K.ql == K.ie))) w') → CALL PG 71 [.pointer (some ⟨K.i, 0, none⟩)] w' Q' := by
    intro w' Q' h hk
    refine call71 ?_
    unfold N71
    have h := h.drew
    refine ⟨fun w => St c w [blk K.i 170 [.pointer (some ⟨K.r2, 0, none⟩), .pointer K.s, .int .u64 K.ib, .int .u64 K.ie, .bool K.ik]], h.sub (.cons (.tail (.tail (.tail (.tail .head)))) (.nil)), ?_⟩
    refine nilc (St.rdsB (B := K.i) 4 ?_)
    refine ifb (fun e => ?_) fun e => ?_
    · refine nilc (St.rdsI (B := K.i) 3 ?_)
      refine nx h fun w' h => ⟨_, rfl, _, fun _ h => h, h.sub (.cons (.tail (.tail (.tail (.tail .head)))) (.nil)), letb rfl ?_⟩
      have := hk _ h
      rwa [e, Bool.true_and] at this
    · have := hk _ h
      rw [e, Bool.false_and] at this
      exact letb rfl this
  refine en h fun w' h => ⟨_, rfl, _, fun _ h => h, keep (fun _ h => h) h, ?_⟩
  refine call72 ?_
  unfold N72
  refine nilc (h.rdL (B := K.y) 1 (leti rfl ⟨_, rfl, _, fun _ h => h, keep (fun _ h => h) h, ?_⟩))
  refine call73 ?_
  unfold N73
  refine nilc (h.rdL (B := K.r) 0 (leti rfl ⟨_, rfl, _, fun _ h => h, keep (fun _ h => h) h, ?_⟩))
  refine call73 ?_
  unfold N73
  refine nilc (h.rdL (B := K.r2) 0 (leti rfl ⟨_, rfl, _, fun _ h => h, keep (fun _ h => h) h, ?_⟩))
  rw [wrap_i64 (n := (K.rN : Int) + K.qN) (by omega) (by omega)]
  refine RDS.bld ?_
  (repeat (first | apply Exists.intro (α := Int) | apply Exists.intro (α := Bool) | apply Exists.intro (α := ByteArray) | (apply Exists.intro (α := Option Addr); apply Exists.intro (α := Nat); apply Exists.intro (α := Nat)) | apply Exists.intro (α := Option Addr) | apply Exists.intro (α := Value)))
  refine ⟨rfl, ?_⟩
  refine h.stG (B := q) fun w' h => ?_
  refine h.rdG (B := q) ?_
  (repeat (first | apply Exists.intro (α := Int) | apply Exists.intro (α := Bool) | apply Exists.intro (α := ByteArray) | (apply Exists.intro (α := Option Addr); apply Exists.intro (α := Nat); apply Exists.intro (α := Nat)) | apply Exists.intro (α := Option Addr) | apply Exists.intro (α := Value)))
  refine ⟨rfl, ?_⟩
  exact hk _ h.drop
theorem St.mlook1 {P : Program} {r : Nat} {E : List (Int × Value)} {t kt e z b : TypeId} {zv : Value} {k : Int} {x : Option Addr} {K : Option Addr → Prop} (h : St c w L) (hp : Pick (mp r E) L R) (hk : K x) (hx : (mget E k).getD zv = .pointer x) (ht : P.underlying t = some (.map kt e)) (hkt : P.underlying kt = some (.int .i64)) (hi : TI P e z b zv) :
    RDP P (Instr.lookup t (.map (some r)) (.int .i64 k) false) w K := by
  obtain ⟨⟨es, clock, h1, h2, _⟩, _⟩ := h.mapO hp
  obtain ⟨i, hi1, _, _, hz⟩ := hi
  unfold RDP
  refine RD.of (v := .pointer x) ?_ ⟨x, rfl, hk⟩
  have hc := run_checkKey (P := P) hkt es.isEmpty 9999 k w
  have hf := run_findKey (P := P) hkt (k := k) h2 w
  unfold mget at hx
  simp only [Instr.lookup, Sem.run_bind, run_und ht, Result.andThen_ok, run_getMap h1, Sem.run_pure]
  rw [hc]
  simp only [Result.andThen_ok, hf]
  cases hm : mgo k E 0 with
  | none => rw [hm] at hx; simp at hx; simp [zeroValue, run_info hi1, hz, hx]
  | some q => obtain ⟨j, v⟩ := q; rw [hm] at hx; simp at hx; simp [hx]
theorem handles_ok {p r : Nat} {H : Hst} {E : List (Int × Value)} (h : St c w (blk p 66 (hst { H with conns := r }) :: mp r E :: L)) (hE : E.length ≤ 12) {Q : Value → World → Prop}
    (hk : ∀ O d C w', Srt fI C → C.Perm (E.map Prod.fst) → St c w' (own 3 1 O C.length d (C.flatMap iv) :: blk p 66 (hst { H with conns := r }) :: mp r E :: L) → Q (.slice O C.length d) w') : CALL PG 40 [.pointer (some ⟨p, 0, none⟩)] w Q := by
  refine call40 ?_
  unfold N40
  refine nilc (h.rdMp (B := p) 29 ⟨_, rfl, ?_⟩)
  have h := h.addOwnNil 3 1
  refine h.mrange (.tail (.tail .head)) (fun it w' h => ?_) huConns
  refine ⟨fun m o oN oC w => ∃ (V : List (Int × Value)) (cur : Option (Int × Value)) (ys : List Int), m = V.length ∧ oN = ys.length ∧ (ys ++ V.map Prod.fst).Perm (E.map Prod.fst) ∧ St c w (own 3 1 o oN oC (ys.flatMap iv) :: mpr r it E V cur :: blk p 66 (hst { H with conns := r }) :: L), ⟨_, E, none, [], rfl, rfl, by simp, h.sub (.cons (.tail .head) (.cons .head (.cons .head ((Sub.same _)))))⟩, ?_⟩
  clear h
  rintro m o oN oC w' ⟨V, cur, ys, rfl, rfl, hpm, h⟩
  have hlen := hpm.length_eq
  simp at hlen
  refine h.mnext (.tail .head) (fun w' hV0 h => ⟨false, [], rfl, iff_ rfl ?_⟩) fun q V' w' hp h => ⟨true, [_, _], rfl, ift rfl ?_⟩
  · subst hV0
    simp at hpm hlen
    have h := h.mend
    have h := h.sub (show Sub _ (own 3 1 o ys.length oC (ys.flatMap iv) :: blk p 66 (hst { H with conns := r }) :: mp r E :: L) from (.cons (.tail .head) (.cons (.tail .head) (.cons .head ((Sub.same _))))))
    refine sortI_ok rfl (by omega) h fun w' C hs hC h => ⟨rfl, ?_⟩
    have := hk o oC C w' hs (hC.trans hpm) (by rw [hC.length_eq]; exact h)
    rwa [hC.length_eq] at this
  · have hlen2 := hp.length_eq
    simp at hlen2
    refine h.mentry .head ⟨_, _, rfl, _, rfl, leti rfl ?_⟩
    refine h.app1 huIntsH tiIntH (iv q.1) (.tail .head) (iv_flat1 q.1) (by omega) fun O d w' h => ?_
    refine ⟨V'.length, by omega, V', some q, ys ++ [q.1], rfl, by simp, ?_, by rw [List.flatMap_append]; simpa using h⟩
    refine (List.Perm.trans ?_ hpm)
    rw [List.append_assoc]
    exact List.Perm.append_left ys (hp.map Prod.fst).symm
theorem seen_ok {p : Nat} {H : Hst} (h : St c w (blk p 66 (hst H) :: L)) {Q : Value → World → Prop}
    (hk : ∀ w', St c w' (blk p 66 (hst H) :: L) → Q (.agg #[.int .i64 H.kTaken, .int .i64 H.kUnsealed, .int .i64 H.kOutside, .int .i64 H.kChallenged, .int .i64 H.kLimited, .int .i64 H.kRemoved, .int .i64 H.kMalformed, .int .i64 H.kUnknown, .int .i64 H.kRefused, .int .i64 H.kBegun]) w') : CALL PG 12 [.pointer (some ⟨p, 0, none⟩)] w Q := by
  refine call12 ?_
  unfold N12
  refine h.allocZ fun q w' h => nilc ?_
  refine h.rdGo (B := p) 0 10 ?_
  (repeat (first | apply Exists.intro (α := Int) | apply Exists.intro (α := Bool) | apply Exists.intro (α := ByteArray) | (apply Exists.intro (α := Option Addr); apply Exists.intro (α := Nat); apply Exists.intro (α := Nat)) | apply Exists.intro (α := Option Addr) | apply Exists.intro (α := Value)))
  refine ⟨rfl, ?_⟩
  refine h.stG (B := q) fun w' h => ?_
  refine h.rdG (B := q) ?_
  (repeat (first | apply Exists.intro (α := Int) | apply Exists.intro (α := Bool) | apply Exists.intro (α := ByteArray) | (apply Exists.intro (α := Option Addr); apply Exists.intro (α := Nat); apply Exists.intro (α := Nat)) | apply Exists.intro (α := Option Addr) | apply Exists.intro (α := Value)))
  refine ⟨rfl, ?_⟩
  exact hk _ h.drop
abbrev szc (a b d e f g : Int) : List Value := [.int .i64 a, .int .i64 b, .int .i64 d, .int .i64 e, .int .i64 f, .int .i64 g]
theorem add_ok {x q : Nat} {X : Cn} {K : Kb} {a b d e f g : Int} (h : St c w (blk q 55 (szc a b d e f g) :: coB x X K L)) (ok : KbOk K) (hb : (0 ≤ e ∧ e ≤ 1000000000) ∧ (0 ≤ f ∧ f ≤ 1000000000) ∧ (0 ≤ g ∧ g ≤ 1000000000)) (hf : X.flowsN ≤ 1000000) {Q : Value → World → Prop}
    (hk : ∀ w', St c w' (blk q 55 (szc a b d (e + X.flowsN) (f + K.yN) (g + (K.rN + K.qN))) :: coB x X K L) → Q (.tuple #[]) w') : CALL PG 32 [.pointer (some ⟨x, 0, none⟩), .pointer (some ⟨q, 0, none⟩)] w Q := by
  obtain ⟨h1, h2, h3, h4, h5, h6, h7⟩ := ok
  refine call32 ?_
  unfold N32
  refine cinfo_ok (h.sub (show Sub _ (coB x X K (blk q 55 (szc a b d e f g) :: L)) from (.cons (.tail .head) (.cons (.tail .head) (.cons (.tail .head) (.cons (.tail .head) (.cons (.tail .head) (.cons (.tail .head) (.cons .head ((Sub.same _))))))))))) ⟨h1, h2, h3, h4, h5, h6, h7⟩ fun w' h => ?_
  (repeat (first | apply Exists.intro (α := Int) | apply Exists.intro (α := Bool) | apply Exists.intro (α := ByteArray) | (apply Exists.intro (α := Option Addr); apply Exists.intro (α := Nat); apply Exists.intro (α := Nat)) | apply Exists.intro (α := Option Addr) | apply Exists.intro (α := Value)))
  refine ⟨rfl, ?_⟩
  refine h.allocZ fun q2 w' h => ?_
  refine h.stG (B := q2) fun w' h => ?_
  refine h.rdI (B := q) 3 (h.rdI (B := q2) 15 ?_)
  refine h.st (B := q) 3 fun w' h => ?_
  refine h.rdI (B := q) 4 (h.rdI (B := q2) 16 ?_)
  refine h.st (B := q) 4 fun w' h => ?_
  refine h.rdI (B := q) 5 (h.rdI (B := q2) 17 ?_)
  refine h.st (B := q) 5 fun w' h => ?_
  have e1 : IntKind.i64.wrap (e + (infOf X K).flows) = e + X.flowsN := wrap_i64 (n := e + X.flowsN) (by omega) (by omega)
  have e2 : IntKind.i64.wrap (f + (infOf X K).under) = f + K.yN := wrap_i64 (n := f + K.yN) (by omega) (by omega)
  have e3 : IntKind.i64.wrap (g + (infOf X K).held) = g + (K.rN + K.qN) := wrap_i64 (n := g + (K.rN + K.qN)) (by omega) (by omega)
  have h := h.sub (show Sub _ (blk q 55 (szc a b d (IntKind.i64.wrap (e + (infOf X K).flows)) (IntKind.i64.wrap (f + (infOf X K).under)) (IntKind.i64.wrap (g + (infOf X K).held))) :: coB x X K L) from (.cons .head (.cons (.tail .head) (.cons (.tail .head) (.cons (.tail .head) (.cons (.tail .head) (.cons (.tail .head) (.cons (.tail .head) ((Sub.same _).more)))))))))
  rw [e1, e2, e3] at h
  exact hk _ h
end
end Go.Br
