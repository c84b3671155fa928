/- A connection is asked for: the whole call. -/
import Derived.Test.YtnmhgjfllknbpaaNConnAsk2
import Derived.Test.YtnmhgjfllknbpaaConnAsk
import Derived.Test.YtnmhgjfllknbpaaHostLaw
set_option linter.unusedVariables false
set_option linter.unusedSimpArgs false
set_option linter.unnecessarySimpa false
namespace Go.Br
open Go
instance biConnAsk2a (x0 : Int) (x1 : Int) (x2 : Int) : Bld PG (Instr.build 72 #[(0, .int .i64 x0), (1, .int .u16 x1), (2, .int .u16 x2)]) (.agg #[.int .i64 x0, .int .u16 x1, .int .u16 x2]) := ⟨fun w => by kernel_rfl⟩
instance biConnAsk2b : Zro PG 72 3 16 (.agg #[.int .i64 0, .int .u16 0, .int .u16 0]) := ⟨tiOf (by kernel_rfl)⟩
attribute [local irreducible] Addr.add RD RDS RUN RUNU NILC LETB CALL CALLX CALLV

/-- Names of a connection's blocks. -/
structure Nms where
  x : Nat
  f : Nat
  a : Nat
  b : Nat
  e : Nat
  m : Nat
  o : Nat
  r : Nat
  bb : Nat
  i : Nat
  s : Nat
  r2 : Nat
  b2 : Nat
  y : Nat
  ad : Nat
  bk : Nat
/-- A connection that is asked for. -/
def askC (g : Cfg) (key path loc rem : Int) (n : Nms) (fA : Option Addr) (fC : Nat) (pA : Option Addr) (pN pC : Nat) : Cn := { cnF g 1 key path loc rem n.m n.o n.i n.y n.ad with flows := fA, flowsN := 1, flowsC := fC, post := pA, postN := pN, postC := pC }
def askF (path loc rem first : Int) (n : Nms) : Fw := { fwN 0 path loc rem first n.a n.b n.e with fst := true }
abbrev askP (g : Cfg) (path loc rem first : Int) (n : Nms) (fA : Option Addr) (fC : Nat) (L : List SA) : List SA :=
  blk n.f 106 (fwc (askF path loc rem first n)) :: own 96 1 fA 1 fC [.pointer (some ⟨n.f, 0, none⟩)] :: fwP g n.a n.b n.e (cnP g n.m n.o n.r n.bb n.i n.s n.r2 n.b2 n.y n.ad n.bk (own 3 1 (some ⟨n.m, 0, none⟩) 1 1 [.int .i64 path] :: L))
/-- The segment that asks. -/
def askS (loc rem first key : Int) : SgP := ⟨loc, rem, first, 0, 1, [(1, keyB key 0 false)], []⟩
theorem askS_ok {loc rem first key : Int} (h1 : 0 ≤ loc ∧ loc < 65536) (h2 : 0 ≤ rem ∧ rem < 65536) (h3 : 0 ≤ first ∧ first < 4294967296) : SgOk (askS loc rem first key) := by
  refine ⟨h1, h2, h3, ⟨Int.le_refl 0, show (0 : Int) < 4294967296 by decide⟩, ⟨show (0 : Int) ≤ 1 by decide, show (1 : Int) ≤ 7 by decide⟩, fun o ho => ?_, ?_, by simp [askS]⟩
  · simp only [askS, List.mem_singleton] at ho
    subst ho
    refine ⟨⟨Int.le_refl 1, show (1 : Int) < 256 by decide⟩, ?_⟩
    simp [keyB, beB_length]
  · simp [askS, obs, obP, keyB, beB_length]
section
variable {c : Ctx} {w : World} {L R : List SA}
theorem St.addBod0 (h : St c w L) : St c w (bodP [] :: L) := h.new (F := []) (G := []) (Kp.refl w) (ro_p.2 ⟨rfl, by simp, fun w _ p hp => by cases hp⟩) (by simp) (by simp)
theorem ask_ok (h : St c w L) {g : Cfg} (hg : CfgOk g) {key path loc rem first : Int} (hkey : 0 ≤ key ∧ key < 18446744073709551616) (h1 : 0 ≤ loc ∧ loc < 65536) (h2 : 0 ≤ rem ∧ rem < 65536) (h3 : 0 ≤ first ∧ first < 4294967296) {Q : Value → World → Prop}
    (hk : ∀ n fA fC pA pC p w', p.path = path → p.bs = encB (askS loc rem first key) → St c w' (blk n.x 115 (cnc (askC g key path loc rem n fA fC pA 1 pC)) :: own 82 2 pA 1 pC (([p] : List Pkt).flatMap pkc) :: bodP [p] :: askP g path loc rem first n fA fC L) → Q (.pointer (some ⟨n.x, 0, none⟩)) w') :
    CALL PG 24 [cfgv g, .int .u64 key, .agg #[.int .i64 path, .int .u16 loc, .int .u16 rem], .int .u32 first] w Q := by
  refine call24 ?_
  unfold N24
  refine h.box (vs := cfg g) fun q w' h => ?_
  refine h.box fun q2 w' h => ?_
  refine h.rdG (B := q) ?_
  (repeat (first | apply Exists.intro (α := Int) | apply Exists.intro (α := Bool) | apply Exists.intro (α := ByteArray) | (apply Exists.intro (α := Option Addr); apply Exists.intro (α := Nat); apply Exists.intro (α := Nat)) | apply Exists.intro (α := Option Addr) | apply Exists.intro (α := Value)))
  refine ⟨rfl, ?_⟩
  refine h.rdG (B := q2) ?_
  (repeat (first | apply Exists.intro (α := Int) | apply Exists.intro (α := Bool) | apply Exists.intro (α := ByteArray) | (apply Exists.intro (α := Option Addr); apply Exists.intro (α := Nat); apply Exists.intro (α := Nat)) | apply Exists.intro (α := Option Addr) | apply Exists.intro (α := Value)))
  refine ⟨rfl, ?_⟩
  refine fresh_ok h hg fun x m o r bb i s r2 b2 y ad bk w' h => ?_
  (repeat (first | apply Exists.intro (α := Int) | apply Exists.intro (α := Bool) | apply Exists.intro (α := ByteArray) | (apply Exists.intro (α := Option Addr); apply Exists.intro (α := Nat); apply Exists.intro (α := Nat)) | apply Exists.intro (α := Option Addr) | apply Exists.intro (α := Value)))
  refine ⟨rfl, ?_⟩
  refine h.rdG (B := q) ?_
  (repeat (first | apply Exists.intro (α := Int) | apply Exists.intro (α := Bool) | apply Exists.intro (α := ByteArray) | (apply Exists.intro (α := Option Addr); apply Exists.intro (α := Nat); apply Exists.intro (α := Nat)) | apply Exists.intro (α := Option Addr) | apply Exists.intro (α := Value)))
  refine ⟨rfl, ?_⟩
  refine h.rdG (B := q2) ?_
  (repeat (first | apply Exists.intro (α := Int) | apply Exists.intro (α := Bool) | apply Exists.intro (α := ByteArray) | (apply Exists.intro (α := Option Addr); apply Exists.intro (α := Nat); apply Exists.intro (α := Nat)) | apply Exists.intro (α := Option Addr) | apply Exists.intro (α := Value)))
  refine ⟨rfl, ?_⟩
  refine flownew_ok h hg fun f a b e w' h => ?_
  (repeat (first | apply Exists.intro (α := Int) | apply Exists.intro (α := Bool) | apply Exists.intro (α := ByteArray) | (apply Exists.intro (α := Option Addr); apply Exists.intro (α := Nat); apply Exists.intro (α := Nat)) | apply Exists.intro (α := Option Addr) | apply Exists.intro (α := Value)))
  refine ⟨rfl, ?_⟩
  refine nilc (h.st (B := f) 14 fun w' h => nilc ?_)
  refine h.rdL (B := x) 33 ?_
  have h := h.addOwnNil 96 1
  refine h.app1 huFlowps tiFlowp [.pointer (some ⟨f, 0, none⟩)] .head (by intro v hv; simp at hv; rw [hv]; rfl) (show (0 + 1) * 8 ≤ 140737488355328 by decide) fun fA fC w' h => nilc ?_
  refine h.st (B := x) 33 fun w' h => ?_
  have h := (h.addOwnNil 82 2).addBod0
  have h := h.sub (show Sub _ (blk x 115 (cnc (askC g key path loc rem ⟨x, f, a, b, e, m, o, r, bb, i, s, r2, b2, y, ad, bk⟩ fA fC none 0 0)) :: blk f 106 (fwc (askF path loc rem first ⟨x, f, a, b, e, m, o, r, bb, i, s, r2, b2, y, ad, bk⟩)) :: own 82 2 none 0 0 (([] : List Pkt).flatMap pkc) :: bodP [] ::
    own 96 1 fA 1 fC [.pointer (some ⟨f, 0, none⟩)] :: fwP g a b e (cnP g m o r bb i s r2 b2 y ad bk (own 3 1 (some ⟨m, 0, none⟩) 1 1 [.int .i64 path] :: L))) from
      .cons (.tail (.tail .head)) (.cons (.tail (.tail (.tail .head))) (.cons (.tail .head) (.cons .head (.cons .head (.cons .head (.cons .head (.cons .head (.cons .head (.cons .head (.cons .head (.cons .head (.cons .head (.cons .head (.cons .head (.cons .head (.cons .head (.cons .head (.cons .head ((Sub.same _).more.more))))))))))))))))))))
  refine chello_ok h (show 0 ≤ 100000 by decide) rfl hkey (askS_ok h1 h2 h3) fun O d p w' e1 e2 h => ⟨rfl, ?_⟩
  refine hk ⟨x, f, a, b, e, m, o, r, bb, i, s, r2, b2, y, ad, bk⟩ fA fC O d p _ e1 e2 ?_
  exact h.sub (.cons .head (.cons (.tail .head) (.cons (.tail .head) (Sub.same _))))
theorem cpost_ok {x : Nat} {X : Cn} (h : St c w (blk x 115 (cnc X) :: L)) {Q : Value → World → Prop} (hk : ∀ w', St c w' (blk x 115 (cnc { X with post := none, postN := 0, postC := 0 }) :: L) → Q (.slice X.post X.postN X.postC) w') : CALL PG 59 [.pointer (some ⟨x, 0, none⟩)] w Q := by
  refine call59 ?_
  unfold N59
  refine nilc (h.rdL 49 (nilc ?_))
  refine h.st 49 fun w' h => ?_
  exact hk _ h
theorem hpost_ok {p : Nat} {H : Hst} (h : St c w (blk p 62 (hst H) :: L)) {Q : Value → World → Prop} (hk : ∀ w', St c w' (blk p 62 (hst { H with post := none, postN := 0, postC := 0 }) :: L) → Q (.slice H.post H.postN H.postC) w') : CALL PG 26 [.pointer (some ⟨p, 0, none⟩)] w Q := by
  refine call26 ?_
  unfold N26
  refine nilc (h.rdL 31 (nilc ?_))
  refine h.st 31 fun w' h => ?_
  exact hk _ h
theorem gather_ok {p x : Nat} {H : Hst} {X : Cn} {ph px : List Pkt} (h : St c w (blk p 62 (hst H) :: blk x 115 (cnc X) :: own 82 2 H.post H.postN H.postC (ph.flatMap pkc) :: bodP ph :: own 82 2 X.post X.postN X.postC (px.flatMap pkc) :: bodP px :: L))
    (hn : px.length = X.postN) (hb : H.postN + X.postN ≤ 1000000) {Q : Value → World → Prop}
    (hk : ∀ O d w', St c w' (blk p 62 (hst { H with post := O, postN := H.postN + X.postN, postC := d }) :: blk x 115 (cnc { X with post := none, postN := 0, postC := 0 }) :: own 82 2 O (H.postN + X.postN) d ((ph ++ px).flatMap pkc) :: bodP (ph ++ px) :: L) → Q (.tuple #[]) w') :
    CALL PG 35 [.pointer (some ⟨p, 0, none⟩), .pointer (some ⟨x, 0, none⟩)] w Q := by
  refine call35 ?_
  unfold N35
  have h := h.drew
  refine ⟨fun w => St c w [blk p 62 (hst H)], h.sub (.cons .head .nil), nilc ?_⟩
  refine St.rdsL 31 ?_
  refine cpost_ok h.swap fun w' h => ?_
  (repeat (first | apply Exists.intro (α := Int) | apply Exists.intro (α := Bool) | apply Exists.intro (α := ByteArray) | (apply Exists.intro (α := Option Addr); apply Exists.intro (α := Nat); apply Exists.intro (α := Nat)) | apply Exists.intro (α := Option Addr) | apply Exists.intro (α := Value)))
  refine ⟨rfl, ?_⟩
  refine ⟨_, fun _ h => h, h.sub (.cons (.tail .head) .nil), ?_⟩
  refine h.append huPkts tiPkt (.tail (.tail .head)) (RdIn.own (.tail (.tail (.tail (.tail .head))))) (m := X.postN) (by rw [← hn]; exact flat_length pkc_length px) (pkc_flat px) (by omega) fun O d w' h => nilc ?_
  refine h.st (B := p) 31 fun w' h => ?_
  refine hk O d _ ?_
  have h := h.sub (show Sub _ (bodP ph :: bodP px :: blk p 62 (hst { H with post := O, postN := H.postN + X.postN, postC := d }) :: blk x 115 (cnc { X with post := none, postN := 0, postC := 0 }) :: own 82 2 O (H.postN + X.postN) d (ph.flatMap pkc ++ px.flatMap pkc) :: L) from
    .cons (.tail (.tail (.tail .head))) (.cons (.tail (.tail (.tail (.tail .head)))) (.cons .head (.cons (.tail .head) (.cons .head (Sub.same _).more)))))
  have h := h.ro2.roW (ψ := fun w => ∀ p ∈ ph ++ px, Row w p.b (bvs p.bs)) fun w ⟨a, b⟩ p hp => by
    rw [List.mem_append] at hp
    exact hp.elim (a p) (b p)
  rw [List.flatMap_append]
  exact h.sub (.cons (.tail .head) (.cons (.tail .head) (.cons (.tail .head) (Sub.same _))))
theorem keep_ok {p x r : Nat} {H : Hst} {E : List (Int × Value)} {X : Cn} {ph px : List Pkt} (h : St c w (blk p 62 (hst { H with conns := r }) :: blk x 115 (cnc X) :: own 82 2 H.post H.postN H.postC (ph.flatMap pkc) :: bodP ph :: own 82 2 X.post X.postN X.postC (px.flatMap pkc) :: bodP px :: mp r E :: L))
    (hn : px.length = X.postN) (hb : H.postN + X.postN ≤ 1000000) (hx : 0 ≤ H.nx ∧ H.nx < 1000000000) {Q : Value → World → Prop}
    (hk : ∀ O d w', St c w' (blk p 62 (hst { H with conns := r, nx := H.nx + 1, post := O, postN := H.postN + X.postN, postC := d }) :: blk x 115 (cnc { X with post := none, postN := 0, postC := 0 }) :: own 82 2 O (H.postN + X.postN) d ((ph ++ px).flatMap pkc) :: bodP (ph ++ px) :: mp r (Br.mput E H.nx (.pointer (some ⟨x, 0, none⟩))) :: L) → Q (.int .i64 H.nx) w') :
    CALL PG 25 [.pointer (some ⟨p, 0, none⟩), .pointer (some ⟨x, 0, none⟩)] w Q := by
  refine call25 ?_
  unfold N25
  refine nilc (h.rdI 30 (leti rfl (nilc (h.rdI 30 (nilc ?_)))))
  refine h.st 30 fun w' h => nilc ?_
  rw [wrap_i64 (n := H.nx + 1) (by omega) (by omega)] at h
  have h : St c w' (blk p 62 (hst { H with conns := r, nx := H.nx + 1 }) :: blk x 115 (cnc X) :: own 82 2 H.post H.postN H.postC (ph.flatMap pkc) :: bodP ph :: own 82 2 X.post X.postN X.postC (px.flatMap pkc) :: bodP px :: mp r E :: L) := h
  refine h.rdMp 29 ⟨_, rfl, ?_⟩
  refine h.mput (.tail (.tail (.tail (.tail (.tail (.tail .head)))))) (fun w' h => ?_) huConns huInt64
  have h := h.sub (show Sub _ (blk p 62 (hst { H with conns := r, nx := H.nx + 1 }) :: blk x 115 (cnc X) :: own 82 2 H.post H.postN H.postC (ph.flatMap pkc) :: bodP ph :: own 82 2 X.post X.postN X.postC (px.flatMap pkc) :: bodP px :: mp r (Br.mput E H.nx (.pointer (some ⟨x, 0, none⟩))) :: L) from
    .cons (.tail .head) (.cons (.tail .head) (.cons (.tail .head) (.cons (.tail .head) (.cons (.tail .head) (.cons (.tail .head) (.cons .head (Sub.same _))))))))
  refine gather_ok (H := { H with conns := r, nx := H.nx + 1 }) h hn hb fun O d w' h => ⟨rfl, leti rfl (hk O d _ h)⟩
/-- No connection is there. -/
theorem taken0_ok {p r : Nat} {H : Hst} (h : St c w (blk p 62 (hst { H with conns := r }) :: mp r [] :: L)) {e e1 e2 : Int} {Q : Value → World → Prop} (hk : ∀ w', St c w' (blk p 62 (hst { H with conns := r }) :: mp r [] :: L) → Q (.bool false) w') :
    CALL PG 22 [.pointer (some ⟨p, 0, none⟩), .agg #[.int .i64 e, .int .u16 e1, .int .u16 e2]] w Q := by
  refine call22 ?_
  unfold N22
  refine h.box fun q w' h => nilc ?_
  refine h.rdMp 29 ⟨_, rfl, ?_⟩
  refine h.mrange (.tail (.tail .head)) (fun it w' h => ?_) huConns
  refine ⟨fun m w' => ∃ cur, m = 0 ∧ St c w' (mpr r it [] [] cur :: blk q 72 [.int .i64 e, .int .u16 e1, .int .u16 e2] :: blk p 62 (hst { H with conns := r }) :: L), ⟨_, none, rfl, h⟩, ?_⟩
  clear h
  rintro m w' ⟨cur, rfl, h⟩
  refine h.mnext .head (fun w' hV0 h => ⟨false, [], rfl, iff_ rfl ?_⟩) fun q V' w' hp h => ?_
  · exact hk _ (h.mend.sub (.cons (.tail (.tail .head)) (.cons .head (Sub.same _).more)))
  · have := hp.length_eq
    simp at this
def host0 (g : Cfg) (k0 k1 : Int) (r : Nat) : Hst := ⟨0, 0, 0, 0, 0, 0, 0, 0, 0, 0, g.ports, g.half, g.conns, g.flows, g.buffer, g.chunks, g.addrs, g.paths, g.mss, g.silence, g.keep, g.burst, g.rate, g.score, g.policy, k0, k1, 0, none, 0, 0, r, 1, none, 0, 0⟩
/-- A host without ports and connections asks for one. -/
theorem connect0_ok {g : Cfg} {k0 k1 loc rem path : Int} {p r : Nat} (h : St c w (blk p 62 (hst (host0 g k0 k1 r)) :: mp r [] :: L)) (hg : CfgOk g) (hc : 1 ≤ g.conns) (h1 : 1 ≤ loc ∧ loc ≤ 65535) (h2 : 1 ≤ rem ∧ rem ≤ 65535) (h3 : 0 ≤ path ∧ path < g.paths) {Q : Value → World → Prop}
    (hk : ∀ n fA fC pA pC pk w', pk.path = path → pk.bs = encB (askS loc rem (IntKind.u32.wrap (drawS k0 k1 1)) (drawS k0 k1 0)) →
      St c w' (blk p 62 (hst { host0 g k0 k1 r with srcN := 2, nx := 2, post := pA, postN := 1, postC := pC }) :: blk n.x 115 (cnc (askC g (drawS k0 k1 0) path loc rem n fA fC none 0 0)) :: own 82 2 pA 1 pC (([pk] : List Pkt).flatMap pkc) :: bodP [pk] :: mp r [(1, .pointer (some ⟨n.x, 0, none⟩))] :: askP g path loc rem (IntKind.u32.wrap (drawS k0 k1 1)) n fA fC L) → Q (.tuple #[.int .i64 1, .int .i64 0]) w') :
    CALL PG 14 [.pointer (some ⟨p, 0, none⟩), .int .i64 loc, .int .i64 rem, .int .i64 path] w Q := by
  have hp4 : g.paths ≤ 4 := hg.2.1.2.2.2.1.2
  refine call14 ?_
  unfold N14
  refine good_ok ?_
  (repeat (first | apply Exists.intro (α := Int) | apply Exists.intro (α := Bool) | apply Exists.intro (α := ByteArray) | (apply Exists.intro (α := Option Addr); apply Exists.intro (α := Nat); apply Exists.intro (α := Nat)) | apply Exists.intro (α := Option Addr) | apply Exists.intro (α := Value)))
  refine ⟨rfl, ?_⟩
  refine iff_ (by rw [decide_eq_true h1]; rfl) ?_
  refine good_ok ?_
  (repeat (first | apply Exists.intro (α := Int) | apply Exists.intro (α := Bool) | apply Exists.intro (α := ByteArray) | (apply Exists.intro (α := Option Addr); apply Exists.intro (α := Nat); apply Exists.intro (α := Nat)) | apply Exists.intro (α := Option Addr) | apply Exists.intro (α := Value)))
  refine ⟨rfl, ?_⟩
  refine iff_ (by rw [decide_eq_true h2]; rfl) ?_
  refine listen0_ok (h := (h : St c w (blk p 62 (hcs 0 g k0 k1 0 none 0 0 r) :: mp r [] :: L))) fun w' h => ?_
  have h : St c w' (blk p 62 (hst (host0 g k0 k1 r)) :: mp r [] :: L) := h
  (repeat (first | apply Exists.intro (α := Int) | apply Exists.intro (α := Bool) | apply Exists.intro (α := ByteArray) | (apply Exists.intro (α := Option Addr); apply Exists.intro (α := Nat); apply Exists.intro (α := Nat)) | apply Exists.intro (α := Option Addr) | apply Exists.intro (α := Value)))
  refine ⟨rfl, ?_⟩
  refine iff_ rfl (ifdf (by omega) (nilc ?_))
  refine h.rdI2 10 7 ?_
  refine ifdf (by show ¬ (g.paths ≤ path); omega) ?_
  rw [show IntKind.u16.wrap loc = loc by rw [wrapU16]; omega, show IntKind.u16.wrap rem = rem by rw [wrapU16]; omega]
  refine RD.bld ?_
  (repeat (first | apply Exists.intro (α := Int) | apply Exists.intro (α := Bool) | apply Exists.intro (α := ByteArray) | (apply Exists.intro (α := Option Addr); apply Exists.intro (α := Nat); apply Exists.intro (α := Nat)) | apply Exists.intro (α := Option Addr) | apply Exists.intro (α := Value)))
  refine ⟨rfl, ?_⟩
  refine h.allocZ fun q w' h => ?_
  refine h.stG (B := q) fun w' h => ?_
  refine h.rdG (B := q) ?_
  (repeat (first | apply Exists.intro (α := Int) | apply Exists.intro (α := Bool) | apply Exists.intro (α := ByteArray) | (apply Exists.intro (α := Option Addr); apply Exists.intro (α := Nat); apply Exists.intro (α := Nat)) | apply Exists.intro (α := Option Addr) | apply Exists.intro (α := Value)))
  refine ⟨rfl, ?_⟩
  have h := h.sub (show Sub _ (blk p 62 (hst (host0 g k0 k1 r)) :: mp r [] :: blk q 72 [.int .i64 path, .int .u16 loc, .int .u16 rem] :: L) from .cons (.tail .head) (.cons (.tail .head) (.cons .head (Sub.same _))))
  refine taken0_ok (H := host0 g k0 k1 r) (r := r) h fun w' h => ?_
  have h : St c w' (blk p 62 (hst (host0 g k0 k1 r)) :: mp r [] :: blk q 72 [.int .i64 path, .int .u16 loc, .int .u16 rem] :: L) := h
  (repeat (first | apply Exists.intro (α := Int) | apply Exists.intro (α := Bool) | apply Exists.intro (α := ByteArray) | (apply Exists.intro (α := Option Addr); apply Exists.intro (α := Nat); apply Exists.intro (α := Nat)) | apply Exists.intro (α := Option Addr) | apply Exists.intro (α := Value)))
  refine ⟨rfl, ?_⟩
  refine iff_ rfl (nilc ?_)
  have h := h.drew
  refine h.rdMp 29 ⟨_, rfl, ?_⟩
  refine h.mlen (.tail .head) ?_ huConns
  refine nilc (h.rdI2 10 2 ?_)
  refine ifdf (by show ¬ (g.conns ≤ 0); omega) (nilc (nilc ?_))
  have h := h.drew
  refine draw_ok h (show (0 : Int) ≤ 0 by decide) (show (0 : Int) < 1000000000 by decide) fun w' h => ?_
  (repeat (first | apply Exists.intro (α := Int) | apply Exists.intro (α := Bool) | apply Exists.intro (α := ByteArray) | (apply Exists.intro (α := Option Addr); apply Exists.intro (α := Nat); apply Exists.intro (α := Nat)) | apply Exists.intro (α := Option Addr) | apply Exists.intro (α := Value)))
  refine ⟨rfl, ?_⟩
  refine draw_ok h (show (0 : Int) ≤ 0 + 1 by decide) (show (0 : Int) + 1 < 1000000000 by decide) fun w' h => ?_
  (repeat (first | apply Exists.intro (α := Int) | apply Exists.intro (α := Bool) | apply Exists.intro (α := ByteArray) | (apply Exists.intro (α := Option Addr); apply Exists.intro (α := Nat); apply Exists.intro (α := Nat)) | apply Exists.intro (α := Option Addr) | apply Exists.intro (α := Value)))
  refine ⟨rfl, ?_⟩
  refine leti rfl (leti rfl (nilc ?_))
  have h := h.drew
  refine h.rdGo 10 15 ?_
  (repeat (first | apply Exists.intro (α := Int) | apply Exists.intro (α := Bool) | apply Exists.intro (α := ByteArray) | (apply Exists.intro (α := Option Addr); apply Exists.intro (α := Nat); apply Exists.intro (α := Nat)) | apply Exists.intro (α := Option Addr) | apply Exists.intro (α := Value)))
  refine ⟨rfl, ?_⟩
  refine h.rdG (B := q) ?_
  (repeat (first | apply Exists.intro (α := Int) | apply Exists.intro (α := Bool) | apply Exists.intro (α := ByteArray) | (apply Exists.intro (α := Option Addr); apply Exists.intro (α := Nat); apply Exists.intro (α := Nat)) | apply Exists.intro (α := Option Addr) | apply Exists.intro (α := Value)))
  refine ⟨rfl, ?_⟩
  have hr0 := drawS_range k0 k1 0
  refine ask_ok (g := g) h hg hr0 (by omega) (by omega) (by rw [wrapU32]; omega) fun n fA fC pA pC pk w' e1 e2 h => ?_
  (repeat (first | apply Exists.intro (α := Int) | apply Exists.intro (α := Bool) | apply Exists.intro (α := ByteArray) | (apply Exists.intro (α := Option Addr); apply Exists.intro (α := Nat); apply Exists.intro (α := Nat)) | apply Exists.intro (α := Option Addr) | apply Exists.intro (α := Value)))
  refine ⟨rfl, ?_⟩
  have h := (h.addOwnNil 82 2).addBod0
  have h := h.sub (show Sub _ (blk p 62 (hst { { host0 g k0 k1 r with srcN := 2 } with conns := r }) :: blk n.x 115 (cnc (askC g (drawS k0 k1 0) path loc rem n fA fC pA 1 pC)) :: own 82 2 none 0 0 (([] : List Pkt).flatMap pkc) :: bodP [] :: own 82 2 pA 1 pC (([pk] : List Pkt).flatMap pkc) :: bodP [pk] :: mp r [] :: askP g path loc rem (IntKind.u32.wrap (drawS k0 k1 1)) n fA fC L) from
    .cons (.tail (.tail (.tail (.tail (.tail (.tail (.tail (.tail (.tail (.tail (.tail (.tail (.tail (.tail (.tail (.tail (.tail (.tail (.tail (.tail (.tail .head))))))))))))))))))))) (.cons (.tail (.tail .head)) (.cons (.tail .head) (.cons .head (.cons .head (.cons .head (.cons (.tail (.tail (.tail (.tail (.tail (.tail (.tail (.tail (.tail (.tail (.tail (.tail (.tail (.tail (.tail (.tail .head)))))))))))))))) (.cons .head (.cons .head (.cons .head (.cons .head (.cons .head (.cons .head (.cons .head (.cons .head (.cons .head (.cons .head (.cons .head (.cons .head (.cons .head (.cons .head (.cons .head (.cons .head ((Sub.same _).more))))))))))))))))))))))))
  refine keep_ok h rfl (show 0 + 1 ≤ 1000000 by decide) (show (0 : Int) ≤ 1 ∧ (1 : Int) < 1000000000 by decide) fun O d w' h => ?_
  (repeat (first | apply Exists.intro (α := Int) | apply Exists.intro (α := Bool) | apply Exists.intro (α := ByteArray) | (apply Exists.intro (α := Option Addr); apply Exists.intro (α := Nat); apply Exists.intro (α := Nat)) | apply Exists.intro (α := Option Addr) | apply Exists.intro (α := Value)))
  refine ⟨rfl, ?_⟩
  refine leti rfl ?_
  exact hk n fA fC O d pk _ e1 e2 h
end
end Go.Br
