/- A net: what the hosts send is under way. -/
import Derived.Test.YtnmhgjfllknbpaaNNetGather
import Derived.Test.YtnmhgjfllknbpaaConnAsk2
set_option linter.unusedVariables false
set_option linter.unusedSimpArgs false
set_option linter.unnecessarySimpa false
namespace Go.Br
open Go
instance biNetGathera (x0 : Int) (x1 : Option Addr) (n1 c1 : Nat) : Bld PG (Instr.build 82 #[(0, .int .i64 x0), (1, .slice x1 n1 c1)]) (.agg #[.int .i64 x0, .slice x1 n1 c1]) := ⟨fun w => by kernel_rfl⟩
instance biNetGatherb (x0 : Int) (x1 : Int) (x2 : Option Addr) (n2 c2 : Nat) : Bld PG (Instr.build 85 #[(0, .int .i64 x0), (1, .agg #[.int .i64 x1, .slice x2 n2 c2])]) (.agg #[.int .i64 x0, .int .i64 x1, .slice x2 n2 c2]) := ⟨fun w => by kernel_rfl⟩
instance biNetGatherc : Zro PG 82 2 32 (.agg #[.int .i64 0, .slice none 0 0]) := ⟨tiOf (by kernel_rfl)⟩
instance biNetGatherd : Zro PG 85 3 40 (.agg #[.int .i64 0, .int .i64 0, .slice none 0 0]) := ⟨tiOf (by kernel_rfl)⟩
attribute [local irreducible] Addr.add RD RDS RUN RUNU NILC LETB CALL CALLX CALLV

theorem tiFly : TI PG 85 3 40 (.agg #[.int .i64 0, .int .i64 0, .slice none 0 0]) := tiOf (by kernel_rfl)
theorem huFlys : PG.underlying 39 = some (.slice 85) := by kernel_rfl
abbrev b1 (x : UInt8) : List Value := [bv x]
theorem b1_length (x : UInt8) : (b1 x).length = 1 := rfl
theorem bvs_b1 (bs : List UInt8) : bs.flatMap b1 = bvs bs := by
  induction bs with
  | nil => rfl
  | cons x r ih => rw [List.flatMap_cons, ih]; rfl
theorem b1_flat (L : List UInt8) : Flat (L.flatMap b1) := by
  intro v hv
  simp only [List.mem_flatMap] at hv
  obtain ⟨x, _, hx⟩ := hv
  simp [b1] at hx
  subst hx
  rfl
theorem tibyC : TI PG 5 1 1 (.int .u8 0) := tiOf (by kernel_rfl)
theorem hubyC : PG.underlying 80 = some (.slice 5) := by kernel_rfl
theorem byclone_ok {c : Ctx} {w : World} {L : List SA} (h : St c w L) {A : Option Addr} {k : Nat} {S : List UInt8} (hr : RdIn L A (S.flatMap b1)) (hl : S.length ≤ 100000) {Q : Value → World → Prop}
    (hk : ∀ O d w', St c w' (own 5 1 O S.length d (S.flatMap b1) :: L) → Q (.slice O S.length d) w') : CALL PG 27 [.slice A S.length k] w Q := by
  refine call27 ?_
  unfold N27
  refine ifb (fun hn => ?_) fun hn => ?_
  · have hA : A = none := by simpa using hn
    subst hA
    have e := (hr c w h).none
    have hS : S = [] := by
      have := congrArg List.length e
      rw [flat_length b1_length, List.length_nil] at this
      exact List.length_eq_zero_iff.1 (by omega)
    subst hS
    exact hk none 0 _ (h.addOwnNil _ _)
  · refine h.lit (n := 0) 5 1 [] fun q w' h => ?_
    refine h.append hubyC tibyC .head hr.more (m := S.length) (flat_length b1_length S) (b1_flat S) (by omega) fun O d w' h => ?_
    simp only [Nat.zero_add, List.nil_append] at h ⊢
    exact hk O d _ h
/-- A packet that is under way; its content. -/
structure Fyg where
  to : Int
  path : Int
  b : Option Addr
  bC : Nat
  bs : List UInt8
structure FyP where
  to : Int
  path : Int
  bs : List UInt8
deriving DecidableEq
def Fyg.pl (x : Fyg) : FyP := ⟨x.to, x.path, x.bs⟩
def fyg (x : Fyg) : List Value := [.int .i64 x.to, .int .i64 x.path, .slice x.b x.bs.length x.bC]
abbrev fygv (x : Fyg) : Value := .agg #[.int .i64 x.to, .int .i64 x.path, .slice x.b x.bs.length x.bC]
theorem fyg_length (x : Fyg) : (fyg x).length = 3 := rfl
theorem fyg_flat1 (x : Fyg) : Flat (fyg x) := by intro v hv; simp [fyg] at hv; rcases hv with rfl | rfl | rfl <;> rfl
theorem fyg_flat (L : List Fyg) : Flat (L.flatMap fyg) := by
  intro v hv
  simp only [List.mem_flatMap] at hv
  obtain ⟨x, _, hx⟩ := hv
  exact fyg_flat1 x v hx
abbrev bodF (fs : List Fyg) : SA := Br.ro fun w => ∀ p ∈ fs, Row w p.b (bvs p.bs)
/-- A net's cells. -/
structure Nt where
  h0 : Nat
  h1 : Nat
  way : Option Addr
  wayN : Nat
  wayC : Nat
  led : Option Addr
  ledN : Nat
  ledC : Nat
  lost : Int
def ntc (x : Nt) : List Value := [.pointer (some ⟨x.h0, 0, none⟩), .pointer (some ⟨x.h1, 0, none⟩), .slice x.way x.wayN x.wayC, .slice x.led x.ledN x.ledC, .int .i64 x.lost]
/-- What is under way, and how much was lost, behind a packet. -/
def flyS (s : List FyP × Int) (f : FyP) : List FyP × Int := if 256 ≤ s.1.length then (s.1, s.2 + 1) else (s.1 ++ [f], s.2)
def sentBy (to : Int) (p : Pkt) : FyP := ⟨to, p.path, p.bs⟩
section
variable {c : Ctx} {w : World} {L R : List SA}
theorem bodF_add {fs : List Fyg} {f : Fyg} (h : St c w (bodF fs :: rows f.b (bvs f.bs) :: L)) : St c w (bodF (fs ++ [f]) :: L) :=
  h.ro2.roW fun w ⟨a, b⟩ p hp => by
    rw [List.mem_append, List.mem_singleton] at hp
    rcases hp with hp | rfl
    · exact a p hp
    · exact b
theorem St.addBodF0 (h : St c w L) : St c w (bodF [] :: L) := h.addNil fun w p hp => by cases hp
theorem nhost_ok {n : Nat} {N : Nt} {i : Int} (h : St c w (blk n 46 (ntc N) :: L)) {Q : Value → World → Prop} (hi : i = 0 ∨ i = 1) (hk : ∀ w', St c w' (blk n 46 (ntc N) :: L) → Q (.pointer (some ⟨if i = 0 then N.h0 else N.h1, 0, none⟩)) w') : CALL PG 7 [.pointer (some ⟨n, 0, none⟩), .int .i64 i] w Q := by
  refine call7 ?_
  unfold N7
  rcases hi with rfl | rfl
  · refine ifdf (by decide) (ifdf (by decide) (nilc ⟨by decide, ?_⟩))
    refine h.rdP2 0 0 ?_
    exact hk _ h
  · refine ifdf (by decide) (ifdf (by decide) (nilc ⟨by decide, ?_⟩))
    refine h.rdP2 0 1 ?_
    exact hk _ h
theorem waits_ok {n : Nat} {N : Nt} (h : St c w (blk n 46 (ntc N) :: L)) {Q : Value → World → Prop} (hk : ∀ w', St c w' (blk n 46 (ntc N) :: L) → Q (.int .i64 N.wayN) w') : CALL PG 8 [.pointer (some ⟨n, 0, none⟩)] w Q := by
  refine call8 ?_
  unfold N8
  exact nilc (h.rdL 2 (leti rfl (hk _ h)))
theorem nsent_ok {n : Nat} {N : Nt} (h : St c w (blk n 46 (ntc N) :: L)) {Q : Value → World → Prop} (hk : ∀ w', St c w' (blk n 46 (ntc N) :: L) → Q (.int .i64 N.ledN) w') : CALL PG 16 [.pointer (some ⟨n, 0, none⟩)] w Q := by
  refine call16 ?_
  unfold N16
  exact nilc (h.rdL 3 (leti rfl (hk _ h)))
theorem lost_ok {n : Nat} {N : Nt} (h : St c w (blk n 46 (ntc N) :: L)) {Q : Value → World → Prop} (hk : ∀ w', St c w' (blk n 46 (ntc N) :: L) → Q (.int .i64 N.lost) w') : CALL PG 17 [.pointer (some ⟨n, 0, none⟩)] w Q := by
  refine call17 ?_
  unfold N17
  exact nilc (h.rdI 4 (leti rfl (hk _ h)))
theorem fly_ok {n : Nat} {N : Nt} {fs : List Fyg} {f : Fyg} (h : St c w (blk n 46 (ntc N) :: own 85 3 N.way N.wayN N.wayC (fs.flatMap fyg) :: bodF fs :: rows f.b (bvs f.bs) :: L)) (hl : 0 ≤ N.lost ∧ N.lost < 1000000000) {Q : Value → World → Prop}
    (hf : 256 ≤ N.wayN → ∀ w', St c w' (blk n 46 (ntc { N with lost := N.lost + 1 }) :: own 85 3 N.way N.wayN N.wayC (fs.flatMap fyg) :: bodF fs :: L) → Q (.bool false) w')
    (hr : N.wayN < 256 → ∀ O d w', St c w' (blk n 46 (ntc { N with way := O, wayN := N.wayN + 1, wayC := d }) :: own 85 3 O (N.wayN + 1) d ((fs ++ [f]).flatMap fyg) :: bodF (fs ++ [f]) :: L) → Q (.bool true) w') :
    CALL PG 28 [.pointer (some ⟨n, 0, none⟩), fygv f] w Q := by
  refine call28 ?_
  unfold N28
  refine h.box (vs := fyg f) fun q w' h => nilc ?_
  refine h.rdL (B := n) 2 ?_
  refine ifd (fun hn => ?_) fun hn => ?_
  · refine nilc (h.rdI (B := n) 4 (nilc ?_))
    refine h.st (B := n) 4 fun w' h => ?_
    rw [wrap_i64 (n := N.lost + 1) (by omega) (by omega)] at h
    exact hf (by omega) _ (h.sub (.cons .head (.cons (.tail .head) (.cons (.tail .head) ((Sub.same _).more.more)))))
  · have h := h.drew
    refine ⟨fun w => St c w [blk n 46 (ntc N), blk q 85 (fyg f)], h.sub (.cons (.tail .head) (.cons .head (.nil))), nilc ?_⟩
    refine St.rdsL (B := n) 2 ?_
    refine St.rdsG (B := q) ?_
    (repeat (first | apply Exists.intro (α := Int) | apply Exists.intro (α := Bool) | apply Exists.intro (α := ByteArray) | (apply Exists.intro (α := Option Addr); apply Exists.intro (α := Nat); apply Exists.intro (α := Nat)) | apply Exists.intro (α := Option Addr) | apply Exists.intro (α := Value)))
    refine ⟨rfl, ?_⟩
    refine h.lit (n := 1) 85 3 (fyg f) fun q2 w' h => ?_
    refine ⟨_, fun _ h => h, h.sub (.cons (.tail (.tail .head)) (.cons (.tail .head) (.nil))), ?_⟩
    refine h.append huFlys tiFly (.tail (.tail (.tail .head))) (RdIn.own .head) (m := 1) rfl (fyg_flat1 _) (by omega) fun O d w' h => nilc ?_
    refine h.st (B := n) 2 fun w' h => ?_
    refine hr (by omega) O d _ ?_
    have h := bodF_add (h.sub (show Sub _ (bodF fs :: rows f.b (bvs f.bs) :: blk n 46 (ntc { N with way := O, wayN := N.wayN + 1, wayC := d }) :: own 85 3 O (N.wayN + 1) d (fs.flatMap fyg ++ fyg f) :: L) from (.cons (.tail (.tail (.tail (.tail .head)))) (.cons (.tail (.tail (.tail (.tail .head)))) (.cons .head (.cons .head ((Sub.same _).more.more)))))))
    rw [List.flatMap_append]
    simp only [List.flatMap_cons, List.flatMap_nil, List.append_nil]
    exact h.sub (.cons (.tail .head) (.cons (.tail .head) (.cons .head ((Sub.same _)))))
theorem RdIn.at {L : List SA} {A : Option Addr} {cs : List Value} {a : Addr} (h : RdIn L A cs) (e : A = some a) : RdIn L (some a) cs := by subst e; exact h
/-- What hosts sent is under way behind what was. -/
structure NF (N : Nt) (fs ls : List Fyg) (D : List FyP) (N' : Nt) (fs' ls' : List Fyg) : Prop where
  h0 : N'.h0 = N.h0
  h1 : N'.h1 = N.h1
  fsN : fs'.length = N'.wayN
  lsN : ls'.length = N'.ledN
  led : ls'.map Fyg.pl = ls.map Fyg.pl ++ D
  way : (fs'.map Fyg.pl, N'.lost) = D.foldl flyS (fs.map Fyg.pl, N.lost)
  lo : 0 ≤ N'.lost
  hi : N'.lost ≤ N.lost + D.length
theorem NF.refl {N : Nt} {fs ls : List Fyg} (h1 : fs.length = N.wayN) (h2 : ls.length = N.ledN) (h3 : 0 ≤ N.lost) : NF N fs ls [] N fs ls := ⟨rfl, rfl, h1, h2, by simp, rfl, h3, by simp⟩
theorem NF.ledL {N N' : Nt} {fs ls fs' ls' : List Fyg} {D : List FyP} (h : NF N fs ls D N' fs' ls') : N'.ledN = ls.length + D.length := by
  have := congrArg List.length h.led
  have := h.lsN
  simp at *
  omega
theorem NF.full {N N' : Nt} {fs ls fs' ls' : List Fyg} {D : List FyP} (h : NF N fs ls D N' fs' ls') (f : Fyg) (hn : 256 ≤ N'.wayN) (O : Option Addr) (d : Nat) :
    NF N fs ls (D ++ [f.pl]) { N' with led := O, ledN := N'.ledN + 1, ledC := d, lost := N'.lost + 1 } fs' (ls' ++ [f]) := by
  have hl := h.fsN
  refine ⟨h.h0, h.h1, h.fsN, by simp [h.lsN], by simp [h.led], ?_, ?_, ?_⟩
  · rw [List.foldl_append, ← h.way]
    simp [flyS, hl, hn]
  · have := h.lo; show 0 ≤ N'.lost + 1; omega
  · have := h.hi; simp only [List.length_append, List.length_cons, List.length_nil]; show N'.lost + 1 ≤ _; omega
theorem NF.room {N N' : Nt} {fs ls fs' ls' : List Fyg} {D : List FyP} (h : NF N fs ls D N' fs' ls') (f : Fyg) (hn : N'.wayN < 256) (O : Option Addr) (d : Nat) (O2 : Option Addr) (d2 : Nat) :
    NF N fs ls (D ++ [f.pl]) { N' with led := O, ledN := N'.ledN + 1, ledC := d, way := O2, wayN := N'.wayN + 1, wayC := d2 } (fs' ++ [f]) (ls' ++ [f]) := by
  have hl := h.fsN
  refine ⟨h.h0, h.h1, by simp [h.fsN], by simp [h.lsN], by simp [h.led], ?_, h.lo, ?_⟩
  · rw [List.foldl_append, ← h.way]
    simp only [List.foldl_cons, List.foldl_nil, flyS, List.length_map, hl]
    rw [if_neg (by omega)]
    simp
  · have := h.hi; simp only [List.length_append, List.length_cons, List.length_nil]; show N'.lost ≤ _; omega
abbrev ntP (n : Nat) (N : Nt) (fs ls : List Fyg) (L : List SA) : List SA :=
  blk n 46 (ntc N) :: own 85 3 N.way N.wayN N.wayC (fs.flatMap fyg) :: bodF fs :: own 85 3 N.led N.ledN N.ledC (ls.flatMap fyg) :: bodF ls :: L
abbrev hoP (p : Nat) (H : Hst) (P : List Pkt) (L : List SA) : List SA := blk p 62 (hst H) :: own 82 2 H.post H.postN H.postC (P.flatMap pkc) :: bodP P :: L
def Hst.mute (H : Hst) : Hst := { H with post := none, postN := 0, postC := 0 }
theorem ngather_ok {n : Nat} {N : Nt} {H0 H1 : Hst} {P0 P1 : List Pkt} {fs ls : List Fyg} (h : St c w (ntP n N fs ls (hoP N.h0 H0 P0 (hoP N.h1 H1 P1 L)))) (h1 : fs.length = N.wayN) (h2 : ls.length = N.ledN)
    (g0 : P0.length = H0.postN) (g1 : P1.length = H1.postN) (hl : 0 ≤ N.lost ∧ N.lost < 100000000) (hn : N.ledN + P0.length + P1.length ≤ 1000000) (hb : ∀ p ∈ P0 ++ P1, p.bs.length ≤ 100000) {Q : Value → World → Prop}
    (hk : ∀ N' fs' ls' w', NF N fs ls (P0.map (sentBy 1) ++ P1.map (sentBy 0)) N' fs' ls' → St c w' (ntP n N' fs' ls' (blk N.h0 62 (hst H0.mute) :: blk N.h1 62 (hst H1.mute) :: L)) → Q (.tuple #[]) w') :
    CALL PG 15 [.pointer (some ⟨n, 0, none⟩)] w Q := by
  refine call15 ?_
  unfold N15
  refine nilc (h.rdGo (B := n) 0 2 ?_)
  (repeat (first | apply Exists.intro (α := Int) | apply Exists.intro (α := Bool) | apply Exists.intro (α := ByteArray) | (apply Exists.intro (α := Option Addr); apply Exists.intro (α := Nat); apply Exists.intro (α := Nat)) | apply Exists.intro (α := Option Addr) | apply Exists.intro (α := Value)))
  refine ⟨rfl, ?_⟩
  refine ⟨fun m x w => (∃ (k : Nat) (q : Nat) (H : Hst) (P : List Pkt) (R : List SA) (D : List FyP) (N' : Nt) (fs' ls' : List Fyg), x = k ∧ m = 2 - k ∧ NF N fs ls D N' fs' ls' ∧
      ((k = 0 ∧ q = N.h0 ∧ H = H0 ∧ P = P0 ∧ R = hoP N.h1 H1 P1 L ∧ D = []) ∨ (k = 1 ∧ q = N.h1 ∧ H = H1 ∧ P = P1 ∧ R = blk N.h0 62 (hst H0.mute) :: L ∧ D = P0.map (sentBy 1))) ∧ St c w (ntP n N' fs' ls' (hoP q H P R))) ∨
    (x = 2 ∧ m = 0 ∧ ∃ N' fs' ls', NF N fs ls (P0.map (sentBy 1) ++ P1.map (sentBy 0)) N' fs' ls' ∧ St c w (ntP n N' fs' ls' (blk N.h0 62 (hst H0.mute) :: blk N.h1 62 (hst H1.mute) :: L))),
    ⟨2, .inl ⟨0, _, _, _, _, _, N, fs, ls, rfl, rfl, NF.refl h1 h2 hl.1, .inl ⟨rfl, rfl, rfl, rfl, rfl, rfl⟩, h⟩⟩, ?_⟩
  clear h
  rintro m x w' (⟨k, q, H, P, R, D, N', fs', ls', rfl, rfl, hN, hcase, h⟩ | ⟨rfl, rfl, N', fs', ls', hN, h⟩)
  rotate_left
  · exact ifdf (by decide) (hk _ _ _ _ hN h)
  have hk2 : k < 2 := by omega
  refine ifdt (by omega) ?_
  have hix : ∀ w, (Instr.index 44 (.agg (((ntc N).drop 0).take 2).toArray) (.int .i64 (k : Int))).run PG w = .ok (.pointer (some ⟨q, 0, none⟩)) w := by
    intro w
    rcases hcase with ⟨rfl, rfl, _⟩ | ⟨rfl, rfl, _⟩ <;> kernel_rfl
  unfold RDP
  refine RD.of (hix _) ⟨_, rfl, leti rfl ?_⟩
  have hP : P.length = H.postN := by rcases hcase with ⟨_, _, rfl, rfl, _⟩ | ⟨_, _, rfl, rfl, _⟩ <;> assumption
  have hPb : ∀ p ∈ P, p.bs.length ≤ 100000 := by rcases hcase with ⟨_, _, _, rfl, _⟩ | ⟨_, _, _, rfl, _⟩ <;> (intro p hp; exact hb p (by simp [hp]))
  have hPl : N.ledN + D.length + P.length ≤ 1000000 := by rcases hcase with ⟨_, _, _, rfl, _, rfl⟩ | ⟨_, _, _, rfl, _, rfl⟩ <;> simp <;> omega
  have hDl : D.length ≤ 1000000 := by omega
  refine hpost_ok (h.sub (show Sub _ (blk q 62 (hst H) :: ntP n N' fs' ls' (own 82 2 H.post H.postN H.postC (P.flatMap pkc) :: bodP P :: R)) from (.cons (.tail (.tail (.tail (.tail (.tail .head))))) (.cons .head (.cons .head (.cons .head (.cons .head (.cons .head (.cons .head (.cons .head ((Sub.same _)))))))))))) fun w' h => ?_
  (repeat (first | apply Exists.intro (α := Int) | apply Exists.intro (α := Bool) | apply Exists.intro (α := ByteArray) | (apply Exists.intro (α := Option Addr); apply Exists.intro (α := Nat); apply Exists.intro (α := Nat)) | apply Exists.intro (α := Option Addr) | apply Exists.intro (α := Value)))
  refine ⟨rfl, ?_⟩
  refine ⟨fun m y w => ∃ (j : Nat) (N2 : Nt) (fs2 ls2 : List Fyg), y = j ∧ m = P.length - j ∧ j ≤ P.length ∧ NF N fs ls (D ++ (P.take j).map (sentBy (1 - k))) N2 fs2 ls2 ∧ St c w (ntP n N2 fs2 ls2 (blk q 62 (hst H.mute) :: own 82 2 H.post H.postN H.postC (P.flatMap pkc) :: bodP P :: R)),
    ⟨_, 0, N', fs', ls', rfl, rfl, Nat.zero_le _, by simpa using hN, h.sub (.cons (.tail .head) (.cons (.tail .head) (.cons (.tail .head) (.cons (.tail .head) (.cons (.tail .head) (.cons .head (.cons .head (.cons .head ((Sub.same _))))))))))⟩, ?_⟩
  clear h
  rintro m y w' ⟨j, N2, fs2, ls2, rfl, rfl, hj, hF, h⟩
  by_cases hjl : j < P.length
  rotate_left
  · obtain rfl : j = P.length := by omega
    rw [List.take_length] at hF
    refine ifdf (by omega) ?_
    rcases hcase with ⟨rfl, rfl, rfl, rfl, rfl, rfl⟩ | ⟨rfl, rfl, rfl, rfl, rfl, rfl⟩
    · refine ⟨1, by omega, .inl ⟨1, _, _, _, _, _, N2, fs2, ls2, rfl, rfl, hF, .inr ⟨rfl, rfl, rfl, rfl, rfl, rfl⟩, h.sub (.cons .head (.cons .head (.cons .head (.cons .head (.cons .head (.cons (.tail (.tail (.tail .head))) (.cons (.tail (.tail (.tail .head))) (.cons (.tail (.tail (.tail .head))) (.cons .head ((Sub.same _).more.more))))))))))⟩⟩
    · exact ⟨0, by omega, .inr ⟨rfl, rfl, N2, fs2, ls2, hF, h.sub (.cons .head (.cons .head (.cons .head (.cons .head (.cons .head (.cons (.tail (.tail (.tail .head))) (.cons .head ((Sub.same _).more.more))))))))⟩⟩
  obtain ⟨p, hp⟩ : ∃ p, P[j]? = some p := ⟨_, List.getElem?_eq_getElem hjl⟩
  have hpm : p ∈ P := List.mem_of_getElem? hp
  refine ifdt (by omega) ?_
  have hr : RdIn (ntP n N2 fs2 ls2 (blk q 62 (hst H.mute) :: own 82 2 H.post H.postN H.postC (P.flatMap pkc) :: bodP P :: R)) H.post (P.flatMap pkc) := RdIn.own (.tail (.tail (.tail (.tail (.tail (.tail .head))))))
  refine h.ix hr hp (fun a ha => ?_) (by omega)
  refine h.rdEG (hr.at ha) hp ?_
  (repeat (first | apply Exists.intro (α := Int) | apply Exists.intro (α := Bool) | apply Exists.intro (α := ByteArray) | (apply Exists.intro (α := Option Addr); apply Exists.intro (α := Nat); apply Exists.intro (α := Nat)) | apply Exists.intro (α := Option Addr) | apply Exists.intro (α := Value)))
  refine ⟨rfl, ?_⟩
  refine h.allocZ fun q5 w' h => ?_
  refine h.stG (B := q5) fun w' h => ?_
  have h := h.drew
  refine ⟨fun w => St c w [blk q5 82 (pkc p)], h.sub (.cons .head (.nil)), ?_⟩
  refine St.rdsI (B := q5) 0 ?_
  refine St.rdsL (B := q5) 1 ?_
  have e2 : IntKind.i64.wrap ((1 : Int) - k) = 1 - k := wrap_i64 (by omega) (by omega)
  have e3 : IntKind.i64.wrap ((j : Int) + 1) = ((j + 1 : Nat) : Int) := by rw [wrap_i64 (by omega) (by omega)]; rfl
  have etk : ∀ (O : Option Addr) (d : Nat), D ++ (P.take (j + 1)).map (sentBy (1 - k)) = (D ++ (P.take j).map (sentBy (1 - k))) ++ [(⟨1 - k, p.path, O, d, p.bs⟩ : Fyg).pl] := fun O d => by
    rw [List.take_add_one, hp]
    simp [sentBy, Fyg.pl]
  have hled := hF.ledL
  have hlo := hF.lo
  have hhi := hF.hi
  have hdl : (D ++ (P.take j).map (sentBy (1 - k))).length ≤ D.length + j := by simp; omega
  have hls := hF.lsN
  have rowp : ∀ {L' : List SA} {R' : List SA}, Pick (bodP P) L' R' → RdIn L' p.b (p.bs.flatMap b1) := fun hp c w hs => by rw [bvs_b1]; exact (hs.ro hp) p hpm
  refine ⟨?_, ?_⟩
  · refine byclone_ok h (rowp (.tail (.tail (.tail (.tail (.tail (.tail (.tail (.tail .head))))))))) (hPb p hpm) fun O d w' h => ?_
    (repeat (first | apply Exists.intro (α := Int) | apply Exists.intro (α := Bool) | apply Exists.intro (α := ByteArray) | (apply Exists.intro (α := Option Addr); apply Exists.intro (α := Nat); apply Exists.intro (α := Nat)) | apply Exists.intro (α := Option Addr) | apply Exists.intro (α := Value)))
    refine ⟨rfl, ?_⟩
    rw [bvs_b1] at h
    refine ⟨_, fun _ h => h, h.sub (.cons (.tail .head) (.nil)), ?_⟩
    refine RDS.bld ?_
    (repeat (first | apply Exists.intro (α := Int) | apply Exists.intro (α := Bool) | apply Exists.intro (α := ByteArray) | (apply Exists.intro (α := Option Addr); apply Exists.intro (α := Nat); apply Exists.intro (α := Nat)) | apply Exists.intro (α := Option Addr) | apply Exists.intro (α := Value)))
    refine ⟨rfl, ?_⟩
    rw [e2]
    refine RDS.bld ?_
    (repeat (first | apply Exists.intro (α := Int) | apply Exists.intro (α := Bool) | apply Exists.intro (α := ByteArray) | (apply Exists.intro (α := Option Addr); apply Exists.intro (α := Nat); apply Exists.intro (α := Nat)) | apply Exists.intro (α := Option Addr) | apply Exists.intro (α := Value)))
    refine ⟨rfl, ?_⟩
    refine h.allocZ fun q6 w' h => ?_
    refine ⟨_, fun _ h => h, h.sub (.cons (.tail (.tail .head)) (.nil)), ?_⟩
    refine h.stG (B := q6) fun w' h => ?_
    have h := h.drew
    have h := h.sub (show Sub _ (own 5 1 O p.bs.length d (bvs p.bs) :: blk q6 85 (fyg ⟨1 - k, p.path, O, d, p.bs⟩) :: ntP n N2 fs2 ls2 (blk q 62 (hst H.mute) :: own 82 2 H.post H.postN H.postC (P.flatMap pkc) :: bodP P :: R)) from (.cons (.tail .head) (.cons .head ((Sub.same _).more))))
    have h := h.ownRows
    refine ⟨fun w => St c w [blk n 46 (ntc N2), blk q6 85 (fyg ⟨1 - k, p.path, O, d, p.bs⟩)], h.sub (.cons (.tail (.tail .head)) (.cons (.tail .head) (.nil))), nilc ?_⟩
    refine St.rdsL (B := n) 3 ?_
    refine St.rdsG (B := q6) ?_
    (repeat (first | apply Exists.intro (α := Int) | apply Exists.intro (α := Bool) | apply Exists.intro (α := ByteArray) | (apply Exists.intro (α := Option Addr); apply Exists.intro (α := Nat); apply Exists.intro (α := Nat)) | apply Exists.intro (α := Option Addr) | apply Exists.intro (α := Value)))
    refine ⟨rfl, ?_⟩
    refine h.lit (n := 1) 85 3 (fyg ⟨1 - k, p.path, O, d, p.bs⟩) fun q2 w' h => ?_
    refine ⟨_, fun _ h => h, h.sub (.cons (.tail (.tail (.tail .head))) (.cons (.tail (.tail .head)) (.nil))), ?_⟩
    refine h.append huFlys tiFly (.tail (.tail (.tail (.tail (.tail (.tail .head)))))) (RdIn.own .head) (m := 1) rfl (fyg_flat1 _) (by omega) fun O3 d3 w' h => nilc ?_
    refine h.st (B := n) 3 fun w' h => ?_
    refine h.rdG (B := q6) ?_
    (repeat (first | apply Exists.intro (α := Int) | apply Exists.intro (α := Bool) | apply Exists.intro (α := ByteArray) | (apply Exists.intro (α := Option Addr); apply Exists.intro (α := Nat); apply Exists.intro (α := Nat)) | apply Exists.intro (α := Option Addr) | apply Exists.intro (α := Value)))
    refine ⟨rfl, ?_⟩
    have h := h.sub (show Sub _ (bodF ls2 :: rows O (bvs p.bs) :: blk n 46 (ntc { N2 with led := O3, ledN := N2.ledN + 1, ledC := d3 }) :: own 85 3 N2.way N2.wayN N2.wayC (fs2.flatMap fyg) :: bodF fs2 :: own 85 3 O3 (N2.ledN + 1) d3 (ls2.flatMap fyg ++ fyg ⟨1 - k, p.path, O, d, p.bs⟩) :: blk q 62 (hst H.mute) :: own 82 2 H.post H.postN H.postC (P.flatMap pkc) :: bodP P :: R) from (.cons (.tail (.tail (.tail (.tail (.tail (.tail (.tail .head))))))) (.cons (.tail (.tail (.tail .head))) (.cons .head (.cons (.tail (.tail (.tail .head))) (.cons (.tail (.tail (.tail .head))) (.cons .head (.cons (.tail (.tail .head)) (.cons (.tail (.tail .head)) (.cons (.tail (.tail .head)) ((Sub.same _).more.more)))))))))))
    have h := h.addRo (ψ := fun w => Row w O (bvs p.bs)) (.tail .head) (fun _ h => h)
    have h := (h.sub (show Sub _ (bodF ls2 :: rows (Fyg.mk (1 - k) p.path O d p.bs).b (bvs (Fyg.mk (1 - k) p.path O d p.bs).bs) :: rows O (bvs p.bs) :: _) from (.cons (.tail .head) (.cons .head (.cons .head ((Sub.same _)))))))
    have h := bodF_add h
    have h := h.sub (show Sub _ (blk n 46 (ntc { N2 with led := O3, ledN := N2.ledN + 1, ledC := d3 }) :: own 85 3 N2.way N2.wayN N2.wayC (fs2.flatMap fyg) :: bodF fs2 :: rows O (bvs p.bs) :: own 85 3 O3 (N2.ledN + 1) d3 (ls2.flatMap fyg ++ fyg ⟨1 - k, p.path, O, d, p.bs⟩) :: _) from (.cons (.tail (.tail .head)) (.cons (.tail (.tail .head)) (.cons (.tail (.tail .head)) (.cons (.tail .head) (.cons (.tail .head) (.cons .head ((Sub.same _)))))))))
    have h : St c w' (blk n 46 (ntc { N2 with led := O3, ledN := N2.ledN + 1, ledC := d3 }) :: own 85 3 N2.way N2.wayN N2.wayC (fs2.flatMap fyg) :: bodF fs2 :: rows O (bvs p.bs) :: own 85 3 O3 (N2.ledN + 1) d3 ((ls2 ++ [(⟨1 - k, p.path, O, d, p.bs⟩ : Fyg)]).flatMap fyg) :: bodF (ls2 ++ [(⟨1 - k, p.path, O, d, p.bs⟩ : Fyg)]) :: blk q 62 (hst H.mute) :: own 82 2 H.post H.postN H.postC (P.flatMap pkc) :: bodP P :: R) := by
      rw [List.flatMap_append]
      simp only [List.flatMap_cons, List.flatMap_nil, List.append_nil]
      exact h
    refine fly_ok (N := { N2 with led := O3, ledN := N2.ledN + 1, ledC := d3 }) (f := ⟨1 - k, p.path, O, d, p.bs⟩) h ⟨hlo, show N2.lost < 1000000000 by omega⟩ (fun hn w' h => ?_) fun hn O4 d4 w' h => ?_
    · (repeat (first | apply Exists.intro (α := Int) | apply Exists.intro (α := Bool) | apply Exists.intro (α := ByteArray) | (apply Exists.intro (α := Option Addr); apply Exists.intro (α := Nat); apply Exists.intro (α := Nat)) | apply Exists.intro (α := Option Addr) | apply Exists.intro (α := Value)))
      refine ⟨rfl, ?_⟩
      refine ⟨P.length - (j + 1), by omega, j + 1, _, _, _, e3, rfl, by omega, ?_, h⟩
      rw [etk O d]
      exact hF.full _ hn O3 d3
    · (repeat (first | apply Exists.intro (α := Int) | apply Exists.intro (α := Bool) | apply Exists.intro (α := ByteArray) | (apply Exists.intro (α := Option Addr); apply Exists.intro (α := Nat); apply Exists.intro (α := Nat)) | apply Exists.intro (α := Option Addr) | apply Exists.intro (α := Value)))
      refine ⟨rfl, ?_⟩
      refine ⟨P.length - (j + 1), by omega, j + 1, _, _, _, e3, rfl, by omega, ?_, h⟩
      rw [etk O d]
      exact hF.room _ hn O3 d3 O4 d4
  · refine h.allocZ fun q6 w' h => ?_
    refine ⟨_, fun _ h => h, h.sub (.cons (.tail .head) (.nil)), ?_⟩
    refine byclone_ok h (rowp (.tail (.tail (.tail (.tail (.tail (.tail (.tail (.tail (.tail .head)))))))))) (hPb p hpm) fun O d w' h => ?_
    (repeat (first | apply Exists.intro (α := Int) | apply Exists.intro (α := Bool) | apply Exists.intro (α := ByteArray) | (apply Exists.intro (α := Option Addr); apply Exists.intro (α := Nat); apply Exists.intro (α := Nat)) | apply Exists.intro (α := Option Addr) | apply Exists.intro (α := Value)))
    refine ⟨rfl, ?_⟩
    rw [bvs_b1] at h
    refine ⟨_, fun _ h => h, h.sub (.cons (.tail (.tail .head)) (.nil)), ?_⟩
    refine RDS.bld ?_
    (repeat (first | apply Exists.intro (α := Int) | apply Exists.intro (α := Bool) | apply Exists.intro (α := ByteArray) | (apply Exists.intro (α := Option Addr); apply Exists.intro (α := Nat); apply Exists.intro (α := Nat)) | apply Exists.intro (α := Option Addr) | apply Exists.intro (α := Value)))
    refine ⟨rfl, ?_⟩
    rw [e2]
    refine RDS.bld ?_
    (repeat (first | apply Exists.intro (α := Int) | apply Exists.intro (α := Bool) | apply Exists.intro (α := ByteArray) | (apply Exists.intro (α := Option Addr); apply Exists.intro (α := Nat); apply Exists.intro (α := Nat)) | apply Exists.intro (α := Option Addr) | apply Exists.intro (α := Value)))
    refine ⟨rfl, ?_⟩
    refine h.stG (B := q6) fun w' h => ?_
    have h := h.drew
    have h := h.sub (show Sub _ (own 5 1 O p.bs.length d (bvs p.bs) :: blk q6 85 (fyg ⟨1 - k, p.path, O, d, p.bs⟩) :: ntP n N2 fs2 ls2 (blk q 62 (hst H.mute) :: own 82 2 H.post H.postN H.postC (P.flatMap pkc) :: bodP P :: R)) from (.cons (.tail .head) (.cons .head ((Sub.same _).more))))
    have h := h.ownRows
    refine ⟨fun w => St c w [blk n 46 (ntc N2), blk q6 85 (fyg ⟨1 - k, p.path, O, d, p.bs⟩)], h.sub (.cons (.tail (.tail .head)) (.cons (.tail .head) (.nil))), nilc ?_⟩
    refine St.rdsL (B := n) 3 ?_
    refine St.rdsG (B := q6) ?_
    (repeat (first | apply Exists.intro (α := Int) | apply Exists.intro (α := Bool) | apply Exists.intro (α := ByteArray) | (apply Exists.intro (α := Option Addr); apply Exists.intro (α := Nat); apply Exists.intro (α := Nat)) | apply Exists.intro (α := Option Addr) | apply Exists.intro (α := Value)))
    refine ⟨rfl, ?_⟩
    refine h.lit (n := 1) 85 3 (fyg ⟨1 - k, p.path, O, d, p.bs⟩) fun q2 w' h => ?_
    refine ⟨_, fun _ h => h, h.sub (.cons (.tail (.tail (.tail .head))) (.cons (.tail (.tail .head)) (.nil))), ?_⟩
    refine h.append huFlys tiFly (.tail (.tail (.tail (.tail (.tail (.tail .head)))))) (RdIn.own .head) (m := 1) rfl (fyg_flat1 _) (by omega) fun O3 d3 w' h => nilc ?_
    refine h.st (B := n) 3 fun w' h => ?_
    refine h.rdG (B := q6) ?_
    (repeat (first | apply Exists.intro (α := Int) | apply Exists.intro (α := Bool) | apply Exists.intro (α := ByteArray) | (apply Exists.intro (α := Option Addr); apply Exists.intro (α := Nat); apply Exists.intro (α := Nat)) | apply Exists.intro (α := Option Addr) | apply Exists.intro (α := Value)))
    refine ⟨rfl, ?_⟩
    have h := h.sub (show Sub _ (bodF ls2 :: rows O (bvs p.bs) :: blk n 46 (ntc { N2 with led := O3, ledN := N2.ledN + 1, ledC := d3 }) :: own 85 3 N2.way N2.wayN N2.wayC (fs2.flatMap fyg) :: bodF fs2 :: own 85 3 O3 (N2.ledN + 1) d3 (ls2.flatMap fyg ++ fyg ⟨1 - k, p.path, O, d, p.bs⟩) :: blk q 62 (hst H.mute) :: own 82 2 H.post H.postN H.postC (P.flatMap pkc) :: bodP P :: R) from (.cons (.tail (.tail (.tail (.tail (.tail (.tail (.tail .head))))))) (.cons (.tail (.tail (.tail .head))) (.cons .head (.cons (.tail (.tail (.tail .head))) (.cons (.tail (.tail (.tail .head))) (.cons .head (.cons (.tail (.tail .head)) (.cons (.tail (.tail .head)) (.cons (.tail (.tail .head)) ((Sub.same _).more.more)))))))))))
    have h := h.addRo (ψ := fun w => Row w O (bvs p.bs)) (.tail .head) (fun _ h => h)
    have h := (h.sub (show Sub _ (bodF ls2 :: rows (Fyg.mk (1 - k) p.path O d p.bs).b (bvs (Fyg.mk (1 - k) p.path O d p.bs).bs) :: rows O (bvs p.bs) :: _) from (.cons (.tail .head) (.cons .head (.cons .head ((Sub.same _)))))))
    have h := bodF_add h
    have h := h.sub (show Sub _ (blk n 46 (ntc { N2 with led := O3, ledN := N2.ledN + 1, ledC := d3 }) :: own 85 3 N2.way N2.wayN N2.wayC (fs2.flatMap fyg) :: bodF fs2 :: rows O (bvs p.bs) :: own 85 3 O3 (N2.ledN + 1) d3 (ls2.flatMap fyg ++ fyg ⟨1 - k, p.path, O, d, p.bs⟩) :: _) from (.cons (.tail (.tail .head)) (.cons (.tail (.tail .head)) (.cons (.tail (.tail .head)) (.cons (.tail .head) (.cons (.tail .head) (.cons .head ((Sub.same _)))))))))
    have h : St c w' (blk n 46 (ntc { N2 with led := O3, ledN := N2.ledN + 1, ledC := d3 }) :: own 85 3 N2.way N2.wayN N2.wayC (fs2.flatMap fyg) :: bodF fs2 :: rows O (bvs p.bs) :: own 85 3 O3 (N2.ledN + 1) d3 ((ls2 ++ [(⟨1 - k, p.path, O, d, p.bs⟩ : Fyg)]).flatMap fyg) :: bodF (ls2 ++ [(⟨1 - k, p.path, O, d, p.bs⟩ : Fyg)]) :: blk q 62 (hst H.mute) :: own 82 2 H.post H.postN H.postC (P.flatMap pkc) :: bodP P :: R) := by
      rw [List.flatMap_append]
      simp only [List.flatMap_cons, List.flatMap_nil, List.append_nil]
      exact h
    refine fly_ok (N := { N2 with led := O3, ledN := N2.ledN + 1, ledC := d3 }) (f := ⟨1 - k, p.path, O, d, p.bs⟩) h ⟨hlo, show N2.lost < 1000000000 by omega⟩ (fun hn w' h => ?_) fun hn O4 d4 w' h => ?_
    · (repeat (first | apply Exists.intro (α := Int) | apply Exists.intro (α := Bool) | apply Exists.intro (α := ByteArray) | (apply Exists.intro (α := Option Addr); apply Exists.intro (α := Nat); apply Exists.intro (α := Nat)) | apply Exists.intro (α := Option Addr) | apply Exists.intro (α := Value)))
      refine ⟨rfl, ?_⟩
      refine ⟨P.length - (j + 1), by omega, j + 1, _, _, _, e3, rfl, by omega, ?_, h⟩
      rw [etk O d]
      exact hF.full _ hn O3 d3
    · (repeat (first | apply Exists.intro (α := Int) | apply Exists.intro (α := Bool) | apply Exists.intro (α := ByteArray) | (apply Exists.intro (α := Option Addr); apply Exists.intro (α := Nat); apply Exists.intro (α := Nat)) | apply Exists.intro (α := Option Addr) | apply Exists.intro (α := Value)))
      refine ⟨rfl, ?_⟩
      refine ⟨P.length - (j + 1), by omega, j + 1, _, _, _, e3, rfl, by omega, ?_, h⟩
      rw [etk O d]
      exact hF.room _ hn O3 d3 O4 d4
end
end Go.Br
