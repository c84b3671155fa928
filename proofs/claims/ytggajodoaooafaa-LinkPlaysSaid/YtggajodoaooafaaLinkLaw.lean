/- The chapter's example; the law of draws. -/
import Derived.Test.YtggajodoaooafaaNLinkLaw
import Derived.Test.YtggajodoaooafaaLink2
set_option linter.unusedVariables false
set_option linter.unusedSimpArgs false
set_option linter.unnecessarySimpa false
namespace Go.Br
open Go
attribute [local irreducible] Addr.add

theorem bytesBytesS {c : Ctx} {w : World} {R : List SA} {P : Program} {t e : TypeId} {B T n d : Nat} {cs : List Value} {K : Option Addr → Nat → Nat → World → Prop} (h : St c w (blk B T cs :: R)) (hu : P.underlying t = some (.slice e)) (he : P.underlying e = some (.int .u8)) (hk : ∀ w', St c w' (blk B T cs :: R) → K (some ⟨B, 0, none⟩) n d w') : RUNL P (convert t t (.slice (some ⟨B, 0, none⟩) n d)) w K := by
  obtain ⟨F, G, h1, h2⟩ := h.open
  rw [blk_p] at h1
  obtain ⟨rfl, rfl, hb⟩ := h1
  unfold RUNL
  exact RUN.bytesBytes hu he hb fun w' k s hb' => ⟨_, _, _, rfl, hk w' (h2 k (blk_p.2 ⟨rfl, rfl, hb'⟩) (by simp) (by simp))⟩
theorem litB {c : Ctx} {w : World} {L : List SA} {P : Program} {t n : Nat} {parts : Array (Nat × Value)} {K : Option Addr → Nat → Nat → World → Prop} (h : St c w L) (e : TypeId) (cs : List Value) (hk : ∀ p w', St c w' (blk p e cs :: L) → K (some ⟨p, 0, none⟩) n n w') (hl : ∀ w, (Instr.buildSlice t n parts).run P w = .ok (.slice (some ⟨w.heap.size, 0, none⟩) n n) (w.alloc (.cells cs.toArray e)) := by intro w; kernel_rfl) : RUNL P (Instr.buildSlice t n parts) w K := by
  unfold RUNL
  refine RUN.of (hl _) ⟨_, _, _, rfl, hk _ _ (by simpa using h.newBlk cs.toArray e)⟩
theorem undU8l : PG.underlying 5 = some (.int .u8) := by kernel_rfl
theorem leqlSame {P : Program} {w : World} {T : TypeId} {x y : Operand} {xs : List Value} {K : Bool → Prop} (hk : K true) (hg : P.eqGuardType P.depth T = false := by kernel_rfl) (ht : P.underlying T = some (.struct (P.fieldsOf T)) := by kernel_rfl) (hp : P.stoodInHeld T = false := by kernel_rfl) (ho : eqOk P xs xs (P.fieldsOf T).toList = true := by kernel_rfl) :
    RDB P (do eqGuard .eql T x y (.agg xs.toArray) (.agg xs.toArray); binOp .eql T (.agg xs.toArray) (.agg xs.toArray)) w K := by
  have h := run_eqlG (x := x) (y := y) w hg ht hp ho
  rw [eqRes_self ho] at h
  unfold RDB
  exact ⟨_, h, _, rfl, hk⟩
theorem tk_app {t : Int} : ∀ {n : Nat} {C P D : List It}, tk t n C = (P, D) → C = P ++ D ∧ P.length ≤ n
  | 0, C, P, D, h => by
    have : ([], C) = (P, D) := by rw [← h]; cases C <;> rfl
    cases this; simp
  | n + 1, [], P, D, h => by rw [tk_nil] at h; cases h; simp
  | n + 1, x :: C, P, D, h => by
    unfold tk at h
    split at h
    · cases h
      have := tk_app (t := t) (n := n) (C := C) (P := (tk t n C).1) (D := (tk t n C).2) rfl
      refine ⟨by rw [List.cons_append, ← this.1], by simp; exact this.2⟩
    · cases h; simp
theorem ls0_ok {m : Mo} (h : RightM m) (seed : Int) : Ok (ls0 m seed) 0 := ⟨h, by simp [ls0], by simp [ls0], by simp [ls0], by simp [ls0], by simp [ls0], by simp [ls0], by simp [ls0], by simp [ls0], fun i hi => by cases hi⟩
theorem tick_keep {s : Ls} {N : Int} {C P D : List It} (h : Ok s N) (pC : C.Perm s.l) (e : tk (s.now + 1) s.m.r.toNat C = (P, D)) : Ok { s with now := s.now + 1, came := s.came + (P.length : Int), l := D } (N + 256) := by
  have h1 := h.sent; have h2 := h.lost; have h3 := h.full; have h4 := h.dbl; have h5 := h.came; have h6 := h.now; have h7 := h.num; have h8 := h.len; have h9 := h.it
  obtain ⟨e1, e2⟩ := tk_app e
  have lC := pC.length_eq
  rw [e1, List.length_append] at lC
  obtain ⟨m1, m2, m3, m4, m5, m6⟩ := id h.m
  refine ⟨h.m, ?_, ?_, ?_, ?_, ?_, ?_, ?_, ?_, fun i hi => ?_⟩ <;> (try simp only) <;> (try omega)
  have := h9 i (pC.mem_iff.1 (by rw [e1]; simp [show i ∈ D from hi]))
  omega
theorem roIts_rd {L R : List SA} {P : List It} {i : It} (hp : Pick (roIts P) L R) (hi : i ∈ P) : RdIn L i.A (bvs i.bs) := fun c w h => by
  unfold roIts at hp
  exact h.ro hp i hi
def mo1 : Mo := ⟨1, 0, 0, 0, 9, 9⟩
theorem alive_send (A1 A2 : Option Addr) (k1 k2 : Nat) (bs : List UInt8) : ∃ x, sendS (ls0 mo1 5) A1 A2 k1 k2 bs = ⟨mo1, 1, 0, 0, 0, 0, x, 0, 1, [⟨1, 1, A1, k1, bs⟩]⟩ := by
  have h1 := (bl_rng (sd 5) (n := 1000) (by omega) (by omega)).1
  have h2 := (bl_rng (nx (sd 5)) (n := 1000) (by omega) (by omega)).1
  refine ⟨nx (nx (sd 5)), ?_⟩
  unfold sendS ls0 mo1
  simp only
  rw [if_neg (by omega), if_neg (by omega)]
  unfold putS
  simp [late, drawn]
section
variable {c : Ctx} {w : World} {L R : List SA}
theorem alive_ok (h : St c w L) {Q : Value → World → Prop} (hk : ∀ w', St c w' L → Q (.bool true) w') : CALL PG 29 [] w Q := by
  refine call29 ?_
  unfold N29
  have e : ∀ w, (Instr.build 64 #[(0, .int .i64 1), (4, .int .i64 9), (5, .int .i64 9)]).run PG w = .ok (mov mo1) w := by intro w; kernel_rfl
  refine RD.of (e _) ⟨_, _, _, _, _, _, rfl, ?_⟩
  have hR : RightM mo1 := by decide
  refine new_ok h (fun hn => absurd hR hn) fun _ p d w' h => ⟨_, _, rfl, leti rfl (ifnsame rfl (iff_ rfl ?_))⟩
  obtain ⟨A, k, h⟩ := h
  refine litB h 5 (bvs [120]) fun b w' h => ?_
  refine bytesBytesS h huBytes undU8l fun w' h => ?_
  have h := h.enth blk_rows
  have h1 : LK c w' p d (ls0 mo1 5) (rows _ (bvs [120]) :: L) := ⟨_, _, h.to⟩
  refine send_ok (bs := [120]) h1 (ls0_ok hR 5) (by omega) (RdIn.rows) (by decide) fun A1 A2 k1 k2 w' h => ⟨rfl, ?_⟩
  have ok := sendS_ok (ls0_ok hR 5) A1 A2 k1 k2 [120]
  obtain ⟨x, ex⟩ := alive_send A1 A2 k1 k2 [120]
  rw [ex] at h ok
  refine tick_ok h ok (by omega) fun C P D O oc w' hC pC et h => ⟨_, _, _, rfl, ?_⟩
  have ok := tick_keep ok pC et
  have eC : C = [⟨1, 1, A1, k1, [120]⟩] := List.perm_singleton.1 pC
  subst eC
  have et : tk 1 9 [⟨1, 1, A1, k1, [120]⟩] = (P, D) := et
  have e1 : tk 1 9 [⟨1, 1, A1, k1, [120]⟩] = ([], [⟨1, 1, A1, k1, [120]⟩]) := by simp [tk]
  rw [e1] at et
  cases et
  refine tick_ok h ok (by omega) fun C P D O oc w' hC pC et h => ⟨_, _, _, rfl, ?_⟩
  have eC : C = [⟨1, 1, A1, k1, [120]⟩] := List.perm_singleton.1 pC
  subst eC
  have et : tk 2 9 [⟨1, 1, A1, k1, [120]⟩] = (P, D) := et
  have e1 : tk 2 9 [⟨1, 1, A1, k1, [120]⟩] = ([⟨1, 1, A1, k1, [120]⟩], []) := by simp [tk]
  rw [e1] at et
  cases et
  refine ift rfl (ift rfl ?_)
  obtain ⟨A, k, h⟩ := h
  refine h.ix (z := 0) (i := 0) (RdIn.own (.tail (.tail (.tail (.tail .head))))) rfl (fun a ha => ?_) (by simp)
  subst ha
  refine h.rdWL (i := 0) (RdIn.own (.tail (.tail (.tail (.tail .head))))) rfl ?_
  refine h.bytesToString (e := 5) (bs := [120]) (roIts_rd (i := ⟨1, 1, A1, k1, [120]⟩) (.tail (.tail (.tail (.tail (.tail .head))))) (by simp)) rfl ?_
  refine ift (by rw [show strOf [120] = (⟨#[120]⟩ : ByteArray) from rfl]; exact beq_self_eq_true _) ?_
  refine seen_ok ⟨A, k, h⟩ fun w' h => ⟨_, _, _, _, _, rfl, ?_⟩
  have e : ∀ w, (Instr.build 87 #[(0, .int .i64 1), (4, .int .i64 1)]).run PG w = .ok (.agg #[.int .i64 1, .int .i64 0, .int .i64 0, .int .i64 0, .int .i64 1]) w := by intro w; kernel_rfl
  refine RD.of (e _) ⟨_, _, _, _, _, rfl, ?_⟩
  obtain ⟨A, k, h⟩ := h
  refine leqlSame (xs := [.int .i64 1, .int .i64 0, .int .i64 0, .int .i64 0, .int .i64 1]) ?_
  exact letb rfl (hk _ h.drop.drop.drop.drop.drop.drop.drop.drop.drop)
theorem draws_ok (h : St c w L) {seed many n : Int} (hn : n ≤ 9223372036854775807) {Q : Value → World → Prop} (hk : ∀ w', St c w' L → Q (.bool true) w') : CALL PG 5 [.int .u64 seed, .int .i64 many, .int .i64 n] w Q := by
  refine call5 ?_
  unfold N5
  refine ifd (fun _ => hk _ h) fun hm => ?_
  refine seeded_ok h fun a w' h => ⟨_, rfl, ?_⟩
  refine seeded_ok h fun b w' h => ⟨_, rfl, iff_ rfl (iff_ rfl (leti rfl ?_))⟩
  refine ⟨fun y w' => y = sd seed ∧ St c w' (blk b 163 [.int .u64 (sd seed)] :: blk a 163 [.int .u64 (sd seed)] :: L), ?_, ?_⟩
  · refine ifq (fun h0 => ⟨?_, h⟩) fun h0 => ⟨?_, h⟩
    · unfold sd; rw [if_pos h0]
    · unfold sd; rw [if_neg h0]
  rintro _ w' ⟨rfl, h⟩
  refine ⟨fun m x i w' => ∃ j : Nat, j + m = many.toNat ∧ i = (j : Int) ∧ St c w' (blk b 163 [.int .u64 x] :: blk a 163 [.int .u64 x] :: L), ⟨many.toNat, 0, by omega, rfl, h⟩, ?_⟩
  rintro m x _ w' ⟨j, hj, rfl, h⟩
  refine ifd (fun hlt => ?_) fun hge => ?_
  rotate_left
  · exact alive_ok h fun w' h => ⟨_, rfl, letb rfl (hk _ h.drop.drop)⟩
  have next : IntKind.i64.wrap ((j : Int) + 1) = ((j + 1 : Nat) : Int) := wrap_i64 (by omega) (by omega)
  refine ifd (fun h1 => ?_) fun h1 => ?_
  · exact below0_ok h1 ⟨_, rfl, ifnsame rfl (leti next ⟨m - 1, by omega, j + 1, by omega, rfl, h⟩)⟩
  refine rnext_ok ⟨_, rfl, leti rfl ?_⟩
  refine next_ok h.drew (.tail .head) fun w' h => ⟨_, rfl, ?_⟩
  refine ⟨fun _ => True, trivial, ifnsame rfl ⟨?_, ?_⟩⟩
  · rw [u64w (by omega) (by omega)]; omega
  refine below_ok h (.tail .head) (by omega) hn fun w' h => ⟨_, rfl, fun _ => True, fun _ _ => trivial, trivial, ?_⟩
  exact ifnsame rfl (leti next ⟨m - 1, by omega, j + 1, by omega, rfl, h⟩)
end
end Go.Br
