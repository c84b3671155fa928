/- Whether ends fit together, and which one is another one's peer: the law. -/
import Derived.Test.YtedgfhklpfmjaaaGreatNAuditFitsLaw
import Derived.Test.YtedgfhklpfmjaaaGreatJAuditPeer
import Derived.Test.YtedgfhklpfmjaaaGreatJAuditText
set_option linter.unusedVariables false
set_option linter.unusedSimpArgs false
set_option linter.unnecessarySimpa false
namespace Go.Br
open Go
instance biAuditFitsLawa : Bld PG (Instr.build 34 #[]) (.agg #[.int .i64 0, .int .i64 0, .int .i64 0, .int .i64 0, .int .i64 0, .int .u64 0, .int .u64 0, .int .i64 0, .int .u16 0, .int .u16 0, .int .u64 0, .int .u64 0, .int .u64 0, .int .u64 0, .bool false, .bool false, .int .i64 0, .int .i64 0, .int .i64 0, .int .i64 0]) := ⟨fun w => by kernel_rfl⟩
instance biAuditFitsLawb : Zro PG 34 20 144 (.agg #[.int .i64 0, .int .i64 0, .int .i64 0, .int .i64 0, .int .i64 0, .int .u64 0, .int .u64 0, .int .i64 0, .int .u16 0, .int .u16 0, .int .u64 0, .int .u64 0, .int .u64 0, .int .u64 0, .bool false, .bool false, .int .i64 0, .int .i64 0, .int .i64 0, .int .i64 0]) := ⟨tiOf (by kernel_rfl)⟩
instance biAuditFitsLawc (x0 : Int) : Bld PG (Instr.build 27 #[(0, .int .u64 x0)]) (.agg #[.int .u64 x0, .int .u64 0]) := ⟨fun w => by kernel_rfl⟩
instance biAuditFitsLawd : Zro PG 89 6 48 (.agg #[.int .i64 0, .int .i64 0, .int .i64 0, .int .i64 0, .int .i64 0, .int .i64 0]) := ⟨tiOf (by kernel_rfl)⟩
attribute [local irreducible] Addr.add RD RDS RUN RUNU NILC LETB CALL CALLX CALLV

def kbN (g : Cfg) (n : Nms) : Kb := ⟨n.o, n.r, n.i, n.r2, n.y, 0, false, false, some ⟨n.bb, 0, none⟩, g.buffer.toNat, g.buffer.toNat, 0, 0, some ⟨n.s, 0, none⟩, 0, 0, false, some ⟨n.b2, 0, none⟩, g.buffer.toNat, g.buffer.toNat, 0, 0, g.chunks, none, 0, 0⟩
theorem kbN_ok {g : Cfg} (hg : CfgOk g) {n : Nms} : KbOk (kbN g n) := by
  have hb : g.buffer ≤ 4096 := hg.2.1.1.2
  refine ⟨⟨show (0 : Int) ≤ 0 by decide, show (0 : Int) ≤ 4611686018427387904 by decide⟩, ⟨show (0 : Int) ≤ 0 by decide, show (0 : Int) ≤ 1000000 by decide⟩, ⟨show (0 : Int) ≤ 0 by decide, show (0 : Int) ≤ 4611686018427387904 by decide⟩, ⟨show (0 : Int) ≤ 0 by decide, show (0 : Int) ≤ 1000000 by decide⟩, ?_, ?_, ?_⟩
  · show g.buffer.toNat ≤ _; omega
  · show g.buffer.toNat ≤ _; omega
  · show 0 ≤ _; omega
/-- Two ends are the same. -/
def sameEd (a b : Ed) : Bool := a.host == b.host && (a.handle == b.handle && ((a.iState == b.iState && (a.iCause == b.iCause && (a.iRole == b.iRole && ((a.iIDK0 == b.iIDK0 && (a.iIDK1 == b.iIDK1 && true)) && ((a.iFirstPath == b.iFirstPath && (a.iFirstLocal == b.iFirstLocal && (a.iFirstRemote == b.iFirstRemote && true))) &&
  (a.iAccepted == b.iAccepted && (a.iAcked == b.iAcked && (a.iCame == b.iCame && (a.iRead == b.iRead && (a.iClosed == b.iClosed && (a.iEnded == b.iEnded && (a.iSilence == b.iSilence && (a.iFlows == b.iFlows && (a.iUnder == b.iUnder && (a.iHeld == b.iHeld && true))))))))))))))) && true))
theorem sameEd_refl (a : Ed) : sameEd a a = true := by simp [sameEd]
section
variable {c : Ctx} {w : World} {L R : List SA} {A : Option Addr} {k : Nat}
theorem alive27_ok (h : St c w L) {Q : Value → World → Prop} (hk : ∀ w', St c w' L → Q (.bool true) w') : CALL PG 9 [] w Q := by
  refine call9 ?_
  unfold N9
  refine usual_okC h fun w' h => ?_
  (repeat (first | apply Exists.intro (α := Int) | apply Exists.intro (α := Bool) | apply Exists.intro (α := ByteArray) | (apply Exists.intro (α := Option Addr); apply Exists.intro (α := Nat); apply Exists.intro (α := Nat)) | apply Exists.intro (α := Option Addr) | apply Exists.intro (α := Value)))
  refine ⟨rfl, ?_⟩
  refine RD.bld ?_
  (repeat (first | apply Exists.intro (α := Int) | apply Exists.intro (α := Bool) | apply Exists.intro (α := ByteArray) | (apply Exists.intro (α := Option Addr); apply Exists.intro (α := Nat); apply Exists.intro (α := Nat)) | apply Exists.intro (α := Option Addr) | apply Exists.intro (α := Value)))
  refine ⟨rfl, ?_⟩
  refine hnew_ok h usual (fun e => absurd usual_ok e) fun _ p r w' h => ?_
  have h : St c w' (blk p 68 (hst { host0 usual 1 0 r with conns := r }) :: mp r [] :: L) := h
  (repeat (first | apply Exists.intro (α := Int) | apply Exists.intro (α := Bool) | apply Exists.intro (α := ByteArray) | (apply Exists.intro (α := Option Addr); apply Exists.intro (α := Nat); apply Exists.intro (α := Nat)) | apply Exists.intro (α := Option Addr) | apply Exists.intro (α := Value)))
  refine ⟨rfl, ?_⟩
  refine leti rfl (ifnsame rfl (iff_ rfl ?_))
  refine text0_ok h fun w' h => ?_
  (repeat (first | apply Exists.intro (α := Int) | apply Exists.intro (α := Bool) | apply Exists.intro (α := ByteArray) | (apply Exists.intro (α := Option Addr); apply Exists.intro (α := Nat); apply Exists.intro (α := Nat)) | apply Exists.intro (α := Option Addr) | apply Exists.intro (α := Value)))
  refine ⟨rfl, ?_⟩
  refine tally0_ok h rfl fun w' h => ?_
  (repeat (first | apply Exists.intro (α := Int) | apply Exists.intro (α := Bool) | apply Exists.intro (α := ByteArray) | (apply Exists.intro (α := Option Addr); apply Exists.intro (α := Nat); apply Exists.intro (α := Nat)) | apply Exists.intro (α := Option Addr) | apply Exists.intro (α := Value)))
  refine ⟨rfl, ?_⟩
  refine lets rfl (lets rfl ?_)
  refine connect0_ok h usual_ok (by decide) (by decide) (by decide) (by decide) fun n fA fC pA pC pk w' e1 e2 h => ?_
  (repeat (first | apply Exists.intro (α := Int) | apply Exists.intro (α := Bool) | apply Exists.intro (α := ByteArray) | (apply Exists.intro (α := Option Addr); apply Exists.intro (α := Nat); apply Exists.intro (α := Nat)) | apply Exists.intro (α := Option Addr) | apply Exists.intro (α := Value)))
  refine ⟨rfl, ?_⟩
  refine ift (by simp) (ift ?_ ?_)
  · rw [lineL_map]
    show ((strOf _).toList == (strOf [48, 32, 48, 32, 48, 32, 48, 32, 48, 32, 48, 32, 48, 32, 48, 32, 48, 32, 48]).toList) = true
    rw [strOf_toList, strOf_toList]
    decide
  have h : St c w' (blk p 68 (hst { { host0 usual 1 0 r with srcN := 2, nx := 2, post := pA, postN := 1, postC := pC } with conns := r, ports := none, portsN := 0, portsC := 0 }) :: mp r [(1, .pointer (some ⟨n.x, 0, none⟩))] :: coB n.x (askC usual (drawS 1 0 0) 1 5 80 n fA fC none 0 0) (kbN usual n) L) := h.sub (.cons .head (.cons (.tail (.tail (.tail .head))) (.cons .head (.cons (.tail (.tail (.tail (.tail (.tail (.tail (.tail (.tail (.tail (.tail (.tail (.tail (.tail (.tail .head)))))))))))))) (.cons (.tail (.tail (.tail (.tail (.tail (.tail (.tail (.tail (.tail (.tail (.tail (.tail (.tail (.tail .head)))))))))))))) (.cons (.tail (.tail (.tail (.tail (.tail (.tail (.tail (.tail (.tail (.tail .head)))))))))) (.cons (.tail (.tail (.tail (.tail (.tail (.tail (.tail (.tail (.tail (.tail (.tail .head))))))))))) (.cons (.tail (.tail (.tail (.tail (.tail (.tail (.tail (.tail (.tail .head))))))))) ((Sub.same _).more.more.more.more.more.more.more.more.more.more.more.more.more)))))))))
  have hT : lineL (([digsI 1, [111, 112, 101, 110, 105, 110, 103], [99, 108, 105, 101, 110, 116], digsI 5, digsI 80, digsI 1, digsI (0 + 0), digsI 0, digsI (0 + 0), digsI 0] : List (List UInt8)).map strOf) = [49, 32, 111, 112, 101, 110, 105, 110, 103, 32, 99, 108, 105, 101, 110, 116, 32, 53, 32, 56, 48, 32, 49, 32, 48, 32, 48, 32, 48, 32, 48] := by
    rw [lineL_map, d1, d5, d80, show (0 : Int) + 0 = 0 from rfl, d0]
    decide
  refine text1_ok (n := 1) (x := n.x) (X := askC usual (drawS 1 0 0) 1 5 80 n fA fC none 0 0) (K := kbN usual n) h (kbN_ok usual_ok) (by decide) rfl rfl rfl rfl (show (0 : Int) ≤ 5 ∧ (5 : Int) ≤ 65535 by decide) (show (0 : Int) ≤ 80 ∧ (80 : Int) ≤ 65535 by decide) (show (0 : Int) ≤ 1 ∧ (1 : Int) ≤ 65535 by decide) (show (0 : Int) ≤ 1000 by decide) (show (0 : Int) ≤ 1000 by decide) (show (lineL (([digsI 1, [111, 112, 101, 110, 105, 110, 103], [99, 108, 105, 101, 110, 116], digsI 5, digsI 80, digsI 1, digsI (0 + 0), digsI 0, digsI (0 + 0), digsI 0] : List (List UInt8)).map strOf)).length ≤ 1000 by rw [hT]; decide) fun w' h => ?_
  (repeat (first | apply Exists.intro (α := Int) | apply Exists.intro (α := Bool) | apply Exists.intro (α := ByteArray) | (apply Exists.intro (α := Option Addr); apply Exists.intro (α := Nat); apply Exists.intro (α := Nat)) | apply Exists.intro (α := Option Addr) | apply Exists.intro (α := Value)))
  refine ⟨rfl, ?_⟩
  refine ift ?_ ?_
  · show ((strOf (lineL (([digsI 1, [111, 112, 101, 110, 105, 110, 103], [99, 108, 105, 101, 110, 116], digsI 5, digsI 80, digsI 1, digsI (0 + 0), digsI 0, digsI (0 + 0), digsI 0] : List (List UInt8)).map strOf) ++ [10])).toList == (strOf [49, 32, 111, 112, 101, 110, 105, 110, 103, 32, 99, 108, 105, 101, 110, 116, 32, 53, 32, 56, 48, 32, 49, 32, 48, 32, 48, 32, 48, 32, 48, 10]).toList) = true
    rw [hT, strOf_toList, strOf_toList]
    decide
  refine usual_okC h fun w' h => ?_
  (repeat (first | apply Exists.intro (α := Int) | apply Exists.intro (α := Bool) | apply Exists.intro (α := ByteArray) | (apply Exists.intro (α := Option Addr); apply Exists.intro (α := Nat); apply Exists.intro (α := Nat)) | apply Exists.intro (α := Option Addr) | apply Exists.intro (α := Value)))
  refine ⟨rfl, ?_⟩
  refine call16 ?_
  unfold N16
  refine h.box (vs := cfg usual) fun q w' h => ?_
  refine sizes1_ok (n := 1) (x := n.x) (X := askC usual (drawS 1 0 0) 1 5 80 n fA fC none 0 0) (K := kbN usual n) (h.sub (show Sub _ (blk p 68 (hst { { host0 usual 1 0 r with srcN := 2, nx := 2, post := pA, postN := 1, postC := pC } with conns := r, ports := none, portsN := 0, portsC := 0 }) :: mp r [(1, .pointer (some ⟨n.x, 0, none⟩))] :: coB n.x (askC usual (drawS 1 0 0) 1 5 80 n fA fC none 0 0) (kbN usual n) (blk q 53 (cfg usual) :: L)) from (.cons (.tail .head) (.cons (.tail .head) (.cons (.tail .head) (.cons (.tail .head) (.cons (.tail .head) (.cons (.tail .head) (.cons (.tail .head) (.cons (.tail .head) (.cons .head ((Sub.same _))))))))))))) (kbN_ok usual_ok) (show 1 ≤ 1000000 by decide) fun w' h => ?_
  (repeat (first | apply Exists.intro (α := Int) | apply Exists.intro (α := Bool) | apply Exists.intro (α := ByteArray) | (apply Exists.intro (α := Option Addr); apply Exists.intro (α := Nat); apply Exists.intro (α := Nat)) | apply Exists.intro (α := Option Addr) | apply Exists.intro (α := Value)))
  refine ⟨rfl, ?_⟩
  refine h.allocZ fun q2 w' h => ?_
  refine h.stG (B := q2) fun w' h => ?_
  have h := h.sub (show Sub _ (blk q2 89 (szc 0 0 1 1 0 128) :: blk q 53 (cfg usual) :: L) from (.cons .head (.cons (.tail (.tail (.tail (.tail (.tail (.tail (.tail (.tail .head)))))))) ((Sub.same _).more.more.more.more.more.more.more.more))))
  refine h.rdI (B := q) 2 (h.rdI (B := q) 0 (h.rdI (B := q) 1 (leti (y := 7) rfl ?_)))
  refine h.rdI (B := q2) 0 (h.rdI (B := q) 0 (?_))
  refine ifdt (by decide) ?_
  refine h.rdI (B := q2) 1 (h.rdI (B := q) 0 (h.rdI (B := q) 1 (?_)))
  refine ifdt (by decide) ?_
  refine h.rdI (B := q2) 2 (h.rdI (B := q) 2 (?_))
  refine ifdt (by decide) ?_
  refine h.rdI (B := q2) 3 (h.rdI (B := q) 3 (?_))
  refine ifdt (by decide) ?_
  refine h.rdI (B := q2) 4 (h.rdI (B := q) 5 (?_))
  refine ifdt (by decide) ?_
  refine h.rdI (B := q2) 5 (h.rdI (B := q) 4 (?_))
  refine letb (y := true) (by decide) ?_
  exact ⟨_, rfl, letb rfl (hk _ h.drop.drop)⟩
set_option maxRecDepth 20000 in
theorem auditfits_ok (h : St c w L) {a b : Ed} {l : List Ed} (ha : EdOk a) (hb : EdOk b) (hl : ∀ x ∈ l, EdOk x) (hr : RdIn L A (l.flatMap ed)) {Q : Value → World → Prop}
    (hk : ∀ w', St c w' L → Q (.bool true) w') : CALL PG 3 [edv a, edv b, .slice A l.length k] w Q := by
  refine call3 ?_
  unfold N3
  refine h.box (vs := ed a) fun p w' h => ?_
  refine h.box (vs := ed b) fun q w' h => ?_
  refine ifd (fun _ => hk _ h.drop.drop) fun hn => ?_
  have h := h.addOwnNil 38 15
  refine ⟨fun m o oN oC x w => ∃ j : Nat, x = j ∧ m = l.length - j ∧ j ≤ l.length ∧ j = oN ∧ St c w (own 38 15 o oN oC (((l.take j).map plE).flatMap re) :: blk q 34 (ed b) :: blk p 34 (ed a) :: L), ⟨_, 0, rfl, rfl, Nat.zero_le _, rfl, h⟩, ?_⟩
  clear h
  rintro m o oN oC x w' ⟨j, rfl, rfl, hj, rfl, h⟩
  by_cases hjl : j < l.length
  · obtain ⟨x, hx⟩ : ∃ x, l[j]? = some x := ⟨_, List.getElem?_eq_getElem hjl⟩
    refine ifdt (by omega) ?_
    refine h.ix (z := 19) hr.more.more.more hx (fun b hb => ?_) (by omega)
    have hr1 := hr
    rw [hb] at hr1
    refine h.rdEG hr1.more.more.more hx ?_
    (repeat (first | apply Exists.intro (α := Int) | apply Exists.intro (α := Bool) | apply Exists.intro (α := ByteArray) | (apply Exists.intro (α := Option Addr); apply Exists.intro (α := Nat); apply Exists.intro (α := Nat)) | apply Exists.intro (α := Option Addr) | apply Exists.intro (α := Value)))
    refine ⟨rfl, ?_⟩
    refine plain_ok h (hl x (List.mem_of_getElem? hx)) fun w' h => ?_
    (repeat (first | apply Exists.intro (α := Int) | apply Exists.intro (α := Bool) | apply Exists.intro (α := ByteArray) | (apply Exists.intro (α := Option Addr); apply Exists.intro (α := Nat); apply Exists.intro (α := Nat)) | apply Exists.intro (α := Option Addr) | apply Exists.intro (α := Value)))
    refine ⟨rfl, ?_⟩
    refine h.app1 huEs tiE27 (re (plE x)) .head (re_flat1 _) (by omega) fun O d w' h => ?_
    refine leti (y := ((j + 1 : Nat) : Int)) (by rw [wrap_i64 (by omega) (by omega)]; rfl) ⟨l.length - (j + 1), by omega, j + 1, rfl, rfl, by omega, rfl, ?_⟩
    have e : (l.take (j + 1)).map plE = (l.take j).map plE ++ [plE x] := by rw [List.take_add_one, hx]; simp
    rw [e, List.flatMap_append]
    simpa using h
  obtain rfl : j = l.length := by omega
  rw [List.take_length] at h
  refine ifdf (by omega) ?_
  refine h.rdG (B := p) ?_
  (repeat (first | apply Exists.intro (α := Int) | apply Exists.intro (α := Bool) | apply Exists.intro (α := ByteArray) | (apply Exists.intro (α := Option Addr); apply Exists.intro (α := Nat); apply Exists.intro (α := Nat)) | apply Exists.intro (α := Option Addr) | apply Exists.intro (α := Value)))
  refine ⟨rfl, ?_⟩
  have hrm : RdIn (own 38 15 o l.length oC ((l.map plE).flatMap re) :: blk q 34 (ed b) :: blk p 34 (ed a) :: L) o ((l.map plE).flatMap re) := RdIn.own .head
  have hml : (l.map plE).length = l.length := by simp
  refine peer_ok h hr.more.more.more (by omega) (fun X w' hX h => ?_) fun hne w' h => ?_
  · (repeat (first | apply Exists.intro (α := Int) | apply Exists.intro (α := Bool) | apply Exists.intro (α := ByteArray) | (apply Exists.intro (α := Option Addr); apply Exists.intro (α := Nat); apply Exists.intro (α := Nat)) | apply Exists.intro (α := Option Addr) | apply Exists.intro (α := Value)))
    refine ⟨rfl, ?_⟩
    refine h.allocZ fun q9 w' h => ?_
    refine h.stG (B := q9) fun w' h => letb rfl ?_
    refine h.rdG (B := p) ?_
    (repeat (first | apply Exists.intro (α := Int) | apply Exists.intro (α := Bool) | apply Exists.intro (α := ByteArray) | (apply Exists.intro (α := Option Addr); apply Exists.intro (α := Nat); apply Exists.intro (α := Nat)) | apply Exists.intro (α := Option Addr) | apply Exists.intro (α := Value)))
    refine ⟨rfl, ?_⟩
    refine plain_ok h ha fun w' h => ?_
    (repeat (first | apply Exists.intro (α := Int) | apply Exists.intro (α := Bool) | apply Exists.intro (α := ByteArray) | (apply Exists.intro (α := Option Addr); apply Exists.intro (α := Nat); apply Exists.intro (α := Nat)) | apply Exists.intro (α := Option Addr) | apply Exists.intro (α := Value)))
    refine ⟨rfl, ?_⟩
    rw [← hml]
    refine rpeer_ok h hrm.more (by omega) (fun i y w' hi hy h => ?_) fun hne w' h => absurd (by rw [matesR_map, hX]; rfl) hne
    (repeat (first | apply Exists.intro (α := Int) | apply Exists.intro (α := Bool) | apply Exists.intro (α := ByteArray) | (apply Exists.intro (α := Option Addr); apply Exists.intro (α := Nat); apply Exists.intro (α := Nat)) | apply Exists.intro (α := Option Addr) | apply Exists.intro (α := Value)))
    refine ⟨rfl, ?_⟩
    have hli : l[i]? = some X := by
      rw [List.getElem?_map] at hi
      cases hz : l[i]? with
      | none => rw [hz] at hi; cases hi
      | some z =>
        rw [hz] at hi
        have e : plE z = y := by simpa using hi
        have hm : y ∈ matesR (plE a) (l.map plE) := by rw [hy]; simp
        have hz2 : z ∈ mates a l := List.mem_filter.2 ⟨List.mem_of_getElem? hz, by rw [e]; exact (List.mem_filter.1 hm).2⟩
        rw [hX] at hz2
        simp at hz2
        rw [hz2]
    have h := h.drew
    refine leti rfl ?_
    refine ⟨fun w => St c w (blk q 34 (ed b) :: blk p 34 (ed a) :: L), ?_, ?_⟩
    · refine iff_ (by simp) (ift rfl ?_)
      refine h.rdG (B := q9) ?_
      (repeat (first | apply Exists.intro (α := Int) | apply Exists.intro (α := Bool) | apply Exists.intro (α := ByteArray) | (apply Exists.intro (α := Option Addr); apply Exists.intro (α := Nat); apply Exists.intro (α := Nat)) | apply Exists.intro (α := Option Addr) | apply Exists.intro (α := Value)))
      refine ⟨rfl, ?_⟩
      have hll := (List.getElem?_eq_some_iff.1 hli).1
      refine h.ix (z := 19) hr.more.more.more.more hli (fun b hb => ?_) (by omega)
      have hr1 := hr
      rw [hb] at hr1
      refine h.rdEG hr1.more.more.more.more hli ?_
      (repeat (first | apply Exists.intro (α := Int) | apply Exists.intro (α := Bool) | apply Exists.intro (α := ByteArray) | (apply Exists.intro (α := Option Addr); apply Exists.intro (α := Nat); apply Exists.intro (α := Nat)) | apply Exists.intro (α := Option Addr) | apply Exists.intro (α := Value)))
      refine ⟨rfl, ?_⟩
      refine RDB.neqN (sameEd X X) ?_
      rw [sameEd_refl]
      exact iff_ rfl (iff_ rfl (h.sub (.cons (.tail (.tail .head)) (.cons (.tail (.tail .head)) ((Sub.same _).more.more)))))
    · clear h
      rintro w' h
      have h := h.drew
      refine ⟨fun w => St c w [blk p 34 (ed a), blk q 34 (ed b)], h.sub (.cons (.tail .head) (.cons .head (.nil))), ?_⟩
      refine St.rdsG (B := p) ?_
      (repeat (first | apply Exists.intro (α := Int) | apply Exists.intro (α := Bool) | apply Exists.intro (α := ByteArray) | (apply Exists.intro (α := Option Addr); apply Exists.intro (α := Nat); apply Exists.intro (α := Nat)) | apply Exists.intro (α := Option Addr) | apply Exists.intro (α := Value)))
      refine ⟨rfl, ?_⟩
      refine St.rdsG (B := q) ?_
      (repeat (first | apply Exists.intro (α := Int) | apply Exists.intro (α := Bool) | apply Exists.intro (α := ByteArray) | (apply Exists.intro (α := Option Addr); apply Exists.intro (α := Nat); apply Exists.intro (α := Nat)) | apply Exists.intro (α := Option Addr) | apply Exists.intro (α := Value)))
      refine ⟨rfl, ?_⟩
      refine St.rdsG (B := p) ?_
      (repeat (first | apply Exists.intro (α := Int) | apply Exists.intro (α := Bool) | apply Exists.intro (α := ByteArray) | (apply Exists.intro (α := Option Addr); apply Exists.intro (α := Nat); apply Exists.intro (α := Nat)) | apply Exists.intro (α := Option Addr) | apply Exists.intro (α := Value)))
      refine ⟨rfl, ?_⟩
      refine St.rdsG (B := q) ?_
      (repeat (first | apply Exists.intro (α := Int) | apply Exists.intro (α := Bool) | apply Exists.intro (α := ByteArray) | (apply Exists.intro (α := Option Addr); apply Exists.intro (α := Nat); apply Exists.intro (α := Nat)) | apply Exists.intro (α := Option Addr) | apply Exists.intro (α := Value)))
      refine ⟨rfl, ?_⟩
      refine fit_ok h (a := a) (b := b) fun w' h => ?_
      (repeat (first | apply Exists.intro (α := Int) | apply Exists.intro (α := Bool) | apply Exists.intro (α := ByteArray) | (apply Exists.intro (α := Option Addr); apply Exists.intro (α := Nat); apply Exists.intro (α := Nat)) | apply Exists.intro (α := Option Addr) | apply Exists.intro (α := Value)))
      refine ⟨rfl, ?_⟩
      refine ⟨_, fun _ h => h, h.sub (.cons (.tail .head) (.cons .head (.nil))), ?_⟩
      refine plain_ok h ha fun w' h => ?_
      (repeat (first | apply Exists.intro (α := Int) | apply Exists.intro (α := Bool) | apply Exists.intro (α := ByteArray) | (apply Exists.intro (α := Option Addr); apply Exists.intro (α := Nat); apply Exists.intro (α := Nat)) | apply Exists.intro (α := Option Addr) | apply Exists.intro (α := Value)))
      refine ⟨rfl, ?_⟩
      refine ⟨_, fun _ h => h, h.sub (.cons (.tail .head) (.cons .head (.nil))), ?_⟩
      refine plain_ok h hb fun w' h => ?_
      (repeat (first | apply Exists.intro (α := Int) | apply Exists.intro (α := Bool) | apply Exists.intro (α := ByteArray) | (apply Exists.intro (α := Option Addr); apply Exists.intro (α := Nat); apply Exists.intro (α := Nat)) | apply Exists.intro (α := Option Addr) | apply Exists.intro (α := Value)))
      refine ⟨rfl, ?_⟩
      refine rfit_ok h (a := plE a) (b := plE b) fun w' h => ?_
      (repeat (first | apply Exists.intro (α := Int) | apply Exists.intro (α := Bool) | apply Exists.intro (α := ByteArray) | (apply Exists.intro (α := Option Addr); apply Exists.intro (α := Nat); apply Exists.intro (α := Nat)) | apply Exists.intro (α := Option Addr) | apply Exists.intro (α := Value)))
      refine ⟨rfl, ?_⟩
      refine ⟨fun w => St c w [blk p 34 (ed a), blk q 34 (ed b)], h.sub (.cons (.tail .head) (.cons .head (.nil))), ift (by simp) ?_⟩
      refine St.rdsG (B := p) ?_
      (repeat (first | apply Exists.intro (α := Int) | apply Exists.intro (α := Bool) | apply Exists.intro (α := ByteArray) | (apply Exists.intro (α := Option Addr); apply Exists.intro (α := Nat); apply Exists.intro (α := Nat)) | apply Exists.intro (α := Option Addr) | apply Exists.intro (α := Value)))
      refine ⟨rfl, ?_⟩
      refine St.rdsG (B := q) ?_
      (repeat (first | apply Exists.intro (α := Int) | apply Exists.intro (α := Bool) | apply Exists.intro (α := ByteArray) | (apply Exists.intro (α := Option Addr); apply Exists.intro (α := Nat); apply Exists.intro (α := Nat)) | apply Exists.intro (α := Option Addr) | apply Exists.intro (α := Value)))
      refine ⟨rfl, ?_⟩
      refine St.rdsG (B := q) ?_
      (repeat (first | apply Exists.intro (α := Int) | apply Exists.intro (α := Bool) | apply Exists.intro (α := ByteArray) | (apply Exists.intro (α := Option Addr); apply Exists.intro (α := Nat); apply Exists.intro (α := Nat)) | apply Exists.intro (α := Option Addr) | apply Exists.intro (α := Value)))
      refine ⟨rfl, ?_⟩
      refine St.rdsG (B := p) ?_
      (repeat (first | apply Exists.intro (α := Int) | apply Exists.intro (α := Bool) | apply Exists.intro (α := ByteArray) | (apply Exists.intro (α := Option Addr); apply Exists.intro (α := Nat); apply Exists.intro (α := Nat)) | apply Exists.intro (α := Option Addr) | apply Exists.intro (α := Value)))
      refine ⟨rfl, ?_⟩
      refine fit_ok h (a := a) (b := b) fun w' h => ?_
      (repeat (first | apply Exists.intro (α := Int) | apply Exists.intro (α := Bool) | apply Exists.intro (α := ByteArray) | (apply Exists.intro (α := Option Addr); apply Exists.intro (α := Nat); apply Exists.intro (α := Nat)) | apply Exists.intro (α := Option Addr) | apply Exists.intro (α := Value)))
      refine ⟨rfl, ?_⟩
      refine ⟨_, fun _ h => h, h.sub (.cons (.tail .head) (.cons .head (.nil))), ?_⟩
      refine fit_ok h (a := b) (b := a) fun w' h => ?_
      (repeat (first | apply Exists.intro (α := Int) | apply Exists.intro (α := Bool) | apply Exists.intro (α := ByteArray) | (apply Exists.intro (α := Option Addr); apply Exists.intro (α := Nat); apply Exists.intro (α := Nat)) | apply Exists.intro (α := Option Addr) | apply Exists.intro (α := Value)))
      refine ⟨rfl, ?_⟩
      refine ift (by rw [show decide (FitP (plE a) (plE b)) = decide (FitP (plE b) (plE a)) from decide_eq_decide.2 FitP.comm]; simp) ?_
      refine alive27_ok h fun w' h => ?_
      (repeat (first | apply Exists.intro (α := Int) | apply Exists.intro (α := Bool) | apply Exists.intro (α := ByteArray) | (apply Exists.intro (α := Option Addr); apply Exists.intro (α := Nat); apply Exists.intro (α := Nat)) | apply Exists.intro (α := Option Addr) | apply Exists.intro (α := Value)))
      refine ⟨rfl, ?_⟩
      exact letb rfl (hk _ h.drop.drop)
  · (repeat (first | apply Exists.intro (α := Int) | apply Exists.intro (α := Bool) | apply Exists.intro (α := ByteArray) | (apply Exists.intro (α := Option Addr); apply Exists.intro (α := Nat); apply Exists.intro (α := Nat)) | apply Exists.intro (α := Option Addr) | apply Exists.intro (α := Value)))
    refine ⟨rfl, ?_⟩
    refine h.allocZ fun q9 w' h => ?_
    refine h.stG (B := q9) fun w' h => letb rfl ?_
    refine h.rdG (B := p) ?_
    (repeat (first | apply Exists.intro (α := Int) | apply Exists.intro (α := Bool) | apply Exists.intro (α := ByteArray) | (apply Exists.intro (α := Option Addr); apply Exists.intro (α := Nat); apply Exists.intro (α := Nat)) | apply Exists.intro (α := Option Addr) | apply Exists.intro (α := Value)))
    refine ⟨rfl, ?_⟩
    refine plain_ok h ha fun w' h => ?_
    (repeat (first | apply Exists.intro (α := Int) | apply Exists.intro (α := Bool) | apply Exists.intro (α := ByteArray) | (apply Exists.intro (α := Option Addr); apply Exists.intro (α := Nat); apply Exists.intro (α := Nat)) | apply Exists.intro (α := Option Addr) | apply Exists.intro (α := Value)))
    refine ⟨rfl, ?_⟩
    rw [← hml]
    refine rpeer_ok h hrm.more (by omega) (fun i y w' hi hy h => absurd (by have := congrArg List.length hy; rw [matesR_map] at this; simpa using this) hne) fun _ w' h => ?_
    (repeat (first | apply Exists.intro (α := Int) | apply Exists.intro (α := Bool) | apply Exists.intro (α := ByteArray) | (apply Exists.intro (α := Option Addr); apply Exists.intro (α := Nat); apply Exists.intro (α := Nat)) | apply Exists.intro (α := Option Addr) | apply Exists.intro (α := Value)))
    refine ⟨rfl, ?_⟩
    have h := h.drew
    refine leti rfl ?_
    refine ⟨fun w => St c w (blk q 34 (ed b) :: blk p 34 (ed a) :: L), ?_, ?_⟩
    · refine iff_ (by decide) (iff_ rfl (ift rfl ?_))
      refine h.rdG (B := q9) ?_
      (repeat (first | apply Exists.intro (α := Int) | apply Exists.intro (α := Bool) | apply Exists.intro (α := ByteArray) | (apply Exists.intro (α := Option Addr); apply Exists.intro (α := Nat); apply Exists.intro (α := Nat)) | apply Exists.intro (α := Option Addr) | apply Exists.intro (α := Value)))
      refine ⟨rfl, ?_⟩
      refine RD.bld ?_
      (repeat (first | apply Exists.intro (α := Int) | apply Exists.intro (α := Bool) | apply Exists.intro (α := ByteArray) | (apply Exists.intro (α := Option Addr); apply Exists.intro (α := Nat); apply Exists.intro (α := Nat)) | apply Exists.intro (α := Option Addr) | apply Exists.intro (α := Value)))
      refine ⟨rfl, ?_⟩
      refine RDB.neqN (sameEd ed0 ed0) ?_
      rw [sameEd_refl]
      exact iff_ rfl (h.sub (.cons (.tail (.tail .head)) (.cons (.tail (.tail .head)) ((Sub.same _).more.more))))
    · clear h
      rintro w' h
      have h := h.drew
      refine ⟨fun w => St c w [blk p 34 (ed a), blk q 34 (ed b)], h.sub (.cons (.tail .head) (.cons .head (.nil))), ?_⟩
      refine St.rdsG (B := p) ?_
      (repeat (first | apply Exists.intro (α := Int) | apply Exists.intro (α := Bool) | apply Exists.intro (α := ByteArray) | (apply Exists.intro (α := Option Addr); apply Exists.intro (α := Nat); apply Exists.intro (α := Nat)) | apply Exists.intro (α := Option Addr) | apply Exists.intro (α := Value)))
      refine ⟨rfl, ?_⟩
      refine St.rdsG (B := q) ?_
      (repeat (first | apply Exists.intro (α := Int) | apply Exists.intro (α := Bool) | apply Exists.intro (α := ByteArray) | (apply Exists.intro (α := Option Addr); apply Exists.intro (α := Nat); apply Exists.intro (α := Nat)) | apply Exists.intro (α := Option Addr) | apply Exists.intro (α := Value)))
      refine ⟨rfl, ?_⟩
      refine St.rdsG (B := p) ?_
      (repeat (first | apply Exists.intro (α := Int) | apply Exists.intro (α := Bool) | apply Exists.intro (α := ByteArray) | (apply Exists.intro (α := Option Addr); apply Exists.intro (α := Nat); apply Exists.intro (α := Nat)) | apply Exists.intro (α := Option Addr) | apply Exists.intro (α := Value)))
      refine ⟨rfl, ?_⟩
      refine St.rdsG (B := q) ?_
      (repeat (first | apply Exists.intro (α := Int) | apply Exists.intro (α := Bool) | apply Exists.intro (α := ByteArray) | (apply Exists.intro (α := Option Addr); apply Exists.intro (α := Nat); apply Exists.intro (α := Nat)) | apply Exists.intro (α := Option Addr) | apply Exists.intro (α := Value)))
      refine ⟨rfl, ?_⟩
      refine fit_ok h (a := a) (b := b) fun w' h => ?_
      (repeat (first | apply Exists.intro (α := Int) | apply Exists.intro (α := Bool) | apply Exists.intro (α := ByteArray) | (apply Exists.intro (α := Option Addr); apply Exists.intro (α := Nat); apply Exists.intro (α := Nat)) | apply Exists.intro (α := Option Addr) | apply Exists.intro (α := Value)))
      refine ⟨rfl, ?_⟩
      refine ⟨_, fun _ h => h, h.sub (.cons (.tail .head) (.cons .head (.nil))), ?_⟩
      refine plain_ok h ha fun w' h => ?_
      (repeat (first | apply Exists.intro (α := Int) | apply Exists.intro (α := Bool) | apply Exists.intro (α := ByteArray) | (apply Exists.intro (α := Option Addr); apply Exists.intro (α := Nat); apply Exists.intro (α := Nat)) | apply Exists.intro (α := Option Addr) | apply Exists.intro (α := Value)))
      refine ⟨rfl, ?_⟩
      refine ⟨_, fun _ h => h, h.sub (.cons (.tail .head) (.cons .head (.nil))), ?_⟩
      refine plain_ok h hb fun w' h => ?_
      (repeat (first | apply Exists.intro (α := Int) | apply Exists.intro (α := Bool) | apply Exists.intro (α := ByteArray) | (apply Exists.intro (α := Option Addr); apply Exists.intro (α := Nat); apply Exists.intro (α := Nat)) | apply Exists.intro (α := Option Addr) | apply Exists.intro (α := Value)))
      refine ⟨rfl, ?_⟩
      refine rfit_ok h (a := plE a) (b := plE b) fun w' h => ?_
      (repeat (first | apply Exists.intro (α := Int) | apply Exists.intro (α := Bool) | apply Exists.intro (α := ByteArray) | (apply Exists.intro (α := Option Addr); apply Exists.intro (α := Nat); apply Exists.intro (α := Nat)) | apply Exists.intro (α := Option Addr) | apply Exists.intro (α := Value)))
      refine ⟨rfl, ?_⟩
      refine ⟨fun w => St c w [blk p 34 (ed a), blk q 34 (ed b)], h.sub (.cons (.tail .head) (.cons .head (.nil))), ift (by simp) ?_⟩
      refine St.rdsG (B := p) ?_
      (repeat (first | apply Exists.intro (α := Int) | apply Exists.intro (α := Bool) | apply Exists.intro (α := ByteArray) | (apply Exists.intro (α := Option Addr); apply Exists.intro (α := Nat); apply Exists.intro (α := Nat)) | apply Exists.intro (α := Option Addr) | apply Exists.intro (α := Value)))
      refine ⟨rfl, ?_⟩
      refine St.rdsG (B := q) ?_
      (repeat (first | apply Exists.intro (α := Int) | apply Exists.intro (α := Bool) | apply Exists.intro (α := ByteArray) | (apply Exists.intro (α := Option Addr); apply Exists.intro (α := Nat); apply Exists.intro (α := Nat)) | apply Exists.intro (α := Option Addr) | apply Exists.intro (α := Value)))
      refine ⟨rfl, ?_⟩
      refine St.rdsG (B := q) ?_
      (repeat (first | apply Exists.intro (α := Int) | apply Exists.intro (α := Bool) | apply Exists.intro (α := ByteArray) | (apply Exists.intro (α := Option Addr); apply Exists.intro (α := Nat); apply Exists.intro (α := Nat)) | apply Exists.intro (α := Option Addr) | apply Exists.intro (α := Value)))
      refine ⟨rfl, ?_⟩
      refine St.rdsG (B := p) ?_
      (repeat (first | apply Exists.intro (α := Int) | apply Exists.intro (α := Bool) | apply Exists.intro (α := ByteArray) | (apply Exists.intro (α := Option Addr); apply Exists.intro (α := Nat); apply Exists.intro (α := Nat)) | apply Exists.intro (α := Option Addr) | apply Exists.intro (α := Value)))
      refine ⟨rfl, ?_⟩
      refine fit_ok h (a := a) (b := b) fun w' h => ?_
      (repeat (first | apply Exists.intro (α := Int) | apply Exists.intro (α := Bool) | apply Exists.intro (α := ByteArray) | (apply Exists.intro (α := Option Addr); apply Exists.intro (α := Nat); apply Exists.intro (α := Nat)) | apply Exists.intro (α := Option Addr) | apply Exists.intro (α := Value)))
      refine ⟨rfl, ?_⟩
      refine ⟨_, fun _ h => h, h.sub (.cons (.tail .head) (.cons .head (.nil))), ?_⟩
      refine fit_ok h (a := b) (b := a) fun w' h => ?_
      (repeat (first | apply Exists.intro (α := Int) | apply Exists.intro (α := Bool) | apply Exists.intro (α := ByteArray) | (apply Exists.intro (α := Option Addr); apply Exists.intro (α := Nat); apply Exists.intro (α := Nat)) | apply Exists.intro (α := Option Addr) | apply Exists.intro (α := Value)))
      refine ⟨rfl, ?_⟩
      refine ift (by rw [show decide (FitP (plE a) (plE b)) = decide (FitP (plE b) (plE a)) from decide_eq_decide.2 FitP.comm]; simp) ?_
      refine alive27_ok h fun w' h => ?_
      (repeat (first | apply Exists.intro (α := Int) | apply Exists.intro (α := Bool) | apply Exists.intro (α := ByteArray) | (apply Exists.intro (α := Option Addr); apply Exists.intro (α := Nat); apply Exists.intro (α := Nat)) | apply Exists.intro (α := Option Addr) | apply Exists.intro (α := Value)))
      refine ⟨rfl, ?_⟩
      exact letb rfl (hk _ h.drop.drop)
end
end Go.Br
