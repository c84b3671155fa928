/- Of which configurations there is a net: the law. -/
import Derived.Test.YtnmhgjfllknbpaaNNetNewLaw
import Derived.Test.YtnmhgjfllknbpaaNetGather
set_option linter.unusedVariables false
set_option linter.unusedSimpArgs false
set_option linter.unnecessarySimpa false
namespace Go.Br
open Go
instance biNetNewLawa (x0 : Int) : Bld PG (Instr.build 27 #[(0, .int .u64 x0)]) (.agg #[.int .u64 x0, .int .u64 0]) := ⟨fun w => by kernel_rfl⟩
instance biNetNewLawb (x0 : Int) : Bld PG (Instr.build 69 #[(0, .int .i64 x0)]) (.agg #[.int .i64 x0, .slice none 0 0, .slice none 0 0]) := ⟨fun w => by kernel_rfl⟩
instance biNetNewLawc : Zro PG 85 3 40 (.agg #[.int .i64 0, .int .i64 0, .slice none 0 0]) := ⟨tiOf (by kernel_rfl)⟩
attribute [local irreducible] Addr.add RD RDS RUN RUNU NILC LETB CALL CALLX CALLV

/-- A host that listens at a port. -/
def hostL (g : Cfg) (k0 k1 : Int) (r : Nat) (A : Option Addr) (d : Nat) : Hst := { host0 g k0 k1 r with ports := A, portsN := 1, portsC := d }
def net0 (p q : Nat) : Nt := ⟨p, q, none, 0, 0, none, 0, 0, 0⟩
section
variable {c : Ctx} {w : World} {L R : List SA}
theorem nnew_ok (h : St c w L) (g : Cfg) {a0 a1 b0 b1 : Int} {Q : Value → World → Prop} (hbad : ¬ CfgOk g → ∀ w', St c w' L → Q (.tuple #[.pointer none, .int .i64 200]) w')
    (hok : CfgOk g → ∀ n p r q s w', St c w' (blk n 46 (ntc (net0 p q)) :: blk p 62 (hst (host0 g a0 a1 r)) :: mp r [] :: blk q 62 (hst (host0 g b0 b1 s)) :: mp s [] :: L) → Q (.tuple #[.pointer (some ⟨n, 0, none⟩), .int .i64 0]) w') :
    CALL PG 4 [cfgv g, .agg #[.int .u64 a0, .int .u64 a1], .agg #[.int .u64 b0, .int .u64 b1]] w Q := by
  refine call4 ?_
  unfold N4
  refine h.box (vs := cfg g) fun e1 w' h => ?_
  refine h.box fun e2 w' h => ?_
  refine h.box fun e3 w' h => ?_
  refine h.rdG (B := e1) ?_
  (repeat (first | apply Exists.intro (α := Int) | apply Exists.intro (α := Bool) | apply Exists.intro (α := ByteArray) | (apply Exists.intro (α := Option Addr); apply Exists.intro (α := Nat); apply Exists.intro (α := Nat)) | apply Exists.intro (α := Option Addr) | apply Exists.intro (α := Value)))
  refine ⟨rfl, ?_⟩
  refine h.rdG (B := e2) ?_
  (repeat (first | apply Exists.intro (α := Int) | apply Exists.intro (α := Bool) | apply Exists.intro (α := ByteArray) | (apply Exists.intro (α := Option Addr); apply Exists.intro (α := Nat); apply Exists.intro (α := Nat)) | apply Exists.intro (α := Option Addr) | apply Exists.intro (α := Value)))
  refine ⟨rfl, ?_⟩
  refine hnew_ok h g (fun hb w' h => ?_) fun hg p r w' h => ?_
  · (repeat (first | apply Exists.intro (α := Int) | apply Exists.intro (α := Bool) | apply Exists.intro (α := ByteArray) | (apply Exists.intro (α := Option Addr); apply Exists.intro (α := Nat); apply Exists.intro (α := Nat)) | apply Exists.intro (α := Option Addr) | apply Exists.intro (α := Value)))
    refine ⟨rfl, ?_⟩
    exact leti rfl (ifn (fun _ => leti rfl (hbad hb _ h.drop.drop.drop)) fun e => by cases e)
  (repeat (first | apply Exists.intro (α := Int) | apply Exists.intro (α := Bool) | apply Exists.intro (α := ByteArray) | (apply Exists.intro (α := Option Addr); apply Exists.intro (α := Nat); apply Exists.intro (α := Nat)) | apply Exists.intro (α := Option Addr) | apply Exists.intro (α := Value)))
  refine ⟨rfl, ?_⟩
  refine leti rfl (ifnsame rfl ?_)
  refine h.rdG (B := e1) ?_
  (repeat (first | apply Exists.intro (α := Int) | apply Exists.intro (α := Bool) | apply Exists.intro (α := ByteArray) | (apply Exists.intro (α := Option Addr); apply Exists.intro (α := Nat); apply Exists.intro (α := Nat)) | apply Exists.intro (α := Option Addr) | apply Exists.intro (α := Value)))
  refine ⟨rfl, ?_⟩
  refine h.rdG (B := e3) ?_
  (repeat (first | apply Exists.intro (α := Int) | apply Exists.intro (α := Bool) | apply Exists.intro (α := ByteArray) | (apply Exists.intro (α := Option Addr); apply Exists.intro (α := Nat); apply Exists.intro (α := Nat)) | apply Exists.intro (α := Option Addr) | apply Exists.intro (α := Value)))
  refine ⟨rfl, ?_⟩
  refine hnew_ok h g (fun hb => absurd hg hb) fun _ q s w' h => ?_
  (repeat (first | apply Exists.intro (α := Int) | apply Exists.intro (α := Bool) | apply Exists.intro (α := ByteArray) | (apply Exists.intro (α := Option Addr); apply Exists.intro (α := Nat); apply Exists.intro (α := Nat)) | apply Exists.intro (α := Option Addr) | apply Exists.intro (α := Value)))
  refine ⟨rfl, ?_⟩
  refine leti rfl (ifnsame rfl ?_)
  have b2 : (Instr.build 44 #[(0, .pointer (some ⟨p, 0, none⟩)), (1, .pointer (some ⟨q, 0, none⟩))]).run PG w' = .ok (.agg #[.pointer (some ⟨p, 0, none⟩), .pointer (some ⟨q, 0, none⟩)]) w' := by kernel_rfl
  refine RD.of b2 ⟨_, rfl, ?_⟩
  have b3 : (Instr.build 46 #[(0, .agg #[.pointer (some ⟨p, 0, none⟩), .pointer (some ⟨q, 0, none⟩)])]).run PG w' = .ok (.agg (ntc (net0 p q)).toArray) w' := by kernel_rfl
  refine RD.of b3 ⟨_, rfl, ?_⟩
  refine h.box (vs := ntc (net0 p q)) fun n w' h => ?_
  exact hok hg n p r q s _ (h.sub (.cons .head (.cons (.tail (.tail .head)) (.cons (.tail (.tail .head)) (.cons .head (.cons .head ((Sub.same _).more.more.more)))))))
theorem ledger0_ok {n p q : Nat} (h : St c w (blk n 46 (ntc (net0 p q)) :: L)) {Q : Value → World → Prop} (hk : ∀ w', St c w' (blk n 46 (ntc (net0 p q)) :: L) → Q (.slice none 0 0) w') : CALL PG 9 [.pointer (some ⟨n, 0, none⟩)] w Q := by
  refine call9 ?_
  unfold N9
  refine nilc (h.rdL 3 ?_)
  refine call18 ?_
  unfold N18
  refine ⟨fun m a an ac x w => m = 0 ∧ a = none ∧ an = 0 ∧ ac = 0 ∧ x = 0 ∧ St c w (blk n 46 (ntc (net0 p q)) :: L), ⟨0, rfl, rfl, rfl, rfl, rfl, h⟩, ?_⟩
  clear h
  rintro m a an ac x w' ⟨rfl, rfl, rfl, rfl, rfl, h⟩
  exact ifdf (by show ¬ ((0 : Int) < 0); decide) ⟨_, _, _, rfl, hk _ h⟩
/-- A host without ports listens at one. -/
theorem listenN_ok {g : Cfg} {k0 k1 a : Int} {p r : Nat} (h : St c w (blk p 62 (hst (host0 g k0 k1 r)) :: L)) (ha : 1 ≤ a ∧ a ≤ 65535) (hg : 1 ≤ g.ports) {Q : Value → World → Prop}
    (hk : ∀ A d q w', St c w' (blk p 62 (hst (hostL g k0 k1 r A d)) :: own 64 1 A 1 d [.pointer (some ⟨q, 0, none⟩)] :: blk q 69 (prt a) :: L) → Q (.int .i64 0) w') : CALL PG 13 [.pointer (some ⟨p, 0, none⟩), .int .i64 a] w Q := by
  refine call13 ?_
  unfold N13
  refine good_ok ?_
  (repeat (first | apply Exists.intro (α := Int) | apply Exists.intro (α := Bool) | apply Exists.intro (α := ByteArray) | (apply Exists.intro (α := Option Addr); apply Exists.intro (α := Nat); apply Exists.intro (α := Nat)) | apply Exists.intro (α := Option Addr) | apply Exists.intro (α := Value)))
  refine ⟨rfl, ?_⟩
  refine letb rfl (iff_ (by rw [decide_eq_true ha]; rfl) ?_)
  refine listen0_ok (h := (h : St c w (blk p 62 (hcs 0 g k0 k1 0 none 0 0 r) :: L))) fun w' h => ?_
  (repeat (first | apply Exists.intro (α := Int) | apply Exists.intro (α := Bool) | apply Exists.intro (α := ByteArray) | (apply Exists.intro (α := Option Addr); apply Exists.intro (α := Nat); apply Exists.intro (α := Nat)) | apply Exists.intro (α := Option Addr) | apply Exists.intro (α := Value)))
  refine ⟨rfl, ?_⟩
  refine letb rfl (iff_ rfl ?_)
  have h := h.drew
  refine nilc (h.rdL 28 (nilc ?_))
  refine h.rdI2 10 0 ?_
  refine letb rfl (ifdf (by show ¬ (g.ports ≤ 0); omega) ?_)
  refine nilc (h.rdL 28 ?_)
  refine RD.bld ?_
  (repeat (first | apply Exists.intro (α := Int) | apply Exists.intro (α := Bool) | apply Exists.intro (α := ByteArray) | (apply Exists.intro (α := Option Addr); apply Exists.intro (α := Nat); apply Exists.intro (α := Nat)) | apply Exists.intro (α := Option Addr) | apply Exists.intro (α := Value)))
  refine ⟨rfl, ?_⟩
  refine h.box fun q w' h => ?_
  have h := h.addOwnNil 64 1
  refine h.app1 huPorts tiPortp [.pointer (some ⟨q, 0, none⟩)] .head (by intro v hv; simp at hv; rw [hv]; rfl) (by decide) fun A d w' h => ?_
  refine nilc ?_
  refine h.st 28 fun w' h => ?_
  have h : St c w' (blk p 62 (hst (hostL g k0 k1 r A d)) :: own 64 1 A 1 d [.pointer (some ⟨q, 0, none⟩)] :: blk q 69 (prt a) :: L) := h
  exact hk _ _ _ _ h
theorem alive24_ok (h : St c w L) {Q : Value → World → Prop} (hk : ∀ w', St c w' L → Q (.bool true) w') : CALL PG 6 [] w Q := by
  refine call6 ?_
  unfold N6
  refine usual_okC h fun w' h => ?_
  (repeat (first | apply Exists.intro (α := Int) | apply Exists.intro (α := Bool) | apply Exists.intro (α := ByteArray) | (apply Exists.intro (α := Option Addr); apply Exists.intro (α := Nat); apply Exists.intro (α := Nat)) | apply Exists.intro (α := Option Addr) | apply Exists.intro (α := Value)))
  refine ⟨rfl, ?_⟩
  refine RD.bld ?_
  (repeat (first | apply Exists.intro (α := Int) | apply Exists.intro (α := Bool) | apply Exists.intro (α := ByteArray) | (apply Exists.intro (α := Option Addr); apply Exists.intro (α := Nat); apply Exists.intro (α := Nat)) | apply Exists.intro (α := Option Addr) | apply Exists.intro (α := Value)))
  refine ⟨rfl, ?_⟩
  refine RD.bld ?_
  (repeat (first | apply Exists.intro (α := Int) | apply Exists.intro (α := Bool) | apply Exists.intro (α := ByteArray) | (apply Exists.intro (α := Option Addr); apply Exists.intro (α := Nat); apply Exists.intro (α := Nat)) | apply Exists.intro (α := Option Addr) | apply Exists.intro (α := Value)))
  refine ⟨rfl, ?_⟩
  refine nnew_ok h usual (fun e => absurd usual_ok e) fun _ n p r q s w' h => ?_
  (repeat (first | apply Exists.intro (α := Int) | apply Exists.intro (α := Bool) | apply Exists.intro (α := ByteArray) | (apply Exists.intro (α := Option Addr); apply Exists.intro (α := Nat); apply Exists.intro (α := Nat)) | apply Exists.intro (α := Option Addr) | apply Exists.intro (α := Value)))
  refine ⟨rfl, ?_⟩
  refine leti rfl (ifnsame rfl (iff_ rfl ?_))
  refine nhost_ok h (.inl rfl) fun w' h => ?_
  (repeat (first | apply Exists.intro (α := Int) | apply Exists.intro (α := Bool) | apply Exists.intro (α := ByteArray) | (apply Exists.intro (α := Option Addr); apply Exists.intro (α := Nat); apply Exists.intro (α := Nat)) | apply Exists.intro (α := Option Addr) | apply Exists.intro (α := Value)))
  refine ⟨rfl, ?_⟩
  refine iff_ rfl ?_
  refine nhost_ok h (.inr rfl) fun w' h => ?_
  (repeat (first | apply Exists.intro (α := Int) | apply Exists.intro (α := Bool) | apply Exists.intro (α := ByteArray) | (apply Exists.intro (α := Option Addr); apply Exists.intro (α := Nat); apply Exists.intro (α := Nat)) | apply Exists.intro (α := Option Addr) | apply Exists.intro (α := Value)))
  refine ⟨rfl, ?_⟩
  refine iff_ rfl ?_
  refine nhost_ok h (.inr rfl) fun w' h => ?_
  (repeat (first | apply Exists.intro (α := Int) | apply Exists.intro (α := Bool) | apply Exists.intro (α := ByteArray) | (apply Exists.intro (α := Option Addr); apply Exists.intro (α := Nat); apply Exists.intro (α := Nat)) | apply Exists.intro (α := Option Addr) | apply Exists.intro (α := Value)))
  refine ⟨rfl, ?_⟩
  refine listenN_ok (h.sub (show Sub _ (blk q 62 (hst (host0 usual 2 0 s)) :: blk n 46 (ntc (net0 p q)) :: blk p 62 (hst (host0 usual 1 0 r)) :: mp r [] :: mp s [] :: L) from (.cons (.tail (.tail (.tail .head))) (.cons .head (.cons .head (.cons .head (.cons .head ((Sub.same _))))))))) (by decide) (by decide) fun A d y w' h => ?_
  (repeat (first | apply Exists.intro (α := Int) | apply Exists.intro (α := Bool) | apply Exists.intro (α := ByteArray) | (apply Exists.intro (α := Option Addr); apply Exists.intro (α := Nat); apply Exists.intro (α := Nat)) | apply Exists.intro (α := Option Addr) | apply Exists.intro (α := Value)))
  refine ⟨rfl, ?_⟩
  refine leti rfl ?_
  refine nhost_ok (h.sub (show Sub _ (blk n 46 (ntc (net0 p q)) :: blk p 62 (hst (host0 usual 1 0 r)) :: mp r [] :: blk q 62 (hst (hostL usual 2 0 s A d)) :: L) from (.cons (.tail (.tail (.tail .head))) (.cons (.tail (.tail (.tail .head))) (.cons (.tail (.tail (.tail .head))) (.cons .head ((Sub.same _).more.more.more))))))) (.inl rfl) fun w' h => ?_
  (repeat (first | apply Exists.intro (α := Int) | apply Exists.intro (α := Bool) | apply Exists.intro (α := ByteArray) | (apply Exists.intro (α := Option Addr); apply Exists.intro (α := Nat); apply Exists.intro (α := Nat)) | apply Exists.intro (α := Option Addr) | apply Exists.intro (α := Value)))
  refine ⟨rfl, ?_⟩
  refine connect0_ok (h.sub (show Sub _ (blk p 62 (hst (host0 usual 1 0 r)) :: mp r [] :: blk n 46 (ntc (net0 p q)) :: blk q 62 (hst (hostL usual 2 0 s A d)) :: L) from (.cons (.tail .head) (.cons (.tail .head) (.cons .head (.cons .head ((Sub.same _)))))))) usual_ok (by decide) (by decide) (by decide) (by decide) fun m fA fC pA pC pk w' e1 e2 h => ?_
  (repeat (first | apply Exists.intro (α := Int) | apply Exists.intro (α := Bool) | apply Exists.intro (α := ByteArray) | (apply Exists.intro (α := Option Addr); apply Exists.intro (α := Nat); apply Exists.intro (α := Nat)) | apply Exists.intro (α := Option Addr) | apply Exists.intro (α := Value)))
  refine ⟨rfl, ?_⟩
  refine leti rfl (leti rfl ?_)
  have h := h.sub (show Sub _ (blk n 46 (ntc (net0 p q)) :: blk q 62 (hst (hostL usual 2 0 s A d)) :: blk p 62 (hst { host0 usual 1 0 r with srcN := 2, nx := 2, post := pA, postN := 1, postC := pC }) :: own 82 2 pA 1 pC (([pk] : List Pkt).flatMap pkc) :: bodP [pk] :: L) from (.cons (.tail (.tail (.tail (.tail (.tail (.tail (.tail (.tail (.tail (.tail (.tail (.tail (.tail (.tail (.tail (.tail (.tail (.tail (.tail (.tail (.tail .head))))))))))))))))))))) (.cons (.tail (.tail (.tail (.tail (.tail (.tail (.tail (.tail (.tail (.tail (.tail (.tail (.tail (.tail (.tail (.tail (.tail (.tail (.tail (.tail (.tail .head))))))))))))))))))))) (.cons .head (.cons (.tail .head) (.cons (.tail .head) ((Sub.same _).more.more.more.more.more.more.more.more.more.more.more.more.more.more.more.more.more.more)))))))
  have h := (((((h.addOwnNil 85 3).addBodF0).addOwnNil 85 3).addBodF0).addOwnNil 82 2).addBod0
  have h : St c w' (ntP n (net0 p q) [] [] (hoP p { host0 usual 1 0 r with srcN := 2, nx := 2, post := pA, postN := 1, postC := pC } [pk] (hoP q (hostL usual 2 0 s A d) [] L))) := h.sub (.cons (.tail (.tail (.tail (.tail (.tail (.tail .head)))))) (.cons (.tail (.tail (.tail .head))) (.cons (.tail (.tail .head)) (.cons (.tail (.tail (.tail .head))) (.cons (.tail (.tail .head)) (.cons (.tail (.tail (.tail .head))) (.cons (.tail (.tail (.tail .head))) (.cons (.tail (.tail (.tail .head))) (.cons (.tail (.tail .head)) (.cons (.tail .head) (.cons .head ((Sub.same _)))))))))))))
  have hlen : pk.bs.length = 24 := by rw [e2]; simp [encB, askS, hdB, obs, obP, keyB, beB_length]
  refine ngather_ok (N := net0 p q) h rfl rfl rfl rfl (show (0 : Int) ≤ 0 ∧ (0 : Int) < 100000000 by decide) (show 0 + 1 + 0 ≤ 1000000 by decide) (fun x hx => ?_) fun N' fs' ls' w' hN h => ⟨rfl, ?_⟩
  · simp at hx
    subst hx
    omega
  refine ift rfl (ift rfl (ift rfl ?_))
  have hw := hN.way
  have hl := hN.ledL
  have hf := hN.fsN
  simp [flyS, net0] at hw
  obtain ⟨⟨y1, rfl, _⟩, hw2⟩ := hw
  have hlen2 : ([y1] : List Fyg).length = 1 := rfl
  simp at hl
  refine waits_ok h fun w' h => ?_
  (repeat (first | apply Exists.intro (α := Int) | apply Exists.intro (α := Bool) | apply Exists.intro (α := ByteArray) | (apply Exists.intro (α := Option Addr); apply Exists.intro (α := Nat); apply Exists.intro (α := Nat)) | apply Exists.intro (α := Option Addr) | apply Exists.intro (α := Value)))
  refine ⟨rfl, ?_⟩
  refine ift (by rw [← hf, hlen2]; rfl) ?_
  refine nsent_ok h fun w' h => ?_
  (repeat (first | apply Exists.intro (α := Int) | apply Exists.intro (α := Bool) | apply Exists.intro (α := ByteArray) | (apply Exists.intro (α := Option Addr); apply Exists.intro (α := Nat); apply Exists.intro (α := Nat)) | apply Exists.intro (α := Option Addr) | apply Exists.intro (α := Value)))
  refine ⟨rfl, ?_⟩
  refine ift (by rw [hl]; rfl) ?_
  refine lost_ok h fun w' h => ?_
  (repeat (first | apply Exists.intro (α := Int) | apply Exists.intro (α := Bool) | apply Exists.intro (α := ByteArray) | (apply Exists.intro (α := Option Addr); apply Exists.intro (α := Nat); apply Exists.intro (α := Nat)) | apply Exists.intro (α := Option Addr) | apply Exists.intro (α := Value)))
  refine ⟨rfl, ?_⟩
  refine letb (y := true) (by rw [hw2]; rfl) ?_
  exact hk _ (h.sub ((Sub.same _).more.more.more.more.more.more.more))
theorem netnew_ok (h : St c w L) (g : Cfg) {a0 a1 b0 b1 : Int} {Q : Value → World → Prop} (hk : ∀ w', St c w' L → Q (.bool true) w') : CALL PG 3 [cfgv g, .agg #[.int .u64 a0, .int .u64 a1, .int .u64 b0, .int .u64 b1]] w Q := by
  refine call3 ?_
  unfold N3
  refine h.box (vs := cfg g) fun e1 w' h => ?_
  refine h.box fun e2 w' h => ?_
  refine h.rdG (B := e1) ?_
  (repeat (first | apply Exists.intro (α := Int) | apply Exists.intro (α := Bool) | apply Exists.intro (α := ByteArray) | (apply Exists.intro (α := Option Addr); apply Exists.intro (α := Nat); apply Exists.intro (α := Nat)) | apply Exists.intro (α := Option Addr) | apply Exists.intro (α := Value)))
  refine ⟨rfl, ?_⟩
  refine h.rdGo (B := e2) 0 2 ?_
  (repeat (first | apply Exists.intro (α := Int) | apply Exists.intro (α := Bool) | apply Exists.intro (α := ByteArray) | (apply Exists.intro (α := Option Addr); apply Exists.intro (α := Nat); apply Exists.intro (α := Nat)) | apply Exists.intro (α := Option Addr) | apply Exists.intro (α := Value)))
  refine ⟨rfl, ?_⟩
  refine h.rdGo (B := e2) 2 2 ?_
  (repeat (first | apply Exists.intro (α := Int) | apply Exists.intro (α := Bool) | apply Exists.intro (α := ByteArray) | (apply Exists.intro (α := Option Addr); apply Exists.intro (α := Nat); apply Exists.intro (α := Nat)) | apply Exists.intro (α := Option Addr) | apply Exists.intro (α := Value)))
  refine ⟨rfl, ?_⟩
  refine nnew_ok h g (fun hb w' h => ?_) fun hg n p r q s w' h => ?_
  · (repeat (first | apply Exists.intro (α := Int) | apply Exists.intro (α := Bool) | apply Exists.intro (α := ByteArray) | (apply Exists.intro (α := Option Addr); apply Exists.intro (α := Nat); apply Exists.intro (α := Nat)) | apply Exists.intro (α := Option Addr) | apply Exists.intro (α := Value)))
    refine ⟨rfl, ?_⟩
    refine leti rfl ?_
    refine h.rdG (B := e1) ?_
    (repeat (first | apply Exists.intro (α := Int) | apply Exists.intro (α := Bool) | apply Exists.intro (α := ByteArray) | (apply Exists.intro (α := Option Addr); apply Exists.intro (α := Nat); apply Exists.intro (α := Nat)) | apply Exists.intro (α := Option Addr) | apply Exists.intro (α := Value)))
    refine ⟨rfl, ?_⟩
    refine rright_ok h g fun w' h => ?_
    (repeat (first | apply Exists.intro (α := Int) | apply Exists.intro (α := Bool) | apply Exists.intro (α := ByteArray) | (apply Exists.intro (α := Option Addr); apply Exists.intro (α := Nat); apply Exists.intro (α := Nat)) | apply Exists.intro (α := Option Addr) | apply Exists.intro (α := Value)))
    refine ⟨rfl, ?_⟩
    rw [decide_eq_false hb]
    refine ift rfl (ift rfl (ift rfl ?_))
    refine alive24_ok h fun w' h => ?_
    (repeat (first | apply Exists.intro (α := Int) | apply Exists.intro (α := Bool) | apply Exists.intro (α := ByteArray) | (apply Exists.intro (α := Option Addr); apply Exists.intro (α := Nat); apply Exists.intro (α := Nat)) | apply Exists.intro (α := Option Addr) | apply Exists.intro (α := Value)))
    refine ⟨rfl, ?_⟩
    exact letb rfl (hk _ h.drop.drop)
  · (repeat (first | apply Exists.intro (α := Int) | apply Exists.intro (α := Bool) | apply Exists.intro (α := ByteArray) | (apply Exists.intro (α := Option Addr); apply Exists.intro (α := Nat); apply Exists.intro (α := Nat)) | apply Exists.intro (α := Option Addr) | apply Exists.intro (α := Value)))
    refine ⟨rfl, ?_⟩
    refine leti rfl ?_
    refine h.rdG (B := e1) ?_
    (repeat (first | apply Exists.intro (α := Int) | apply Exists.intro (α := Bool) | apply Exists.intro (α := ByteArray) | (apply Exists.intro (α := Option Addr); apply Exists.intro (α := Nat); apply Exists.intro (α := Nat)) | apply Exists.intro (α := Option Addr) | apply Exists.intro (α := Value)))
    refine ⟨rfl, ?_⟩
    refine rright_ok h g fun w' h => ?_
    (repeat (first | apply Exists.intro (α := Int) | apply Exists.intro (α := Bool) | apply Exists.intro (α := ByteArray) | (apply Exists.intro (α := Option Addr); apply Exists.intro (α := Nat); apply Exists.intro (α := Nat)) | apply Exists.intro (α := Option Addr) | apply Exists.intro (α := Value)))
    refine ⟨rfl, ?_⟩
    rw [decide_eq_true hg]
    refine iff_ rfl (ift rfl (ift rfl ?_))
    refine nhost_ok h (.inl rfl) fun w' h => ?_
    (repeat (first | apply Exists.intro (α := Int) | apply Exists.intro (α := Bool) | apply Exists.intro (α := ByteArray) | (apply Exists.intro (α := Option Addr); apply Exists.intro (α := Nat); apply Exists.intro (α := Nat)) | apply Exists.intro (α := Option Addr) | apply Exists.intro (α := Value)))
    refine ⟨rfl, ?_⟩
    refine ift rfl ?_
    refine nhost_ok h (.inr rfl) fun w' h => ?_
    (repeat (first | apply Exists.intro (α := Int) | apply Exists.intro (α := Bool) | apply Exists.intro (α := ByteArray) | (apply Exists.intro (α := Option Addr); apply Exists.intro (α := Nat); apply Exists.intro (α := Nat)) | apply Exists.intro (α := Option Addr) | apply Exists.intro (α := Value)))
    refine ⟨rfl, ?_⟩
    refine ift rfl ?_
    refine waits_ok h fun w' h => ?_
    (repeat (first | apply Exists.intro (α := Int) | apply Exists.intro (α := Bool) | apply Exists.intro (α := ByteArray) | (apply Exists.intro (α := Option Addr); apply Exists.intro (α := Nat); apply Exists.intro (α := Nat)) | apply Exists.intro (α := Option Addr) | apply Exists.intro (α := Value)))
    refine ⟨rfl, ?_⟩
    refine ift rfl ?_
    refine ledger0_ok h fun w' h => ?_
    (repeat (first | apply Exists.intro (α := Int) | apply Exists.intro (α := Bool) | apply Exists.intro (α := ByteArray) | (apply Exists.intro (α := Option Addr); apply Exists.intro (α := Nat); apply Exists.intro (α := Nat)) | apply Exists.intro (α := Option Addr) | apply Exists.intro (α := Value)))
    refine ⟨rfl, ?_⟩
    refine ift rfl ?_
    refine alive24_ok h fun w' h => ?_
    (repeat (first | apply Exists.intro (α := Int) | apply Exists.intro (α := Bool) | apply Exists.intro (α := ByteArray) | (apply Exists.intro (α := Option Addr); apply Exists.intro (α := Nat); apply Exists.intro (α := Nat)) | apply Exists.intro (α := Option Addr) | apply Exists.intro (α := Value)))
    refine ⟨rfl, ?_⟩
    exact letb rfl (hk _ (h.sub ((Sub.same _).more.more.more.more.more.more.more)))
end
end Go.Br
