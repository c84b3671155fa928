/- The law of bytes that come twice. -/
import Derived.Test.YtccmlfekmmeloaaNInletTwiceLaw
import Derived.Test.YtccmlfekmmeloaaInletLaw
import Derived.Test.YtccmlfekmmeloaaInletPure2
import Derived.Test.YtccmlfekmmeloaaInletRef2
set_option linter.unusedVariables false
set_option linter.unusedSimpArgs false
set_option linter.unnecessarySimpa false
namespace Go.Br
open Go
instance biInletTwiceLawa : Zro PG 78 6 80 (.agg #[.int .u64 0, .slice none 0 0, .slice none 0 0, .int .i64 0, .int .u64 0, .bool false]) := ⟨tiOf (by kernel_rfl)⟩
attribute [local irreducible] Addr.add RD RDS RUN RUNU NILC LETB CALL CALLX CALLV

section
variable {c : Ctx} {w : World} {L R : List SA} {p r D sp n : Nat} {base e most : Int} {kn : Bool} {v : List UInt8} {S : List Sp}
theorem ipieces_ok (h : St c w (il p r D sp base e kn v n most S R)) (hl : S.length ≤ 1000) {Q : Value → World → Prop} (hk : ∀ w', St c w' (il p r D sp base e kn v n most S R) → Q (.int .i64 (S.length : Int)) w') : CALL PG 35 [.pointer (some ⟨p, 0, none⟩)] w Q := by
  refine call35 ?_
  unfold N35
  repeat' (first
    | refine nilc ?_
    | refine h.rdI _ ?_
    | refine h.rdB _ ?_
    | refine h.rdP _ ?_
    | refine h.rdL _ ?_
    | refine h.rdT _ ?_
    | refine h.rdI2 _ _ ?_
    | refine h.rdB2 _ _ ?_
    | refine h.rdP2 _ _ ?_
    | refine h.rdL2 _ _ ?_
    | refine h.st2 _ _ fun w' h => ?_
    | refine h.st _ fun w' h => ?_
    | refine h.rdvI ?_
    | refine h.rdvB ?_
    | refine h.rdvP ?_
    | refine h.rdvL ?_
    | refine h.rdvT ?_
    | (refine h.rdG ?_; (repeat (first | apply Exists.intro (α := Int) | apply Exists.intro (α := Bool) | apply Exists.intro (α := ByteArray) | (apply Exists.intro (α := Option Addr); apply Exists.intro (α := Nat); apply Exists.intro (α := Nat)) | apply Exists.intro (α := Option Addr) | apply Exists.intro (α := Value))); refine ⟨rfl, ?_⟩)
    | refine h.stG fun w' h => ?_
    | refine h.stV fun w' h => ?_
    | refine h.box fun p w' h => ?_
    | refine h.boxV fun p w' h => ?_
    | refine h.allocZ fun p w' h => ?_
    | refine h.allocZV fun p w' h => ?_
    | (refine RD.bld ?_; (repeat (first | apply Exists.intro (α := Int) | apply Exists.intro (α := Bool) | apply Exists.intro (α := ByteArray) | (apply Exists.intro (α := Option Addr); apply Exists.intro (α := Nat); apply Exists.intro (α := Nat)) | apply Exists.intro (α := Option Addr) | apply Exists.intro (α := Value))); refine ⟨rfl, ?_⟩)
    | (refine RDS.bld ?_; (repeat (first | apply Exists.intro (α := Int) | apply Exists.intro (α := Bool) | apply Exists.intro (α := ByteArray) | (apply Exists.intro (α := Option Addr); apply Exists.intro (α := Nat); apply Exists.intro (α := Nat)) | apply Exists.intro (α := Option Addr) | apply Exists.intro (α := Value))); refine ⟨rfl, ?_⟩)
    | refine St.rdsI _ ?_
    | refine St.rdsB _ ?_
    | refine St.rdsP _ ?_
    | refine St.rdsL _ ?_
    | refine St.rdsT _ ?_
    | refine St.rdsI2 _ _ ?_
    | refine St.rdsB2 _ _ ?_
    | (refine St.rdsG ?_; (repeat (first | apply Exists.intro (α := Int) | apply Exists.intro (α := Bool) | apply Exists.intro (α := ByteArray) | (apply Exists.intro (α := Option Addr); apply Exists.intro (α := Nat); apply Exists.intro (α := Nat)) | apply Exists.intro (α := Option Addr) | apply Exists.intro (α := Value))); refine ⟨rfl, ?_⟩)
    | refine letb rfl ?_
    | refine sat h ?_
    | (have h := h.drew; refine sat h ?_)
    | refine sat1 h (fun _ h => h.to) ?_)
  refine slist_ok h (.tail (.tail .head)) hl fun O d w' h => ?_
  (repeat (first | apply Exists.intro (α := Int) | apply Exists.intro (α := Bool) | apply Exists.intro (α := ByteArray) | (apply Exists.intro (α := Option Addr); apply Exists.intro (α := Nat); apply Exists.intro (α := Nat)) | apply Exists.intro (α := Option Addr) | apply Exists.intro (α := Value)))
  refine ⟨rfl, ?_⟩
  exact leti rfl (hk _ h.drop)
def ackV (base : Int) (n : Nat) (e : Int) (kn : Bool) : Int := if kn = true then (if base + n = e then base + n + 1 else base + n) else base + n
theorem iack_ok (h : St c w (il p r D sp base e kn v n most S R)) (hb : 0 ≤ base) (hb2 : base + v.length < 9223372036854775808) {Q : Value → World → Prop} (hk : ∀ w', St c w' (il p r D sp base e kn v n most S R) → Q (.int .u64 (ackV base n e kn)) w') : CALL PG 36 [.pointer (some ⟨p, 0, none⟩)] w Q := by
  have hf := h.rngF (.tail .head)
  unfold ackV at hk
  refine call36 ?_
  unfold N36
  refine next_ok h hb (by omega) fun w' h => ?_
  (repeat (first | apply Exists.intro (α := Int) | apply Exists.intro (α := Bool) | apply Exists.intro (α := ByteArray) | (apply Exists.intro (α := Option Addr); apply Exists.intro (α := Nat); apply Exists.intro (α := Nat)) | apply Exists.intro (α := Option Addr) | apply Exists.intro (α := Value)))
  refine ⟨rfl, ?_⟩
  refine leti rfl ?_
  repeat' (first
    | refine nilc ?_
    | refine h.rdI _ ?_
    | refine h.rdB _ ?_
    | refine h.rdP _ ?_
    | refine h.rdL _ ?_
    | refine h.rdT _ ?_
    | refine h.rdI2 _ _ ?_
    | refine h.rdB2 _ _ ?_
    | refine h.rdP2 _ _ ?_
    | refine h.rdL2 _ _ ?_
    | refine h.st2 _ _ fun w' h => ?_
    | refine h.st _ fun w' h => ?_
    | refine h.rdvI ?_
    | refine h.rdvB ?_
    | refine h.rdvP ?_
    | refine h.rdvL ?_
    | refine h.rdvT ?_
    | (refine h.rdG ?_; (repeat (first | apply Exists.intro (α := Int) | apply Exists.intro (α := Bool) | apply Exists.intro (α := ByteArray) | (apply Exists.intro (α := Option Addr); apply Exists.intro (α := Nat); apply Exists.intro (α := Nat)) | apply Exists.intro (α := Option Addr) | apply Exists.intro (α := Value))); refine ⟨rfl, ?_⟩)
    | refine h.stG fun w' h => ?_
    | refine h.stV fun w' h => ?_
    | refine h.box fun p w' h => ?_
    | refine h.boxV fun p w' h => ?_
    | refine h.allocZ fun p w' h => ?_
    | refine h.allocZV fun p w' h => ?_
    | (refine RD.bld ?_; (repeat (first | apply Exists.intro (α := Int) | apply Exists.intro (α := Bool) | apply Exists.intro (α := ByteArray) | (apply Exists.intro (α := Option Addr); apply Exists.intro (α := Nat); apply Exists.intro (α := Nat)) | apply Exists.intro (α := Option Addr) | apply Exists.intro (α := Value))); refine ⟨rfl, ?_⟩)
    | (refine RDS.bld ?_; (repeat (first | apply Exists.intro (α := Int) | apply Exists.intro (α := Bool) | apply Exists.intro (α := ByteArray) | (apply Exists.intro (α := Option Addr); apply Exists.intro (α := Nat); apply Exists.intro (α := Nat)) | apply Exists.intro (α := Option Addr) | apply Exists.intro (α := Value))); refine ⟨rfl, ?_⟩)
    | refine St.rdsI _ ?_
    | refine St.rdsB _ ?_
    | refine St.rdsP _ ?_
    | refine St.rdsL _ ?_
    | refine St.rdsT _ ?_
    | refine St.rdsI2 _ _ ?_
    | refine St.rdsB2 _ _ ?_
    | (refine St.rdsG ?_; (repeat (first | apply Exists.intro (α := Int) | apply Exists.intro (α := Bool) | apply Exists.intro (α := ByteArray) | (apply Exists.intro (α := Option Addr); apply Exists.intro (α := Nat); apply Exists.intro (α := Nat)) | apply Exists.intro (α := Option Addr) | apply Exists.intro (α := Value))); refine ⟨rfl, ?_⟩)
    | refine letb rfl ?_
    | refine sat h ?_
    | (have h := h.drew; refine sat h ?_)
    | refine sat1 h (fun _ h => h.to) ?_)
  refine ifb (fun e1 => ?_) fun e1 => ?_
  · rw [if_pos e1] at hk
    repeat' (first
      | refine nilc ?_
      | refine h.rdI _ ?_
      | refine h.rdB _ ?_
      | refine h.rdP _ ?_
      | refine h.rdL _ ?_
      | refine h.rdT _ ?_
      | refine h.rdI2 _ _ ?_
      | refine h.rdB2 _ _ ?_
      | refine h.rdP2 _ _ ?_
      | refine h.rdL2 _ _ ?_
      | refine h.st2 _ _ fun w' h => ?_
      | refine h.st _ fun w' h => ?_
      | refine h.rdvI ?_
      | refine h.rdvB ?_
      | refine h.rdvP ?_
      | refine h.rdvL ?_
      | refine h.rdvT ?_
      | (refine h.rdG ?_; (repeat (first | apply Exists.intro (α := Int) | apply Exists.intro (α := Bool) | apply Exists.intro (α := ByteArray) | (apply Exists.intro (α := Option Addr); apply Exists.intro (α := Nat); apply Exists.intro (α := Nat)) | apply Exists.intro (α := Option Addr) | apply Exists.intro (α := Value))); refine ⟨rfl, ?_⟩)
      | refine h.stG fun w' h => ?_
      | refine h.stV fun w' h => ?_
      | refine h.box fun p w' h => ?_
      | refine h.boxV fun p w' h => ?_
      | refine h.allocZ fun p w' h => ?_
      | refine h.allocZV fun p w' h => ?_
      | (refine RD.bld ?_; (repeat (first | apply Exists.intro (α := Int) | apply Exists.intro (α := Bool) | apply Exists.intro (α := ByteArray) | (apply Exists.intro (α := Option Addr); apply Exists.intro (α := Nat); apply Exists.intro (α := Nat)) | apply Exists.intro (α := Option Addr) | apply Exists.intro (α := Value))); refine ⟨rfl, ?_⟩)
      | (refine RDS.bld ?_; (repeat (first | apply Exists.intro (α := Int) | apply Exists.intro (α := Bool) | apply Exists.intro (α := ByteArray) | (apply Exists.intro (α := Option Addr); apply Exists.intro (α := Nat); apply Exists.intro (α := Nat)) | apply Exists.intro (α := Option Addr) | apply Exists.intro (α := Value))); refine ⟨rfl, ?_⟩)
      | refine St.rdsI _ ?_
      | refine St.rdsB _ ?_
      | refine St.rdsP _ ?_
      | refine St.rdsL _ ?_
      | refine St.rdsT _ ?_
      | refine St.rdsI2 _ _ ?_
      | refine St.rdsB2 _ _ ?_
      | (refine St.rdsG ?_; (repeat (first | apply Exists.intro (α := Int) | apply Exists.intro (α := Bool) | apply Exists.intro (α := ByteArray) | (apply Exists.intro (α := Option Addr); apply Exists.intro (α := Nat); apply Exists.intro (α := Nat)) | apply Exists.intro (α := Option Addr) | apply Exists.intro (α := Value))); refine ⟨rfl, ?_⟩)
      | refine letb rfl ?_
      | refine sat h ?_
      | (have h := h.drew; refine sat h ?_)
      | refine sat1 h (fun _ h => h.to) ?_)
    refine ifq (fun e2 => ?_) fun e2 => ?_
    · rw [if_pos e2] at hk
      exact leti (y := base + n + 1) (by rw [wrapU64]; omega) (leti rfl (hk _ h))
    · rw [if_neg e2] at hk
      exact leti rfl (hk _ h)
  · rw [if_neg (by simp [e1])] at hk
    exact leti rfl (hk _ h)
theorem one_ok {O1 O2 : Option Addr} {d1 d2 sz : Nat} {rb e2 : Int} {kn2 : Bool} {hv : List Bool} {by_ : List UInt8} {o : Op18}
    (h : St c w (il p r D sp base e kn v n 4 S (own 4 1 O1 sz d1 (hv.flatMap bc) :: own 5 1 O2 sz d2 (by_.flatMap uc) :: R))) (hT : OkT base sz v n S) (hb2 : base + sz + sz < 4611686018427387904) (r0 : 0 ≤ rb) (r1 : rb + sz < 4611686018427387904) (hl : hv.length = sz) (hl2 : by_.length = sz) (hsz : sz ≤ 200)
    (ho : Op18Ok o) (hob : RdIn R o.b (bvs o.bs)) (hoc : o.bs.length ≤ o.bC) (hol : o.bs.length ≤ 300) {Q : Value → World → Prop}
    (hk : ∀ (base' e' : Int) (kn' : Bool) (v' : List UInt8) (n' : Nat) (S' : List Sp) (rb' : Int) (O1' : Option Addr) (d1' : Nat) (hv' : List Bool) (O2' : Option Addr) (d2' : Nat) (by' : List UInt8) (e2' : Int) (kn2' ok : Bool) (w' : World), OkT base' sz v' n' S' → base' ≤ base + sz → rb ≤ rb' → rb' ≤ rb + sz → hv'.length = sz → by'.length = sz →
      St c w' (il p r D sp base' e' kn' v' n' 4 S' (own 4 1 O1' sz d1' (hv'.flatMap bc) :: own 5 1 O2' sz d2' (by'.flatMap uc) :: R)) → Q (.tuple #[rxv rb' O1' d1' O2' d2' sz e2' kn2', .bool ok]) w') :
    CALL PG 33 [.pointer (some ⟨p, 0, none⟩), rxv rb O1 d1 O2 d2 sz e2 kn2, op18v o] w Q := by
  obtain ⟨t0, t1, t2, t3, t4, t5⟩ := hT
  have hT : OkT base sz v n S := ⟨t0, t1, t2, t3, t4, t5⟩
  refine call33 ?_
  unfold N33
  refine h.box fun a4 w' h => ?_
  refine h.box fun a5 w' h => ?_
  refine h.allocZ fun a6 w' h => ?_
  have h := h.to (L' := il p r D sp base e kn v n 4 S (own 4 1 O1 sz d1 (hv.flatMap bc) :: own 5 1 O2 sz d2 (by_.flatMap uc) :: Br.blk a4 78 (rxl rb O1 d1 O2 d2 sz e2 kn2) :: Br.blk a5 69 (op18 o) :: Br.blk a6 78 [.int .u64 0, .slice none 0 0, .slice none 0 0, .int .i64 0, .int .u64 0, .bool false] :: R))
  refine h.rdI 2 ?_
  refine leti rfl ⟨fun t w' => 0 ≤ t ∧ t < 18446744073709551616 ∧ St c w' (il p r D sp base e kn v n 4 S (own 4 1 O1 sz d1 (hv.flatMap bc) :: own 5 1 O2 sz d2 (by_.flatMap uc) :: Br.blk a4 78 (rxl rb O1 d1 O2 d2 sz e2 kn2) :: Br.blk a5 69 (op18 o) :: Br.blk a6 78 [.int .u64 0, .slice none 0 0, .slice none 0 0, .int .i64 0, .int .u64 0, .bool false] :: R)), ?_, ?_⟩
  · refine h.rdB 3 ?_
    refine ifnot (fun _ => ?_) fun _ => ⟨ho.1, ho.2, h⟩
    refine h.rdI 0 ?_
    refine h.rdI 2 ?_
    obtain ⟨x, hx⟩ : ∃ x, x = IntKind.u64.wrap (rb + o.pos) := ⟨_, rfl⟩
    refine leti hx.symm ⟨?_, ?_, h⟩
    all_goals (rw [hx, wrapU64]; omega)
  clear h
  rintro at_ w' ⟨q0, q1, h⟩
  refine ⟨fun w' => St c w' (il p r D sp base e kn v n 4 S (own 4 1 O1 sz d1 (hv.flatMap bc) :: own 5 1 O2 sz d2 (by_.flatMap uc) :: Br.blk a4 78 (rxl rb O1 d1 O2 d2 sz e2 kn2) :: Br.blk a5 69 (op18 o) :: Br.blk a6 78 [.int .u64 0, .slice none 0 0, .slice none 0 0, .int .i64 0, .int .u64 0, .bool false] :: R)), ?_, ?_⟩
  · refine h.rdI 0 ?_
    refine ⟨by decide, ⟨by decide, letb rfl ?_⟩⟩
    refine ifb (fun _ => ?_) fun _ => ?_
    · refine h.rdG ?_
      (repeat (first | apply Exists.intro (α := Int) | apply Exists.intro (α := Bool) | apply Exists.intro (α := ByteArray) | (apply Exists.intro (α := Option Addr); apply Exists.intro (α := Nat); apply Exists.intro (α := Nat)) | apply Exists.intro (α := Option Addr) | apply Exists.intro (α := Value)))
      refine ⟨rfl, ?_⟩
      refine rfin_ok h (RdIn.own (.tail (.tail (.tail .head)))) hl r0 (by omega) fun e2' kn2' ok w' _ h => ?_
      (repeat (first | apply Exists.intro (α := Int) | apply Exists.intro (α := Bool) | apply Exists.intro (α := ByteArray) | (apply Exists.intro (α := Option Addr); apply Exists.intro (α := Nat); apply Exists.intro (α := Nat)) | apply Exists.intro (α := Option Addr) | apply Exists.intro (α := Value)))
      refine ⟨rfl, ?_⟩
      refine h.stG fun w' h => ?_
      refine letb rfl ?_
      have h := h.drew
      refine sat (h.to (L' := [Br.blk a4 78 (rxl rb O1 d1 O2 d2 sz e2' kn2')])) ?_
      refine St.rdsG ?_
      (repeat (first | apply Exists.intro (α := Int) | apply Exists.intro (α := Bool) | apply Exists.intro (α := ByteArray) | (apply Exists.intro (α := Option Addr); apply Exists.intro (α := Nat); apply Exists.intro (α := Nat)) | apply Exists.intro (α := Option Addr) | apply Exists.intro (α := Value)))
      refine ⟨rfl, ?_⟩
      have h := h.to (L' := il p r D sp base e kn v n 4 S (own 4 1 O1 sz d1 (hv.flatMap bc) :: own 5 1 O2 sz d2 (by_.flatMap uc) :: Br.blk a4 78 (rxl rb O1 d1 O2 d2 sz e2' kn2') :: Br.blk a5 69 (op18 o) :: Br.blk a6 78 [.int .u64 0, .slice none 0 0, .slice none 0 0, .int .i64 0, .int .u64 0, .bool false] :: R))
      refine fin_ok h t0 (by omega) (by omega) fun w' e' kn' ok2 _ _ _ h => ?_
      (repeat (first | apply Exists.intro (α := Int) | apply Exists.intro (α := Bool) | apply Exists.intro (α := ByteArray) | (apply Exists.intro (α := Option Addr); apply Exists.intro (α := Nat); apply Exists.intro (α := Nat)) | apply Exists.intro (α := Option Addr) | apply Exists.intro (α := Value)))
      refine ⟨rfl, ?_⟩
      refine sat1 (h.to (L' := [Br.blk a4 78 (rxl rb O1 d1 O2 d2 sz e2' kn2')])) (fun _ h => h) ?_
      refine h.stG fun w' h => ?_
      refine sat1 (h.to (L' := [Br.blk a4 78 (rxl rb O1 d1 O2 d2 sz e2' kn2')])) (fun _ h => h) ?_
      refine letb rfl ?_
      refine h.rdG ?_
      (repeat (first | apply Exists.intro (α := Int) | apply Exists.intro (α := Bool) | apply Exists.intro (α := ByteArray) | (apply Exists.intro (α := Option Addr); apply Exists.intro (α := Nat); apply Exists.intro (α := Nat)) | apply Exists.intro (α := Option Addr) | apply Exists.intro (α := Value)))
      refine ⟨rfl, ?_⟩
      exact hk _ _ _ _ _ _ _ _ _ _ _ _ _ _ _ _ _ hT (by omega) (by omega) (by omega) hl hl2 h.to
    refine ⟨fun _ w' => St c w' (il p r D sp base e kn v n 4 S (own 4 1 O1 sz d1 (hv.flatMap bc) :: own 5 1 O2 sz d2 (by_.flatMap uc) :: Br.blk a4 78 (rxl rb O1 d1 O2 d2 sz e2 kn2) :: Br.blk a5 69 (op18 o) :: Br.blk a6 78 [.int .u64 0, .slice none 0 0, .slice none 0 0, .int .i64 0, .int .u64 0, .bool false] :: R)), letb rfl (ifb (fun _ => h) fun _ => letb rfl h), ?_⟩
    clear h
    intro bb w' h
    refine ifb (fun _ => ?_) fun _ => h
    refine h.rdG ?_
    (repeat (first | apply Exists.intro (α := Int) | apply Exists.intro (α := Bool) | apply Exists.intro (α := ByteArray) | (apply Exists.intro (α := Option Addr); apply Exists.intro (α := Nat); apply Exists.intro (α := Nat)) | apply Exists.intro (α := Option Addr) | apply Exists.intro (α := Value)))
    refine ⟨rfl, ?_⟩
    refine h.rdI 1 ?_
    refine rtake_ok h (.tail (.tail (.tail .head))) (.tail (.tail (.tail .head))) hl hl2 (by omega) r0 (by omega) fun rb' O1' d1' hv' O2' d2' by' Oo no dn oo er w' s1 s2 s3 s4 s5 h => ?_
    (repeat (first | apply Exists.intro (α := Int) | apply Exists.intro (α := Bool) | apply Exists.intro (α := ByteArray) | (apply Exists.intro (α := Option Addr); apply Exists.intro (α := Nat); apply Exists.intro (α := Nat)) | apply Exists.intro (α := Option Addr) | apply Exists.intro (α := Value)))
    refine ⟨rfl, ?_⟩
    refine h.stG fun w' h => ?_
    refine leti rfl ?_
    refine h.rdI 1 ?_
    have h := h.to (L' := il p r D sp base e kn v n 4 S (own 4 1 O1' sz d1' (hv'.flatMap bc) :: own 5 1 O2' sz d2' (by'.flatMap uc) :: own 5 1 Oo no dn (bvs oo) :: Br.blk a4 78 (rxl rb' O1' d1' O2' d2' sz e2 kn2) :: Br.blk a6 78 [.int .u64 0, .slice none 0 0, .slice none 0 0, .int .i64 0, .int .u64 0, .bool false] :: R))
    have hq : 0 ≤ minN (maxN o.n 0) n ∧ minN (maxN o.n 0) n ≤ n := by unfold minN maxN; (repeat' split) <;> omega
    refine take_ok h t0 (by omega) (k := (minN (maxN o.n 0) n).toNat) (by omega) fun A d w' er2 _ _ h => ?_
    have hkn : (minN (maxN o.n 0) n).toNat ≤ n := by omega
    generalize (minN (maxN o.n 0) n).toNat = k at *
    have hT2 : OkT (base + k) sz (v.drop k ++ List.replicate k 0) (n - k) S := ⟨by omega, by simp; omega, by omega, t3, t4, fun x hx => by have := t5 x hx; omega⟩
    (repeat (first | apply Exists.intro (α := Int) | apply Exists.intro (α := Bool) | apply Exists.intro (α := ByteArray) | (apply Exists.intro (α := Option Addr); apply Exists.intro (α := Nat); apply Exists.intro (α := Nat)) | apply Exists.intro (α := Option Addr) | apply Exists.intro (α := Value)))
    refine ⟨rfl, ?_⟩
    refine leti rfl ?_
    refine h.rdG ?_
    (repeat (first | apply Exists.intro (α := Int) | apply Exists.intro (α := Bool) | apply Exists.intro (α := ByteArray) | (apply Exists.intro (α := Option Addr); apply Exists.intro (α := Nat); apply Exists.intro (α := Nat)) | apply Exists.intro (α := Option Addr) | apply Exists.intro (α := Value)))
    refine ⟨rfl, ?_⟩
    refine h.bytesToString (e := 5) (RdIn.own .head) (by rw [List.length_take]; omega) ?_
    refine h.bytesToString (e := 5) (RdIn.own (.tail (.tail (.tail (.tail (.tail (.tail .head))))))) s5 ?_
    refine ifb (fun _ => ?_) fun _ => ?_
    · refine h.stG fun w' h => ?_
      refine letb rfl ?_
      refine h.rdG ?_
      (repeat (first | apply Exists.intro (α := Int) | apply Exists.intro (α := Bool) | apply Exists.intro (α := ByteArray) | (apply Exists.intro (α := Option Addr); apply Exists.intro (α := Nat); apply Exists.intro (α := Nat)) | apply Exists.intro (α := Option Addr) | apply Exists.intro (α := Value)))
      refine ⟨rfl, ?_⟩
      exact hk _ _ _ _ _ _ _ _ _ _ _ _ _ _ _ _ _ hT2 (by omega) s1 s2 s3 s4 h.to
    · refine h.stG fun w' h => ?_
      refine letb rfl ?_
      refine h.rdG ?_
      (repeat (first | apply Exists.intro (α := Int) | apply Exists.intro (α := Bool) | apply Exists.intro (α := ByteArray) | (apply Exists.intro (α := Option Addr); apply Exists.intro (α := Nat); apply Exists.intro (α := Nat)) | apply Exists.intro (α := Option Addr) | apply Exists.intro (α := Value)))
      refine ⟨rfl, ?_⟩
      exact hk _ _ _ _ _ _ _ _ _ _ _ _ _ _ _ _ _ hT2 (by omega) s1 s2 s3 s4 h.to
  clear h
  intro w' h
  refine h.rdG ?_
  (repeat (first | apply Exists.intro (α := Int) | apply Exists.intro (α := Bool) | apply Exists.intro (α := ByteArray) | (apply Exists.intro (α := Option Addr); apply Exists.intro (α := Nat); apply Exists.intro (α := Nat)) | apply Exists.intro (α := Option Addr) | apply Exists.intro (α := Value)))
  refine ⟨rfl, ?_⟩
  refine h.rdL 4 ?_
  refine rput_ok h (.tail (.tail (.tail .head))) (.tail (.tail (.tail .head))) hl hl2 (by omega) r0 (by omega) q0 (b := o.bs) hob.more.more.more.more.more.more rfl (by omega) fun O1' d1' hv' O2' d2' by' ok w' s3 s4 h => ?_
  (repeat (first | apply Exists.intro (α := Int) | apply Exists.intro (α := Bool) | apply Exists.intro (α := ByteArray) | (apply Exists.intro (α := Option Addr); apply Exists.intro (α := Nat); apply Exists.intro (α := Nat)) | apply Exists.intro (α := Option Addr) | apply Exists.intro (α := Value)))
  refine ⟨rfl, ?_⟩
  refine h.stG fun w' h => ?_
  refine letb rfl ?_
  have h := h.drew
  refine sat (h.to (L' := [Br.blk a4 78 (rxl rb O1' d1' O2' d2' sz e2 kn2), Br.blk a5 69 (op18 o)])) ?_
  refine St.rdsG ?_
  (repeat (first | apply Exists.intro (α := Int) | apply Exists.intro (α := Bool) | apply Exists.intro (α := ByteArray) | (apply Exists.intro (α := Option Addr); apply Exists.intro (α := Nat); apply Exists.intro (α := Nat)) | apply Exists.intro (α := Option Addr) | apply Exists.intro (α := Value)))
  refine ⟨rfl, ?_⟩
  refine St.rdsL 4 ?_
  have h := h.to (L' := il p r D sp base e kn v n 4 S (own 4 1 O1' sz d1' (hv'.flatMap bc) :: own 5 1 O2' sz d2' (by'.flatMap uc) :: Br.blk a4 78 (rxl rb O1' d1' O2' d2' sz e2 kn2) :: Br.blk a5 69 (op18 o) :: Br.blk a6 78 [.int .u64 0, .slice none 0 0, .slice none 0 0, .int .i64 0, .int .u64 0, .bool false] :: R))
  refine put_ok h t0 (by omega) t3 (by omega) (by rw [t1]; exact t5) q0 q1 (b := o.bs) hob.more.more.more.more.more hoc (by omega) fun w' h => ?_
  obtain ⟨hT2, _⟩ := putT (e := e) (kn := kn) (f := at_) (b := o.bs) hT (by omega) q0 _ rfl
  (repeat (first | apply Exists.intro (α := Int) | apply Exists.intro (α := Bool) | apply Exists.intro (α := ByteArray) | (apply Exists.intro (α := Option Addr); apply Exists.intro (α := Nat); apply Exists.intro (α := Nat)) | apply Exists.intro (α := Option Addr) | apply Exists.intro (α := Value)))
  refine ⟨rfl, ?_⟩
  refine sat1 (h.to (L' := [Br.blk a4 78 (rxl rb O1' d1' O2' d2' sz e2 kn2), Br.blk a5 69 (op18 o)])) (fun _ h => h) ?_
  refine h.stG fun w' h => ?_
  refine sat1 (h.to (L' := [Br.blk a4 78 (rxl rb O1' d1' O2' d2' sz e2 kn2), Br.blk a5 69 (op18 o)])) (fun _ h => h) ?_
  refine letb rfl ?_
  refine h.rdG ?_
  (repeat (first | apply Exists.intro (α := Int) | apply Exists.intro (α := Bool) | apply Exists.intro (α := ByteArray) | (apply Exists.intro (α := Option Addr); apply Exists.intro (α := Nat); apply Exists.intro (α := Nat)) | apply Exists.intro (α := Option Addr) | apply Exists.intro (α := Value)))
  refine ⟨rfl, ?_⟩
  exact hk _ _ _ _ _ _ _ _ _ _ _ _ _ _ _ _ _ hT2 (by omega) (by omega) (by omega) s3 s4 h.to
set_option maxRecDepth 20000 in
theorem twice_ok (h : St c w L) {A : Option Addr} {k : Nat} {X : List Op18} {size : Int} {o : Op18} (hr : RdIn L A (X.flatMap op18)) (hX : ∀ x ∈ X, Op18Ok x ∧ RdIn L x.b (bvs x.bs) ∧ x.bs.length ≤ x.bC) (ho : Op18Ok o) (hob : RdIn L o.b (bvs o.bs)) (hoc : o.bs.length ≤ o.bC) {Q : Value → World → Prop} (hk : ∀ w', St c w' L → Q (.bool true) w') :
    CALL PG 6 [.int .i64 size, .slice A X.length k, op18v o] w Q := by
  refine call6 ?_
  unfold N6
  refine h.box fun a5 w' h => ?_
  refine great18_ok h hr.more fun g hg => ?_
  (repeat (first | apply Exists.intro (α := Int) | apply Exists.intro (α := Bool) | apply Exists.intro (α := ByteArray) | (apply Exists.intro (α := Option Addr); apply Exists.intro (α := Nat); apply Exists.intro (α := Nat)) | apply Exists.intro (α := Option Addr) | apply Exists.intro (α := Value)))
  refine ⟨rfl, ?_⟩
  refine ifb (fun _ => hk _ h.drop) fun e => ?_
  obtain ⟨hX60, hX300⟩ := hg e
  refine ifd (fun _ => hk _ h.drop) fun z0 => ifd (fun _ => hk _ h.drop) fun z1 => ?_
  refine h.rdL 4 ?_
  refine ifd (fun _ => hk _ h.drop) fun o300 => ?_
  obtain ⟨sz, rfl⟩ : ∃ sz : Nat, size = sz := ⟨size.toNat, by omega⟩
  refine inew_ok h (size := sz) (by omega) (by omega) fun p r D sp w' h => ?_
  (repeat (first | apply Exists.intro (α := Int) | apply Exists.intro (α := Bool) | apply Exists.intro (α := ByteArray) | (apply Exists.intro (α := Option Addr); apply Exists.intro (α := Nat); apply Exists.intro (α := Nat)) | apply Exists.intro (α := Option Addr) | apply Exists.intro (α := Value)))
  refine ⟨rfl, ?_⟩
  refine leti rfl (iff_ rfl (iff_ rfl ?_))
  refine nilc ?_
  refine h.rdP 0 ?_
  refine iff_ rfl ?_
  rw [show minN (maxN 4 1) 64 = (4 : Int) by decide] at h
  refine rnew18_ok h (by omega) (by omega) fun O1 O2 w' h => ?_
  (repeat (first | apply Exists.intro (α := Int) | apply Exists.intro (α := Bool) | apply Exists.intro (α := ByteArray) | (apply Exists.intro (α := Option Addr); apply Exists.intro (α := Nat); apply Exists.intro (α := Nat)) | apply Exists.intro (α := Option Addr) | apply Exists.intro (α := Value)))
  refine ⟨rfl, ?_⟩
  refine h.allocZ fun a9 w' h => ?_
  refine h.stG fun w' h => ?_
  refine ⟨fun m i w' => ∃ (j : Nat) (base e : Int) (kn : Bool) (v : List UInt8) (n : Nat) (S : List Sp) (rb : Int) (O1 : Option Addr) (d1 : Nat) (hv : List Bool) (O2 : Option Addr) (d2 : Nat) (by_ : List UInt8) (e2 : Int) (kn2 : Bool), j + m = X.length ∧ i = (j : Int) ∧ OkT base sz v n S ∧ base ≤ sz * j ∧ 0 ≤ rb ∧ rb ≤ sz * j ∧ hv.length = sz ∧ by_.length = sz ∧
      St c w' (il p r D sp base e kn v n 4 S (own 4 1 O1 sz d1 (hv.flatMap bc) :: own 5 1 O2 sz d2 (by_.flatMap uc) :: Br.blk a9 78 (rxl rb O1 d1 O2 d2 sz e2 kn2) :: Br.blk a5 69 (op18 o) :: L)),
    ⟨X.length, 0, 0, 0, false, List.replicate sz 0, 0, [], 0, O1, sz, List.replicate sz false, O2, sz, List.replicate sz 0, 0, false, by omega, rfl, ⟨by omega, by simp, by omega, Sep.nil, by simp, by simp⟩, by simp, by omega, by simp, by simp, by simp, h.to⟩, ?_⟩
  clear h
  rintro m _ w' ⟨j, base, e, kn, v, n, S, rb, O1, d1, hv, O2, d2, by_, e2, kn2, hj, rfl, hT, hb, r0, hrb, hl, hl2, h⟩
  have hmul : (sz : Int) * j ≤ 200 * 60 := by
    have : sz * j ≤ 200 * 60 := Nat.mul_le_mul (by omega) (by omega)
    exact_mod_cast this
  have hT' := hT
  obtain ⟨t0, t1, t2, t3, t4, t5⟩ := hT'
  refine ifd (fun hlt => ?_) fun hge => ?_
  · obtain ⟨x, hx⟩ := ex_get (L := X) (j := j) (by omega)
    obtain ⟨x1, x2, x3⟩ := hX x (List.mem_of_getElem? hx)
    have x4 := hX300 x (List.mem_of_getElem? hx)
    have h := h.drew
    refine h.rdG ?_
    (repeat (first | apply Exists.intro (α := Int) | apply Exists.intro (α := Bool) | apply Exists.intro (α := ByteArray) | (apply Exists.intro (α := Option Addr); apply Exists.intro (α := Nat); apply Exists.intro (α := Nat)) | apply Exists.intro (α := Option Addr) | apply Exists.intro (α := Value)))
    refine ⟨rfl, ?_⟩
    refine h.ix (z := 4) hr.more.more.more.more.more.more.more hx (fun b hb => ?_) (by omega)
    have hr1 := hr
    rw [hb] at hr1
    refine h.rdEG hr1.more.more.more.more.more.more.more hx ?_
    (repeat (first | apply Exists.intro (α := Int) | apply Exists.intro (α := Bool) | apply Exists.intro (α := ByteArray) | (apply Exists.intro (α := Option Addr); apply Exists.intro (α := Nat); apply Exists.intro (α := Nat)) | apply Exists.intro (α := Option Addr) | apply Exists.intro (α := Value)))
    refine ⟨rfl, ?_⟩
    refine one_ok h hT (by omega) r0 (by omega) hl hl2 (by omega) x1 x2.more.more x3 x4 fun base' e' kn' v' n' S' rb' O1' d1' hv' O2' d2' by' e2' kn2' ok w' hT2 s1 s2 s3 s4 s5 h => ?_
    (repeat (first | apply Exists.intro (α := Int) | apply Exists.intro (α := Bool) | apply Exists.intro (α := ByteArray) | (apply Exists.intro (α := Option Addr); apply Exists.intro (α := Nat); apply Exists.intro (α := Nat)) | apply Exists.intro (α := Option Addr) | apply Exists.intro (α := Value)))
    refine ⟨rfl, ?_⟩
    refine ⟨fun _ => True, trivial, ?_⟩
    refine h.stG fun w' h => ?_
    refine ⟨fun _ => True, fun _ h => h, trivial, ?_⟩
    have em : (sz : Int) * ((j + 1 : Nat) : Int) = sz * j + sz := by rw [Int.natCast_add]; simp [Int.mul_add]
    exact leti (wrap_i64 (n := (j : Int) + 1) (by omega) (by omega)) ⟨m - 1, by omega, j + 1, base', e', kn', v', n', S', rb', O1', d1', hv', O2', d2', by', e2', kn2', by omega, by omega, hT2, by rw [em]; omega, by omega, by rw [em]; omega, s4, s5, h.to⟩
  have h := h.drew
  refine sat h ?_
  refine St.rdsI 2 ?_
  rw [show IntKind.u64.wrap (IntKind.i64.wrap (2 * (sz : Int))) = 2 * sz by rw [wrap_i64 (by omega) (by omega), wrapU64]; omega]
  refine ⟨by omega, ?_⟩
  refine base_ok h ?_
  (repeat (first | apply Exists.intro (α := Int) | apply Exists.intro (α := Bool) | apply Exists.intro (α := ByteArray) | (apply Exists.intro (α := Option Addr); apply Exists.intro (α := Nat); apply Exists.intro (α := Nat)) | apply Exists.intro (α := Option Addr) | apply Exists.intro (α := Value)))
  refine ⟨rfl, ?_⟩
  refine sat1 h (fun _ h => h) ?_
  obtain ⟨at_, hat⟩ : ∃ x, x = IntKind.u64.wrap (base + Int.tmod o.pos (2 * sz)) := ⟨_, rfl⟩
  have hat0 : 0 ≤ at_ ∧ at_ < 18446744073709551616 := by rw [hat, wrapU64]; omega
  refine leti hat.symm ?_
  refine h.rdL 4 ?_
  refine put_ok h t0 (by omega) t3 (by omega) (by rw [t1]; exact t5) hat0.1 hat0.2 (b := o.bs) hob.more.more.more.more hoc (by omega) fun w' h => ?_
  obtain ⟨hT2, hid⟩ := putT (e := e) (kn := kn) (f := at_) (b := o.bs) hT (by omega) hat0.1 _ rfl
  generalize putV base e kn v n 4 S at_ o.bs = q at *
  obtain ⟨v2, n2, S2, ok⟩ := q
  dsimp only at h hT2 hid ⊢
  obtain ⟨u0, u1, u2, u3, u4, u5⟩ := hT2
  (repeat (first | apply Exists.intro (α := Int) | apply Exists.intro (α := Bool) | apply Exists.intro (α := ByteArray) | (apply Exists.intro (α := Option Addr); apply Exists.intro (α := Nat); apply Exists.intro (α := Nat)) | apply Exists.intro (α := Option Addr) | apply Exists.intro (α := Value)))
  refine ⟨rfl, ?_⟩
  refine letb rfl ?_
  refine next_ok h u0 (by omega) fun w' h => ?_
  (repeat (first | apply Exists.intro (α := Int) | apply Exists.intro (α := Bool) | apply Exists.intro (α := ByteArray) | (apply Exists.intro (α := Option Addr); apply Exists.intro (α := Nat); apply Exists.intro (α := Nat)) | apply Exists.intro (α := Option Addr) | apply Exists.intro (α := Value)))
  refine ⟨rfl, ?_⟩
  refine ipieces_ok h (by omega) fun w' h => ?_
  (repeat (first | apply Exists.intro (α := Int) | apply Exists.intro (α := Bool) | apply Exists.intro (α := ByteArray) | (apply Exists.intro (α := Option Addr); apply Exists.intro (α := Nat); apply Exists.intro (α := Nat)) | apply Exists.intro (α := Option Addr) | apply Exists.intro (α := Value)))
  refine ⟨rfl, ?_⟩
  refine iack_ok h u0 (by omega) fun w' h => ?_
  (repeat (first | apply Exists.intro (α := Int) | apply Exists.intro (α := Bool) | apply Exists.intro (α := ByteArray) | (apply Exists.intro (α := Option Addr); apply Exists.intro (α := Nat); apply Exists.intro (α := Nat)) | apply Exists.intro (α := Option Addr) | apply Exists.intro (α := Value)))
  refine ⟨rfl, ?_⟩
  refine leti rfl (leti rfl (leti rfl ?_))
  refine h.rdL 4 ?_
  refine put_ok h u0 (by omega) u3 (by omega) (by rw [u1]; exact u5) hat0.1 hat0.2 (b := o.bs) hob.more.more.more.more hoc (by omega) fun w' h => ?_
  rw [hid] at h ⊢
  dsimp only at h ⊢
  (repeat (first | apply Exists.intro (α := Int) | apply Exists.intro (α := Bool) | apply Exists.intro (α := ByteArray) | (apply Exists.intro (α := Option Addr); apply Exists.intro (α := Nat); apply Exists.intro (α := Nat)) | apply Exists.intro (α := Option Addr) | apply Exists.intro (α := Value)))
  refine ⟨rfl, ?_⟩
  refine letb rfl ⟨fun w' => St c w' (il p r D sp base e kn v2 n2 4 S2 (own 4 1 O1 sz d1 (hv.flatMap bc) :: own 5 1 O2 sz d2 (by_.flatMap uc) :: Br.blk a9 78 (rxl rb O1 d1 O2 d2 sz e2 kn2) :: Br.blk a5 69 (op18 o) :: L)), ?_, ?_⟩
  · refine base_ok h ?_
    (repeat (first | apply Exists.intro (α := Int) | apply Exists.intro (α := Bool) | apply Exists.intro (α := ByteArray) | (apply Exists.intro (α := Option Addr); apply Exists.intro (α := Nat); apply Exists.intro (α := Nat)) | apply Exists.intro (α := Option Addr) | apply Exists.intro (α := Value)))
    refine ⟨rfl, ?_⟩
    refine ifd (fun _ => ?_) fun _ => h
    refine h.rdL 4 ?_
    refine ⟨by omega, ?_⟩
    simp only [cutA_zero, Int.toNat_zero, Nat.sub_zero]
    have hb0 : RdIn (own 4 1 O1 sz d1 (hv.flatMap bc) :: own 5 1 O2 sz d2 (by_.flatMap uc) :: Br.blk a9 78 (rxl rb O1 d1 O2 d2 sz e2 kn2) :: Br.blk a5 69 (op18 o) :: L) o.b (bvs []) := fun c w _ => Row.nil w o.b
    have key := put_ok h u0 (by omega) u3 (by omega) (by rw [u1]; exact u5) (f := 0) (by decide) (by decide) (A := o.b) (d := o.bC) (b := []) hb0 (by simp) (by simp) (Q := fun v w' => (∃ b, v = .bool b) ∧ St c w' (il p r D sp base e kn v2 n2 4 S2 (own 4 1 O1 sz d1 (hv.flatMap bc) :: own 5 1 O2 sz d2 (by_.flatMap uc) :: Br.blk a9 78 (rxl rb O1 d1 O2 d2 sz e2 kn2) :: Br.blk a5 69 (op18 o) :: L))) fun w' h => by
      obtain ⟨p1, p2, p3⟩ := putV_small (base := base) (e := e) (kn := kn) (v := v2) (n := n2) (most := 4) (S := S2) (f := 0) (b := []) (.inl rfl) (by decide)
      rw [p1, p2, p3] at h
      exact ⟨⟨_, rfl⟩, h⟩
    refine CALL.mono key fun v w' hv => ?_
    obtain ⟨⟨b, hb⟩, h⟩ := hv
    exact ⟨b, hb, h⟩
  clear h
  intro w' h
  have h := h.drew
  refine sat h ?_
  refine St.rdsL 4 ?_
  refine edge_ok h u0 (by omega) fun w' h => ?_
  (repeat (first | apply Exists.intro (α := Int) | apply Exists.intro (α := Bool) | apply Exists.intro (α := ByteArray) | (apply Exists.intro (α := Option Addr); apply Exists.intro (α := Nat); apply Exists.intro (α := Nat)) | apply Exists.intro (α := Option Addr) | apply Exists.intro (α := Value)))
  refine ⟨rfl, ?_⟩
  refine sat1 h (fun _ h => h) ?_
  refine put_ok h u0 (by omega) u3 (by omega) (by rw [u1]; exact u5) (by omega) (by omega) (b := o.bs) hob.more.more.more.more hoc (by omega) fun w' h => ?_
  obtain ⟨p1, p2, p3⟩ := putV_small (base := base) (e := e) (kn := kn) (v := v2) (n := n2) (most := 4) (S := S2) (f := base + v2.length) (b := o.bs) (.inr (Int.le_refl _)) (by omega)
  rw [p1, p2, p3] at h
  (repeat (first | apply Exists.intro (α := Int) | apply Exists.intro (α := Bool) | apply Exists.intro (α := ByteArray) | (apply Exists.intro (α := Option Addr); apply Exists.intro (α := Nat); apply Exists.intro (α := Nat)) | apply Exists.intro (α := Option Addr) | apply Exists.intro (α := Value)))
  refine ⟨rfl, ?_⟩
  refine ift (by simp) ?_
  refine next_ok h u0 (by omega) fun w' h => ?_
  (repeat (first | apply Exists.intro (α := Int) | apply Exists.intro (α := Bool) | apply Exists.intro (α := ByteArray) | (apply Exists.intro (α := Option Addr); apply Exists.intro (α := Nat); apply Exists.intro (α := Nat)) | apply Exists.intro (α := Option Addr) | apply Exists.intro (α := Value)))
  refine ⟨rfl, ?_⟩
  refine ift (by simp) ?_
  refine ipieces_ok h (by omega) fun w' h => ?_
  (repeat (first | apply Exists.intro (α := Int) | apply Exists.intro (α := Bool) | apply Exists.intro (α := ByteArray) | (apply Exists.intro (α := Option Addr); apply Exists.intro (α := Nat); apply Exists.intro (α := Nat)) | apply Exists.intro (α := Option Addr) | apply Exists.intro (α := Value)))
  refine ⟨rfl, ?_⟩
  refine ift (by simp) ?_
  refine iack_ok h u0 (by omega) fun w' h => ?_
  (repeat (first | apply Exists.intro (α := Int) | apply Exists.intro (α := Bool) | apply Exists.intro (α := ByteArray) | (apply Exists.intro (α := Option Addr); apply Exists.intro (α := Nat); apply Exists.intro (α := Nat)) | apply Exists.intro (α := Option Addr) | apply Exists.intro (α := Value)))
  refine ⟨rfl, ?_⟩
  refine ift (by simp) ?_
  refine h.rdI 3 ?_
  refine ift rfl ?_
  refine alive18_ok h fun w' h => ?_
  (repeat (first | apply Exists.intro (α := Int) | apply Exists.intro (α := Bool) | apply Exists.intro (α := ByteArray) | (apply Exists.intro (α := Option Addr); apply Exists.intro (α := Nat); apply Exists.intro (α := Nat)) | apply Exists.intro (α := Option Addr) | apply Exists.intro (α := Value)))
  refine ⟨rfl, ?_⟩
  exact letb rfl (hk _ h.to)
end
end Go.Br
