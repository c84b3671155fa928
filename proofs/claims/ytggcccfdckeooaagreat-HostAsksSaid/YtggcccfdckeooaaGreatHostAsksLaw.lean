/- What a host sends that asks for a connection: the law. -/
import Derived.Test.YtggcccfdckeooaaGreatNHostAsksLaw
import Derived.Test.YtggcccfdckeooaaGreatConnAsk2
set_option linter.unusedVariables false
set_option linter.unusedSimpArgs false
set_option linter.unnecessarySimpa false
namespace Go.Br
open Go
instance biHostAsksLawa (x0 : Int) (x1 : Option Addr) (n1 c1 : Nat) : Bld PG (Instr.build 67 #[(0, .int .u8 x0), (1, .slice x1 n1 c1)]) (.agg #[.int .u8 x0, .slice x1 n1 c1]) := ⟨fun w => by kernel_rfl⟩
instance biHostAsksLawb (x0 : Int) (x1 : Int) (x2 : Int) (x3 : Int) (x4 : Option Addr) (n4 c4 : Nat) : Bld PG (Instr.build 70 #[(0, .int .u16 x0), (1, .int .u16 x1), (2, .int .u32 x2), (4, .int .u8 x3), (5, .slice x4 n4 c4)]) (.agg #[.int .u16 x0, .int .u16 x1, .int .u32 x2, .int .u32 0, .int .u8 x3, .slice x4 n4 c4, .slice none 0 0]) := ⟨fun w => by kernel_rfl⟩
instance biHostAsksLawc : Zro PG 70 7 64 (.agg #[.int .u16 0, .int .u16 0, .int .u32 0, .int .u32 0, .int .u8 0, .slice none 0 0, .slice none 0 0]) := ⟨tiOf (by kernel_rfl)⟩
attribute [local irreducible] Addr.add RD RDS RUN RUNU NILC LETB CALL CALLX CALLV

structure Op23 where
  kind : Int
  a : Int
  b : Int
  path : Int
def op23 (x : Op23) : List Value := [.int .i64 x.kind, .int .i64 x.a, .int .i64 x.b, .int .i64 x.path]
abbrev op23v (x : Op23) : Value := .agg #[.int .i64 x.kind, .int .i64 x.a, .int .i64 x.b, .int .i64 x.path]
theorem op23_length (x : Op23) : (op23 x).length = 4 := rfl
theorem op23_flat1 (x : Op23) : Flat (op23 x) := by intro v hv; simp [op23] at hv; rcases hv with rfl | rfl | rfl | rfl <;> rfl
theorem op23_flat (L : List Op23) : Flat (L.flatMap op23) := by
  intro v hv
  simp only [List.mem_flatMap] at hv
  obtain ⟨x, _, hx⟩ := hv
  exact op23_flat1 x v hx
section
variable {c : Ctx} {w : World} {L R : List SA}
theorem asks_ok (h : St c w L) {g : Cfg} {k0 k1 : Int} {o : Op23} {Q : Value → World → Prop} (hk : ∀ w', St c w' L → Q (.bool true) w') : CALL PG 5 [cfgv g, .agg #[.int .u64 k0, .int .u64 k1], op23v o] w Q := by
  refine call5 ?_
  unfold N5
  refine h.box (vs := cfg g) fun qc w' h => ?_
  refine h.box fun qs w' h => ?_
  refine h.box (vs := op23 o) fun qo w' h => ?_
  refine h.rdG (B := qc) ?_
  (repeat (first | apply Exists.intro (α := Int) | apply Exists.intro (α := Bool) | apply Exists.intro (α := ByteArray) | (apply Exists.intro (α := Option Addr); apply Exists.intro (α := Nat); apply Exists.intro (α := Nat)) | apply Exists.intro (α := Option Addr) | apply Exists.intro (α := Value)))
  refine ⟨rfl, ?_⟩
  refine rright_ok h g fun w' h => ?_
  (repeat (first | apply Exists.intro (α := Int) | apply Exists.intro (α := Bool) | apply Exists.intro (α := ByteArray) | (apply Exists.intro (α := Option Addr); apply Exists.intro (α := Nat); apply Exists.intro (α := Nat)) | apply Exists.intro (α := Option Addr) | apply Exists.intro (α := Value)))
  refine ⟨rfl, ?_⟩
  have out : ∀ {w'}, St c w' (blk qo 57 (op23 o) :: blk qs 27 [.int .u64 k0, .int .u64 k1] :: blk qc 49 (cfg g) :: L) → Q (.bool true) w' := fun h => hk _ h.drop.drop.drop
  by_cases hg : CfgOk g
  rotate_left
  · rw [decide_eq_false hg]
    exact ift rfl (out h)
  rw [decide_eq_true hg]
  refine iff_ rfl ?_
  refine h.rdI (B := qc) 2 ?_
  refine ifq (fun _ => out h) fun hc => ?_
  refine h.rdI (B := qo) 1 ?_
  refine ifd (fun _ => out h) fun h1 => ?_
  refine h.rdI (B := qo) 1 ?_
  refine ifd (fun _ => out h) fun h2 => ?_
  refine h.rdI (B := qo) 2 ?_
  refine ifd (fun _ => out h) fun h3 => ?_
  refine h.rdI (B := qo) 2 ?_
  refine ifd (fun _ => out h) fun h4 => ?_
  refine h.rdI (B := qo) 3 ?_
  refine ifd (fun _ => out h) fun h5 => ?_
  refine h.rdI (B := qo) 3 ?_
  refine h.rdI (B := qc) 7 ?_
  refine ifd (fun _ => out h) fun h6 => ?_
  have hc0 : 0 ≤ g.conns := hg.1.2.2.1.1
  clear out
  refine h.rdG (B := qc) ?_
  (repeat (first | apply Exists.intro (α := Int) | apply Exists.intro (α := Bool) | apply Exists.intro (α := ByteArray) | (apply Exists.intro (α := Option Addr); apply Exists.intro (α := Nat); apply Exists.intro (α := Nat)) | apply Exists.intro (α := Option Addr) | apply Exists.intro (α := Value)))
  refine ⟨rfl, ?_⟩
  refine h.rdG (B := qs) ?_
  (repeat (first | apply Exists.intro (α := Int) | apply Exists.intro (α := Bool) | apply Exists.intro (α := ByteArray) | (apply Exists.intro (α := Option Addr); apply Exists.intro (α := Nat); apply Exists.intro (α := Nat)) | apply Exists.intro (α := Option Addr) | apply Exists.intro (α := Value)))
  refine ⟨rfl, ?_⟩
  refine hnew_ok h g (fun e => absurd hg e) fun _ p r w' h => ?_
  have h : St c w' (blk p 96 (hst (host0 g k0 k1 r)) :: mp r [] :: blk qo 57 (op23 o) :: blk qs 27 [.int .u64 k0, .int .u64 k1] :: blk qc 49 (cfg g) :: L) := h
  (repeat (first | apply Exists.intro (α := Int) | apply Exists.intro (α := Bool) | apply Exists.intro (α := ByteArray) | (apply Exists.intro (α := Option Addr); apply Exists.intro (α := Nat); apply Exists.intro (α := Nat)) | apply Exists.intro (α := Option Addr) | apply Exists.intro (α := Value)))
  refine ⟨rfl, ?_⟩
  refine leti rfl (ifnsame rfl (iff_ rfl ?_))
  refine h.rdI (B := qo) 1 ?_
  refine h.rdI (B := qo) 2 ?_
  refine h.rdI (B := qo) 3 ?_
  refine connect0_ok h hg (by omega) (by omega) (by omega) (by omega) fun n fA fC pA pC pk w' e1 e2 h => ?_
  (repeat (first | apply Exists.intro (α := Int) | apply Exists.intro (α := Bool) | apply Exists.intro (α := ByteArray) | (apply Exists.intro (α := Option Addr); apply Exists.intro (α := Nat); apply Exists.intro (α := Nat)) | apply Exists.intro (α := Option Addr) | apply Exists.intro (α := Value)))
  refine ⟨rfl, ?_⟩
  refine leti rfl (leti rfl ?_)
  refine hpost_ok h fun w' h => ?_
  (repeat (first | apply Exists.intro (α := Int) | apply Exists.intro (α := Bool) | apply Exists.intro (α := ByteArray) | (apply Exists.intro (α := Option Addr); apply Exists.intro (α := Nat); apply Exists.intro (α := Nat)) | apply Exists.intro (α := Option Addr) | apply Exists.intro (α := Value)))
  refine ⟨rfl, ?_⟩
  refine ifnsame rfl (ifnsame rfl (ifnsame rfl ?_))
  refine hpost_ok h fun w' h => ?_
  (repeat (first | apply Exists.intro (α := Int) | apply Exists.intro (α := Bool) | apply Exists.intro (α := ByteArray) | (apply Exists.intro (α := Option Addr); apply Exists.intro (α := Nat); apply Exists.intro (α := Nat)) | apply Exists.intro (α := Option Addr) | apply Exists.intro (α := Value)))
  refine ⟨rfl, ?_⟩
  refine ifnsame rfl ?_
  have h := h.sub (show Sub _ (blk qo 57 (op23 o) :: blk qs 27 [.int .u64 k0, .int .u64 k1] :: own 74 2 pA 1 pC (([pk] : List Pkt).flatMap pkc) :: bodP [pk] :: L) from .cons (.tail (.tail (.tail (.tail (.tail (.tail (.tail (.tail (.tail (.tail (.tail (.tail (.tail (.tail (.tail (.tail (.tail (.tail (.tail (.tail (.tail .head))))))))))))))))))))) (.cons (.tail (.tail (.tail (.tail (.tail (.tail (.tail (.tail (.tail (.tail (.tail (.tail (.tail (.tail (.tail (.tail (.tail (.tail (.tail (.tail (.tail .head))))))))))))))))))))) (.cons (.tail (.tail .head)) (.cons (.tail (.tail .head)) ((Sub.same _).more.more.more.more.more.more.more.more.more.more.more.more.more.more.more.more.more.more.more.more)))))
  have okS : SgOk (askS o.a o.b (IntKind.u32.wrap (drawS k0 k1 1)) (drawS k0 k1 0)) := askS_ok (by omega) (by omega) (by rw [wrapU32]; omega)
  have h := h.drew
  refine ⟨fun w => St c w [blk qo 57 (op23 o), blk qs 27 [.int .u64 k0, .int .u64 k1]], h.sub (.cons .head (.cons .head .nil)), ?_⟩
  refine St.rdsI (B := qo) 1 ?_
  refine St.rdsI (B := qo) 2 ?_
  refine St.rdsG (B := qs) ?_
  (repeat (first | apply Exists.intro (α := Int) | apply Exists.intro (α := Bool) | apply Exists.intro (α := ByteArray) | (apply Exists.intro (α := Option Addr); apply Exists.intro (α := Nat); apply Exists.intro (α := Nat)) | apply Exists.intro (α := Option Addr) | apply Exists.intro (α := Value)))
  refine ⟨rfl, ?_⟩
  refine St.rdsG (B := qs) ?_
  (repeat (first | apply Exists.intro (α := Int) | apply Exists.intro (α := Bool) | apply Exists.intro (α := ByteArray) | (apply Exists.intro (α := Option Addr); apply Exists.intro (α := Nat); apply Exists.intro (α := Nat)) | apply Exists.intro (α := Option Addr) | apply Exists.intro (α := Value)))
  refine ⟨rfl, ?_⟩
  rw [show IntKind.u16.wrap o.a = o.a by rw [wrapU16]; omega, show IntKind.u16.wrap o.b = o.b by rw [wrapU16]; omega]
  refine ⟨?_, ?_⟩
  · refine drawn_ok h (by decide) (by decide) fun w' h => ?_
    (repeat (first | apply Exists.intro (α := Int) | apply Exists.intro (α := Bool) | apply Exists.intro (α := ByteArray) | (apply Exists.intro (α := Option Addr); apply Exists.intro (α := Nat); apply Exists.intro (α := Nat)) | apply Exists.intro (α := Option Addr) | apply Exists.intro (α := Value)))
    refine ⟨rfl, ?_⟩
    refine ⟨_, fun _ h => h, h.sub (.cons .head (.cons .head (.nil))), ?_⟩
    refine ⟨?_, ?_⟩
    · refine drawn_ok h (by decide) (by decide) fun w' h => ?_
      (repeat (first | apply Exists.intro (α := Int) | apply Exists.intro (α := Bool) | apply Exists.intro (α := ByteArray) | (apply Exists.intro (α := Option Addr); apply Exists.intro (α := Nat); apply Exists.intro (α := Nat)) | apply Exists.intro (α := Option Addr) | apply Exists.intro (α := Value)))
      refine ⟨rfl, ?_⟩
      refine ⟨_, fun _ h => h, h.sub (.cons .head (.cons .head (.nil))), ?_⟩
      refine ⟨?_, ?_⟩
      · refine rkey_ok h (drawS_range k0 k1 0).1 (drawS_range k0 k1 0).2 (by decide) (by decide) fun O k w' h => ?_
        (repeat (first | apply Exists.intro (α := Int) | apply Exists.intro (α := Bool) | apply Exists.intro (α := ByteArray) | (apply Exists.intro (α := Option Addr); apply Exists.intro (α := Nat); apply Exists.intro (α := Nat)) | apply Exists.intro (α := Option Addr) | apply Exists.intro (α := Value)))
        refine ⟨rfl, ?_⟩
        refine ⟨_, fun _ h => h, h.sub (.cons (.tail .head) (.cons (.tail .head) (.nil))), ?_⟩
        refine RDS.bld ?_
        (repeat (first | apply Exists.intro (α := Int) | apply Exists.intro (α := Bool) | apply Exists.intro (α := ByteArray) | (apply Exists.intro (α := Option Addr); apply Exists.intro (α := Nat); apply Exists.intro (α := Nat)) | apply Exists.intro (α := Option Addr) | apply Exists.intro (α := Value)))
        refine ⟨rfl, ?_⟩
        refine ⟨?_, ?_⟩
        · refine h.lit (n := 1) 67 2 (([⟨1, O, k, keyB (drawS k0 k1 0) 0 false⟩] : List Opx).flatMap opx) fun q4 w' h => ?_
          refine ⟨_, fun _ h => h, h.sub (.cons (.tail (.tail .head)) (.cons (.tail (.tail .head)) (.nil))), ?_⟩
          refine RDS.bld ?_
          (repeat (first | apply Exists.intro (α := Int) | apply Exists.intro (α := Bool) | apply Exists.intro (α := ByteArray) | (apply Exists.intro (α := Option Addr); apply Exists.intro (α := Nat); apply Exists.intro (α := Nat)) | apply Exists.intro (α := Option Addr) | apply Exists.intro (α := Value)))
          refine ⟨rfl, ?_⟩
          refine h.allocZ fun q3 w' h => ?_
          refine ⟨_, fun _ h => h, h.sub (.cons (.tail (.tail (.tail .head))) (.cons (.tail (.tail (.tail .head))) (.nil))), ?_⟩
          have h := h.sub (show Sub _ (blk q3 70 _ :: own 67 2 (some ⟨q4, 0, none⟩) 1 1 _ :: own 5 1 O _ k _ :: _) from .cons .head (.cons .head (.cons .head ((Sub.same _)))))
          refine h.stG (B := q3) fun w' h => ?_
          refine h.rdG (B := q3) ?_
          (repeat (first | apply Exists.intro (α := Int) | apply Exists.intro (α := Bool) | apply Exists.intro (α := ByteArray) | (apply Exists.intro (α := Option Addr); apply Exists.intro (α := Nat); apply Exists.intro (α := Nat)) | apply Exists.intro (α := Option Addr) | apply Exists.intro (α := Value)))
          refine ⟨rfl, ?_⟩
          refine renc_ok h (s := ⟨o.a, o.b, IntKind.u32.wrap (drawS k0 k1 1), 0, 1, some ⟨q4, 0, none⟩, 1, [⟨1, O, k, keyB (drawS k0 k1 0) 0 false⟩], none, 0, []⟩) (fun c w h => ⟨RdIn.own (.tail .head) c w h, fun o' ho => by
            rw [List.mem_singleton] at ho
            subst ho
            exact RdIn.own (.tail (.tail .head)) c w h, Row.nil w none⟩) okS fun O5 k5 w' h => ?_
          (repeat (first | apply Exists.intro (α := Int) | apply Exists.intro (α := Bool) | apply Exists.intro (α := ByteArray) | (apply Exists.intro (α := Option Addr); apply Exists.intro (α := Nat); apply Exists.intro (α := Nat)) | apply Exists.intro (α := Option Addr) | apply Exists.intro (α := Value)))
          refine ⟨rfl, ?_⟩
          refine leti rfl ?_
          have h := h.drew
          refine h.ix (z := 1) (i := 0) (y := pk) (RdIn.own (.tail (.tail (.tail (.tail (.tail (.tail .head))))))) rfl (fun a1 ha1 => ?_) (show 0 < 1 by decide)
          subst ha1
          refine h.rdEI (i := 0) (y := pk) 0 (RdIn.own (.tail (.tail (.tail (.tail (.tail (.tail .head))))))) rfl ?_
          refine h.rdI (B := qo) 3 ?_
          refine ift (by rw [e1]; simp) ?_
          refine h.ix (z := 1) (i := 0) (y := pk) (RdIn.own (.tail (.tail (.tail (.tail (.tail (.tail .head))))))) rfl (fun a2 ha2 => ?_) (show 0 < 1 by decide)
          have ha2 : some a1 = some a2 := ha2
          injection ha2 with ha2
          subst ha2
          refine h.rdEL (i := 0) (y := pk) 1 (RdIn.own (.tail (.tail (.tail (.tail (.tail (.tail .head))))))) rfl ?_
          refine h.bytesToString (e := 5) (fun c w h => h.ro (.tail (.tail (.tail (.tail (.tail (.tail (.tail .head))))))) pk (by simp)) rfl ?_
          refine h.bytesToString (e := 5) (RdIn.own .head) rfl ?_
          refine ift (strOf_eq e2) ?_
          refine alive23_ok h fun w' h => ?_
          (repeat (first | apply Exists.intro (α := Int) | apply Exists.intro (α := Bool) | apply Exists.intro (α := ByteArray) | (apply Exists.intro (α := Option Addr); apply Exists.intro (α := Nat); apply Exists.intro (α := Nat)) | apply Exists.intro (α := Option Addr) | apply Exists.intro (α := Value)))
          refine ⟨rfl, ?_⟩
          exact letb rfl (hk _ (h.sub (Sub.same _).more.more.more.more.more.more.more.more))
        · refine h.allocZ fun q3 w' h => ?_
          refine ⟨_, fun _ h => h, h.sub (.cons (.tail (.tail .head)) (.cons (.tail (.tail .head)) (.nil))), ?_⟩
          refine h.lit (n := 1) 67 2 (([⟨1, O, k, keyB (drawS k0 k1 0) 0 false⟩] : List Opx).flatMap opx) fun q4 w' h => ?_
          refine ⟨_, fun _ h => h, h.sub (.cons (.tail (.tail (.tail .head))) (.cons (.tail (.tail (.tail .head))) (.nil))), ?_⟩
          refine RDS.bld ?_
          (repeat (first | apply Exists.intro (α := Int) | apply Exists.intro (α := Bool) | apply Exists.intro (α := ByteArray) | (apply Exists.intro (α := Option Addr); apply Exists.intro (α := Nat); apply Exists.intro (α := Nat)) | apply Exists.intro (α := Option Addr) | apply Exists.intro (α := Value)))
          refine ⟨rfl, ?_⟩
          have h := h.sub (show Sub _ (blk q3 70 _ :: own 67 2 (some ⟨q4, 0, none⟩) 1 1 _ :: own 5 1 O _ k _ :: _) from .cons (.tail .head) (.cons .head (.cons .head ((Sub.same _)))))
          refine h.stG (B := q3) fun w' h => ?_
          refine h.rdG (B := q3) ?_
          (repeat (first | apply Exists.intro (α := Int) | apply Exists.intro (α := Bool) | apply Exists.intro (α := ByteArray) | (apply Exists.intro (α := Option Addr); apply Exists.intro (α := Nat); apply Exists.intro (α := Nat)) | apply Exists.intro (α := Option Addr) | apply Exists.intro (α := Value)))
          refine ⟨rfl, ?_⟩
          refine renc_ok h (s := ⟨o.a, o.b, IntKind.u32.wrap (drawS k0 k1 1), 0, 1, some ⟨q4, 0, none⟩, 1, [⟨1, O, k, keyB (drawS k0 k1 0) 0 false⟩], none, 0, []⟩) (fun c w h => ⟨RdIn.own (.tail .head) c w h, fun o' ho => by
            rw [List.mem_singleton] at ho
            subst ho
            exact RdIn.own (.tail (.tail .head)) c w h, Row.nil w none⟩) okS fun O5 k5 w' h => ?_
          (repeat (first | apply Exists.intro (α := Int) | apply Exists.intro (α := Bool) | apply Exists.intro (α := ByteArray) | (apply Exists.intro (α := Option Addr); apply Exists.intro (α := Nat); apply Exists.intro (α := Nat)) | apply Exists.intro (α := Option Addr) | apply Exists.intro (α := Value)))
          refine ⟨rfl, ?_⟩
          refine leti rfl ?_
          have h := h.drew
          refine h.ix (z := 1) (i := 0) (y := pk) (RdIn.own (.tail (.tail (.tail (.tail (.tail (.tail .head))))))) rfl (fun a1 ha1 => ?_) (show 0 < 1 by decide)
          subst ha1
          refine h.rdEI (i := 0) (y := pk) 0 (RdIn.own (.tail (.tail (.tail (.tail (.tail (.tail .head))))))) rfl ?_
          refine h.rdI (B := qo) 3 ?_
          refine ift (by rw [e1]; simp) ?_
          refine h.ix (z := 1) (i := 0) (y := pk) (RdIn.own (.tail (.tail (.tail (.tail (.tail (.tail .head))))))) rfl (fun a2 ha2 => ?_) (show 0 < 1 by decide)
          have ha2 : some a1 = some a2 := ha2
          injection ha2 with ha2
          subst ha2
          refine h.rdEL (i := 0) (y := pk) 1 (RdIn.own (.tail (.tail (.tail (.tail (.tail (.tail .head))))))) rfl ?_
          refine h.bytesToString (e := 5) (fun c w h => h.ro (.tail (.tail (.tail (.tail (.tail (.tail (.tail .head))))))) pk (by simp)) rfl ?_
          refine h.bytesToString (e := 5) (RdIn.own .head) rfl ?_
          refine ift (strOf_eq e2) ?_
          refine alive23_ok h fun w' h => ?_
          (repeat (first | apply Exists.intro (α := Int) | apply Exists.intro (α := Bool) | apply Exists.intro (α := ByteArray) | (apply Exists.intro (α := Option Addr); apply Exists.intro (α := Nat); apply Exists.intro (α := Nat)) | apply Exists.intro (α := Option Addr) | apply Exists.intro (α := Value)))
          refine ⟨rfl, ?_⟩
          exact letb rfl (hk _ (h.sub (Sub.same _).more.more.more.more.more.more.more.more))
      · refine h.allocZ fun q3 w' h => ?_
        refine ⟨_, fun _ h => h, h.sub (.cons (.tail .head) (.cons (.tail .head) (.nil))), ?_⟩
        refine rkey_ok h (drawS_range k0 k1 0).1 (drawS_range k0 k1 0).2 (by decide) (by decide) fun O k w' h => ?_
        (repeat (first | apply Exists.intro (α := Int) | apply Exists.intro (α := Bool) | apply Exists.intro (α := ByteArray) | (apply Exists.intro (α := Option Addr); apply Exists.intro (α := Nat); apply Exists.intro (α := Nat)) | apply Exists.intro (α := Option Addr) | apply Exists.intro (α := Value)))
        refine ⟨rfl, ?_⟩
        refine ⟨_, fun _ h => h, h.sub (.cons (.tail (.tail .head)) (.cons (.tail (.tail .head)) (.nil))), ?_⟩
        refine RDS.bld ?_
        (repeat (first | apply Exists.intro (α := Int) | apply Exists.intro (α := Bool) | apply Exists.intro (α := ByteArray) | (apply Exists.intro (α := Option Addr); apply Exists.intro (α := Nat); apply Exists.intro (α := Nat)) | apply Exists.intro (α := Option Addr) | apply Exists.intro (α := Value)))
        refine ⟨rfl, ?_⟩
        refine h.lit (n := 1) 67 2 (([⟨1, O, k, keyB (drawS k0 k1 0) 0 false⟩] : List Opx).flatMap opx) fun q4 w' h => ?_
        refine ⟨_, fun _ h => h, h.sub (.cons (.tail (.tail (.tail .head))) (.cons (.tail (.tail (.tail .head))) (.nil))), ?_⟩
        refine RDS.bld ?_
        (repeat (first | apply Exists.intro (α := Int) | apply Exists.intro (α := Bool) | apply Exists.intro (α := ByteArray) | (apply Exists.intro (α := Option Addr); apply Exists.intro (α := Nat); apply Exists.intro (α := Nat)) | apply Exists.intro (α := Option Addr) | apply Exists.intro (α := Value)))
        refine ⟨rfl, ?_⟩
        have h := h.sub (show Sub _ (blk q3 70 _ :: own 67 2 (some ⟨q4, 0, none⟩) 1 1 _ :: own 5 1 O _ k _ :: _) from .cons (.tail (.tail .head)) (.cons .head (.cons .head ((Sub.same _)))))
        refine h.stG (B := q3) fun w' h => ?_
        refine h.rdG (B := q3) ?_
        (repeat (first | apply Exists.intro (α := Int) | apply Exists.intro (α := Bool) | apply Exists.intro (α := ByteArray) | (apply Exists.intro (α := Option Addr); apply Exists.intro (α := Nat); apply Exists.intro (α := Nat)) | apply Exists.intro (α := Option Addr) | apply Exists.intro (α := Value)))
        refine ⟨rfl, ?_⟩
        refine renc_ok h (s := ⟨o.a, o.b, IntKind.u32.wrap (drawS k0 k1 1), 0, 1, some ⟨q4, 0, none⟩, 1, [⟨1, O, k, keyB (drawS k0 k1 0) 0 false⟩], none, 0, []⟩) (fun c w h => ⟨RdIn.own (.tail .head) c w h, fun o' ho => by
          rw [List.mem_singleton] at ho
          subst ho
          exact RdIn.own (.tail (.tail .head)) c w h, Row.nil w none⟩) okS fun O5 k5 w' h => ?_
        (repeat (first | apply Exists.intro (α := Int) | apply Exists.intro (α := Bool) | apply Exists.intro (α := ByteArray) | (apply Exists.intro (α := Option Addr); apply Exists.intro (α := Nat); apply Exists.intro (α := Nat)) | apply Exists.intro (α := Option Addr) | apply Exists.intro (α := Value)))
        refine ⟨rfl, ?_⟩
        refine leti rfl ?_
        have h := h.drew
        refine h.ix (z := 1) (i := 0) (y := pk) (RdIn.own (.tail (.tail (.tail (.tail (.tail (.tail .head))))))) rfl (fun a1 ha1 => ?_) (show 0 < 1 by decide)
        subst ha1
        refine h.rdEI (i := 0) (y := pk) 0 (RdIn.own (.tail (.tail (.tail (.tail (.tail (.tail .head))))))) rfl ?_
        refine h.rdI (B := qo) 3 ?_
        refine ift (by rw [e1]; simp) ?_
        refine h.ix (z := 1) (i := 0) (y := pk) (RdIn.own (.tail (.tail (.tail (.tail (.tail (.tail .head))))))) rfl (fun a2 ha2 => ?_) (show 0 < 1 by decide)
        have ha2 : some a1 = some a2 := ha2
        injection ha2 with ha2
        subst ha2
        refine h.rdEL (i := 0) (y := pk) 1 (RdIn.own (.tail (.tail (.tail (.tail (.tail (.tail .head))))))) rfl ?_
        refine h.bytesToString (e := 5) (fun c w h => h.ro (.tail (.tail (.tail (.tail (.tail (.tail (.tail .head))))))) pk (by simp)) rfl ?_
        refine h.bytesToString (e := 5) (RdIn.own .head) rfl ?_
        refine ift (strOf_eq e2) ?_
        refine alive23_ok h fun w' h => ?_
        (repeat (first | apply Exists.intro (α := Int) | apply Exists.intro (α := Bool) | apply Exists.intro (α := ByteArray) | (apply Exists.intro (α := Option Addr); apply Exists.intro (α := Nat); apply Exists.intro (α := Nat)) | apply Exists.intro (α := Option Addr) | apply Exists.intro (α := Value)))
        refine ⟨rfl, ?_⟩
        exact letb rfl (hk _ (h.sub (Sub.same _).more.more.more.more.more.more.more.more))
    · refine h.allocZ fun q3 w' h => ?_
      refine ⟨_, fun _ h => h, h.sub (.cons (.tail .head) (.cons (.tail .head) (.nil))), ?_⟩
      refine drawn_ok h (by decide) (by decide) fun w' h => ?_
      (repeat (first | apply Exists.intro (α := Int) | apply Exists.intro (α := Bool) | apply Exists.intro (α := ByteArray) | (apply Exists.intro (α := Option Addr); apply Exists.intro (α := Nat); apply Exists.intro (α := Nat)) | apply Exists.intro (α := Option Addr) | apply Exists.intro (α := Value)))
      refine ⟨rfl, ?_⟩
      refine ⟨_, fun _ h => h, h.sub (.cons (.tail .head) (.cons (.tail .head) (.nil))), ?_⟩
      refine rkey_ok h (drawS_range k0 k1 0).1 (drawS_range k0 k1 0).2 (by decide) (by decide) fun O k w' h => ?_
      (repeat (first | apply Exists.intro (α := Int) | apply Exists.intro (α := Bool) | apply Exists.intro (α := ByteArray) | (apply Exists.intro (α := Option Addr); apply Exists.intro (α := Nat); apply Exists.intro (α := Nat)) | apply Exists.intro (α := Option Addr) | apply Exists.intro (α := Value)))
      refine ⟨rfl, ?_⟩
      refine ⟨_, fun _ h => h, h.sub (.cons (.tail (.tail .head)) (.cons (.tail (.tail .head)) (.nil))), ?_⟩
      refine RDS.bld ?_
      (repeat (first | apply Exists.intro (α := Int) | apply Exists.intro (α := Bool) | apply Exists.intro (α := ByteArray) | (apply Exists.intro (α := Option Addr); apply Exists.intro (α := Nat); apply Exists.intro (α := Nat)) | apply Exists.intro (α := Option Addr) | apply Exists.intro (α := Value)))
      refine ⟨rfl, ?_⟩
      refine h.lit (n := 1) 67 2 (([⟨1, O, k, keyB (drawS k0 k1 0) 0 false⟩] : List Opx).flatMap opx) fun q4 w' h => ?_
      refine ⟨_, fun _ h => h, h.sub (.cons (.tail (.tail (.tail .head))) (.cons (.tail (.tail (.tail .head))) (.nil))), ?_⟩
      refine RDS.bld ?_
      (repeat (first | apply Exists.intro (α := Int) | apply Exists.intro (α := Bool) | apply Exists.intro (α := ByteArray) | (apply Exists.intro (α := Option Addr); apply Exists.intro (α := Nat); apply Exists.intro (α := Nat)) | apply Exists.intro (α := Option Addr) | apply Exists.intro (α := Value)))
      refine ⟨rfl, ?_⟩
      have h := h.sub (show Sub _ (blk q3 70 _ :: own 67 2 (some ⟨q4, 0, none⟩) 1 1 _ :: own 5 1 O _ k _ :: _) from .cons (.tail (.tail .head)) (.cons .head (.cons .head ((Sub.same _)))))
      refine h.stG (B := q3) fun w' h => ?_
      refine h.rdG (B := q3) ?_
      (repeat (first | apply Exists.intro (α := Int) | apply Exists.intro (α := Bool) | apply Exists.intro (α := ByteArray) | (apply Exists.intro (α := Option Addr); apply Exists.intro (α := Nat); apply Exists.intro (α := Nat)) | apply Exists.intro (α := Option Addr) | apply Exists.intro (α := Value)))
      refine ⟨rfl, ?_⟩
      refine renc_ok h (s := ⟨o.a, o.b, IntKind.u32.wrap (drawS k0 k1 1), 0, 1, some ⟨q4, 0, none⟩, 1, [⟨1, O, k, keyB (drawS k0 k1 0) 0 false⟩], none, 0, []⟩) (fun c w h => ⟨RdIn.own (.tail .head) c w h, fun o' ho => by
        rw [List.mem_singleton] at ho
        subst ho
        exact RdIn.own (.tail (.tail .head)) c w h, Row.nil w none⟩) okS fun O5 k5 w' h => ?_
      (repeat (first | apply Exists.intro (α := Int) | apply Exists.intro (α := Bool) | apply Exists.intro (α := ByteArray) | (apply Exists.intro (α := Option Addr); apply Exists.intro (α := Nat); apply Exists.intro (α := Nat)) | apply Exists.intro (α := Option Addr) | apply Exists.intro (α := Value)))
      refine ⟨rfl, ?_⟩
      refine leti rfl ?_
      have h := h.drew
      refine h.ix (z := 1) (i := 0) (y := pk) (RdIn.own (.tail (.tail (.tail (.tail (.tail (.tail .head))))))) rfl (fun a1 ha1 => ?_) (show 0 < 1 by decide)
      subst ha1
      refine h.rdEI (i := 0) (y := pk) 0 (RdIn.own (.tail (.tail (.tail (.tail (.tail (.tail .head))))))) rfl ?_
      refine h.rdI (B := qo) 3 ?_
      refine ift (by rw [e1]; simp) ?_
      refine h.ix (z := 1) (i := 0) (y := pk) (RdIn.own (.tail (.tail (.tail (.tail (.tail (.tail .head))))))) rfl (fun a2 ha2 => ?_) (show 0 < 1 by decide)
      have ha2 : some a1 = some a2 := ha2
      injection ha2 with ha2
      subst ha2
      refine h.rdEL (i := 0) (y := pk) 1 (RdIn.own (.tail (.tail (.tail (.tail (.tail (.tail .head))))))) rfl ?_
      refine h.bytesToString (e := 5) (fun c w h => h.ro (.tail (.tail (.tail (.tail (.tail (.tail (.tail .head))))))) pk (by simp)) rfl ?_
      refine h.bytesToString (e := 5) (RdIn.own .head) rfl ?_
      refine ift (strOf_eq e2) ?_
      refine alive23_ok h fun w' h => ?_
      (repeat (first | apply Exists.intro (α := Int) | apply Exists.intro (α := Bool) | apply Exists.intro (α := ByteArray) | (apply Exists.intro (α := Option Addr); apply Exists.intro (α := Nat); apply Exists.intro (α := Nat)) | apply Exists.intro (α := Option Addr) | apply Exists.intro (α := Value)))
      refine ⟨rfl, ?_⟩
      exact letb rfl (hk _ (h.sub (Sub.same _).more.more.more.more.more.more.more.more))
  · refine h.allocZ fun q3 w' h => ?_
    refine ⟨_, fun _ h => h, h.sub (.cons (.tail .head) (.cons (.tail .head) (.nil))), ?_⟩
    refine drawn_ok h (by decide) (by decide) fun w' h => ?_
    (repeat (first | apply Exists.intro (α := Int) | apply Exists.intro (α := Bool) | apply Exists.intro (α := ByteArray) | (apply Exists.intro (α := Option Addr); apply Exists.intro (α := Nat); apply Exists.intro (α := Nat)) | apply Exists.intro (α := Option Addr) | apply Exists.intro (α := Value)))
    refine ⟨rfl, ?_⟩
    refine ⟨_, fun _ h => h, h.sub (.cons (.tail .head) (.cons (.tail .head) (.nil))), ?_⟩
    refine drawn_ok h (by decide) (by decide) fun w' h => ?_
    (repeat (first | apply Exists.intro (α := Int) | apply Exists.intro (α := Bool) | apply Exists.intro (α := ByteArray) | (apply Exists.intro (α := Option Addr); apply Exists.intro (α := Nat); apply Exists.intro (α := Nat)) | apply Exists.intro (α := Option Addr) | apply Exists.intro (α := Value)))
    refine ⟨rfl, ?_⟩
    refine ⟨_, fun _ h => h, h.sub (.cons (.tail .head) (.cons (.tail .head) (.nil))), ?_⟩
    refine rkey_ok h (drawS_range k0 k1 0).1 (drawS_range k0 k1 0).2 (by decide) (by decide) fun O k w' h => ?_
    (repeat (first | apply Exists.intro (α := Int) | apply Exists.intro (α := Bool) | apply Exists.intro (α := ByteArray) | (apply Exists.intro (α := Option Addr); apply Exists.intro (α := Nat); apply Exists.intro (α := Nat)) | apply Exists.intro (α := Option Addr) | apply Exists.intro (α := Value)))
    refine ⟨rfl, ?_⟩
    refine ⟨_, fun _ h => h, h.sub (.cons (.tail (.tail .head)) (.cons (.tail (.tail .head)) (.nil))), ?_⟩
    refine RDS.bld ?_
    (repeat (first | apply Exists.intro (α := Int) | apply Exists.intro (α := Bool) | apply Exists.intro (α := ByteArray) | (apply Exists.intro (α := Option Addr); apply Exists.intro (α := Nat); apply Exists.intro (α := Nat)) | apply Exists.intro (α := Option Addr) | apply Exists.intro (α := Value)))
    refine ⟨rfl, ?_⟩
    refine h.lit (n := 1) 67 2 (([⟨1, O, k, keyB (drawS k0 k1 0) 0 false⟩] : List Opx).flatMap opx) fun q4 w' h => ?_
    refine ⟨_, fun _ h => h, h.sub (.cons (.tail (.tail (.tail .head))) (.cons (.tail (.tail (.tail .head))) (.nil))), ?_⟩
    refine RDS.bld ?_
    (repeat (first | apply Exists.intro (α := Int) | apply Exists.intro (α := Bool) | apply Exists.intro (α := ByteArray) | (apply Exists.intro (α := Option Addr); apply Exists.intro (α := Nat); apply Exists.intro (α := Nat)) | apply Exists.intro (α := Option Addr) | apply Exists.intro (α := Value)))
    refine ⟨rfl, ?_⟩
    have h := h.sub (show Sub _ (blk q3 70 _ :: own 67 2 (some ⟨q4, 0, none⟩) 1 1 _ :: own 5 1 O _ k _ :: _) from .cons (.tail (.tail .head)) (.cons .head (.cons .head ((Sub.same _)))))
    refine h.stG (B := q3) fun w' h => ?_
    refine h.rdG (B := q3) ?_
    (repeat (first | apply Exists.intro (α := Int) | apply Exists.intro (α := Bool) | apply Exists.intro (α := ByteArray) | (apply Exists.intro (α := Option Addr); apply Exists.intro (α := Nat); apply Exists.intro (α := Nat)) | apply Exists.intro (α := Option Addr) | apply Exists.intro (α := Value)))
    refine ⟨rfl, ?_⟩
    refine renc_ok h (s := ⟨o.a, o.b, IntKind.u32.wrap (drawS k0 k1 1), 0, 1, some ⟨q4, 0, none⟩, 1, [⟨1, O, k, keyB (drawS k0 k1 0) 0 false⟩], none, 0, []⟩) (fun c w h => ⟨RdIn.own (.tail .head) c w h, fun o' ho => by
      rw [List.mem_singleton] at ho
      subst ho
      exact RdIn.own (.tail (.tail .head)) c w h, Row.nil w none⟩) okS fun O5 k5 w' h => ?_
    (repeat (first | apply Exists.intro (α := Int) | apply Exists.intro (α := Bool) | apply Exists.intro (α := ByteArray) | (apply Exists.intro (α := Option Addr); apply Exists.intro (α := Nat); apply Exists.intro (α := Nat)) | apply Exists.intro (α := Option Addr) | apply Exists.intro (α := Value)))
    refine ⟨rfl, ?_⟩
    refine leti rfl ?_
    have h := h.drew
    refine h.ix (z := 1) (i := 0) (y := pk) (RdIn.own (.tail (.tail (.tail (.tail (.tail (.tail .head))))))) rfl (fun a1 ha1 => ?_) (show 0 < 1 by decide)
    subst ha1
    refine h.rdEI (i := 0) (y := pk) 0 (RdIn.own (.tail (.tail (.tail (.tail (.tail (.tail .head))))))) rfl ?_
    refine h.rdI (B := qo) 3 ?_
    refine ift (by rw [e1]; simp) ?_
    refine h.ix (z := 1) (i := 0) (y := pk) (RdIn.own (.tail (.tail (.tail (.tail (.tail (.tail .head))))))) rfl (fun a2 ha2 => ?_) (show 0 < 1 by decide)
    have ha2 : some a1 = some a2 := ha2
    injection ha2 with ha2
    subst ha2
    refine h.rdEL (i := 0) (y := pk) 1 (RdIn.own (.tail (.tail (.tail (.tail (.tail (.tail .head))))))) rfl ?_
    refine h.bytesToString (e := 5) (fun c w h => h.ro (.tail (.tail (.tail (.tail (.tail (.tail (.tail .head))))))) pk (by simp)) rfl ?_
    refine h.bytesToString (e := 5) (RdIn.own .head) rfl ?_
    refine ift (strOf_eq e2) ?_
    refine alive23_ok h fun w' h => ?_
    (repeat (first | apply Exists.intro (α := Int) | apply Exists.intro (α := Bool) | apply Exists.intro (α := ByteArray) | (apply Exists.intro (α := Option Addr); apply Exists.intro (α := Nat); apply Exists.intro (α := Nat)) | apply Exists.intro (α := Option Addr) | apply Exists.intro (α := Value)))
    refine ⟨rfl, ?_⟩
    exact letb rfl (hk _ (h.sub (Sub.same _).more.more.more.more.more.more.more.more))
end
end Go.Br
