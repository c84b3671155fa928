/- Who asks for a connection: the law. -/
import Derived.Test.YtmdkhgibipojcaaGreatNHostRefLaw
import Derived.Test.YtmdkhgibipojcaaGreatJHostRef5
set_option linter.unusedVariables false
set_option linter.unusedSimpArgs false
set_option linter.unnecessarySimpa false
namespace Go.Br
open Go
instance biHostRefLawa (x0 : Int) (x1 : Option Addr) (n1 c1 : Nat) : Bld PG (Instr.build 41 #[(0, .int .u8 x0), (1, .slice x1 n1 c1)]) (.agg #[.int .u8 x0, .slice x1 n1 c1]) := ⟨fun w => by kernel_rfl⟩
instance biHostRefLawb (x0 : Int) (x1 : Int) (x2 : Int) (x3 : Int) (x4 : Option Addr) (n4 c4 : Nat) : Bld PG (Instr.build 44 #[(0, .int .u16 x0), (1, .int .u16 x1), (2, .int .u32 x2), (4, .int .u8 x3), (5, .slice x4 n4 c4)]) (.agg #[.int .u16 x0, .int .u16 x1, .int .u32 x2, .int .u32 0, .int .u8 x3, .slice x4 n4 c4, .slice none 0 0]) := ⟨fun w => by kernel_rfl⟩
instance biHostRefLawc : Zro PG 35 10 80 (.agg #[.int .i64 0, .int .i64 0, .int .i64 0, .int .i64 0, .int .i64 0, .int .i64 0, .int .i64 0, .int .i64 0, .int .i64 0, .int .i64 0]) := ⟨tiOf (by kernel_rfl)⟩
instance biHostRefLawd : Zro PG 44 7 64 (.agg #[.int .u16 0, .int .u16 0, .int .u32 0, .int .u32 0, .int .u8 0, .slice none 0 0, .slice none 0 0]) := ⟨tiOf (by kernel_rfl)⟩
attribute [local irreducible] Addr.add RD RDS RUN RUNU NILC LETB CALL CALLX CALLV

def kv1 (x : Int) : List Value := [.int .u64 x]
section
variable {c : Ctx} {w : World} {L R : List SA} {g : Cfg} {k0 k1 : Int} {p r : Nat} {A : Option Addr} {C : Nat}
theorem HoSt.bounds {lst : Bool} {j : Nat} {hf u f b : Int} {M : List SA} (h : HoSt g k0 k1 p r lst j hf u f b M) : (0 ≤ hf ∧ hf ≤ j) ∧ (0 ≤ u ∧ u ≤ j) ∧ (0 ≤ f ∧ f ≤ j) ∧ (0 ≤ b ∧ b ≤ j) := by
  rcases h with ⟨rfl, rfl, rfl, rfl, rfl, rfl⟩ | ⟨rfl, q, PA, PC, A, d, Y, sN, rfl, rfl, rfl, h1, h2, h3, h4, rfl⟩
  · omega
  · omega
theorem listenA_ok (h : St c w (blk p 66 (hst (host0 g k0 k1 r)) :: mp r [] :: L)) (hg : CfgOk g) {Q : Value → World → Prop}
    (hk : ∀ (x : Int) lst M w', (x == 0) = lst → lst = decide (0 < g.ports) → HoSt g k0 k1 p r lst 0 0 0 0 0 M → St c w' (M ++ L) → Q (.int .i64 x) w') : CALL PG 6 [.pointer (some ⟨p, 0, none⟩), .int .i64 80] w Q := by
  refine listen80_ok h hg (fun h0 w' h => ?_) fun h1 A d q w' h => ?_
  · exact hk 203 false [blk p 66 (hst (hoR g k0 k1 0 0 0 0 none 0 0 r)), mp r []] w' rfl (by rw [decide_eq_false (by omega)]) (.inl ⟨rfl, rfl, rfl, rfl, rfl, rfl⟩) h
  · have h := h.addOwnNil 81 1
    refine hk 0 true (hsM p r q (hoR g k0 k1 0 0 0 0 A 1 d r) A d none 0 g []) w' rfl (by rw [decide_eq_true h1]) (.inr ⟨rfl, q, A, d, none, 0, [], 0, rfl, rfl, rfl, rfl, by decide, by decide, by simp, rfl⟩) ?_
    exact h.sub (.cons (.tail .head) (.cons (.tail (.tail (.tail .head))) (.cons (.tail .head) (.cons (.tail .head) (.cons .head ((Sub.same _)))))))
theorem refuses_ok (h : St c w L) {xs : List Int} (hx : ∀ x ∈ xs, 0 ≤ x ∧ x < 18446744073709551616) (hr : RdIn L A (xs.flatMap kv1)) {Q : Value → World → Prop} (hk : ∀ w', St c w' L → Q (.bool true) w') : CALL PG 3 [cfgv g, .agg #[.int .u64 k0, .int .u64 k1], .slice A xs.length C] w Q := by
  refine call3 ?_
  unfold N3
  refine h.box (vs := cfg g) fun qc w' h => ?_
  refine h.box fun qs w' h => ?_
  refine h.rdG (B := qc) ?_
  (repeat (first | apply Exists.intro (α := Int) | apply Exists.intro (α := Bool) | apply Exists.intro (α := ByteArray) | (apply Exists.intro (α := Option Addr); apply Exists.intro (α := Nat); apply Exists.intro (α := Nat)) | apply Exists.intro (α := Option Addr) | apply Exists.intro (α := Value)))
  refine ⟨rfl, ?_⟩
  refine rright_ok h g fun w' h => ?_
  (repeat (first | apply Exists.intro (α := Int) | apply Exists.intro (α := Bool) | apply Exists.intro (α := ByteArray) | (apply Exists.intro (α := Option Addr); apply Exists.intro (α := Nat); apply Exists.intro (α := Nat)) | apply Exists.intro (α := Option Addr) | apply Exists.intro (α := Value)))
  refine ⟨rfl, ?_⟩
  by_cases hg : CfgOk g
  rotate_left
  · rw [decide_eq_false hg]
    exact ift rfl (hk _ h.drop.drop)
  rw [decide_eq_true hg]
  refine iff_ rfl ?_
  refine ifd (fun _ => hk _ h.drop.drop) fun h60 => ?_
  have hlen : xs.length ≤ 60 := by omega
  clear h60
  refine h.rdG (B := qc) ?_
  (repeat (first | apply Exists.intro (α := Int) | apply Exists.intro (α := Bool) | apply Exists.intro (α := ByteArray) | (apply Exists.intro (α := Option Addr); apply Exists.intro (α := Nat); apply Exists.intro (α := Nat)) | apply Exists.intro (α := Option Addr) | apply Exists.intro (α := Value)))
  refine ⟨rfl, ?_⟩
  refine h.rdG (B := qs) ?_
  (repeat (first | apply Exists.intro (α := Int) | apply Exists.intro (α := Bool) | apply Exists.intro (α := ByteArray) | (apply Exists.intro (α := Option Addr); apply Exists.intro (α := Nat); apply Exists.intro (α := Nat)) | apply Exists.intro (α := Option Addr) | apply Exists.intro (α := Value)))
  refine ⟨rfl, ?_⟩
  refine hnew_ok h g (fun e => absurd hg e) fun _ p r w' h => ?_
  have h : St c w' (blk p 66 (hst (host0 g k0 k1 r)) :: mp r [] :: blk qs 27 [.int .u64 k0, .int .u64 k1] :: blk qc 24 (cfg g) :: L) := h
  (repeat (first | apply Exists.intro (α := Int) | apply Exists.intro (α := Bool) | apply Exists.intro (α := ByteArray) | (apply Exists.intro (α := Option Addr); apply Exists.intro (α := Nat); apply Exists.intro (α := Nat)) | apply Exists.intro (α := Option Addr) | apply Exists.intro (α := Value)))
  refine ⟨rfl, ?_⟩
  refine leti rfl (ifnsame rfl (iff_ rfl ?_))
  refine listenA_ok h hg fun x lst M w' hx0 hlst hs h => ?_
  (repeat (first | apply Exists.intro (α := Int) | apply Exists.intro (α := Bool) | apply Exists.intro (α := ByteArray) | (apply Exists.intro (α := Option Addr); apply Exists.intro (α := Nat); apply Exists.intro (α := Nat)) | apply Exists.intro (α := Option Addr) | apply Exists.intro (α := Value)))
  refine ⟨rfl, ?_⟩
  refine letb hx0 ?_
  have ba : (Instr.build 35 #[]).run PG w' = .ok (.agg (cnts 0 0 0).toArray) w' := by kernel_rfl
  refine RD.of ba ⟨_, rfl, ?_⟩
  refine h.allocZ fun qa w' h => ?_
  refine h.stG (B := qa) fun w' h => ?_
  have h : St c w' (blk qa 35 (cnts 0 0 0) :: blk qc 24 (cfg g) :: (M ++ L)) := by
    have h := h.ent (ent_swapH (blk qa 35 (cnts 0 0 0) :: M) (B := [blk qs 27 [.int .u64 k0, .int .u64 k1], blk qc 24 (cfg g)]) (C := L))
    exact h.sub (.cons (.tail (.tail .head)) (.cons (.tail .head) ((Sub.same _).more)))
  refine ⟨fun m half i w => ∃ (j : Nat) (u f b : Int) (M : List SA), i = j ∧ m = xs.length - j ∧ j ≤ xs.length ∧ HoSt g k0 k1 p r lst j half u f b M ∧ St c w (blk qa 35 (cnts u f b) :: blk qc 24 (cfg g) :: (M ++ L)), ⟨_, 0, 0, 0, 0, M, rfl, rfl, Nat.zero_le _, hs, h⟩, ?_⟩
  clear h hs
  rintro m hf i w' ⟨j, u, f, b, M, rfl, rfl, hj, hs, h⟩
  have hbd := hs.bounds
  by_cases hlt : j < xs.length
  rotate_left
  · refine ifdf (by omega) ?_
    refine h.rdI (B := qc) 0 ?_
    refine ift (by rw [hlst]; simp) ?_
    refine alive23_ok h fun w' h => ?_
    (repeat (first | apply Exists.intro (α := Int) | apply Exists.intro (α := Bool) | apply Exists.intro (α := ByteArray) | (apply Exists.intro (α := Option Addr); apply Exists.intro (α := Nat); apply Exists.intro (α := Nat)) | apply Exists.intro (α := Option Addr) | apply Exists.intro (α := Value)))
    refine ⟨rfl, ?_⟩
    exact letb rfl (hk _ (St.dropA h.drop.drop))
  refine ifdt (by omega) ?_
  obtain ⟨x, hxj⟩ : ∃ x, xs[j]? = some x := ⟨_, List.getElem?_eq_getElem hlt⟩
  have hxr := hx x (List.mem_of_getElem? hxj)
  have h := h.drew
  have hr2 : ∀ {M : List SA}, RdIn (blk qa 35 (cnts u f b) :: blk qc 24 (cfg g) :: (M ++ L)) A (xs.flatMap kv1) := fun {M} => (rdH (X := M) hr).more.more
  refine ⟨fun w => St c w (blk qa 35 (cnts u f b) :: blk qc 24 (cfg g) :: (M ++ L)), h, ?_⟩
  refine h.ix (z := 0) (i := j) hr2 hxj (fun a ha => ?_) hlt
  subst ha
  refine St.rdsWI (i := j) hr2 hxj ?_
  refine h.ix (z := 0) (i := j) hr2 hxj (fun a2 ha => ?_) hlt
  injection ha with ha
  subst ha
  refine St.rdsWI (i := j) hr2 hxj ?_
  rw [show IntKind.u16.wrap (IntKind.i64.wrap ((2000 : Int) + (j : Int))) = 2000 + (j : Int) by rw [wrap_i64 (by omega) (by omega), wrapU16]; omega]
  have okS : SgOk (askS (2000 + (j : Int)) 80 (IntKind.u32.wrap x) x) := askS_ok (by omega) (by omega) (by rw [wrapU32]; omega)
  have l8 : (keyB x 0 false).length = 8 := by simp [keyB, beB_length]
  have l24 : (encB (askS (2000 + (j : Int)) 80 (IntKind.u32.wrap x) x)).length ≤ 1000000 := by simp [encB, askS, hdB, obs, obP, keyB, beB_length]
  refine ⟨?_, ?_⟩
  · refine rkey_ok h hxr.1 hxr.2 (by decide) (by decide) fun O k w' h => ?_
    (repeat (first | apply Exists.intro (α := Int) | apply Exists.intro (α := Bool) | apply Exists.intro (α := ByteArray) | (apply Exists.intro (α := Option Addr); apply Exists.intro (α := Nat); apply Exists.intro (α := Nat)) | apply Exists.intro (α := Option Addr) | apply Exists.intro (α := Value)))
    refine ⟨rfl, ?_⟩
    refine ⟨_, fun _ h => h, h.drop, ?_⟩
    refine RDS.bld ?_
    (repeat (first | apply Exists.intro (α := Int) | apply Exists.intro (α := Bool) | apply Exists.intro (α := ByteArray) | (apply Exists.intro (α := Option Addr); apply Exists.intro (α := Nat); apply Exists.intro (α := Nat)) | apply Exists.intro (α := Option Addr) | apply Exists.intro (α := Value)))
    refine ⟨rfl, ?_⟩
    refine ⟨?_, ?_⟩
    · refine h.lit (n := 1) 41 2 (([⟨1, O, k, keyB x 0 false⟩] : List Opx).flatMap opx) fun q4 w' h => ?_
      refine ⟨_, fun _ h => h, h.drop.drop, ?_⟩
      refine RDS.bld ?_
      (repeat (first | apply Exists.intro (α := Int) | apply Exists.intro (α := Bool) | apply Exists.intro (α := ByteArray) | (apply Exists.intro (α := Option Addr); apply Exists.intro (α := Nat); apply Exists.intro (α := Nat)) | apply Exists.intro (α := Option Addr) | apply Exists.intro (α := Value)))
      refine ⟨rfl, ?_⟩
      refine h.allocZ fun q3 w' h => ?_
      refine ⟨_, fun _ h => h, h.drop.drop.drop, ?_⟩
      refine h.stG (B := q3) fun w' h => ?_
      refine h.rdG (B := q3) ?_
      (repeat (first | apply Exists.intro (α := Int) | apply Exists.intro (α := Bool) | apply Exists.intro (α := ByteArray) | (apply Exists.intro (α := Option Addr); apply Exists.intro (α := Nat); apply Exists.intro (α := Nat)) | apply Exists.intro (α := Option Addr) | apply Exists.intro (α := Value)))
      refine ⟨rfl, ?_⟩
      refine renc_ok h (s := ⟨2000 + (j : Int), 80, IntKind.u32.wrap x, 0, 1, some ⟨q4, 0, none⟩, 1, [⟨1, O, k, keyB x 0 false⟩], none, 0, []⟩) (fun c w h => ⟨RdIn.own (.tail .head) c w h, fun o' ho => by
        rw [List.mem_singleton] at ho
        subst ho
        exact RdIn.own (.tail (.tail .head)) c w h, Row.nil w none⟩) okS fun O5 k5 w' h => ?_
      (repeat (first | apply Exists.intro (α := Int) | apply Exists.intro (α := Bool) | apply Exists.intro (α := ByteArray) | (apply Exists.intro (α := Option Addr); apply Exists.intro (α := Nat); apply Exists.intro (α := Nat)) | apply Exists.intro (α := Option Addr) | apply Exists.intro (α := Value)))
      refine ⟨rfl, ?_⟩
      refine leti rfl ?_
      have hk5 := (h.own .head).le
      have h : St c w' ([own 5 1 O5 (encB (askS (2000 + (j : Int)) 80 (IntKind.u32.wrap x) x)).length k5 (bvs (encB (askS (2000 + (j : Int)) 80 (IntKind.u32.wrap x) x))), blk qa 35 (cnts u f b), blk qc 24 (cfg g)] ++ (M ++ L)) := h.sub (.cons .head (.cons (.tail (.tail (.tail .head))) (.cons (.tail (.tail (.tail .head))) ((Sub.same _).more.more.more))))
      have h := h.ent (ent_swapH _ (B := M) (C := L))
      refine dp_ok h hs hg (by omega) (RdIn.own .head) rfl rfl hk5 okS l8 l24 fun w' hq => ⟨rfl, hq fun A9 m d hf' u' f' b' M' w' hcase hs' h => ?_⟩
      (repeat (first | apply Exists.intro (α := Int) | apply Exists.intro (α := Bool) | apply Exists.intro (α := ByteArray) | (apply Exists.intro (α := Option Addr); apply Exists.intro (α := Nat); apply Exists.intro (α := Nat)) | apply Exists.intro (α := Option Addr) | apply Exists.intro (α := Value)))
      refine ⟨rfl, ?_⟩
      refine leti rfl ?_
      have h : St c w' (blk qa 35 (cnts u f b) :: blk qc 24 (cfg g) :: (M' ++ L)) := (h.ent (ent_swapH M' (B := [_, _, _]) (C := L))).drop
      refine ⟨fun half2 out2 w => half2 = hf' ∧ out2 = 0 ∧ St c w (blk qa 35 (cnts u' f' b') :: blk qc 24 (cfg g) :: (M' ++ L)), ?_, ?_⟩
      · rcases hcase with ⟨e, rfl, rfl, rfl, rfl, rfl⟩ | ⟨e, hc, rfl, rfl, rfl, rfl, rfl⟩ | ⟨e, hc, rfl, rfl, rfl, rfl, rfl⟩
        · subst e
          refine letb rfl (ift rfl ⟨⟨by decide, by decide⟩, ?_⟩)
          refine h.rdI (B := qa) 7 ⟨⟨by decide, by decide⟩, ?_⟩
          refine h.st (B := qa) 7 fun w' h => ?_
          rw [wrap_i64 (n := u + 1) (by omega) (by omega)] at h
          exact ⟨rfl, rfl, h⟩
        · subst e
          refine letb rfl (iff_ rfl ?_)
          refine ⟨fun bb w => bb = true ∧ St c w (blk qa 35 (cnts u' f' b) :: blk qc 24 (cfg g) :: (M' ++ L)), ?_, ?_⟩
          · refine h.rdI (B := qc) 1 (ifdt hc.1 ?_)
            refine h.rdI (B := qc) 2 (letb rfl ⟨decide_eq_true hc.2, h⟩)
          · clear h
            rintro bb w' ⟨rfl, h⟩
            refine ift rfl (leti rfl ⟨⟨by decide, by decide⟩, ?_⟩)
            refine h.rdI (B := qa) 9 ⟨⟨by decide, by decide⟩, ?_⟩
            refine h.st (B := qa) 9 fun w' h => ?_
            rw [wrap_i64 (n := b + 1) (by omega) (by omega)] at h
            exact leti rfl ⟨wrap_i64 (by omega) (by omega), rfl, h⟩
        · subst e
          refine letb rfl (iff_ rfl ?_)
          refine ⟨fun bb w => bb = false ∧ St c w (blk qa 35 (cnts u' f b') :: blk qc 24 (cfg g) :: (M' ++ L)), ?_, ?_⟩
          · refine h.rdI (B := qc) 1 (ifd (fun e1 => ?_) fun e1 => letb rfl ⟨rfl, h⟩)
            refine h.rdI (B := qc) 2 (letb rfl ⟨decide_eq_false fun e2 => hc ⟨e1, e2⟩, h⟩)
          · clear h
            rintro bb w' ⟨rfl, h⟩
            refine iff_ rfl ⟨⟨by decide, by decide⟩, ?_⟩
            refine h.rdI (B := qa) 8 ⟨⟨by decide, by decide⟩, ?_⟩
            refine h.st (B := qa) 8 fun w' h => ?_
            rw [wrap_i64 (n := f + 1) (by omega) (by omega)] at h
            exact ⟨rfl, rfl, h⟩
      clear h hcase
      rintro _ _ w' ⟨rfl, rfl, h⟩
      have h := h.drew
      refine ⟨fun w => St c w [blk qa 35 (cnts u' f' b')], h.sub (.cons .head (.nil)), ifnsame rfl ?_⟩
      refine St.rdsG (B := qa) ⟨_, rfl, ?_⟩
      refine seenA_ok (h.ent (ent_swapH [_, _] (B := M') (C := L))) hs' fun w' h => ?_
      have h : St c w' (blk qa 35 (cnts u' f' b') :: blk qc 24 (cfg g) :: (M' ++ L)) := h.ent (ent_swapH M' (B := [_, _]) (C := L))
      (repeat (first | apply Exists.intro (α := Int) | apply Exists.intro (α := Bool) | apply Exists.intro (α := ByteArray) | (apply Exists.intro (α := Option Addr); apply Exists.intro (α := Nat); apply Exists.intro (α := Nat)) | apply Exists.intro (α := Option Addr) | apply Exists.intro (α := Value)))
      refine ⟨rfl, ?_⟩
      refine ⟨_, fun _ h => h, h.sub (.cons .head (.nil)), ?_⟩
      refine seen23_ok (u := u') (f := f') (b := b') h fun w' h => ⟨_, rfl, ?_⟩
      refine ⟨_, fun _ h => h, h.sub (.cons .head (.nil)), ?_⟩
      unfold RDSB
      refine RDS.of (v := .bool false) (fun w _ => arr_neq w 0 0 0 0 0 0 0 u' f' b') ⟨_, rfl, iff_ rfl ?_⟩
      refine sizesA_ok (h.ent (ent_swapH [_, _] (B := M') (C := L))) hg (by omega) hs' fun _ _ _ _ _ w' h => ?_
      have h : St c w' (blk qa 35 (cnts u' f' b') :: blk qc 24 (cfg g) :: (M' ++ L)) := h.ent (ent_swapH M' (B := [_, _]) (C := L))
      (repeat (first | apply Exists.intro (α := Int) | apply Exists.intro (α := Bool) | apply Exists.intro (α := ByteArray) | (apply Exists.intro (α := Option Addr); apply Exists.intro (α := Nat); apply Exists.intro (α := Nat)) | apply Exists.intro (α := Option Addr) | apply Exists.intro (α := Value)))
      refine ⟨rfl, ?_⟩
      refine ifnsame rfl ?_
      refine leti rfl ⟨_, ?_, j + 1, u', f', b', M', by rw [wrap_i64 (by omega) (by omega)]; omega, rfl, by omega, hs', h⟩
      omega
    · refine h.allocZ fun q3 w' h => ?_
      refine ⟨_, fun _ h => h, h.drop.drop, ?_⟩
      refine h.lit (n := 1) 41 2 (([⟨1, O, k, keyB x 0 false⟩] : List Opx).flatMap opx) fun q4 w' h => ?_
      refine ⟨_, fun _ h => h, h.drop.drop.drop, ?_⟩
      refine RDS.bld ?_
      (repeat (first | apply Exists.intro (α := Int) | apply Exists.intro (α := Bool) | apply Exists.intro (α := ByteArray) | (apply Exists.intro (α := Option Addr); apply Exists.intro (α := Nat); apply Exists.intro (α := Nat)) | apply Exists.intro (α := Option Addr) | apply Exists.intro (α := Value)))
      refine ⟨rfl, ?_⟩
      refine h.stG (B := q3) fun w' h => ?_
      refine h.rdG (B := q3) ?_
      (repeat (first | apply Exists.intro (α := Int) | apply Exists.intro (α := Bool) | apply Exists.intro (α := ByteArray) | (apply Exists.intro (α := Option Addr); apply Exists.intro (α := Nat); apply Exists.intro (α := Nat)) | apply Exists.intro (α := Option Addr) | apply Exists.intro (α := Value)))
      refine ⟨rfl, ?_⟩
      refine renc_ok h (s := ⟨2000 + (j : Int), 80, IntKind.u32.wrap x, 0, 1, some ⟨q4, 0, none⟩, 1, [⟨1, O, k, keyB x 0 false⟩], none, 0, []⟩) (fun c w h => ⟨RdIn.own (.tail .head) c w h, fun o' ho => by
        rw [List.mem_singleton] at ho
        subst ho
        exact RdIn.own (.tail (.tail .head)) c w h, Row.nil w none⟩) okS fun O5 k5 w' h => ?_
      (repeat (first | apply Exists.intro (α := Int) | apply Exists.intro (α := Bool) | apply Exists.intro (α := ByteArray) | (apply Exists.intro (α := Option Addr); apply Exists.intro (α := Nat); apply Exists.intro (α := Nat)) | apply Exists.intro (α := Option Addr) | apply Exists.intro (α := Value)))
      refine ⟨rfl, ?_⟩
      refine leti rfl ?_
      have hk5 := (h.own .head).le
      have h : St c w' ([own 5 1 O5 (encB (askS (2000 + (j : Int)) 80 (IntKind.u32.wrap x) x)).length k5 (bvs (encB (askS (2000 + (j : Int)) 80 (IntKind.u32.wrap x) x))), blk qa 35 (cnts u f b), blk qc 24 (cfg g)] ++ (M ++ L)) := h.sub (.cons .head (.cons (.tail (.tail (.tail .head))) (.cons (.tail (.tail (.tail .head))) ((Sub.same _).more.more.more))))
      have h := h.ent (ent_swapH _ (B := M) (C := L))
      refine dp_ok h hs hg (by omega) (RdIn.own .head) rfl rfl hk5 okS l8 l24 fun w' hq => ⟨rfl, hq fun A9 m d hf' u' f' b' M' w' hcase hs' h => ?_⟩
      (repeat (first | apply Exists.intro (α := Int) | apply Exists.intro (α := Bool) | apply Exists.intro (α := ByteArray) | (apply Exists.intro (α := Option Addr); apply Exists.intro (α := Nat); apply Exists.intro (α := Nat)) | apply Exists.intro (α := Option Addr) | apply Exists.intro (α := Value)))
      refine ⟨rfl, ?_⟩
      refine leti rfl ?_
      have h : St c w' (blk qa 35 (cnts u f b) :: blk qc 24 (cfg g) :: (M' ++ L)) := (h.ent (ent_swapH M' (B := [_, _, _]) (C := L))).drop
      refine ⟨fun half2 out2 w => half2 = hf' ∧ out2 = 0 ∧ St c w (blk qa 35 (cnts u' f' b') :: blk qc 24 (cfg g) :: (M' ++ L)), ?_, ?_⟩
      · rcases hcase with ⟨e, rfl, rfl, rfl, rfl, rfl⟩ | ⟨e, hc, rfl, rfl, rfl, rfl, rfl⟩ | ⟨e, hc, rfl, rfl, rfl, rfl, rfl⟩
        · subst e
          refine letb rfl (ift rfl ⟨⟨by decide, by decide⟩, ?_⟩)
          refine h.rdI (B := qa) 7 ⟨⟨by decide, by decide⟩, ?_⟩
          refine h.st (B := qa) 7 fun w' h => ?_
          rw [wrap_i64 (n := u + 1) (by omega) (by omega)] at h
          exact ⟨rfl, rfl, h⟩
        · subst e
          refine letb rfl (iff_ rfl ?_)
          refine ⟨fun bb w => bb = true ∧ St c w (blk qa 35 (cnts u' f' b) :: blk qc 24 (cfg g) :: (M' ++ L)), ?_, ?_⟩
          · refine h.rdI (B := qc) 1 (ifdt hc.1 ?_)
            refine h.rdI (B := qc) 2 (letb rfl ⟨decide_eq_true hc.2, h⟩)
          · clear h
            rintro bb w' ⟨rfl, h⟩
            refine ift rfl (leti rfl ⟨⟨by decide, by decide⟩, ?_⟩)
            refine h.rdI (B := qa) 9 ⟨⟨by decide, by decide⟩, ?_⟩
            refine h.st (B := qa) 9 fun w' h => ?_
            rw [wrap_i64 (n := b + 1) (by omega) (by omega)] at h
            exact leti rfl ⟨wrap_i64 (by omega) (by omega), rfl, h⟩
        · subst e
          refine letb rfl (iff_ rfl ?_)
          refine ⟨fun bb w => bb = false ∧ St c w (blk qa 35 (cnts u' f b') :: blk qc 24 (cfg g) :: (M' ++ L)), ?_, ?_⟩
          · refine h.rdI (B := qc) 1 (ifd (fun e1 => ?_) fun e1 => letb rfl ⟨rfl, h⟩)
            refine h.rdI (B := qc) 2 (letb rfl ⟨decide_eq_false fun e2 => hc ⟨e1, e2⟩, h⟩)
          · clear h
            rintro bb w' ⟨rfl, h⟩
            refine iff_ rfl ⟨⟨by decide, by decide⟩, ?_⟩
            refine h.rdI (B := qa) 8 ⟨⟨by decide, by decide⟩, ?_⟩
            refine h.st (B := qa) 8 fun w' h => ?_
            rw [wrap_i64 (n := f + 1) (by omega) (by omega)] at h
            exact ⟨rfl, rfl, h⟩
      clear h hcase
      rintro _ _ w' ⟨rfl, rfl, h⟩
      have h := h.drew
      refine ⟨fun w => St c w [blk qa 35 (cnts u' f' b')], h.sub (.cons .head (.nil)), ifnsame rfl ?_⟩
      refine St.rdsG (B := qa) ⟨_, rfl, ?_⟩
      refine seenA_ok (h.ent (ent_swapH [_, _] (B := M') (C := L))) hs' fun w' h => ?_
      have h : St c w' (blk qa 35 (cnts u' f' b') :: blk qc 24 (cfg g) :: (M' ++ L)) := h.ent (ent_swapH M' (B := [_, _]) (C := L))
      (repeat (first | apply Exists.intro (α := Int) | apply Exists.intro (α := Bool) | apply Exists.intro (α := ByteArray) | (apply Exists.intro (α := Option Addr); apply Exists.intro (α := Nat); apply Exists.intro (α := Nat)) | apply Exists.intro (α := Option Addr) | apply Exists.intro (α := Value)))
      refine ⟨rfl, ?_⟩
      refine ⟨_, fun _ h => h, h.sub (.cons .head (.nil)), ?_⟩
      refine seen23_ok (u := u') (f := f') (b := b') h fun w' h => ⟨_, rfl, ?_⟩
      refine ⟨_, fun _ h => h, h.sub (.cons .head (.nil)), ?_⟩
      unfold RDSB
      refine RDS.of (v := .bool false) (fun w _ => arr_neq w 0 0 0 0 0 0 0 u' f' b') ⟨_, rfl, iff_ rfl ?_⟩
      refine sizesA_ok (h.ent (ent_swapH [_, _] (B := M') (C := L))) hg (by omega) hs' fun _ _ _ _ _ w' h => ?_
      have h : St c w' (blk qa 35 (cnts u' f' b') :: blk qc 24 (cfg g) :: (M' ++ L)) := h.ent (ent_swapH M' (B := [_, _]) (C := L))
      (repeat (first | apply Exists.intro (α := Int) | apply Exists.intro (α := Bool) | apply Exists.intro (α := ByteArray) | (apply Exists.intro (α := Option Addr); apply Exists.intro (α := Nat); apply Exists.intro (α := Nat)) | apply Exists.intro (α := Option Addr) | apply Exists.intro (α := Value)))
      refine ⟨rfl, ?_⟩
      refine ifnsame rfl ?_
      refine leti rfl ⟨_, ?_, j + 1, u', f', b', M', by rw [wrap_i64 (by omega) (by omega)]; omega, rfl, by omega, hs', h⟩
      omega
  · refine h.allocZ fun q3 w' h => ?_
    refine ⟨_, fun _ h => h, h.drop, ?_⟩
    refine rkey_ok h hxr.1 hxr.2 (by decide) (by decide) fun O k w' h => ?_
    (repeat (first | apply Exists.intro (α := Int) | apply Exists.intro (α := Bool) | apply Exists.intro (α := ByteArray) | (apply Exists.intro (α := Option Addr); apply Exists.intro (α := Nat); apply Exists.intro (α := Nat)) | apply Exists.intro (α := Option Addr) | apply Exists.intro (α := Value)))
    refine ⟨rfl, ?_⟩
    refine ⟨_, fun _ h => h, h.drop.drop, ?_⟩
    refine RDS.bld ?_
    (repeat (first | apply Exists.intro (α := Int) | apply Exists.intro (α := Bool) | apply Exists.intro (α := ByteArray) | (apply Exists.intro (α := Option Addr); apply Exists.intro (α := Nat); apply Exists.intro (α := Nat)) | apply Exists.intro (α := Option Addr) | apply Exists.intro (α := Value)))
    refine ⟨rfl, ?_⟩
    refine h.lit (n := 1) 41 2 (([⟨1, O, k, keyB x 0 false⟩] : List Opx).flatMap opx) fun q4 w' h => ?_
    refine ⟨_, fun _ h => h, h.drop.drop.drop, ?_⟩
    refine RDS.bld ?_
    (repeat (first | apply Exists.intro (α := Int) | apply Exists.intro (α := Bool) | apply Exists.intro (α := ByteArray) | (apply Exists.intro (α := Option Addr); apply Exists.intro (α := Nat); apply Exists.intro (α := Nat)) | apply Exists.intro (α := Option Addr) | apply Exists.intro (α := Value)))
    refine ⟨rfl, ?_⟩
    refine h.stG (B := q3) fun w' h => ?_
    refine h.rdG (B := q3) ?_
    (repeat (first | apply Exists.intro (α := Int) | apply Exists.intro (α := Bool) | apply Exists.intro (α := ByteArray) | (apply Exists.intro (α := Option Addr); apply Exists.intro (α := Nat); apply Exists.intro (α := Nat)) | apply Exists.intro (α := Option Addr) | apply Exists.intro (α := Value)))
    refine ⟨rfl, ?_⟩
    have h := h.sub (show Sub _ (blk q3 44 _ :: own 41 2 (some ⟨q4, 0, none⟩) 1 1 _ :: own 5 1 O _ k _ :: _) from (.cons .head (.cons .head (.cons .head ((Sub.same _))))))
    refine renc_ok h (s := ⟨2000 + (j : Int), 80, IntKind.u32.wrap x, 0, 1, some ⟨q4, 0, none⟩, 1, [⟨1, O, k, keyB x 0 false⟩], none, 0, []⟩) (fun c w h => ⟨RdIn.own (.tail .head) c w h, fun o' ho => by
      rw [List.mem_singleton] at ho
      subst ho
      exact RdIn.own (.tail (.tail .head)) c w h, Row.nil w none⟩) okS fun O5 k5 w' h => ?_
    (repeat (first | apply Exists.intro (α := Int) | apply Exists.intro (α := Bool) | apply Exists.intro (α := ByteArray) | (apply Exists.intro (α := Option Addr); apply Exists.intro (α := Nat); apply Exists.intro (α := Nat)) | apply Exists.intro (α := Option Addr) | apply Exists.intro (α := Value)))
    refine ⟨rfl, ?_⟩
    refine leti rfl ?_
    have hk5 := (h.own .head).le
    have h : St c w' ([own 5 1 O5 (encB (askS (2000 + (j : Int)) 80 (IntKind.u32.wrap x) x)).length k5 (bvs (encB (askS (2000 + (j : Int)) 80 (IntKind.u32.wrap x) x))), blk qa 35 (cnts u f b), blk qc 24 (cfg g)] ++ (M ++ L)) := h.sub (.cons .head (.cons (.tail (.tail (.tail .head))) (.cons (.tail (.tail (.tail .head))) ((Sub.same _).more.more.more))))
    have h := h.ent (ent_swapH _ (B := M) (C := L))
    refine dp_ok h hs hg (by omega) (RdIn.own .head) rfl rfl hk5 okS l8 l24 fun w' hq => ⟨rfl, hq fun A9 m d hf' u' f' b' M' w' hcase hs' h => ?_⟩
    (repeat (first | apply Exists.intro (α := Int) | apply Exists.intro (α := Bool) | apply Exists.intro (α := ByteArray) | (apply Exists.intro (α := Option Addr); apply Exists.intro (α := Nat); apply Exists.intro (α := Nat)) | apply Exists.intro (α := Option Addr) | apply Exists.intro (α := Value)))
    refine ⟨rfl, ?_⟩
    refine leti rfl ?_
    have h : St c w' (blk qa 35 (cnts u f b) :: blk qc 24 (cfg g) :: (M' ++ L)) := (h.ent (ent_swapH M' (B := [_, _, _]) (C := L))).drop
    refine ⟨fun half2 out2 w => half2 = hf' ∧ out2 = 0 ∧ St c w (blk qa 35 (cnts u' f' b') :: blk qc 24 (cfg g) :: (M' ++ L)), ?_, ?_⟩
    · rcases hcase with ⟨e, rfl, rfl, rfl, rfl, rfl⟩ | ⟨e, hc, rfl, rfl, rfl, rfl, rfl⟩ | ⟨e, hc, rfl, rfl, rfl, rfl, rfl⟩
      · subst e
        refine letb rfl (ift rfl ⟨⟨by decide, by decide⟩, ?_⟩)
        refine h.rdI (B := qa) 7 ⟨⟨by decide, by decide⟩, ?_⟩
        refine h.st (B := qa) 7 fun w' h => ?_
        rw [wrap_i64 (n := u + 1) (by omega) (by omega)] at h
        exact ⟨rfl, rfl, h⟩
      · subst e
        refine letb rfl (iff_ rfl ?_)
        refine ⟨fun bb w => bb = true ∧ St c w (blk qa 35 (cnts u' f' b) :: blk qc 24 (cfg g) :: (M' ++ L)), ?_, ?_⟩
        · refine h.rdI (B := qc) 1 (ifdt hc.1 ?_)
          refine h.rdI (B := qc) 2 (letb rfl ⟨decide_eq_true hc.2, h⟩)
        · clear h
          rintro bb w' ⟨rfl, h⟩
          refine ift rfl (leti rfl ⟨⟨by decide, by decide⟩, ?_⟩)
          refine h.rdI (B := qa) 9 ⟨⟨by decide, by decide⟩, ?_⟩
          refine h.st (B := qa) 9 fun w' h => ?_
          rw [wrap_i64 (n := b + 1) (by omega) (by omega)] at h
          exact leti rfl ⟨wrap_i64 (by omega) (by omega), rfl, h⟩
      · subst e
        refine letb rfl (iff_ rfl ?_)
        refine ⟨fun bb w => bb = false ∧ St c w (blk qa 35 (cnts u' f b') :: blk qc 24 (cfg g) :: (M' ++ L)), ?_, ?_⟩
        · refine h.rdI (B := qc) 1 (ifd (fun e1 => ?_) fun e1 => letb rfl ⟨rfl, h⟩)
          refine h.rdI (B := qc) 2 (letb rfl ⟨decide_eq_false fun e2 => hc ⟨e1, e2⟩, h⟩)
        · clear h
          rintro bb w' ⟨rfl, h⟩
          refine iff_ rfl ⟨⟨by decide, by decide⟩, ?_⟩
          refine h.rdI (B := qa) 8 ⟨⟨by decide, by decide⟩, ?_⟩
          refine h.st (B := qa) 8 fun w' h => ?_
          rw [wrap_i64 (n := f + 1) (by omega) (by omega)] at h
          exact ⟨rfl, rfl, h⟩
    clear h hcase
    rintro _ _ w' ⟨rfl, rfl, h⟩
    have h := h.drew
    refine ⟨fun w => St c w [blk qa 35 (cnts u' f' b')], h.sub (.cons .head (.nil)), ifnsame rfl ?_⟩
    refine St.rdsG (B := qa) ⟨_, rfl, ?_⟩
    refine seenA_ok (h.ent (ent_swapH [_, _] (B := M') (C := L))) hs' fun w' h => ?_
    have h : St c w' (blk qa 35 (cnts u' f' b') :: blk qc 24 (cfg g) :: (M' ++ L)) := h.ent (ent_swapH M' (B := [_, _]) (C := L))
    (repeat (first | apply Exists.intro (α := Int) | apply Exists.intro (α := Bool) | apply Exists.intro (α := ByteArray) | (apply Exists.intro (α := Option Addr); apply Exists.intro (α := Nat); apply Exists.intro (α := Nat)) | apply Exists.intro (α := Option Addr) | apply Exists.intro (α := Value)))
    refine ⟨rfl, ?_⟩
    refine ⟨_, fun _ h => h, h.sub (.cons .head (.nil)), ?_⟩
    refine seen23_ok (u := u') (f := f') (b := b') h fun w' h => ⟨_, rfl, ?_⟩
    refine ⟨_, fun _ h => h, h.sub (.cons .head (.nil)), ?_⟩
    unfold RDSB
    refine RDS.of (v := .bool false) (fun w _ => arr_neq w 0 0 0 0 0 0 0 u' f' b') ⟨_, rfl, iff_ rfl ?_⟩
    refine sizesA_ok (h.ent (ent_swapH [_, _] (B := M') (C := L))) hg (by omega) hs' fun _ _ _ _ _ w' h => ?_
    have h : St c w' (blk qa 35 (cnts u' f' b') :: blk qc 24 (cfg g) :: (M' ++ L)) := h.ent (ent_swapH M' (B := [_, _]) (C := L))
    (repeat (first | apply Exists.intro (α := Int) | apply Exists.intro (α := Bool) | apply Exists.intro (α := ByteArray) | (apply Exists.intro (α := Option Addr); apply Exists.intro (α := Nat); apply Exists.intro (α := Nat)) | apply Exists.intro (α := Option Addr) | apply Exists.intro (α := Value)))
    refine ⟨rfl, ?_⟩
    refine ifnsame rfl ?_
    refine leti rfl ⟨_, ?_, j + 1, u', f', b', M', by rw [wrap_i64 (by omega) (by omega)]; omega, rfl, by omega, hs', h⟩
    omega
end
end Go.Br
