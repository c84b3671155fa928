/- The law of a stream whose pieces come in any order. -/
import Derived.Test.YtccmlfekmmeloaaNInletLaw
import Derived.Test.YtccmlfekmmeloaaInletPure
set_option linter.unusedVariables false
set_option linter.unusedSimpArgs false
set_option linter.unnecessarySimpa false
namespace Go.Br
open Go
attribute [local irreducible] Addr.add RD RDS RUN RUNU NILC LETB CALL CALLX CALLV

structure Op18 where
  kind : Int
  n : Int
  pos : Int
  far : Bool
  b : Option Addr
  bC : Nat
  bs : List UInt8
def op18 (x : Op18) : List Value := [.int .i64 x.kind, .int .i64 x.n, .int .u64 x.pos, .bool x.far, .slice x.b x.bs.length x.bC]
abbrev op18v (x : Op18) : Value := .agg #[.int .i64 x.kind, .int .i64 x.n, .int .u64 x.pos, .bool x.far, .slice x.b x.bs.length x.bC]
theorem op18_length (x : Op18) : (op18 x).length = 5 := rfl
theorem op18_flat1 (x : Op18) : Flat (op18 x) := by intro v hv; simp [op18] at hv; rcases hv with rfl | rfl | rfl | rfl | rfl <;> rfl
theorem op18_flat (L : List Op18) : Flat (L.flatMap op18) := by
  intro v hv
  simp only [List.mem_flatMap] at hv
  obtain ⟨x, _, hx⟩ := hv
  exact op18_flat1 x v hx
def Op18Ok (x : Op18) : Prop := 0 ≤ x.pos ∧ x.pos < 18446744073709551616
theorem mod_bnd (x : Int) {m : Int} (hm : 0 < m) (h2 : m ≤ 1000) : 0 ≤ Int.tmod (IntKind.i64.wrap (Int.tmod x m + m)) m ∧ Int.tmod (IntKind.i64.wrap (Int.tmod x m + m)) m < m := by
  have h1 := Int.tmod_lt_of_pos x hm
  have h3 := Int.lt_tmod_of_pos x hm
  rw [wrap_i64 (by omega) (by omega), Int.tmod_eq_emod_of_nonneg (by omega)]
  exact ⟨Int.emod_nonneg _ (by omega), Int.emod_lt_of_pos _ hm⟩
section
variable {c : Ctx} {w : World} {L R : List SA}
theorem great18_ok (h : St c w L) {A : Option Addr} {k : Nat} {X : List Op18} (hr : RdIn L A (X.flatMap op18)) {Q : Value → World → Prop} (hk : ∀ b, (b = false → X.length ≤ 60 ∧ ∀ x ∈ X, x.bs.length ≤ 300) → Q (.bool b) w) : CALL PG 24 [.slice A X.length k] w Q := by
  refine call24 ?_
  unfold N24
  refine ifd (fun _ => hk true (by simp)) fun hn => ?_
  refine ⟨fun m i w' => ∃ j : Nat, j + m = X.length ∧ i = (j : Int) ∧ (∀ x ∈ X.take j, x.bs.length ≤ 300) ∧ w' = w, ⟨X.length, 0, by omega, rfl, by simp, rfl⟩, ?_⟩
  rintro m _ _ ⟨j, hj, rfl, hX, rfl⟩
  refine ifd (fun hlt => ?_) fun hge => ?_
  · obtain ⟨x, hx⟩ := ex_get (L := X) (j := j) (by omega)
    refine h.ix (z := 4) hr hx fun b hb => ?_
    have hr1 := hr
    rw [hb] at hr1
    refine h.rdEL 4 hr1 hx ?_
    refine ifd (fun _ => hk true (by simp)) fun hb => ?_
    refine leti (wrap_i64 (n := (j : Int) + 1) (by omega) (by omega)) ⟨m - 1, by omega, j + 1, by omega, by omega, fun y hy => ?_, rfl⟩
    rw [take_snoc' hx] at hy
    rcases List.mem_append.1 hy with hy | hy
    · exact hX y hy
    · simp at hy; subst hy; omega
  · have : j = X.length := by omega
    subst this
    rw [List.take_length] at hX
    exact hk false fun _ => ⟨by omega, hX⟩
theorem alive18_ok (h : St c w L) {Q : Value → World → Prop} (hk : ∀ w', St c w' L → Q (.bool true) w') : CALL PG 31 [] w Q := by
  refine call31 ?_
  unfold N31
  refine inew_ok h (size := 8) (by decide) (by decide) fun p r D sp w' h => ?_
  (repeat (first | apply Exists.intro (α := Int) | apply Exists.intro (α := Bool) | apply Exists.intro (α := ByteArray) | (apply Exists.intro (α := Option Addr); apply Exists.intro (α := Nat); apply Exists.intro (α := Nat)) | apply Exists.intro (α := Option Addr) | apply Exists.intro (α := Value)))
  refine ⟨rfl, ?_⟩
  refine leti rfl (iff_ rfl (iff_ rfl ?_))
  repeat' (first
    | refine nilc ?_
    | refine h.rdI _ ?_
    | refine h.rdB _ ?_
    | refine h.rdP _ ?_
    | refine h.rdL _ ?_
    | refine h.rdT _ ?_
    | refine h.rdI2 _ _ ?_
    | refine h.rdB2 _ _ ?_
    | refine h.rdP2 _ _ ?_
    | refine h.rdL2 _ _ ?_
    | refine h.st2 _ _ fun w' h => ?_
    | refine h.st _ fun w' h => ?_
    | refine h.rdvI ?_
    | refine h.rdvB ?_
    | refine h.rdvP ?_
    | refine h.rdvL ?_
    | refine h.rdvT ?_
    | (refine h.rdG ?_; (repeat (first | apply Exists.intro (α := Int) | apply Exists.intro (α := Bool) | apply Exists.intro (α := ByteArray) | (apply Exists.intro (α := Option Addr); apply Exists.intro (α := Nat); apply Exists.intro (α := Nat)) | apply Exists.intro (α := Option Addr) | apply Exists.intro (α := Value))); refine ⟨rfl, ?_⟩)
    | refine h.stG fun w' h => ?_
    | refine h.stV fun w' h => ?_
    | refine h.box fun p w' h => ?_
    | refine h.boxV fun p w' h => ?_
    | refine h.allocZ fun p w' h => ?_
    | refine h.allocZV fun p w' h => ?_
    | (refine RD.bld ?_; (repeat (first | apply Exists.intro (α := Int) | apply Exists.intro (α := Bool) | apply Exists.intro (α := ByteArray) | (apply Exists.intro (α := Option Addr); apply Exists.intro (α := Nat); apply Exists.intro (α := Nat)) | apply Exists.intro (α := Option Addr) | apply Exists.intro (α := Value))); refine ⟨rfl, ?_⟩)
    | (refine RDS.bld ?_; (repeat (first | apply Exists.intro (α := Int) | apply Exists.intro (α := Bool) | apply Exists.intro (α := ByteArray) | (apply Exists.intro (α := Option Addr); apply Exists.intro (α := Nat); apply Exists.intro (α := Nat)) | apply Exists.intro (α := Option Addr) | apply Exists.intro (α := Value))); refine ⟨rfl, ?_⟩)
    | refine St.rdsI _ ?_
    | refine St.rdsB _ ?_
    | refine St.rdsP _ ?_
    | refine St.rdsL _ ?_
    | refine St.rdsT _ ?_
    | refine St.rdsI2 _ _ ?_
    | refine St.rdsB2 _ _ ?_
    | (refine St.rdsG ?_; (repeat (first | apply Exists.intro (α := Int) | apply Exists.intro (α := Bool) | apply Exists.intro (α := ByteArray) | (apply Exists.intro (α := Option Addr); apply Exists.intro (α := Nat); apply Exists.intro (α := Nat)) | apply Exists.intro (α := Option Addr) | apply Exists.intro (α := Value))); refine ⟨rfl, ?_⟩)
    | refine letb rfl ?_
    | refine sat h ?_
    | (have h := h.drew; refine sat h ?_)
    | refine sat1 h (fun _ h => h.to) ?_)
  refine iff_ rfl ?_
  refine h.lit (n := 2) 5 1 (bvs [99, 100]) fun q w' h => ?_
  refine h.bytesBytes (u := 5) .head fun w' h => ?_
  have h := h.to (L' := il p r D sp 0 0 false (List.replicate 8 0) 0 (minN (maxN 4 1) 64) [] (own 5 1 (some ⟨q, 0, none⟩) 2 2 (bvs [99, 100]) :: L))
  refine put_ok h (b := [99, 100]) (by decide) (by decide) Sep.nil (by simp) (by simp) (by decide) (by decide) (RdIn.own .head) (by decide) (by decide) fun w' h => ?_
  rw [show putV 0 0 false (List.replicate 8 0) 0 (minN (maxN 4 1) 64) [] 2 [99, 100] = ([0, 0, 99, 100, 0, 0, 0, 0], 0, [⟨2, 4⟩], true) by rfl] at h ⊢
  dsimp only at h
  (repeat (first | apply Exists.intro (α := Int) | apply Exists.intro (α := Bool) | apply Exists.intro (α := ByteArray) | (apply Exists.intro (α := Option Addr); apply Exists.intro (α := Nat); apply Exists.intro (α := Nat)) | apply Exists.intro (α := Option Addr) | apply Exists.intro (α := Value)))
  refine ⟨rfl, ?_⟩
  refine letb rfl ?_
  refine next_ok h (by decide) (by decide) fun w' h => ?_
  (repeat (first | apply Exists.intro (α := Int) | apply Exists.intro (α := Bool) | apply Exists.intro (α := ByteArray) | (apply Exists.intro (α := Option Addr); apply Exists.intro (α := Nat); apply Exists.intro (α := Nat)) | apply Exists.intro (α := Option Addr) | apply Exists.intro (α := Value)))
  refine ⟨rfl, ?_⟩
  refine leti rfl ?_
  refine h.lit (n := 2) 5 1 (bvs [97, 98]) fun q2 w' h => ?_
  refine h.bytesBytes (u := 5) .head fun w' h => ?_
  have h := h.to (L' := il p r D sp 0 0 false [0, 0, 99, 100, 0, 0, 0, 0] 0 (minN (maxN 4 1) 64) [⟨2, 4⟩] (own 5 1 (some ⟨q2, 0, none⟩) 2 2 (bvs [97, 98]) :: L))
  refine put_ok h (b := [97, 98]) (by decide) (by decide) ⟨List.pairwise_singleton _ _, by simp [SpOk]⟩ (by simp) (by simp) (by decide) (by decide) (RdIn.own .head) (by decide) (by decide) fun w' h => ?_
  rw [show putV 0 0 false [0, 0, 99, 100, 0, 0, 0, 0] 0 (minN (maxN 4 1) 64) [⟨2, 4⟩] 0 [97, 98] = ([97, 98, 99, 100, 0, 0, 0, 0], 4, [], true) by rfl] at h ⊢
  dsimp only at h
  (repeat (first | apply Exists.intro (α := Int) | apply Exists.intro (α := Bool) | apply Exists.intro (α := ByteArray) | (apply Exists.intro (α := Option Addr); apply Exists.intro (α := Nat); apply Exists.intro (α := Nat)) | apply Exists.intro (α := Option Addr) | apply Exists.intro (α := Value)))
  refine ⟨rfl, ?_⟩
  refine letb rfl ?_
  refine take_ok h (by decide) (by decide) (k := 4) (by decide) fun A d w' er e1 e2 h => ?_
  have := e2 (by decide)
  subst this
  (repeat (first | apply Exists.intro (α := Int) | apply Exists.intro (α := Bool) | apply Exists.intro (α := ByteArray) | (apply Exists.intro (α := Option Addr); apply Exists.intro (α := Nat); apply Exists.intro (α := Nat)) | apply Exists.intro (α := Option Addr) | apply Exists.intro (α := Value)))
  refine ⟨rfl, ?_⟩
  refine leti rfl (ift rfl (ift rfl (ift rfl ?_)))
  refine h.bytesToString (e := 5) (bs := [97, 98, 99, 100]) (RdIn.own .head) rfl ?_
  refine ift (strOf_eq rfl) (ift rfl ?_)
  have h := h.to (L' := il p r D sp 4 0 false [0, 0, 0, 0, 0, 0, 0, 0] 0 (minN (maxN 4 1) 64) [] L)
  refine base_ok h ?_
  (repeat (first | apply Exists.intro (α := Int) | apply Exists.intro (α := Bool) | apply Exists.intro (α := ByteArray) | (apply Exists.intro (α := Option Addr); apply Exists.intro (α := Nat); apply Exists.intro (α := Nat)) | apply Exists.intro (α := Option Addr) | apply Exists.intro (α := Value)))
  refine ⟨rfl, ?_⟩
  refine ift rfl ?_
  refine edge_ok h (by decide) (by decide) fun w' h => ?_
  (repeat (first | apply Exists.intro (α := Int) | apply Exists.intro (α := Bool) | apply Exists.intro (α := ByteArray) | (apply Exists.intro (α := Option Addr); apply Exists.intro (α := Nat); apply Exists.intro (α := Nat)) | apply Exists.intro (α := Option Addr) | apply Exists.intro (α := Value)))
  refine ⟨rfl, ?_⟩
  exact letb rfl (hk _ h.drop.drop.drop)
theorem order18_ok (h : St c w L) {A A2 : Option Addr} {k k2 : Nat} {s : List UInt8} {X : List Op18} {size : Int} (hr : RdIn L A (bvs s)) (hc : s.length ≤ k) (hr2 : RdIn L A2 (X.flatMap op18)) (hX : ∀ x ∈ X, Op18Ok x) {Q : Value → World → Prop} (hk : ∀ w', St c w' L → Q (.bool true) w') :
    CALL PG 5 [.int .i64 size, .slice A s.length k, .slice A2 X.length k2] w Q := by
  refine call5 ?_
  unfold N5
  refine ifd (fun _ => hk _ h) fun z0 => ifd (fun _ => hk _ h) fun z1 => ifd (fun _ => hk _ h) fun s0 => ?_
  refine great18_ok h hr2 fun g hg => ?_
  (repeat (first | apply Exists.intro (α := Int) | apply Exists.intro (α := Bool) | apply Exists.intro (α := ByteArray) | (apply Exists.intro (α := Option Addr); apply Exists.intro (α := Nat); apply Exists.intro (α := Nat)) | apply Exists.intro (α := Option Addr) | apply Exists.intro (α := Value)))
  refine ⟨rfl, ?_⟩
  refine ifb (fun _ => hk _ h) fun e => ?_
  obtain ⟨hX60, _⟩ := hg e
  obtain ⟨sz, rfl⟩ : ∃ sz : Nat, size = sz := ⟨size.toNat, by omega⟩
  refine inew_ok h (size := sz) (by omega) (by omega) fun p r D sp w' h => ?_
  (repeat (first | apply Exists.intro (α := Int) | apply Exists.intro (α := Bool) | apply Exists.intro (α := ByteArray) | (apply Exists.intro (α := Option Addr); apply Exists.intro (α := Nat); apply Exists.intro (α := Nat)) | apply Exists.intro (α := Option Addr) | apply Exists.intro (α := Value)))
  refine ⟨rfl, ?_⟩
  refine leti rfl (iff_ rfl (iff_ rfl ?_))
  repeat' (first
    | refine nilc ?_
    | refine h.rdI _ ?_
    | refine h.rdB _ ?_
    | refine h.rdP _ ?_
    | refine h.rdL _ ?_
    | refine h.rdT _ ?_
    | refine h.rdI2 _ _ ?_
    | refine h.rdB2 _ _ ?_
    | refine h.rdP2 _ _ ?_
    | refine h.rdL2 _ _ ?_
    | refine h.st2 _ _ fun w' h => ?_
    | refine h.st _ fun w' h => ?_
    | refine h.rdvI ?_
    | refine h.rdvB ?_
    | refine h.rdvP ?_
    | refine h.rdvL ?_
    | refine h.rdvT ?_
    | (refine h.rdG ?_; (repeat (first | apply Exists.intro (α := Int) | apply Exists.intro (α := Bool) | apply Exists.intro (α := ByteArray) | (apply Exists.intro (α := Option Addr); apply Exists.intro (α := Nat); apply Exists.intro (α := Nat)) | apply Exists.intro (α := Option Addr) | apply Exists.intro (α := Value))); refine ⟨rfl, ?_⟩)
    | refine h.stG fun w' h => ?_
    | refine h.stV fun w' h => ?_
    | refine h.box fun p w' h => ?_
    | refine h.boxV fun p w' h => ?_
    | refine h.allocZ fun p w' h => ?_
    | refine h.allocZV fun p w' h => ?_
    | (refine RD.bld ?_; (repeat (first | apply Exists.intro (α := Int) | apply Exists.intro (α := Bool) | apply Exists.intro (α := ByteArray) | (apply Exists.intro (α := Option Addr); apply Exists.intro (α := Nat); apply Exists.intro (α := Nat)) | apply Exists.intro (α := Option Addr) | apply Exists.intro (α := Value))); refine ⟨rfl, ?_⟩)
    | (refine RDS.bld ?_; (repeat (first | apply Exists.intro (α := Int) | apply Exists.intro (α := Bool) | apply Exists.intro (α := ByteArray) | (apply Exists.intro (α := Option Addr); apply Exists.intro (α := Nat); apply Exists.intro (α := Nat)) | apply Exists.intro (α := Option Addr) | apply Exists.intro (α := Value))); refine ⟨rfl, ?_⟩)
    | refine St.rdsI _ ?_
    | refine St.rdsB _ ?_
    | refine St.rdsP _ ?_
    | refine St.rdsL _ ?_
    | refine St.rdsT _ ?_
    | refine St.rdsI2 _ _ ?_
    | refine St.rdsB2 _ _ ?_
    | (refine St.rdsG ?_; (repeat (first | apply Exists.intro (α := Int) | apply Exists.intro (α := Bool) | apply Exists.intro (α := ByteArray) | (apply Exists.intro (α := Option Addr); apply Exists.intro (α := Nat); apply Exists.intro (α := Nat)) | apply Exists.intro (α := Option Addr) | apply Exists.intro (α := Value))); refine ⟨rfl, ?_⟩)
    | refine letb rfl ?_
    | refine sat h ?_
    | (have h := h.drew; refine sat h ?_)
    | refine sat1 h (fun _ h => h.to) ?_)
  refine iff_ rfl ?_
  rw [show minN (maxN 4 1) 64 = (4 : Int) by decide] at h
  have hb : ∀ a z : Nat, a + z ≤ s.length → ∀ j, j < ((s.drop a).take z).length → ((s.drop a).take z)[j]? = s[a + j]? := fun a z _ j hj => by
    rw [List.length_take] at hj
    rw [List.getElem?_take, if_pos (by omega), List.getElem?_drop]
  have hput : ∀ {w : World} {B : Nat} {v : List UInt8} {n : Nat} {S : List Sp} {a z : Nat} {Q : Value → World → Prop}, v.length = sz → OkI s B v n S → a + z ≤ s.length → St c w (il p r D sp B 0 false v n 4 S L) →
      (∀ w' v' n' S' ok, v'.length = sz → OkI s B v' n' S' → (a = B + n → z = 1 → n < v.length → ok = true ∧ n < n') → St c w' (il p r D sp B 0 false v' n' 4 S' L) → Q (.bool ok) w') →
      CALL PG 26 [.pointer (some ⟨p, 0, none⟩), .int .u64 (a : Int), .slice (cutA A k 1 (a : Int)) z (k - a)] w Q := fun {w B v n S a z Q} hv hok haz h hk => by
    have lb : ((s.drop a).take z).length = z := by rw [List.length_take, List.length_drop]; omega
    obtain ⟨i1, i2, i3⟩ := put_inv hok (from_ := a) (hb a z haz) (by rw [lb]; omega) (by omega)
    have h2 := h.rngF (.tail .head)
    have hcut := ((hr.cut (c := k) (z := 1) (by rw [bvs_length]; omega) (a : Int)).take z)
    rw [Int.toNat_natCast, Nat.mul_one, bvs_drop, bvs_take] at hcut
    have key := put_ok h (b := (s.drop a).take z) (A := cutA A k 1 (a : Int)) (d := k - a) (f := (a : Int)) (by omega) (by have := hok.top; omega) hok.sep (by have := hok.len; omega) (fun x hx => (hok.bnd x hx).2.1) (by omega) (by omega) hcut (by omega) (by omega) (Q := Q) fun w' h => hk w' _ _ _ _ (by rw [i2]; exact hv) i1 (fun e1 e2 e3 => i3 e1 (by rw [lb]; exact e2) e3) h
    rw [lb] at key
    exact key
  have htake : ∀ {w : World} {B : Nat} {v : List UInt8} {n : Nat} {S : List Sp} {e : Int} {kn : Bool} {many : Int} {Q : Value → World → Prop}, v.length = sz → OkI s B v n S → St c w (il p r D sp B e kn v n 4 S L) →
      (∀ w' A d v' q er, q = (minN (maxN many 0) n).toNat → q ≤ n → v'.length = sz → OkI s (B + q) v' (n - q) S → (q = 0 → 1 ≤ many → kn = true → (B : Int) + n = e → er = 211) → St c w' (own 5 1 A q d (bvs ((s.drop B).take q)) :: il p r D sp ((B + q : Nat) : Int) e kn v' (n - q) 4 S L) → Q (.tuple #[.slice A q d, .int .i64 er]) w') →
      CALL PG 27 [.pointer (some ⟨p, 0, none⟩), .int .i64 many] w Q := fun {w B v n S e kn many Q} hv hok h hk => by
    have hq : 0 ≤ minN (maxN many 0) n ∧ minN (maxN many 0) n ≤ n := by unfold minN maxN; (repeat' split) <;> omega
    have h2 := h.rngF (.tail .head)
    have ht := hok.top
    refine take_ok h (by omega) (by omega) (k := (minN (maxN many 0) n).toNat) (by omega) fun A d w' er e1 e2 h => ?_
    obtain ⟨t1, t2⟩ := take_inv hok (k := (minN (maxN many 0) n).toNat) (by omega)
    rw [t2] at h
    refine hk w' A d _ _ er rfl (by omega) (by simp; omega) t1 e1 ?_
    rw [Int.natCast_add]
    exact h
  have hout : ∀ B q : Nat, strOf (s.take B) ++ strOf ((s.drop B).take q) = strOf (s.take (B + q)) := fun B q => by rw [strOf_append, List.take_add]
  refine ⟨fun m out i w' => ∃ (j B : Nat) (v : List UInt8) (n : Nat) (S : List Sp), j + m = X.length ∧ i = (j : Int) ∧ out = strOf (s.take B) ∧ v.length = sz ∧ OkI s B v n S ∧ St c w' (il p r D sp B 0 false v n 4 S L),
    ⟨X.length, 0, 0, List.replicate sz 0, 0, [], by omega, rfl, rfl, by simp, ⟨by omega, by omega, Sep.nil, by simp, by simp, fun i hi => by rcases hi with hi | hi; omega; exact absurd hi (inP_nil _)⟩, h⟩, ?_⟩
  clear h
  rintro m _ _ w' ⟨j, B, v, n, S, hj, rfl, rfl, hv, hok, h⟩
  refine ifd (fun hlt => ?_) fun hge => ?_
  · obtain ⟨x, hx⟩ := ex_get (L := X) (j := j) (by omega)
    obtain ⟨x0, x1⟩ := hX x (List.mem_of_getElem? hx)
    have key := h.ix (z := 4) (n := X.length) (K := fun a => A2 = some a) hr2.more.more.more hx (fun a ha => ha) (by omega)
    obtain ⟨_, a2, ha2, _⟩ := key
    have hr3 := hr2
    rw [ha2] at hr3 ⊢
    refine h.ix (z := 4) hr3.more.more.more hx (fun b hb => ?_) (by omega)
    injection hb with hb
    subst hb
    refine h.rdEI 2 hr3.more.more.more hx ?_
    rw [show IntKind.u64.wrap (IntKind.i64.wrap ((s.length : Int) + 1)) = ((s.length + 1 : Nat) : Int) by rw [wrap_i64 (by omega) (by omega), wrapU64]; omega]
    refine ⟨by omega, ?_⟩
    have hfm : ∃ fr : Nat, Int.tmod x.pos ((s.length + 1 : Nat) : Int) = fr ∧ fr ≤ s.length := by
      rw [Int.tmod_eq_emod_of_nonneg x0]
      have := Int.emod_nonneg x.pos (b := ((s.length + 1 : Nat) : Int)) (by omega)
      have := Int.emod_lt_of_pos x.pos (b := ((s.length + 1 : Nat) : Int)) (by omega)
      exact ⟨(x.pos % ((s.length + 1 : Nat) : Int)).toNat, by omega, by omega⟩
    obtain ⟨fr, efr, hfr⟩ := hfm
    rw [efr]
    refine leti (wrap_i64 (n := (fr : Int)) (by omega) (by omega)) ?_
    refine h.ix (z := 4) hr3.more.more.more hx (fun b hb => ?_) (by omega)
    injection hb with hb
    subst hb
    refine h.rdEI 1 hr3.more.more.more hx ?_
    refine ⟨by decide, ⟨by decide, ?_⟩⟩
    have hm20 := mod_bnd x.n (m := 20) (by decide) (by decide)
    generalize Int.tmod (IntKind.i64.wrap (Int.tmod x.n 20 + 20)) 20 = q at *
    refine leti (wrap_i64 (n := (fr : Int) + q) (by omega) (by omega)) ?_
    refine ⟨fun t w' => ∃ z : Nat, t = ((fr + z : Nat) : Int) ∧ fr + z ≤ s.length ∧ St c w' (il p r D sp B 0 false v n 4 S L), ifd (fun e => leti rfl ⟨s.length - fr, by omega, by omega, h⟩) fun e => ⟨q.toNat, by omega, by omega, h⟩, ?_⟩
    clear h
    rintro _ w' ⟨z, rfl, hz, h⟩
    refine ⟨by omega, ?_⟩
    rw [show IntKind.u64.wrap (fr : Int) = fr by rw [wrapU64]; omega, Int.toNat_natCast, Int.toNat_natCast, show fr + z - fr = z by omega]
    refine hput hv hok hz h fun w' v' n' S' ok hv' hok' _ h => ?_
    (repeat (first | apply Exists.intro (α := Int) | apply Exists.intro (α := Bool) | apply Exists.intro (α := ByteArray) | (apply Exists.intro (α := Option Addr); apply Exists.intro (α := Nat); apply Exists.intro (α := Nat)) | apply Exists.intro (α := Option Addr) | apply Exists.intro (α := Value)))
    refine ⟨rfl, ?_⟩
    refine ⟨fun out w' => ∃ (B : Nat) (v : List UInt8) (n : Nat), out = strOf (s.take B) ∧ v.length = sz ∧ OkI s B v n S' ∧ St c w' (il p r D sp B 0 false v n 4 S' L), ?_, ?_⟩
    · refine h.ix (z := 4) hr3.more.more.more hx (fun b hb => ?_) (by omega)
      injection hb with hb
      subst hb
      refine h.rdEI 0 hr3.more.more.more hx ?_
      refine ⟨by decide, ifq (fun _ => ?_) fun _ => ⟨B, v', n', rfl, hv', hok', h⟩⟩
      refine h.ix (z := 4) hr3.more.more.more hx (fun b hb => ?_) (by omega)
      injection hb with hb
      subst hb
      refine h.rdEI 1 hr3.more.more.more hx ?_
      refine ⟨by decide, ⟨by decide, ?_⟩⟩
      refine htake hv' hok' h fun w' A d v2 q er _ hq hv2 hok2 _ h => ?_
      (repeat (first | apply Exists.intro (α := Int) | apply Exists.intro (α := Bool) | apply Exists.intro (α := ByteArray) | (apply Exists.intro (α := Option Addr); apply Exists.intro (α := Nat); apply Exists.intro (α := Nat)) | apply Exists.intro (α := Option Addr) | apply Exists.intro (α := Value)))
      refine ⟨rfl, ?_⟩
      refine leti rfl ?_
      have ht := hok'.top
      refine h.bytesToString (e := 5) (RdIn.own .head) (by rw [List.length_take, List.length_drop]; omega) ?_
      refine ⟨by rw [strOf_size, strOf_size, List.length_take, List.length_take, List.length_drop]; simp [IntKind.max, IntKind.signed, IntKind.bits]; omega, lets (hout _ _) ⟨B + q, v2, n' - q, rfl, hv2, hok2, h.drop⟩⟩
    clear h hv' hok' hv hok
    rintro _ w' ⟨B, v, n, rfl, hv, hok, h⟩
    have ht := hok.top
    rw [strOf_size, List.length_take, show min B s.length = B by omega]
    refine ifdf (by omega) ⟨by omega, ?_⟩
    simp only [Int.toNat_natCast, Int.toNat_zero, Nat.sub_zero, cutA_zero]
    have hcut := hr.take B
    rw [bvs_take] at hcut
    refine h.bytesToString (e := 5) hcut.more.more.more (by rw [List.length_take]; omega) ?_
    exact iff_ (strOf_ne rfl) (leti (wrap_i64 (n := (j : Int) + 1) (by omega) (by omega)) ⟨m - 1, by omega, j + 1, B, v, n, S', by omega, by omega, rfl, hv, hok, h⟩)
  refine ⟨fun m out i w' => ∃ (j B : Nat) (v : List UInt8) (n : Nat) (S : List Sp), j + m = s.length ∧ i = (j : Int) ∧ out = strOf (s.take B) ∧ v.length = sz ∧ OkI s B v n S ∧ j ≤ B + n ∧ (0 < j → n = 0) ∧ (j = 0 → B + n = 0 → n = 0) ∧ St c w' (il p r D sp B 0 false v n 4 S L),
    ⟨s.length, 0, B, v, n, S, by omega, rfl, rfl, hv, hok, by omega, fun h => by omega, fun _ _ => by omega, h⟩, ?_⟩
  clear h hv hok
  rintro m2 _ _ w' ⟨j2, B, v, n, S, hj2, rfl, rfl, hv, hok, hjB, hn0, _, h⟩
  have ht := hok.top
  have hnv := hok.hn
  refine ifd (fun hlt => ?_) fun hge2 => ?_
  · refine ⟨fun w' => ∃ (v : List UInt8) (n : Nat) (S : List Sp), v.length = sz ∧ OkI s B v n S ∧ j2 + 1 ≤ B + n ∧ St c w' (il p r D sp B 0 false v n 4 S L), ?_, ?_⟩
    · refine next_ok h (by omega) (by omega) fun w' h => ?_
      (repeat (first | apply Exists.intro (α := Int) | apply Exists.intro (α := Bool) | apply Exists.intro (α := ByteArray) | (apply Exists.intro (α := Option Addr); apply Exists.intro (α := Nat); apply Exists.intro (α := Nat)) | apply Exists.intro (α := Option Addr) | apply Exists.intro (α := Value)))
      refine ⟨rfl, ?_⟩
      rw [show IntKind.u64.wrap (j2 : Int) = j2 by rw [wrapU64]; omega, wrap_i64 (n := (j2 : Int) + 1) (by omega) (by omega)]
      refine ifd (fun hle => ⟨by omega, ?_⟩) fun hgt => ⟨v, n, S, hv, hok, by omega, h⟩
      rw [show ((j2 : Int) + 1).toNat - (j2 : Int).toNat = 1 by omega, Int.toNat_natCast]
      refine hput hv hok (z := 1) (by omega) h fun w' v' n' S' ok hv' hok' hq h => ?_
      (repeat (first | apply Exists.intro (α := Int) | apply Exists.intro (α := Bool) | apply Exists.intro (α := ByteArray) | (apply Exists.intro (α := Option Addr); apply Exists.intro (α := Nat); apply Exists.intro (α := Nat)) | apply Exists.intro (α := Option Addr) | apply Exists.intro (α := Value)))
      refine ⟨rfl, ?_⟩
      obtain ⟨hq1, hq2⟩ := hq (by omega) rfl (by omega)
      subst hq1
      exact iff_ rfl ⟨v', n', S', hv', hok', by omega, h⟩
    clear h
    clear hn0 hjB hok hv ht hnv
    rintro w' ⟨v, n, S, hv, hok, hjB, h⟩
    have ht := hok.top
    have hnv := hok.hn
    refine htake hv hok h fun w' A d v2 q er eq hq hv2 hok2 _ h => ?_
    (repeat (first | apply Exists.intro (α := Int) | apply Exists.intro (α := Bool) | apply Exists.intro (α := ByteArray) | (apply Exists.intro (α := Option Addr); apply Exists.intro (α := Nat); apply Exists.intro (α := Nat)) | apply Exists.intro (α := Option Addr) | apply Exists.intro (α := Value)))
    refine ⟨rfl, ?_⟩
    have eqn : q = n := by
      rw [eq]; unfold minN maxN; (repeat' split) <;> omega
    refine leti rfl ?_
    refine h.bytesToString (e := 5) (RdIn.own .head) (by rw [List.length_take, List.length_drop]; omega) ?_
    refine ⟨by rw [strOf_size, strOf_size, List.length_take, List.length_take, List.length_drop]; simp [IntKind.max, IntKind.signed, IntKind.bits]; omega, lets (hout _ _) (leti (wrap_i64 (n := (j2 : Int) + 1) (by omega) (by omega)) ⟨m2 - 1, by omega, j2 + 1, B + q, v2, n - q, S, by omega, by omega, rfl, hv2, hok2, by omega, fun _ => by omega, fun h => by omega, h.drop⟩)⟩
  have hBn : B = s.length ∧ n = 0 := by
    rcases Nat.eq_zero_or_pos j2 with h0 | h0
    · omega
    · have := hn0 h0; omega
  obtain ⟨eB, en⟩ := hBn
  have hS : S = [] := by
    cases S with
    | nil => rfl
    | cons x S =>
      have := hok.bnd x (by simp)
      have := (hok.sep.2 x (by simp)).2.1
      omega
  subst hS
  subst en
  rw [show IntKind.u64.wrap (s.length : Int) = s.length by rw [wrapU64]; omega]
  refine fin_ok h (by omega) (by omega) (by simp) fun w' e' kn' ok f1 f2 f3 h => ?_
  obtain ⟨f4, f5, f6⟩ := f3 rfl (by omega) (by simp)
  subst f4; subst f5; subst f6
  (repeat (first | apply Exists.intro (α := Int) | apply Exists.intro (α := Bool) | apply Exists.intro (α := ByteArray) | (apply Exists.intro (α := Option Addr); apply Exists.intro (α := Nat); apply Exists.intro (α := Nat)) | apply Exists.intro (α := Option Addr) | apply Exists.intro (α := Value)))
  refine ⟨rfl, ?_⟩
  refine iff_ rfl ?_
  refine htake hv hok h fun w' A1 d1 v2 q er eq hq hv2 hok2 her h => ?_
  have hq0 : q = 0 := by omega
  subst hq0
  have her := her rfl (by omega) rfl (by omega)
  subst her
  (repeat (first | apply Exists.intro (α := Int) | apply Exists.intro (α := Bool) | apply Exists.intro (α := ByteArray) | (apply Exists.intro (α := Option Addr); apply Exists.intro (α := Nat); apply Exists.intro (α := Nat)) | apply Exists.intro (α := Option Addr) | apply Exists.intro (α := Value)))
  refine ⟨rfl, ?_⟩
  refine leti rfl ?_
  refine h.bytesToString (e := 5) (RdIn.own .head) (by rw [List.length_take]; omega) ?_
  refine ⟨by rw [strOf_size, strOf_size, List.length_take, List.length_take, List.length_drop]; simp [IntKind.max, IntKind.signed, IntKind.bits]; omega, lets (hout _ _) ?_⟩
  have h := h.drop
  refine htake hv2 hok2 h fun w' A3 d3 v3 q3 er3 eq3 hq3 hv3 hok3 her3 h => ?_
  have hq30 : q3 = 0 := by omega
  subst hq30
  have her3 := her3 rfl (by decide) rfl (by omega)
  subst her3
  (repeat (first | apply Exists.intro (α := Int) | apply Exists.intro (α := Bool) | apply Exists.intro (α := ByteArray) | (apply Exists.intro (α := Option Addr); apply Exists.intro (α := Nat); apply Exists.intro (α := Nat)) | apply Exists.intro (α := Option Addr) | apply Exists.intro (α := Value)))
  refine ⟨rfl, ?_⟩
  refine leti rfl ?_
  refine h.bytesToString (e := 5) hr.more.more.more.more rfl ?_
  refine ift (strOf_eq (by rw [List.take_of_length_le (by omega)])) (ift rfl (ift rfl ?_))
  have h := h.drop
  refine ended_ok h (by omega) (by have := h.rngF (.tail .head); omega) fun w' h => ?_
  (repeat (first | apply Exists.intro (α := Int) | apply Exists.intro (α := Bool) | apply Exists.intro (α := ByteArray) | (apply Exists.intro (α := Option Addr); apply Exists.intro (α := Nat); apply Exists.intro (α := Nat)) | apply Exists.intro (α := Option Addr) | apply Exists.intro (α := Value)))
  refine ⟨rfl, ?_⟩
  refine ift (by simp; omega) ?_
  refine alive18_ok h fun w' h => ?_
  (repeat (first | apply Exists.intro (α := Int) | apply Exists.intro (α := Bool) | apply Exists.intro (α := ByteArray) | (apply Exists.intro (α := Option Addr); apply Exists.intro (α := Nat); apply Exists.intro (α := Nat)) | apply Exists.intro (α := Option Addr) | apply Exists.intro (α := Value)))
  refine ⟨rfl, ?_⟩
  exact letb rfl (hk _ h.drop.drop.drop)
end
end Go.Br
