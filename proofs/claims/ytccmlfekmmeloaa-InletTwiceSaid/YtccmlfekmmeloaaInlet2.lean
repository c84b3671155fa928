/- Bytes that come. -/
import Derived.Test.YtccmlfekmmeloaaNInlet2
import Derived.Test.YtccmlfekmmeloaaInlet
set_option linter.unusedVariables false
set_option linter.unusedSimpArgs false
set_option linter.unnecessarySimpa false
namespace Go.Br
open Go
instance biInlet2a : Zro PG 148 2 16 (.agg #[.int .u64 0, .int .u64 0]) := ⟨tiOf (by kernel_rfl)⟩
attribute [local irreducible] Addr.add RD RDS RUN RUNU NILC LETB CALL CALLX CALLV

/-- The bytes of gaps are put. -/
def setG (base f : Int) (b : List UInt8) (v : List UInt8) (G : List Sp) : List UInt8 := G.foldl (fun v g => spl v (g.f - base).toNat ((b.drop (g.f - f).toNat).take (g.t - g.f).toNat)) v
theorem setG_snoc (base f : Int) (b v : List UInt8) (G : List Sp) (g : Sp) : setG base f b v (G ++ [g]) = spl (setG base f b v G) (g.f - base).toNat ((b.drop (g.f - f).toNat).take (g.t - g.f).toNat) := by
  unfold setG; rw [List.foldl_append]; rfl
/-- The places, how many are there in a row, the pieces; whether all were taken. -/
def putV (base e : Int) (kn : Bool) (v : List UInt8) (n : Nat) (most : Int) (S : List Sp) (f : Int) (b : List UInt8) : List UInt8 × Nat × List Sp × Bool :=
  if 18446744073709551616 ≤ f + b.length then (v, n, S, false) else
  let whole := !(decide (topI base e kn v.length < f + b.length) && decide (0 < (b.length : Int)))
  let hi := if whole = true then f + b.length else maxN (topI base e kn v.length) f
  let lo := maxN f (base + n)
  if hi ≤ lo then (v, n, S, whole) else
  if base + n < lo ∧ (addR S lo hi most).2 = false then (v, n, S, false) else
  if base + n < lo then (setG base f b v (gapsS S lo hi), n, (addR S lo hi most).1, whole)
  else (setG base f b v (gapsS S lo hi), (runS S hi - base).toNat, cutP S (runS S hi), whole)
theorem setG_len {base f : Int} {b v : List UInt8} : ∀ {G : List Sp}, (∀ g ∈ G, base ≤ g.f ∧ g.f ≤ g.t ∧ g.t ≤ base + v.length) → (setG base f b v G).length = v.length := by
  intro G
  induction G generalizing v with
  | nil => intro _; rfl
  | cons g G ih =>
    intro h
    have hg := h g (by simp)
    have hl : (spl v (g.f - base).toNat ((b.drop (g.f - f).toNat).take (g.t - g.f).toNat)).length = v.length := spl_length (by rw [List.length_take]; omega)
    show (setG base f b (spl v _ _) G).length = v.length
    rw [ih fun x hx => by rw [hl]; exact h x (by simp [hx]), hl]
theorem whole_cases (T x z : Int) : ((!(decide (T < x) && decide (0 < z))) = true ∧ ¬ (T < x ∧ 0 < z)) ∨ ((!(decide (T < x) && decide (0 < z))) = false ∧ T < x ∧ 0 < z) := by by_cases h1 : T < x <;> by_cases h2 : 0 < z <;> simp [h1, h2]
section
variable {c : Ctx} {w : World} {L R : List SA} {p r D sp n : Nat} {base e most : Int} {kn : Bool} {v : List UInt8} {S : List Sp}
theorem put_ok (h : St c w (il p r D sp base e kn v n most S R)) (hb : 0 ≤ base) (hb2 : base + v.length < 9223372036854775808) (hS : Sep S) (hl : S.length ≤ 1000) (hSt : ∀ x ∈ S, x.t ≤ base + v.length) {f : Int} (hf0 : 0 ≤ f) (hf1 : f < 18446744073709551616)
    {A : Option Addr} {d : Nat} {b : List UInt8} (hr : RdIn R A (bvs b)) (hd : b.length ≤ d) (hz : b.length ≤ 100000) {Q : Value → World → Prop}
    (hk : ∀ w', St c w' (il p r D sp base e kn (putV base e kn v n most S f b).1 (putV base e kn v n most S f b).2.1 most (putV base e kn v n most S f b).2.2.1 R) → Q (.bool (putV base e kn v n most S f b).2.2.2) w') :
    CALL PG 26 [.pointer (some ⟨p, 0, none⟩), .int .u64 f, .slice A b.length d] w Q := by
  have hfa := h.rngF (.tail .head)
  refine call26 ?_
  unfold N26
  unfold putV at hk
  by_cases hov : 18446744073709551616 ≤ f + b.length
  · rw [if_pos hov] at hk
    exact leti (y := f + b.length - 18446744073709551616) (by rw [wrapU64, wrapU64]; omega) (ifdt (by omega) (hk _ h))
  rw [if_neg hov] at hk
  refine leti (y := f + b.length) (by rw [wrapU64, wrapU64]; omega) (ifdf (by omega) ?_)
  have htop : topI base e kn v.length ≤ base + v.length := by unfold topI minN; (repeat' split) <;> omega
  generalize hT : topI base e kn v.length = T at *
  obtain ⟨whole, hw⟩ : ∃ x, x = !(decide (T < f + b.length) && decide (0 < (b.length : Int))) := ⟨_, rfl⟩
  obtain ⟨hi, hh⟩ : ∃ x, x = if whole = true then f + (b.length : Int) else maxN T f := ⟨_, rfl⟩
  obtain ⟨lo, hlo⟩ : ∃ x, x = maxN f (base + n) := ⟨_, rfl⟩
  simp only [← hw, ← hh, ← hlo] at hk
  have hlof : f ≤ lo ∧ base + n ≤ lo ∧ (lo = f ∨ lo = base + n) := by rw [hlo]; unfold maxN; split <;> omega
  have hwc := whole_cases T (f + b.length) b.length
  rw [← hw] at hwc
  have hhw : (whole = true ∧ ¬ (T < f + b.length ∧ 0 < (b.length : Int)) ∧ hi = f + b.length) ∨ (whole = false ∧ (T < f + b.length ∧ 0 < (b.length : Int)) ∧ hi = maxN T f) := by
    rcases hwc with ⟨h1, h2⟩ | ⟨h1, h2⟩
    · rw [if_pos h1] at hh; exact .inl ⟨h1, h2, hh⟩
    · rw [if_neg (by rw [h1]; decide)] at hh; exact .inr ⟨h1, h2, hh⟩
  clear hwc hh hw
  have hmx : f ≤ maxN T f ∧ T ≤ maxN T f ∧ (maxN T f = T ∨ maxN T f = f) := by unfold maxN; split <;> omega
  have hhi : f ≤ hi ∧ hi ≤ f + b.length ∧ (lo < hi → hi ≤ base + v.length) := by
    rcases hhw with ⟨h1, h2, h3⟩ | ⟨h1, h2, h3⟩ <;> omega
  refine ⟨fun t wh w' => t = hi ∧ wh = whole ∧ St c w' (il p r D sp base e kn v n most S R), ?_, ?_⟩
  · refine top_ok h hb (by omega) fun w' h => ?_
    (repeat (first | apply Exists.intro (α := Int) | apply Exists.intro (α := Bool) | apply Exists.intro (α := ByteArray) | (apply Exists.intro (α := Option Addr); apply Exists.intro (α := Nat); apply Exists.intro (α := Nat)) | apply Exists.intro (α := Option Addr) | apply Exists.intro (α := Value)))
    refine ⟨rfl, ?_⟩
    rw [hT]
    refine leti rfl (ifd (fun g1 => ifd (fun g2 => leti rfl ?_) fun g2 => ?_) fun g1 => ?_)
    · rcases hhw with ⟨h1, h2, h3⟩ | ⟨h1, h2, h3⟩
      · exact absurd ⟨g1, g2⟩ h2
      · exact ⟨h3.symm, h1.symm, h⟩
    · rcases hhw with ⟨h1, h2, h3⟩ | ⟨h1, h2, h3⟩
      · exact ⟨h3.symm, h1.symm, h⟩
      · exact absurd h2.2 g2
    · rcases hhw with ⟨h1, h2, h3⟩ | ⟨h1, h2, h3⟩
      · exact ⟨h3.symm, h1.symm, h⟩
      · exact absurd h2.1 g1
  clear h
  rintro hi whole w' ⟨rfl, rfl, h⟩
  rw [show IntKind.u64.wrap (hi - f) = hi - f by rw [wrapU64]; omega]
  simp only [Int.toNat_zero, Nat.sub_zero, cutA_zero]
  refine ⟨by omega, ?_⟩
  refine ⟨fun f2 A2 n2 c2 w' => f2 = lo ∧ n2 = (hi - lo).toNat ∧ n2 ≤ c2 ∧ RdIn R A2 (bvs ((b.drop (lo - f).toNat).take (hi - lo).toNat)) ∧ St c w' (il p r D sp base e kn v n most S R), ?_, ?_⟩
  · refine next_ok h hb (by omega) fun w' h => ?_
    (repeat (first | apply Exists.intro (α := Int) | apply Exists.intro (α := Bool) | apply Exists.intro (α := ByteArray) | (apply Exists.intro (α := Option Addr); apply Exists.intro (α := Nat); apply Exists.intro (α := Nat)) | apply Exists.intro (α := Option Addr) | apply Exists.intro (α := Value)))
    refine ⟨rfl, ?_⟩
    refine leti rfl (ifd (fun g1 => ?_) fun g1 => ?_)
    · have el : lo = base + n := by omega
      rw [show IntKind.u64.wrap (base + n - f) = base + n - f by rw [wrapU64]; omega, show IntKind.u64.wrap (((hi - f).toNat : Nat) : Int) = hi - f by rw [wrapU64]; omega]
      obtain ⟨kk, hkk⟩ : ∃ x, x = minN (base + n - f) (hi - f) := ⟨_, rfl⟩
      rw [← hkk]
      have hkc : (kk = base + n - f ∧ kk ≤ hi - f) ∨ (kk = hi - f ∧ hi < base + n) := by rw [hkk]; unfold minN; split <;> omega
      refine ⟨by omega, leti rfl ⟨el.symm, by omega, by omega, ?_, h⟩⟩
      have hcut := (hr.cut (c := d) (z := 1) (by rw [bvs_length]; omega) kk).take (hi - lo).toNat
      rw [Nat.mul_one, bvs_drop, bvs_take] at hcut
      rcases hkc with ⟨h1, h2⟩ | ⟨h1, h2⟩
      · rw [show (lo - f).toNat = kk.toNat by omega]
        exact hcut
      · rw [show (hi - lo).toNat = 0 by omega, List.take_zero] at hcut ⊢
        exact hcut
    · have el : lo = f := by omega
      refine ⟨el.symm, by omega, by omega, ?_, h⟩
      have hcut := hr.take (hi - lo).toNat
      rw [bvs_take] at hcut
      rw [show (lo - f).toNat = 0 by omega, List.drop_zero]
      exact hcut
  clear h
  rintro lo A2 n2 c2 w' ⟨rfl, rfl, hc2, hr2, h⟩
  refine ifd (fun g0 => letb rfl ?_) fun g0 => ?_
  · rw [if_pos (by omega)] at hk
    exact hk _ h
  have g1 : lo < hi := by omega
  rw [if_neg (by omega)] at hk
  refine leti (y := hi) (by rw [wrapU64, wrapU64]; omega) (nilc ?_)
  repeat' (first
    | refine nilc ?_
    | refine h.rdI _ ?_
    | refine h.rdB _ ?_
    | refine h.rdP _ ?_
    | refine h.rdL _ ?_
    | refine h.rdT _ ?_
    | refine h.rdI2 _ _ ?_
    | refine h.rdB2 _ _ ?_
    | refine h.rdP2 _ _ ?_
    | refine h.rdL2 _ _ ?_
    | refine h.st2 _ _ fun w' h => ?_
    | refine h.st _ fun w' h => ?_
    | refine h.rdvI ?_
    | refine h.rdvB ?_
    | refine h.rdvP ?_
    | refine h.rdvL ?_
    | refine h.rdvT ?_
    | (refine h.rdG ?_; (repeat (first | apply Exists.intro (α := Int) | apply Exists.intro (α := Bool) | apply Exists.intro (α := ByteArray) | (apply Exists.intro (α := Option Addr); apply Exists.intro (α := Nat); apply Exists.intro (α := Nat)) | apply Exists.intro (α := Option Addr) | apply Exists.intro (α := Value))); refine ⟨rfl, ?_⟩)
    | refine h.stG fun w' h => ?_
    | refine h.stV fun w' h => ?_
    | refine h.box fun p w' h => ?_
    | refine h.boxV fun p w' h => ?_
    | refine h.allocZ fun p w' h => ?_
    | refine h.allocZV fun p w' h => ?_
    | (refine RD.bld ?_; (repeat (first | apply Exists.intro (α := Int) | apply Exists.intro (α := Bool) | apply Exists.intro (α := ByteArray) | (apply Exists.intro (α := Option Addr); apply Exists.intro (α := Nat); apply Exists.intro (α := Nat)) | apply Exists.intro (α := Option Addr) | apply Exists.intro (α := Value))); refine ⟨rfl, ?_⟩)
    | (refine RDS.bld ?_; (repeat (first | apply Exists.intro (α := Int) | apply Exists.intro (α := Bool) | apply Exists.intro (α := ByteArray) | (apply Exists.intro (α := Option Addr); apply Exists.intro (α := Nat); apply Exists.intro (α := Nat)) | apply Exists.intro (α := Option Addr) | apply Exists.intro (α := Value))); refine ⟨rfl, ?_⟩)
    | refine St.rdsI _ ?_
    | refine St.rdsB _ ?_
    | refine St.rdsP _ ?_
    | refine St.rdsL _ ?_
    | refine St.rdsT _ ?_
    | refine St.rdsI2 _ _ ?_
    | refine St.rdsB2 _ _ ?_
    | (refine St.rdsG ?_; (repeat (first | apply Exists.intro (α := Int) | apply Exists.intro (α := Bool) | apply Exists.intro (α := ByteArray) | (apply Exists.intro (α := Option Addr); apply Exists.intro (α := Nat); apply Exists.intro (α := Nat)) | apply Exists.intro (α := Option Addr) | apply Exists.intro (α := Value))); refine ⟨rfl, ?_⟩)
    | refine letb rfl ?_
    | refine sat h ?_
    | (have h := h.drew; refine sat h ?_)
    | refine sat1 h (fun _ h => h.to) ?_)
  refine sgaps_ok h (.tail (.tail .head)) hl fun O k w' h => ?_
  (repeat (first | apply Exists.intro (α := Int) | apply Exists.intro (α := Bool) | apply Exists.intro (α := ByteArray) | (apply Exists.intro (α := Option Addr); apply Exists.intro (α := Nat); apply Exists.intro (α := Nat)) | apply Exists.intro (α := Option Addr) | apply Exists.intro (α := Value)))
  refine ⟨rfl, ?_⟩
  have gm := gaps_mem (f := lo) (t := hi) hS
  have gl := gaps_len S lo hi
  generalize hG : gapsS S lo hi = G at *
  refine ⟨fun w' => ¬ (base + n < lo ∧ (addR S lo hi most).2 = false) ∧ St c w' (own 148 2 O G.length k (G.flatMap spn) :: il p r D sp base e kn v n most (if base + n < lo then (addR S lo hi most).1 else S) R), ?_, ?_⟩
  · have h := h.to (L' := il p r D sp base e kn v n most S (own 148 2 O G.length k (G.flatMap spn) :: R))
    refine next_ok h hb (by omega) fun w' h => ?_
    (repeat (first | apply Exists.intro (α := Int) | apply Exists.intro (α := Bool) | apply Exists.intro (α := ByteArray) | (apply Exists.intro (α := Option Addr); apply Exists.intro (α := Nat); apply Exists.intro (α := Nat)) | apply Exists.intro (α := Option Addr) | apply Exists.intro (α := Value)))
    refine ⟨rfl, ?_⟩
    refine ifd (fun hlt => ?_) fun hge => ?_
    · repeat' (first
        | refine nilc ?_
        | refine h.rdI _ ?_
        | refine h.rdB _ ?_
        | refine h.rdP _ ?_
        | refine h.rdL _ ?_
        | refine h.rdT _ ?_
        | refine h.rdI2 _ _ ?_
        | refine h.rdB2 _ _ ?_
        | refine h.rdP2 _ _ ?_
        | refine h.rdL2 _ _ ?_
        | refine h.st2 _ _ fun w' h => ?_
        | refine h.st _ fun w' h => ?_
        | refine h.rdvI ?_
        | refine h.rdvB ?_
        | refine h.rdvP ?_
        | refine h.rdvL ?_
        | refine h.rdvT ?_
        | (refine h.rdG ?_; (repeat (first | apply Exists.intro (α := Int) | apply Exists.intro (α := Bool) | apply Exists.intro (α := ByteArray) | (apply Exists.intro (α := Option Addr); apply Exists.intro (α := Nat); apply Exists.intro (α := Nat)) | apply Exists.intro (α := Option Addr) | apply Exists.intro (α := Value))); refine ⟨rfl, ?_⟩)
        | refine h.stG fun w' h => ?_
        | refine h.stV fun w' h => ?_
        | refine h.box fun p w' h => ?_
        | refine h.boxV fun p w' h => ?_
        | refine h.allocZ fun p w' h => ?_
        | refine h.allocZV fun p w' h => ?_
        | (refine RD.bld ?_; (repeat (first | apply Exists.intro (α := Int) | apply Exists.intro (α := Bool) | apply Exists.intro (α := ByteArray) | (apply Exists.intro (α := Option Addr); apply Exists.intro (α := Nat); apply Exists.intro (α := Nat)) | apply Exists.intro (α := Option Addr) | apply Exists.intro (α := Value))); refine ⟨rfl, ?_⟩)
        | (refine RDS.bld ?_; (repeat (first | apply Exists.intro (α := Int) | apply Exists.intro (α := Bool) | apply Exists.intro (α := ByteArray) | (apply Exists.intro (α := Option Addr); apply Exists.intro (α := Nat); apply Exists.intro (α := Nat)) | apply Exists.intro (α := Option Addr) | apply Exists.intro (α := Value))); refine ⟨rfl, ?_⟩)
        | refine St.rdsI _ ?_
        | refine St.rdsB _ ?_
        | refine St.rdsP _ ?_
        | refine St.rdsL _ ?_
        | refine St.rdsT _ ?_
        | refine St.rdsI2 _ _ ?_
        | refine St.rdsB2 _ _ ?_
        | (refine St.rdsG ?_; (repeat (first | apply Exists.intro (α := Int) | apply Exists.intro (α := Bool) | apply Exists.intro (α := ByteArray) | (apply Exists.intro (α := Option Addr); apply Exists.intro (α := Nat); apply Exists.intro (α := Nat)) | apply Exists.intro (α := Option Addr) | apply Exists.intro (α := Value))); refine ⟨rfl, ?_⟩)
        | refine letb rfl ?_
        | refine sat h ?_
        | (have h := h.drew; refine sat h ?_)
        | refine sat1 h (fun _ h => h.to) ?_)
      refine sadd_ok h (.tail (.tail .head)) hS hl (by omega) (by omega) fun w' h => ?_
      (repeat (first | apply Exists.intro (α := Int) | apply Exists.intro (α := Bool) | apply Exists.intro (α := ByteArray) | (apply Exists.intro (α := Option Addr); apply Exists.intro (α := Nat); apply Exists.intro (α := Nat)) | apply Exists.intro (α := Option Addr) | apply Exists.intro (α := Value)))
      refine ⟨rfl, ?_⟩
      refine ifnot (fun ef => ?_) fun et => ⟨fun e => (by rw [et] at e; cases e.2), ?_⟩
      · rw [if_pos ⟨by omega, ef⟩] at hk
        refine hk _ ?_
        unfold addR at h ef
        rw [if_neg (by omega)] at h ef
        split at h
        · exact h.to
        · rename_i hn; rw [if_neg hn] at ef; cases ef
      · rw [if_pos (by omega)]
        exact h.to
    · refine ⟨fun e => by omega, ?_⟩
      rw [if_neg (by omega)]
      exact h.to
  clear h
  rintro w' ⟨hna, h⟩
  rw [if_neg hna] at hk
  have hGb : ∀ g ∈ G, base ≤ g.f ∧ g.f ≤ g.t ∧ g.t ≤ base + v.length := fun g hg => by
    obtain ⟨q1, q2, q3, _⟩ := gm g hg
    omega
  refine ⟨fun m i w' => ∃ j : Nat, j + m = G.length ∧ i = (j : Int) ∧ St c w' (own 148 2 O G.length k (G.flatMap spn) :: il p r D sp base e kn (setG base f b v (G.take j)) n most (if base + n < lo then (addR S lo hi most).1 else S) R), ⟨G.length, 0, by omega, rfl, by rw [List.take_zero]; exact h⟩, ?_⟩
  clear h
  rintro m _ w' ⟨j, hj, rfl, h⟩
  have lV : ∀ j, (setG base f b v (G.take j)).length = v.length := fun j => setG_len fun g hg => hGb g (List.mem_of_mem_take hg)
  refine ifd (fun hlt => ?_) fun hge => ?_
  · obtain ⟨g, hg⟩ := ex_get (L := G) (j := j) (by omega)
    obtain ⟨q1, q2, q3, _⟩ := gm g (List.mem_of_getElem? hg)
    refine h.ix (z := 1) (RdIn.own .head) hg fun a ha => ?_
    subst ha
    refine h.rdEG (RdIn.own .head) hg ?_
    (repeat (first | apply Exists.intro (α := Int) | apply Exists.intro (α := Bool) | apply Exists.intro (α := ByteArray) | (apply Exists.intro (α := Option Addr); apply Exists.intro (α := Nat); apply Exists.intro (α := Nat)) | apply Exists.intro (α := Option Addr) | apply Exists.intro (α := Value)))
    refine ⟨rfl, ?_⟩
    repeat' (first
      | refine nilc ?_
      | refine h.rdI _ ?_
      | refine h.rdB _ ?_
      | refine h.rdP _ ?_
      | refine h.rdL _ ?_
      | refine h.rdT _ ?_
      | refine h.rdI2 _ _ ?_
      | refine h.rdB2 _ _ ?_
      | refine h.rdP2 _ _ ?_
      | refine h.rdL2 _ _ ?_
      | refine h.st2 _ _ fun w' h => ?_
      | refine h.st _ fun w' h => ?_
      | refine h.rdvI ?_
      | refine h.rdvB ?_
      | refine h.rdvP ?_
      | refine h.rdvL ?_
      | refine h.rdvT ?_
      | (refine h.rdG ?_; (repeat (first | apply Exists.intro (α := Int) | apply Exists.intro (α := Bool) | apply Exists.intro (α := ByteArray) | (apply Exists.intro (α := Option Addr); apply Exists.intro (α := Nat); apply Exists.intro (α := Nat)) | apply Exists.intro (α := Option Addr) | apply Exists.intro (α := Value))); refine ⟨rfl, ?_⟩)
      | refine h.stG fun w' h => ?_
      | refine h.stV fun w' h => ?_
      | refine h.box fun p w' h => ?_
      | refine h.boxV fun p w' h => ?_
      | refine h.allocZ fun p w' h => ?_
      | refine h.allocZV fun p w' h => ?_
      | (refine RD.bld ?_; (repeat (first | apply Exists.intro (α := Int) | apply Exists.intro (α := Bool) | apply Exists.intro (α := ByteArray) | (apply Exists.intro (α := Option Addr); apply Exists.intro (α := Nat); apply Exists.intro (α := Nat)) | apply Exists.intro (α := Option Addr) | apply Exists.intro (α := Value))); refine ⟨rfl, ?_⟩)
      | (refine RDS.bld ?_; (repeat (first | apply Exists.intro (α := Int) | apply Exists.intro (α := Bool) | apply Exists.intro (α := ByteArray) | (apply Exists.intro (α := Option Addr); apply Exists.intro (α := Nat); apply Exists.intro (α := Nat)) | apply Exists.intro (α := Option Addr) | apply Exists.intro (α := Value))); refine ⟨rfl, ?_⟩)
      | refine St.rdsI _ ?_
      | refine St.rdsB _ ?_
      | refine St.rdsP _ ?_
      | refine St.rdsL _ ?_
      | refine St.rdsT _ ?_
      | refine St.rdsI2 _ _ ?_
      | refine St.rdsB2 _ _ ?_
      | (refine St.rdsG ?_; (repeat (first | apply Exists.intro (α := Int) | apply Exists.intro (α := Bool) | apply Exists.intro (α := ByteArray) | (apply Exists.intro (α := Option Addr); apply Exists.intro (α := Nat); apply Exists.intro (α := Nat)) | apply Exists.intro (α := Option Addr) | apply Exists.intro (α := Value))); refine ⟨rfl, ?_⟩)
      | refine letb rfl ?_
      | refine sat h ?_
      | (have h := h.drew; refine sat h ?_)
      | refine sat1 h (fun _ h => h.to) ?_)
    have h := h.drew
    repeat' (first
      | refine nilc ?_
      | refine h.rdI _ ?_
      | refine h.rdB _ ?_
      | refine h.rdP _ ?_
      | refine h.rdL _ ?_
      | refine h.rdT _ ?_
      | refine h.rdI2 _ _ ?_
      | refine h.rdB2 _ _ ?_
      | refine h.rdP2 _ _ ?_
      | refine h.rdL2 _ _ ?_
      | refine h.st2 _ _ fun w' h => ?_
      | refine h.st _ fun w' h => ?_
      | refine h.rdvI ?_
      | refine h.rdvB ?_
      | refine h.rdvP ?_
      | refine h.rdvL ?_
      | refine h.rdvT ?_
      | (refine h.rdG ?_; (repeat (first | apply Exists.intro (α := Int) | apply Exists.intro (α := Bool) | apply Exists.intro (α := ByteArray) | (apply Exists.intro (α := Option Addr); apply Exists.intro (α := Nat); apply Exists.intro (α := Nat)) | apply Exists.intro (α := Option Addr) | apply Exists.intro (α := Value))); refine ⟨rfl, ?_⟩)
      | refine h.stG fun w' h => ?_
      | refine h.stV fun w' h => ?_
      | refine h.box fun p w' h => ?_
      | refine h.boxV fun p w' h => ?_
      | refine h.allocZ fun p w' h => ?_
      | refine h.allocZV fun p w' h => ?_
      | (refine RD.bld ?_; (repeat (first | apply Exists.intro (α := Int) | apply Exists.intro (α := Bool) | apply Exists.intro (α := ByteArray) | (apply Exists.intro (α := Option Addr); apply Exists.intro (α := Nat); apply Exists.intro (α := Nat)) | apply Exists.intro (α := Option Addr) | apply Exists.intro (α := Value))); refine ⟨rfl, ?_⟩)
      | (refine RDS.bld ?_; (repeat (first | apply Exists.intro (α := Int) | apply Exists.intro (α := Bool) | apply Exists.intro (α := ByteArray) | (apply Exists.intro (α := Option Addr); apply Exists.intro (α := Nat); apply Exists.intro (α := Nat)) | apply Exists.intro (α := Option Addr) | apply Exists.intro (α := Value))); refine ⟨rfl, ?_⟩)
      | refine St.rdsI _ ?_
      | refine St.rdsB _ ?_
      | refine St.rdsP _ ?_
      | refine St.rdsL _ ?_
      | refine St.rdsT _ ?_
      | refine St.rdsI2 _ _ ?_
      | refine St.rdsB2 _ _ ?_
      | (refine St.rdsG ?_; (repeat (first | apply Exists.intro (α := Int) | apply Exists.intro (α := Bool) | apply Exists.intro (α := ByteArray) | (apply Exists.intro (α := Option Addr); apply Exists.intro (α := Nat); apply Exists.intro (α := Nat)) | apply Exists.intro (α := Option Addr) | apply Exists.intro (α := Value))); refine ⟨rfl, ?_⟩)
      | refine letb rfl ?_
      | refine sat h ?_
      | (have h := h.drew; refine sat h ?_)
      | refine sat1 h (fun _ h => h.to) ?_)
    rw [show IntKind.u64.wrap (g.f - lo) = g.f - lo by rw [wrapU64]; omega, show IntKind.u64.wrap (g.t - lo) = g.t - lo by rw [wrapU64]; omega, show IntKind.u64.wrap (g.f - base) = ((g.f - base).toNat : Int) by rw [wrapU64]; omega, wrap_i64 (n := ((g.f - base).toNat : Int)) (by omega) (by omega)]
    refine ⟨by omega, ?_⟩
    have hcut := (hr2.cut (c := c2) (z := 1) (by rw [bvs_length, List.length_take]; omega) (g.f - lo)).take (g.t - g.f).toNat
    rw [Nat.mul_one, bvs_drop, bvs_take, List.drop_take, List.drop_drop, List.take_take, show (lo - f).toNat + (g.f - lo).toNat = (g.f - f).toNat by omega, show min (g.t - g.f).toNat ((hi - lo).toNat - (g.f - lo).toNat) = (g.t - g.f).toNat by omega] at hcut
    refine xset_ok h (.tail (.tail (.tail .head))) hcut.more.more.more.more (by rw [List.length_take, List.length_drop]; omega) (by rw [lV]; omega) fun w' h => ?_
    (repeat (first | apply Exists.intro (α := Int) | apply Exists.intro (α := Bool) | apply Exists.intro (α := ByteArray) | (apply Exists.intro (α := Option Addr); apply Exists.intro (α := Nat); apply Exists.intro (α := Nat)) | apply Exists.intro (α := Option Addr) | apply Exists.intro (α := Value)))
    refine ⟨rfl, ?_⟩
    refine ⟨m - 1, by omega, j + 1, by omega, by rw [wrap_i64 (by omega) (by omega)]; omega, ?_⟩
    rw [take_snoc' hg, setG_snoc]
    exact h.to
  have hjG : j = G.length := by omega
  subst hjG
  have lV := lV G.length
  rw [List.take_length] at h lV
  generalize hV : setG base f b v G = V at *
  have h := h.to (L' := il p r D sp base e kn V n most (if base + n < lo then (addR S lo hi most).1 else S) R)
  refine next_ok h hb (by omega) fun w' h => ?_
  (repeat (first | apply Exists.intro (α := Int) | apply Exists.intro (α := Bool) | apply Exists.intro (α := ByteArray) | (apply Exists.intro (α := Option Addr); apply Exists.intro (α := Nat); apply Exists.intro (α := Nat)) | apply Exists.intro (α := Option Addr) | apply Exists.intro (α := Value)))
  refine ⟨rfl, ?_⟩
  refine ifq (fun heq => ?_) fun hne => ?_
  rotate_left
  · rw [if_pos (by omega)] at hk
    rw [if_pos (by omega)] at h
    exact letb rfl (hk _ h)
  rw [if_neg (by omega)] at hk h
  repeat' (first
    | refine nilc ?_
    | refine h.rdI _ ?_
    | refine h.rdB _ ?_
    | refine h.rdP _ ?_
    | refine h.rdL _ ?_
    | refine h.rdT _ ?_
    | refine h.rdI2 _ _ ?_
    | refine h.rdB2 _ _ ?_
    | refine h.rdP2 _ _ ?_
    | refine h.rdL2 _ _ ?_
    | refine h.st2 _ _ fun w' h => ?_
    | refine h.st _ fun w' h => ?_
    | refine h.rdvI ?_
    | refine h.rdvB ?_
    | refine h.rdvP ?_
    | refine h.rdvL ?_
    | refine h.rdvT ?_
    | (refine h.rdG ?_; (repeat (first | apply Exists.intro (α := Int) | apply Exists.intro (α := Bool) | apply Exists.intro (α := ByteArray) | (apply Exists.intro (α := Option Addr); apply Exists.intro (α := Nat); apply Exists.intro (α := Nat)) | apply Exists.intro (α := Option Addr) | apply Exists.intro (α := Value))); refine ⟨rfl, ?_⟩)
    | refine h.stG fun w' h => ?_
    | refine h.stV fun w' h => ?_
    | refine h.box fun p w' h => ?_
    | refine h.boxV fun p w' h => ?_
    | refine h.allocZ fun p w' h => ?_
    | refine h.allocZV fun p w' h => ?_
    | (refine RD.bld ?_; (repeat (first | apply Exists.intro (α := Int) | apply Exists.intro (α := Bool) | apply Exists.intro (α := ByteArray) | (apply Exists.intro (α := Option Addr); apply Exists.intro (α := Nat); apply Exists.intro (α := Nat)) | apply Exists.intro (α := Option Addr) | apply Exists.intro (α := Value))); refine ⟨rfl, ?_⟩)
    | (refine RDS.bld ?_; (repeat (first | apply Exists.intro (α := Int) | apply Exists.intro (α := Bool) | apply Exists.intro (α := ByteArray) | (apply Exists.intro (α := Option Addr); apply Exists.intro (α := Nat); apply Exists.intro (α := Nat)) | apply Exists.intro (α := Option Addr) | apply Exists.intro (α := Value))); refine ⟨rfl, ?_⟩)
    | refine St.rdsI _ ?_
    | refine St.rdsB _ ?_
    | refine St.rdsP _ ?_
    | refine St.rdsL _ ?_
    | refine St.rdsT _ ?_
    | refine St.rdsI2 _ _ ?_
    | refine St.rdsB2 _ _ ?_
    | (refine St.rdsG ?_; (repeat (first | apply Exists.intro (α := Int) | apply Exists.intro (α := Bool) | apply Exists.intro (α := ByteArray) | (apply Exists.intro (α := Option Addr); apply Exists.intro (α := Nat); apply Exists.intro (α := Nat)) | apply Exists.intro (α := Option Addr) | apply Exists.intro (α := Value))); refine ⟨rfl, ?_⟩)
    | refine letb rfl ?_
    | refine sat h ?_
    | (have h := h.drew; refine sat h ?_)
    | refine sat1 h (fun _ h => h.to) ?_)
  refine xgrow_ok h (.tail .head) (k := (hi - lo).toNat) (by omega) fun w' h => ?_
  (repeat (first | apply Exists.intro (α := Int) | apply Exists.intro (α := Bool) | apply Exists.intro (α := ByteArray) | (apply Exists.intro (α := Option Addr); apply Exists.intro (α := Nat); apply Exists.intro (α := Nat)) | apply Exists.intro (α := Option Addr) | apply Exists.intro (α := Value)))
  refine ⟨rfl, ?_⟩
  have hrun : hi ≤ runS S hi ∧ runS S hi ≤ base + v.length := by
    by_cases hi' : inP S hi
    · obtain ⟨x, hx, x1, x2, x3⟩ := runS_in hi'
      have := hSt x hx
      omega
    · rw [runS_out hi']
      omega
  have h := (h.to (L' := il p r D sp base e kn V (n + (hi - lo).toNat) most S R)).drew
  refine sat h ?_
  repeat' (first
    | refine nilc ?_
    | refine h.rdI _ ?_
    | refine h.rdB _ ?_
    | refine h.rdP _ ?_
    | refine h.rdL _ ?_
    | refine h.rdT _ ?_
    | refine h.rdI2 _ _ ?_
    | refine h.rdB2 _ _ ?_
    | refine h.rdP2 _ _ ?_
    | refine h.rdL2 _ _ ?_
    | refine h.st2 _ _ fun w' h => ?_
    | refine h.st _ fun w' h => ?_
    | refine h.rdvI ?_
    | refine h.rdvB ?_
    | refine h.rdvP ?_
    | refine h.rdvL ?_
    | refine h.rdvT ?_
    | (refine h.rdG ?_; (repeat (first | apply Exists.intro (α := Int) | apply Exists.intro (α := Bool) | apply Exists.intro (α := ByteArray) | (apply Exists.intro (α := Option Addr); apply Exists.intro (α := Nat); apply Exists.intro (α := Nat)) | apply Exists.intro (α := Option Addr) | apply Exists.intro (α := Value))); refine ⟨rfl, ?_⟩)
    | refine h.stG fun w' h => ?_
    | refine h.stV fun w' h => ?_
    | refine h.box fun p w' h => ?_
    | refine h.boxV fun p w' h => ?_
    | refine h.allocZ fun p w' h => ?_
    | refine h.allocZV fun p w' h => ?_
    | (refine RD.bld ?_; (repeat (first | apply Exists.intro (α := Int) | apply Exists.intro (α := Bool) | apply Exists.intro (α := ByteArray) | (apply Exists.intro (α := Option Addr); apply Exists.intro (α := Nat); apply Exists.intro (α := Nat)) | apply Exists.intro (α := Option Addr) | apply Exists.intro (α := Value))); refine ⟨rfl, ?_⟩)
    | (refine RDS.bld ?_; (repeat (first | apply Exists.intro (α := Int) | apply Exists.intro (α := Bool) | apply Exists.intro (α := ByteArray) | (apply Exists.intro (α := Option Addr); apply Exists.intro (α := Nat); apply Exists.intro (α := Nat)) | apply Exists.intro (α := Option Addr) | apply Exists.intro (α := Value))); refine ⟨rfl, ?_⟩)
    | refine St.rdsI _ ?_
    | refine St.rdsB _ ?_
    | refine St.rdsP _ ?_
    | refine St.rdsL _ ?_
    | refine St.rdsT _ ?_
    | refine St.rdsI2 _ _ ?_
    | refine St.rdsB2 _ _ ?_
    | (refine St.rdsG ?_; (repeat (first | apply Exists.intro (α := Int) | apply Exists.intro (α := Bool) | apply Exists.intro (α := ByteArray) | (apply Exists.intro (α := Option Addr); apply Exists.intro (α := Nat); apply Exists.intro (α := Nat)) | apply Exists.intro (α := Option Addr) | apply Exists.intro (α := Value))); refine ⟨rfl, ?_⟩)
    | refine letb rfl ?_
    | refine sat h ?_
    | (have h := h.drew; refine sat h ?_)
    | refine sat1 h (fun _ h => h.to) ?_)
  refine next_ok h hb (by omega) fun w' h => ?_
  (repeat (first | apply Exists.intro (α := Int) | apply Exists.intro (α := Bool) | apply Exists.intro (α := ByteArray) | (apply Exists.intro (α := Option Addr); apply Exists.intro (α := Nat); apply Exists.intro (α := Nat)) | apply Exists.intro (α := Option Addr) | apply Exists.intro (α := Value)))
  refine ⟨rfl, ?_⟩
  refine sat1 h (fun _ h => h) ?_
  rw [show base + ((n + (hi - lo).toNat : Nat) : Int) = hi by omega]
  refine srun_ok h (.tail (.tail .head)) hl fun w' h => ?_
  (repeat (first | apply Exists.intro (α := Int) | apply Exists.intro (α := Bool) | apply Exists.intro (α := ByteArray) | (apply Exists.intro (α := Option Addr); apply Exists.intro (α := Nat); apply Exists.intro (α := Nat)) | apply Exists.intro (α := Option Addr) | apply Exists.intro (α := Value)))
  refine ⟨rfl, ?_⟩
  refine sat1 h (fun _ h => h) ?_
  refine next_ok h hb (by omega) fun w' h => ?_
  (repeat (first | apply Exists.intro (α := Int) | apply Exists.intro (α := Bool) | apply Exists.intro (α := ByteArray) | (apply Exists.intro (α := Option Addr); apply Exists.intro (α := Nat); apply Exists.intro (α := Nat)) | apply Exists.intro (α := Option Addr) | apply Exists.intro (α := Value)))
  refine ⟨rfl, ?_⟩
  refine sat1 h (fun _ h => h) ?_
  rw [show base + ((n + (hi - lo).toNat : Nat) : Int) = hi by omega, show IntKind.u64.wrap (runS S hi - hi) = ((runS S hi - hi).toNat : Int) by rw [wrapU64]; omega, wrap_i64 (n := ((runS S hi - hi).toNat : Int)) (by omega) (by omega)]
  refine xgrow_ok h (.tail .head) (by omega) fun w' h => ?_
  (repeat (first | apply Exists.intro (α := Int) | apply Exists.intro (α := Bool) | apply Exists.intro (α := ByteArray) | (apply Exists.intro (α := Option Addr); apply Exists.intro (α := Nat); apply Exists.intro (α := Nat)) | apply Exists.intro (α := Option Addr) | apply Exists.intro (α := Value)))
  refine ⟨rfl, ?_⟩
  have h := (h.to (L' := il p r D sp base e kn V (n + (hi - lo).toNat + (runS S hi - hi).toNat) most S R)).drew
  refine sat h ?_
  repeat' (first
    | refine nilc ?_
    | refine h.rdI _ ?_
    | refine h.rdB _ ?_
    | refine h.rdP _ ?_
    | refine h.rdL _ ?_
    | refine h.rdT _ ?_
    | refine h.rdI2 _ _ ?_
    | refine h.rdB2 _ _ ?_
    | refine h.rdP2 _ _ ?_
    | refine h.rdL2 _ _ ?_
    | refine h.st2 _ _ fun w' h => ?_
    | refine h.st _ fun w' h => ?_
    | refine h.rdvI ?_
    | refine h.rdvB ?_
    | refine h.rdvP ?_
    | refine h.rdvL ?_
    | refine h.rdvT ?_
    | (refine h.rdG ?_; (repeat (first | apply Exists.intro (α := Int) | apply Exists.intro (α := Bool) | apply Exists.intro (α := ByteArray) | (apply Exists.intro (α := Option Addr); apply Exists.intro (α := Nat); apply Exists.intro (α := Nat)) | apply Exists.intro (α := Option Addr) | apply Exists.intro (α := Value))); refine ⟨rfl, ?_⟩)
    | refine h.stG fun w' h => ?_
    | refine h.stV fun w' h => ?_
    | refine h.box fun p w' h => ?_
    | refine h.boxV fun p w' h => ?_
    | refine h.allocZ fun p w' h => ?_
    | refine h.allocZV fun p w' h => ?_
    | (refine RD.bld ?_; (repeat (first | apply Exists.intro (α := Int) | apply Exists.intro (α := Bool) | apply Exists.intro (α := ByteArray) | (apply Exists.intro (α := Option Addr); apply Exists.intro (α := Nat); apply Exists.intro (α := Nat)) | apply Exists.intro (α := Option Addr) | apply Exists.intro (α := Value))); refine ⟨rfl, ?_⟩)
    | (refine RDS.bld ?_; (repeat (first | apply Exists.intro (α := Int) | apply Exists.intro (α := Bool) | apply Exists.intro (α := ByteArray) | (apply Exists.intro (α := Option Addr); apply Exists.intro (α := Nat); apply Exists.intro (α := Nat)) | apply Exists.intro (α := Option Addr) | apply Exists.intro (α := Value))); refine ⟨rfl, ?_⟩)
    | refine St.rdsI _ ?_
    | refine St.rdsB _ ?_
    | refine St.rdsP _ ?_
    | refine St.rdsL _ ?_
    | refine St.rdsT _ ?_
    | refine St.rdsI2 _ _ ?_
    | refine St.rdsB2 _ _ ?_
    | (refine St.rdsG ?_; (repeat (first | apply Exists.intro (α := Int) | apply Exists.intro (α := Bool) | apply Exists.intro (α := ByteArray) | (apply Exists.intro (α := Option Addr); apply Exists.intro (α := Nat); apply Exists.intro (α := Nat)) | apply Exists.intro (α := Option Addr) | apply Exists.intro (α := Value))); refine ⟨rfl, ?_⟩)
    | refine letb rfl ?_
    | refine sat h ?_
    | (have h := h.drew; refine sat h ?_)
    | refine sat1 h (fun _ h => h.to) ?_)
  refine next_ok h hb (by omega) fun w' h => ?_
  (repeat (first | apply Exists.intro (α := Int) | apply Exists.intro (α := Bool) | apply Exists.intro (α := ByteArray) | (apply Exists.intro (α := Option Addr); apply Exists.intro (α := Nat); apply Exists.intro (α := Nat)) | apply Exists.intro (α := Option Addr) | apply Exists.intro (α := Value)))
  refine ⟨rfl, ?_⟩
  refine sat1 h (fun _ h => h) ?_
  rw [show base + ((n + (hi - lo).toNat + (runS S hi - hi).toNat : Nat) : Int) = runS S hi by omega]
  refine scut_ok h (.tail (.tail .head)) hl fun w' h => ?_
  (repeat (first | apply Exists.intro (α := Int) | apply Exists.intro (α := Bool) | apply Exists.intro (α := ByteArray) | (apply Exists.intro (α := Option Addr); apply Exists.intro (α := Nat); apply Exists.intro (α := Nat)) | apply Exists.intro (α := Option Addr) | apply Exists.intro (α := Value)))
  refine ⟨rfl, ?_⟩
  rw [show n + (hi - lo).toNat + (runS S hi - hi).toNat = (runS S hi - base).toNat by omega] at h
  exact letb rfl (hk _ h.to)
end
end Go.Br
