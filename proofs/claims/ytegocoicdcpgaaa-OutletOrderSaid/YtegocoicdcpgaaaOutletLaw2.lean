/- The law of order of the stream that one writes, walked. -/
import Derived.Test.YtegocoicdcpgaaaNOutletLaw2
import Derived.Test.YtegocoicdcpgaaaOutletLaw
set_option linter.unusedVariables false
namespace Go.Br
open Go

theorem putN_le (n sz base m : Nat) : (putN n sz base false m).1 ≤ m ∧ ((putN n sz base false m).2 = 0 ∨ (putN n sz base false m).1 = 0) := by
  unfold putN
  rw [if_neg Bool.false_ne_true]
  split
  · exact ⟨Nat.zero_le _, .inl rfl⟩
  · split
    · exact ⟨Nat.zero_le _, .inr rfl⟩
    · split
      · exact ⟨Nat.zero_le _, .inr rfl⟩
      · exact ⟨by show min _ _ ≤ m; omega, .inl rfl⟩
theorem i64max : IntKind.i64.max = 9223372036854775807 := by decide

theorem order_ok' {w : World} {size : Int} {A : Option Addr} {n c : Nat} {B : Option Addr} {ps : List Int} {pc : Nat} (hl : BRows w A n) (hp : Ints w B ps) {Q : Value → World → Prop} (hk : ∀ w', Kp [] w w' → Q (.bool true) w') :
    CALL PG 8 [.int .i64 size, .slice A n c, .slice B ps.length pc] w Q := by
  refine call8 ?_
  unfold N8
  refine ifd (fun _ => hk w (Kp.refl w)) fun g1 => ifd (fun _ => hk w (Kp.refl w)) fun g2 => ifd (fun _ => hk w (Kp.refl w)) fun g3 => ifd (fun _ => hk w (Kp.refl w)) fun g4 => ?_
  obtain ⟨sz, rfl⟩ : ∃ sz : Nat, size = (sz : Int) := ⟨size.toNat, by omega⟩
  refine ol_new (size := sz) (by omega) (by omega) fun w1 o p D k1 fo fp fD h1 => ⟨_, _, rfl, leti rfl (iff_ (by decide) (iff_ rfl ?_))⟩
  refine RD.of (ld 0 h1.ho rfl (by kernel_rfl)) ⟨_, rfl, iff_ rfl ?_⟩
  have hsz : 1 ≤ sz ∧ sz ≤ 500 := by omega
  have hn40 : n ≤ 40 := by omega
  clear g1 g2 g3 g4
  refine ⟨fun m inv out i w2 => ∃ (j : Nat) (X Y C : List UInt8), inv = strOf X ∧ out = strOf Y ∧ i = (j : Int) ∧ j + m = n ∧ OutAt w2 o p D C sz Y.length false false ∧ X = Y ++ C ∧ X.length ≤ 300 * j ∧ Kp [] w w2,
    ⟨n, 0, [], [], [], rfl, rfl, rfl, by omega, h1, rfl, by simp, k1⟩, ?_⟩
  rintro m _ _ _ w2 ⟨j, X, Y, C, rfl, rfl, rfl, hj, h2, hX, hXl, k2⟩
  have hXY : X.length = Y.length + C.length := by rw [hX, List.length_append]
  refine ifd (fun hlt => ?_) fun hge => ?_
  · obtain ⟨ad, R, rm, rc, xs, rfl, hcell, hrc, hxl, hrow⟩ := hl j (by omega)
    have bd : (0 : Int) ≤ (j : Int) ∧ (j : Int) < (n : Int) := by omega
    have rd : ∀ W, Kp [] w W → (loadVar 28 (ad.add (Int.toNat (j : Int) * 1))).run PG W = .ok (.slice R rm rc) W := fun W k => by
      rw [Int.toNat_natCast, Nat.mul_one]; exact ldc (cell_old k hcell) (by kernel_rfl)
    subst hxl
    refine ⟨bd, ad, rfl, RD.of (rd w2 k2) ⟨_, _, _, rfl, ifd (fun _ => hk w2 k2) fun h300 => ?_⟩⟩
    refine ⟨bd, ad, rfl, RD.of (rd w2 k2) ⟨_, _, _, rfl, ?_⟩⟩
    refine ol_put h2 (hrow.keep k2) hrc (by omega) (oldA hrow fp fD) fun w3 k3 h3 => ⟨_, _, rfl, leti rfl (leti rfl ?_)⟩
    have k13 : Kp [] w w3 := k2.new k3 (by simp; omega)
    obtain ⟨q1, q2⟩ := putN_le C.length sz Y.length xs.length
    generalize (putN C.length sz Y.length false xs.length).1 = k at *
    generalize (putN C.length sz Y.length false xs.length).2 = f at *
    refine ⟨fun w4 => w4 = w3, ?_, ?_⟩
    · refine ifdf (by omega) ⟨bd, ad, rfl, RD.of (rd w3 k13) ⟨_, _, _, rfl, ifdf (by omega) ?_⟩⟩
      rcases q2 with rfl | rfl
      · exact iff_ rfl rfl
      · by_cases hf : f = 0
        · exact iff_ (by simp [hf]) rfl
        · exact ift (by simp [hf]) (iff_ rfl rfl)
    rintro w4 rfl
    refine ⟨bd, ad, rfl, RD.of (rd w4 k13) ⟨_, _, _, rfl, ⟨by omega, by omega, by omega⟩, ?_⟩⟩
    rw [cutA_zero]
    have e1 : Int.toNat (k : Int) - Int.toNat (0 : Int) = k := by simp
    rw [e1]
    have hkl : (xs.take k).length = k := by rw [List.length_take]; omega
    refine RD.bytesToString (bs := xs.take k) undBytes undU8 undStr (by rw [← bvs_take]; exact (hrow.keep k13).take k) hkl ⟨_, rfl, ?_⟩
    refine ⟨by rw [strOf_size, strOf_size, hkl, i64max]; omega, ?_⟩
    rw [strOf_append]
    refine lets rfl ?_
    have hX2 : X ++ xs.take k = Y ++ (C ++ xs.take k) := by rw [hX, List.append_assoc]
    have hX2l : (X ++ xs.take k).length ≤ 300 * (j + 1) := by rw [List.length_append, hkl]; omega
    have hX2Y : (X ++ xs.take k).length = Y.length + (C ++ xs.take k).length := by rw [hX2, List.length_append]
    generalize X ++ xs.take k = X2 at hX2 hX2l hX2Y ⊢
    generalize C ++ xs.take k = C2 at hX2 h3 hX2Y ⊢
    refine ⟨fun many w5 => 0 ≤ many ∧ w5 = w4, ?_, ?_⟩
    · refine ifd (fun hjp => ?_) fun _ => ⟨by decide, rfl⟩
      obtain ⟨x, hx⟩ := ex_get (L := ps) (j := j) (by omega)
      obtain ⟨b, eb, hr⟩ := hp.get (P := PG) hx
      refine ⟨⟨by omega, by omega⟩, b, eb, RD.of (hr w4 k13 (by kernel_rfl)) ⟨_, rfl, ⟨by decide, ⟨by decide, leti rfl ⟨?_, rfl⟩⟩⟩⟩⟩
      have h1 := Int.tmod_lt_of_pos x (b := 50) (by decide)
      have h2 : -50 < Int.tmod x 50 := by
        have := Int.lt_tmod_of_pos x (b := 50) (by decide)
        omega
      rw [wrap_i64 (by omega) (by omega)]
      exact Int.tmod_nonneg _ (by omega)
    rintro many w5 ⟨hmany, rfl⟩
    refine ol_base h3 ⟨_, rfl, ?_⟩
    refine ol_bytes h3 (by omega) fun w7 A7 c7 ys k7 hy hrow7 f7 hc7 => ⟨_, _, _, rfl, ?_⟩
    rw [if_neg (Nat.lt_irrefl _), Nat.sub_self, List.drop_zero] at hy
    have hyl : ys.length ≤ many.toNat ∧ ys.length ≤ C2.length := by rw [hy, List.length_take]; omega
    have h7 := h3.keep k7
    have k17 := k13.then k7
    have str : ∀ {W : World} {K : ByteArray → Prop}, Kp [] w7 W → K (strOf ys) → RD PG (convert 28 9 (.slice A7 ys.length c7)) W fun v => ∃ x, v = .string x ∧ K x := fun k hK =>
      RD.bytesToString undBytes undU8 undStr (hrow7.keep k) rfl ⟨_, rfl, hK⟩
    refine ifdf (by omega) (ifd (fun hpos => ?_) fun hz => ?_)
    · refine ol_base h7 ⟨_, rfl, ?_⟩
      have eT : IntKind.u64.wrap ((Y.length : Int) + IntKind.u64.wrap (ys.length : Int)) = ((Y.length + ys.length : Nat) : Int) := by rw [u64_id (y := (ys.length : Int)) (by omega) (by omega), u64_id (by omega) (by omega)]; rfl
      rw [eT]
      refine ol_acked h7 (by omega) (fun hno => absurd hno (by simp [topN]; omega)) fun _ _ _ t g ht w9 k9 h9 => ⟨_, rfl, iff_ rfl ?_⟩
      have ht : t = Y.length + ys.length ∧ g = false := by
        rcases ht with ⟨_, a, _⟩ | ⟨_, a, b⟩
        · cases a
        · exact ⟨a, b⟩
      obtain ⟨rfl, rfl⟩ := ht
      have hA7 : Row w9 A7 (bvs ys) := hrow7.kp k9 (fun a ha _ => by have := f7 a ha; have := h3.lt; simp; omega)
      refine RD.bytesToString undBytes undU8 undStr hA7 rfl ⟨_, rfl, ⟨by rw [strOf_size, strOf_size, i64max]; omega, ?_⟩⟩
      rw [strOf_append]
      refine lets rfl (leti (y := ((j + 1 : Nat) : Int)) (wrap_i64 (by omega) (by omega)) ⟨m - 1, by omega, j + 1, X2, Y ++ ys, C2.drop ys.length, rfl, rfl, rfl, by omega, ?_, ?_, hX2l, k17.new k9 (by simp; omega)⟩)
      · rw [Nat.add_sub_cancel_left] at h9
        rw [List.length_append]; exact h9
      · rw [hX2, List.append_assoc]
        congr 1
        have e : ys = C2.take ys.length := by
          conv => lhs; rw [hy]
          rw [hy, List.length_take, List.take_eq_take_iff]; omega
        conv => rhs; lhs; rw [e]
        exact (List.take_append_drop _ _).symm
    · have hy0 : ys = [] := List.eq_nil_of_length_eq_zero (by omega)
      refine str (Kp.refl _) ⟨by rw [strOf_size, strOf_size, i64max]; omega, ?_⟩
      rw [strOf_append, hy0, List.append_nil]
      refine lets rfl (leti (y := ((j + 1 : Nat) : Int)) (wrap_i64 (by omega) (by omega)) ⟨m - 1, by omega, j + 1, X2, Y, C2, rfl, rfl, rfl, by omega, h7, hX2, hX2l, k17⟩)
  · refine ol_base h2 ⟨_, rfl, ?_⟩
    refine ol_bytes h2 (by omega) fun w7 A7 c7 ys k7 hy hrow7 f7 hc7 => ⟨_, _, _, rfl, ?_⟩
    rw [if_neg (Nat.lt_irrefl _), Nat.sub_self, List.drop_zero, Int.toNat_natCast, List.take_of_length_le h2.hr.facts.1] at hy
    subst hy
    refine RD.bytesToString undBytes undU8 undStr hrow7 rfl ⟨_, rfl, ⟨by rw [strOf_size, strOf_size, i64max]; omega, ?_⟩⟩
    rw [strOf_append]
    refine lets rfl (ift (strOf_eq hX) (ol_end (h2.keep k7) fun w8 k8 => ⟨_, rfl, ift ?_ (ol_alive fun w9 k9 => ⟨_, rfl, letb rfl (hk w9 ((k2.then k7).then (k8.then k9)))⟩)⟩))
    rw [strOf_size, u64_id (by omega) (by omega), hXY]; simp
end Go.Br
