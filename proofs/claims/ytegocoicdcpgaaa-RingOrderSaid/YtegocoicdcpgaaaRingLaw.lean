/- The ring's laws, walked. -/
import Derived.Test.YtegocoicdcpgaaaNRingLaw
import Derived.Test.YtegocoicdcpgaaaRing
set_option linter.unusedVariables false
namespace Go.Br
open Go

theorem und5 : PG.underlying 5 = some (.int .u8) := by kernel_rfl
theorem und9 : PG.underlying 9 = some .string := by kernel_rfl
theorem lit3 (w : World) (a b c : Int) : (Instr.buildSlice 28 3 #[(0, .int .u8 a), (1, .int .u8 b), (2, .int .u8 c)]).run PG w = .ok (.slice (some ⟨w.heap.size, 0, none⟩) 3 3) (w.alloc (.cells #[.int .u8 a, .int .u8 b, .int .u8 c] 5)) := by kernel_rfl
theorem lit4 (w : World) (a b c d : Int) : (Instr.buildSlice 28 4 #[(0, .int .u8 a), (1, .int .u8 b), (2, .int .u8 c), (3, .int .u8 d)]).run PG w = .ok (.slice (some ⟨w.heap.size, 0, none⟩) 4 4) (w.alloc (.cells #[.int .u8 a, .int .u8 b, .int .u8 c, .int .u8 d] 5)) := by kernel_rfl

/-- A row of new memory, and the ring that is older. -/
theorem new_row {w1 w2 : World} {p D : Nat} {bs : List UInt8} {a n : Nat} (h : RingAt w1 p D bs a n) (cells : Array Value) (T : TypeId) {K : Value → World → Prop} {m : Nat} (hw : w2 = w1.alloc (.cells cells T))
    (hk : ∀ w', Kp [] w1 w' → Blk w' w1.heap.size T cells.toList → RingAt w' p D bs a n → K (.slice (some ⟨w1.heap.size, 0, none⟩) m m) w') : RUN PG (convert 28 28 (.slice (some ⟨w1.heap.size, 0, none⟩) m m)) w2 K := by
  subst hw
  have k1 := alloc_kp w1 (.cells cells T)
  have hp := h.hp.lt
  have hD := h.hD.lt
  refine RUN.bytesBytes hu28 und5 (Blk.new w1 cells T) fun w' k2 s2 hb => ?_
  exact hk w' (k1.trans k2 (by simp) (by simp)) hb ((h.kp k1 (by simp) (by simp)).kp k2 (by simp; omega) (by simp; omega))

theorem alive_ok {w : World} {Q : Value → World → Prop} (hk : ∀ w', Kp [] w w' → Q (.bool true) w') : CALL PG 20 [] w Q := by
  refine call20 ?_
  unfold N20
  refine new_ok (size := 4) (by omega) (by omega) fun w1 p D k1 f1 f2 h1 => ⟨_, _, rfl, ?_⟩
  refine leti rfl (iff_ (by decide) (iff_ rfl ?_))
  refine RUN.of (lit3 _ _ _ _) ⟨_, _, _, rfl, ?_⟩
  refine new_row h1 _ _ rfl fun w2 k2 hb2 h2 => ⟨_, _, _, rfl, ?_⟩
  have hpl := h1.hp.lt
  have hDl := h1.hD.lt
  refine write_ok (xs := [97, 98, 99]) h2 (by exact hb2.row 0 3) rfl (Nat.le_refl _) (by intro x hx _; injection hx with hx; subst hx; exact ⟨by simp; omega, by simp; omega⟩) fun w3 bs3 k3 s3 l3 h3 r3 => ⟨_, rfl, ?_⟩
  simp only [List.length_replicate] at l3 h3 r3 ⊢
  have r3' : rot bs3 0 = [97, 98, 99, 0] := r3
  refine leti rfl ?_
  refine skip_ok (k := 2) h3 (by decide) fun w4 bs4 a4 k4 s4 l4 h4 r4 => ⟨_, rfl, ?_⟩
  have r4' : rot bs4 a4 = [99, 0, 0, 0] := by rw [r4, r3']; rfl
  refine leti rfl ?_
  refine RUN.of (lit4 _ _ _ _ _) ⟨_, _, _, rfl, ?_⟩
  refine new_row h4 _ _ rfl fun w5 k5 hb5 h5 => ⟨_, _, _, rfl, ?_⟩
  have hpl4 := h4.hp.lt
  have hDl4 := h4.hD.lt
  have l4' : bs4.length = 4 := by omega
  refine write_ok (xs := [100, 101, 102, 103]) h5 (by exact hb5.row 0 4) rfl (Nat.le_refl _) (by intro x hx _; injection hx with hx; subst hx; exact ⟨by simp; omega, by simp; omega⟩) fun w6 bs6 k6 s6 l6 h6 r6 => ⟨_, rfl, ?_⟩
  rw [l4'] at l6 h6 r6 ⊢
  rw [r4'] at r6
  have r6' : rot bs6 a4 = [99, 100, 101, 102] := r6
  refine leti rfl ?_
  refine ift (by decide) (ift (by decide) (ift (by decide) ?_))
  refine read_some (k := 4) h6 (by decide) (by omega) (by decide) fun w7 bs7 a7 A7 c7 k7 l7 h7 r7 ho7 hf7 => ⟨_, _, _, rfl, ?_⟩
  rw [r6'] at ho7
  refine RD.bytesToString (bs := [99, 100, 101, 102]) hu28 und5 und9 ho7.row rfl ⟨_, rfl, ?_⟩
  refine ift (by rw [show ByteArray.mk #[99, 100, 101, 102] = strOf [99, 100, 101, 102] from rfl]; exact strOf_inj.2 rfl) ?_
  refine len_ok h7 ⟨_, rfl, ift (by simp) ?_⟩
  refine free_ok h7 ⟨_, rfl, letb (y := true) (by simp; omega) ?_⟩
  refine hk _ ?_
  have q1 : Kp [] w w2 := k1.then k2
  have q2 : Kp [p, D] w2 w5 := (k3.then k4).then (k5.mono (by simp))
  have q3 : Kp [p, D] w2 w7.drew := (q2.then (k6.then k7)).then ((Kp.drew w7).mono (by simp))
  exact q1.trans q3 (by simp) (by intro x hx; simp at hx; omega)

/-- What is read of a slice of rows of bytes. -/
def RdRows (w : World) (A : Option Addr) (n : Nat) : Prop := ∀ i, i < n → ∃ a B m c xs, A = some a ∧ w.cell? (a.add i) = some (.slice B m c) ∧ m ≤ c ∧ xs.length = m ∧ Row w B (bvs xs)
def RdInts (w : World) (A : Option Addr) (n : Nat) : Prop := ∀ i, i < n → ∃ a x, A = some a ∧ w.cell? (a.add i) = some (.int .i64 x)

theorem order_ok {w : World} {size : Int} {l : Option Addr} {lN lC : Nat} {reads : Option Addr} {rN rC : Nat} (hl : RdRows w l lN) (hrd : RdInts w reads rN) {Q : Value → World → Prop} (hk : ∀ w', Kp [] w w' → Q (.bool true) w') :
    CALL PG 3 [.int .i64 size, .slice l lN lC, .slice reads rN rC] w Q := by
  refine call3 ?_
  unfold N3
  refine ifd (fun _ => hk w (Kp.refl w)) fun h1 => ifd (fun _ => hk w (Kp.refl w)) fun h2 => ifd (fun _ => hk w (Kp.refl w)) fun h3 => ?_
  obtain ⟨sz, rfl⟩ : ∃ sz : Nat, size = (sz : Int) := ⟨size.toNat, by omega⟩
  have hsz : 1 ≤ sz ∧ sz ≤ 1000 := by omega
  have hln : lN ≤ 60 := by omega
  clear h1 h2 h3
  refine new_ok hsz.1 (by omega) fun wn p D kn f1 f2 hn => ⟨_, _, rfl, ?_⟩
  refine leti rfl (iff_ (by decide) (iff_ rfl ?_))
  refine ⟨fun m inv out i w1 => ∃ (X Y bs : List UInt8) (a n j : Nat), inv = strOf X ∧ out = strOf Y ∧ i = (j : Int) ∧ j + m = lN ∧ RingAt w1 p D bs a n ∧ bs.length = sz ∧ X = Y ++ (rot bs a).take n ∧ X.length ≤ 300 * j ∧ Kp [] w w1, ?_, ?_⟩
  · exact ⟨lN, [], [], List.replicate sz 0, 0, 0, 0, rfl, rfl, rfl, by omega, hn, by simp, by simp, by simp, kn⟩
  · rintro m inv out i w1 ⟨X, Y, bs, a, n, j, rfl, rfl, rfl, hj, hr, hbs, hX, hXl, kw⟩
    refine ifd (fun hlt => ?_) fun hge => ?_
    · have hjl : j < lN := by omega
      obtain ⟨ad, B, bm, bc, xs, rfl, hc, hbc, hxl, hrow⟩ := hl j hjl
      have idx : ∀ (W : World), Kp [] w W → ∀ {K : Addr → Prop}, (K ad) → IDX (some ad) lN (j : Int) K := fun W _ K hK => ⟨⟨by omega, by omega⟩, ad, rfl, hK⟩
      have rd : ∀ (W : World), Kp [] w W → (loadVar 28 (ad.add (Int.toNat (j : Int) * 1))).run PG W = .ok (.slice B bm bc) W := fun W k => by
        rw [Int.toNat_natCast, Nat.mul_one]; exact ldc (cell_old k hc) (by kernel_rfl)
      refine idx w1 kw (RD.of (rd w1 kw) ⟨_, _, _, rfl, ?_⟩)
      refine ifd (fun _ => hk w1 kw) fun hb3 => ?_
      refine idx w1 kw (RD.of (rd w1 kw) ⟨_, _, _, rfl, ?_⟩)
      have hold : ∀ x, B = some x → xs ≠ [] → x.block ≠ p ∧ x.block ≠ D := by
        intro x hx hne
        have := hrow.old hx (by cases xs with | nil => exact absurd rfl hne | cons c r => simp [bvs])
        omega
      refine write_ok hr (hrow.keep kw) hxl hbc hold fun w2 bs2 k2 s2 l2 hr2 hrot2 => ⟨_, rfl, ?_⟩
      obtain ⟨k, hkd, hk1, hk2, hk3⟩ : ∃ k, min bm (bs.length - n) = k ∧ k ≤ bm ∧ n + k ≤ bs.length ∧ (k = bm ∨ n + k = bs.length) := ⟨_, rfl, by omega, by have := hr.hn; omega, by have := hr.hn; omega⟩
      rw [hkd] at hr2 hrot2 ⊢
      clear hkd
      have kw2 : Kp [] w w2 := kw.new k2 (by intro x hx; simp at hx; omega)
      refine leti rfl ?_
      refine ⟨fun w' => RingAt w' p D bs2 a (n + k) ∧ Kp [] w w', ?_, ?_⟩
      · refine ifdf (by omega) ?_
        refine idx w2 kw2 (RD.of (rd w2 kw2) ⟨_, _, _, rfl, ?_⟩)
        refine ifdf (by omega) ?_
        refine idx w2 kw2 (RD.of (rd w2 kw2) ⟨_, _, _, rfl, ?_⟩)
        refine ifd (fun hlt2 => ?_) fun _ => ⟨hr2, kw2⟩
        refine free_ok hr2 ⟨_, rfl, iff_ ?_ ⟨hr2.drew, kw2.then (Kp.drew _)⟩⟩
        have : ((bs2.length : Int) - ((n + k : Nat) : Int)) = 0 := by omega
        rw [this]; rfl
      · rintro w3 ⟨hr3, kw3⟩
        refine idx w3 kw3 (RD.of (rd w3 kw3) ⟨_, _, _, rfl, ?_⟩)
        refine ⟨by omega, ?_⟩
        rw [cutA_zero]
        have e1 : Int.toNat (k : Int) - Int.toNat (0 : Int) = k := by omega
        rw [e1]
        have hrow3 : Row w3 B (bvs (xs.take k)) := by rw [← bvs_take]; exact (hrow.keep kw3).take k
        refine RD.bytesToString (bs := xs.take k) hu28 und5 und9 hrow3 (by simp; omega) ⟨_, rfl, ?_⟩
        have hkl : (xs.take k).length = k := by simp; omega
        refine ⟨by rw [strOf_size, strOf_size, hkl, show IntKind.i64.max = 9223372036854775807 from by decide]; omega, ?_⟩
        rw [strOf_append]
        refine lets rfl ?_
        have hX2 : X ++ xs.take k = Y ++ (rot bs2 a).take (n + k) := by
          rw [hrot2, hX, List.append_assoc]
          congr 1
          have hnl := hr.hn
          have hsl : n + (xs.take k).length ≤ (rot bs a).length := by rw [rot_length, hkl]; omega
          refine ext_lt (by simp [spl_length hsl]; omega) fun q hq => ?_
          simp only [List.length_append, List.length_take, rot_length] at hq
          rw [List.getElem?_take_of_lt (by omega), spl_get hsl, hkl]
          by_cases c : q < n
          · rw [List.getElem?_append_left (by simp; omega), List.getElem?_take_of_lt c, if_neg (by omega)]
          · rw [List.getElem?_append_right (by simp; omega), if_pos (by omega)]
            simp only [List.length_take, rot_length]
            congr 1; omega
        have hXl2 : (X ++ xs.take k).length ≤ 300 * (j + 1) := by rw [List.length_append, hkl]; omega
        generalize X ++ xs.take k = X2 at hX2 hXl2 ⊢
        refine ⟨fun out w' => ∃ (Y' bs' : List UInt8) (a' n' : Nat), out = strOf Y' ∧ RingAt w' p D bs' a' n' ∧ bs'.length = sz ∧ X2 = Y' ++ (rot bs' a').take n' ∧ Kp [] w w', ?_, ?_⟩
        · refine ifd (fun hrl => ?_) fun _ => ⟨Y, bs2, a, n + k, rfl, hr3, by omega, hX2, kw3⟩
          obtain ⟨ra, many, rfl, hrc⟩ := hrd j (by omega)
          refine ⟨⟨by omega, by omega⟩, ra, rfl, ?_⟩
          rw [Int.toNat_natCast, Nat.mul_one]
          refine RD.of (ldc (cell_old kw3 hrc) (by kernel_rfl)) ⟨_, rfl, ?_⟩
          by_cases hz : n + k = 0 ∨ many < 1
          · refine read_none hr3 hz fun w4 bs4 a4 k4 l4 hr4 hrot4 => ⟨_, _, _, rfl, ?_⟩
            refine RD.bytesToString (bs := []) hu28 und5 und9 (Row.nil _ _) rfl ⟨_, rfl, ?_⟩
            refine ⟨by rw [strOf_size, strOf_size, show IntKind.i64.max = 9223372036854775807 from by decide]; have : Y.length ≤ X2.length := by rw [hX2]; simp
                       simp; omega, ?_⟩
            rw [strOf_append]
            refine lets rfl ⟨Y ++ [], bs4, a4, n + k, rfl, hr4, by omega, by rw [hrot4, List.append_nil]; exact hX2, kw3.new k4 (by intro x hx; simp at hx; omega)⟩
          · obtain ⟨g, hg⟩ : ∃ g : Nat, (g : Int) = minN many ((n + k : Nat) : Int) := ⟨(minN many ((n + k : Nat) : Int)).toNat, by unfold minN; split <;> omega⟩
            have hgn : g ≤ n + k := by unfold minN at hg; split at hg <;> omega
            refine read_some (k := g) hr3 (by omega) (by omega) hg fun w4 bs4 a4 A4 c4 k4 l4 hr4 hrot4 ho4 hf4 => ⟨_, _, _, rfl, ?_⟩
            have hgl : ((rot bs2 a).take g).length = g := by simp; have := hr3.hn; omega
            refine RD.bytesToString (bs := (rot bs2 a).take g) hu28 und5 und9 ho4.row hgl ⟨_, rfl, ?_⟩
            refine ⟨by rw [strOf_size, strOf_size, hgl, show IntKind.i64.max = 9223372036854775807 from by decide]; have : Y.length ≤ X2.length := by rw [hX2]; simp
                       have := hr3.hn; omega, ?_⟩
            rw [strOf_append]
            refine lets rfl ⟨_, bs4, a4, n + k - g, rfl, hr4, by omega, ?_, kw3.new k4 (by intro x hx; simp at hx; omega)⟩
            rw [hrot4, hX2, List.append_assoc]
            congr 1
            have hn3 := hr3.hn
            have e5 : List.take (n + k - g) (List.drop g (rot bs2 a) ++ List.replicate g 0) = List.take (n + k - g) (List.drop g (rot bs2 a)) := List.take_append_of_le_length (by simp; omega)
            rw [e5, ← List.take_add]
            congr 1; omega
        · rintro out2 w5 ⟨Y', bs5, a5, n5, rfl, hr5, hbs5, hX5, kw5⟩
          have hn5 := hr5.hn
          have hYX : X2.length = Y'.length + n5 := by rw [hX5]; simp; omega
          refine len_ok hr5 ⟨_, rfl, ?_⟩
          rw [strOf_size, strOf_size, wrap_i64 (by omega) (by omega)]
          refine iff_ ?_ ?_
          · have : ((Y'.length : Int) + n5) = (X2.length : Int) := by omega
            rw [this]; simp
          · refine len_ok hr5 ⟨_, rfl, ifdf (by omega) ⟨by omega, ?_⟩⟩
            rw [cutS_strOf]
            refine iff_ (strOf_ne (by rw [hX5]; simp)) ?_
            rw [wrap_i64 (by omega) (by omega)]
            refine leti (y := ((j + 1 : Nat) : Int)) (by omega) ⟨m - 1, by omega, X2, Y', bs5, a5, n5, j + 1, rfl, rfl, rfl, by omega, hr5, hbs5, hX5, by omega, kw5⟩
    · have hn1 := hr.hn
      have fin : ∀ (w2 : World) (Z : List UInt8), Kp [] w w2 → X = Y ++ Z → NEED ((((strOf Y).size + (strOf Z).size : Nat) : Int) ≤ IntKind.i64.max) (LETS (strOf Y ++ strOf Z) fun out3 =>
          IFB ((strOf X).toList == out3.toList) (CALL PG 20 [] w2 fun v16 w11 => ∃ x132 : Bool, v16 = (.bool x132) ∧ (LETB x132 fun x6 => Q (.bool x6) w11)) (LETB false fun x6_1 => Q (.bool x6_1) w2)) := by
        intro w2 Z k2 hZ
        refine ⟨?_, ?_⟩
        · rw [strOf_size, strOf_size, show IntKind.i64.max = 9223372036854775807 from by decide]
          have : X.length = Y.length + Z.length := by rw [hZ]; simp
          omega
        · rw [strOf_append, ← hZ]
          refine lets rfl (ift (strOf_eq rfl) (alive_ok fun w3 k3 => ⟨_, rfl, letb rfl (hk _ (k2.then k3))⟩))
      by_cases hz : n = 0 ∨ (sz : Int) < 1
      · refine read_none hr hz fun w4 bs4 a4 k4 l4 hr4 hrot4 => ⟨_, _, _, rfl, ?_⟩
        refine RD.bytesToString (bs := []) hu28 und5 und9 (Row.nil _ _) rfl ⟨_, rfl, ?_⟩
        refine fin w4 [] (kw.new k4 (by intro x hx; simp at hx; omega)) ?_
        have : n = 0 := by omega
        rw [hX, this]; simp
      · refine read_some (k := n) hr (by omega) (by omega) (by unfold minN; split <;> omega) fun w4 bs4 a4 A4 c4 k4 l4 hr4 hrot4 ho4 hf4 => ⟨_, _, _, rfl, ?_⟩
        refine RD.bytesToString (bs := (rot bs a).take n) hu28 und5 und9 ho4.row (by simp; omega) ⟨_, rfl, ?_⟩
        exact fin w4 _ (kw.new k4 (by intro x hx; simp at hx; omega)) hX

theorem sets_ok {w : World} {size : Int} {A B : Option Addr} {aN aC bN bC : Nat} {xs ys : List UInt8} (ha : Row w A (bvs xs)) (hal : xs.length = aN) (hac : aN ≤ aC) (hb : Row w B (bvs ys)) (hbl : ys.length = bN)
    {Q : Value → World → Prop} (hk : ∀ w', Kp [] w w' → Q (.bool true) w') :
    CALL PG 4 [.int .i64 size, .slice A aN aC, .slice B bN bC] w Q := by
  refine call4 ?_
  unfold N4
  refine ifd (fun _ => hk w (Kp.refl w)) fun h1 => ifd (fun _ => hk w (Kp.refl w)) fun h2 => ifd (fun _ => hk w (Kp.refl w)) fun h3 => ifd (fun _ => hk w (Kp.refl w)) fun h4 => ?_
  obtain ⟨sz, rfl⟩ : ∃ sz : Nat, size = (sz : Int) := ⟨size.toNat, by omega⟩
  have hsz : 1 ≤ sz ∧ sz ≤ 500 := by omega
  have hln : aN ≤ 300 ∧ bN ≤ 300 := by omega
  clear h1 h2 h3 h4
  refine new_ok hsz.1 (by omega) fun w1 p D k1 f1 f2 r1 => ⟨_, _, rfl, ?_⟩
  refine leti rfl (iff_ (by decide) (iff_ rfl ?_))
  have hold : ∀ {C : Option Addr} {zs : List UInt8}, Row w C (bvs zs) → ∀ x, C = some x → zs ≠ [] → x.block ≠ p ∧ x.block ≠ D := by
    intro C zs hrow x hx hne
    have := hrow.old hx (by cases zs with | nil => exact absurd rfl hne | cons c r => simp [bvs])
    omega
  have hnew : ∀ i ∈ [p, D], w.heap.size ≤ i := by intro x hx; simp at hx; omega
  refine write_ok r1 (ha.keep k1) hal hac (hold ha) fun w2 bs2 k2 s2 l2 r2 hrot2 => ⟨_, rfl, ?_⟩
  simp only [List.length_replicate, Nat.sub_zero, Nat.zero_add] at l2 r2 hrot2 ⊢
  obtain ⟨n, hnd, hn1, hn2⟩ : ∃ n, min aN sz = n ∧ n ≤ aN ∧ n ≤ sz := ⟨_, rfl, by omega, by omega⟩
  rw [hnd] at r2 hrot2 ⊢
  clear hnd
  have kw2 := k1.new k2 hnew
  obtain ⟨X, hX⟩ : ∃ X, X = xs.take n := ⟨_, rfl⟩
  have hXl : X.length = n := by rw [hX]; simp; omega
  rw [← hX] at hrot2
  refine leti rfl ⟨by omega, ?_⟩
  have e1 : IntKind.i64.wrap (Int.tdiv (n : Int) 2) = ((n / 2 : Nat) : Int) := by
    rw [Int.tdiv_eq_ediv_of_nonneg (by omega), wrap_i64 (by omega) (by omega)]; omega
  rw [e1]
  obtain ⟨h, hh⟩ : ∃ h, n / 2 = h := ⟨_, rfl⟩
  have hhn : h ≤ n := by omega
  rw [hh]
  clear hh e1
  refine skip_ok (k := h) r2 (by unfold minN maxN; split <;> split <;> omega) fun w3 bs3 a3 k3 s3 l3 r3 hrot3 => ⟨_, rfl, ?_⟩
  have kw3 := kw2.new k3 hnew
  refine leti rfl ?_
  refine len_ok r3 ⟨_, rfl, ?_⟩
  refine leti rfl ?_
  have hbs3 : bs3.length = sz := by omega
  have hV : (rot bs3 a3).take (n - h) = X.drop h := by
    rw [hrot3, hrot2]
    have : spl (rot (List.replicate sz 0) 0) 0 X = X ++ (rot (List.replicate sz 0) 0).drop X.length := by simp [spl]
    rw [this, List.drop_append_of_le_length (by omega), List.append_assoc, List.take_append_of_le_length (by simp; omega)]
    exact List.take_of_length_le (by simp; omega)
  have hcut : ∀ W, Kp [] w W → Row W (cutA A aC 1 (h : Int)) (bvs (X.drop h)) := by
    intro W kW
    have := (cutA_row (z := 1) (c := aC) (l := (h : Int)) (ha.keep kW) (by simp; omega)).take (n - h)
    simp only [Int.toNat_natCast, Nat.mul_one, bvs_drop, bvs_take] at this
    rw [hX, List.drop_take]; exact this
  have ecut : Int.toNat (n : Int) - Int.toNat (h : Int) = n - h := by omega
  have hwr : IntKind.i64.wrap ((sz : Int) - ((n - h : Nat) : Int)) = (sz : Int) - ((n - h : Nat) : Int) := wrap_i64 (by omega) (by omega)
  -- what follows the setting, where nothing that is there is turned
  have tail : ∀ (W : World) (bs : List UInt8) (okv : Bool) (rest : World → Prop), Kp [] w W → RingAt W p D bs a3 (n - h) → bs.length = sz → (rot bs a3).take (n - h) = X.drop h → okv = decide ((bN : Int) ≤ (sz : Int) - ((n - h : Nat) : Int)) →
      (∀ W', Kp [] w W' → RingAt W' p D bs a3 (n - h) → rest W') →
      ∃ S : World → Prop, S (W.drew) ∧ (IFB (!(okv == (decide ((bN : Int) ≤ (IntKind.i64.wrap ((sz : Int) - ((n - h : Nat) : Int))))))) (Q (.bool false) (W.drew))
        (CALL PG 19 [(.pointer (some ⟨p, 0, none⟩))] (W.drew) fun v5 w6 => ∃ x64 : Int, v5 = (.int .i64 x64) ∧ (∃ S1 : World → Prop, (∀ x, S1 x → S x) ∧ S1 w6 ∧ (IFB (x64 != ((n - h : Nat) : Int)) (Q (.bool false) w6)
          (NEED (0 ≤ (h : Int) ∧ (h : Int) ≤ (n : Int) ∧ (n : Int) ≤ ((aC : Nat) : Int))
          (RDS PG (convert 28 9 (.slice (cutA A aC 1 (h : Int)) (Int.toNat (n : Int) - Int.toNat (h : Int)) (aC - Int.toNat (h : Int)))) S1 fun v6 => ∃ x77 : ByteArray, v6 = (.string x77) ∧
          (CALL PG 23 [(.pointer (some ⟨p, 0, none⟩)), (.int .i64 (0 : Int)), (.int .i64 (sz : Int))] w6 fun v7 w7 => ∃ (x71 : Option Addr) (x71N x71C : Nat), v7 = (.slice x71 x71N x71C) ∧
          (∃ S2 : World → Prop, (∀ x, S2 x → S1 x) ∧ S2 w7 ∧ (RDS PG (convert 28 9 (.slice x71 x71N x71C)) S2 fun v8 => ∃ x72 : ByteArray, v8 = (.string x72) ∧ (IFB (!(x72.toList == x77.toList)) (Q (.bool false) w7) (rest w7))))))))))) := by
    intro W bs okv rest kW rW hbs hview hok hrest
    refine ⟨fun w' => Kp [] w w', kW.then (Kp.drew W), ?_⟩
    rw [hwr, hok]
    refine iff_ (by simp) ?_
    refine len_ok rW.drew ⟨_, rfl, ?_⟩
    refine ⟨fun w' => Kp [] w w', fun _ h => h, kW.then (Kp.drew W), ?_⟩
    refine iff_ (by simp) ⟨by omega, ?_⟩
    rw [ecut]
    refine RDS.bytesToString (bs := X.drop h) hu28 und5 und9 (fun W' k' => hcut W' k') (by simp; omega) ⟨_, rfl, ?_⟩
    refine peek_all rW.drew (by omega) fun w7 A7 c7 k7 row7 => ⟨_, _, _, rfl, ?_⟩
    rw [hview] at row7
    have kw7 := (kW.then (Kp.drew W)).then k7
    refine ⟨fun w' => Kp [] w w' ∧ Row w' A7 (bvs (X.drop h)), fun _ h => h.1, ⟨kw7, row7⟩, ?_⟩
    refine RDS.bytesToString (bs := X.drop h) hu28 und5 und9 (fun W' k' => k'.2) (by simp; omega) ⟨_, rfl, ?_⟩
    exact iff_ (strOf_ne rfl) (hrest w7 kw7 ((rW.drew).kp k7 (by simp) (by simp)))
  by_cases hfit : n - h + bN ≤ sz
  · refine set_ok r3 (hb.keep kw3) hbl (by omega) (fun x hx hne => (hold hb x hx hne).2) fun w5 bs5 k5 s5 l5 r5 hrot5 => ⟨_, rfl, ?_⟩
    have kw5 := kw3.new k5 (by intro x hx; simp at hx; omega)
    refine letb rfl ?_
    have hview5 : (rot bs5 a3).take (n - h) = X.drop h := by
      rw [hrot5, ← hV]
      have hl : (rot bs3 a3).length = sz := by simp; omega
      simp only [spl]
      rw [List.append_assoc, List.take_append_of_le_length (by simp; omega), List.take_take]
      congr 1; omega
    refine tail w5 bs5 true _ kw5 r5 (by omega) hview5 (by simp; omega) fun w7 kw7 r7 => ?_
    refine iff_ (by simp) ?_
    refine grow_ok r7 (by omega) fun w9 k9 s9 r9 => ⟨_, rfl, ?_⟩
    have kw9 := (kw7.new k9 (by intro x hx; simp at hx; omega)).then (Kp.drew w9)
    refine letb rfl ⟨fun w' => Kp [] w w', kw9, ?_⟩
    refine ift rfl ⟨by omega, ?_⟩
    rw [ecut]
    refine RDS.bytesToString (bs := X.drop h) hu28 und5 und9 (fun W' k' => hcut W' k') (by simp; omega) ⟨_, rfl, ?_⟩
    refine RDS.bytesToString (bs := ys) hu28 und5 und9 (fun W' k' => hb.keep k') hbl ⟨_, rfl, ?_⟩
    refine ⟨by rw [strOf_size, strOf_size, show IntKind.i64.max = 9223372036854775807 from by decide]; simp; omega, ?_⟩
    refine read_all r9.drew (by omega) fun w10 bs10 a10 A10 c10 k10 l10 r10 row10 => ⟨_, _, _, rfl, ?_⟩
    have kw10 := kw9.new k10 hnew
    have hview9 : (rot bs5 a3).take (n - h + bN) = X.drop h ++ ys := by
      rw [hrot5, ← hV]
      have hl : (rot bs3 a3).length = sz := by simp; omega
      simp only [spl]
      rw [List.take_append_of_le_length (by simp; omega)]
      exact List.take_of_length_le (by simp; omega)
    rw [hview9] at row10
    refine ⟨fun w' => Kp [] w w' ∧ Row w' A10 (bvs (X.drop h ++ ys)), fun _ h => h.1, ⟨kw10, row10⟩, ?_⟩
    refine RDS.bytesToString (bs := X.drop h ++ ys) hu28 und5 und9 (fun W' k' => k'.2) (by simp; omega) ⟨_, rfl, ?_⟩
    rw [strOf_append]
    refine ift (strOf_eq rfl) ?_
    refine free_ok r10 ⟨_, rfl, ?_⟩
    have kw11 := kw10.then (Kp.drew w10)
    refine ⟨fun w' => Kp [] w w' ∧ Row w' A10 (bvs (X.drop h ++ ys)), fun _ h => h, ⟨kw11, row10⟩, ?_⟩
    refine ift (by simp; omega) (alive_ok fun w12 k12 => ⟨_, rfl, letb rfl (hk _ (kw11.then k12))⟩)
  · refine set_no r3 (by omega) ⟨_, rfl, ?_⟩
    refine letb rfl ?_
    refine tail w3 bs3 false _ kw3 r3 hbs3 hV (by simp; omega) fun w7 kw7 r7 => ?_
    exact ift rfl (alive_ok fun w8 k8 => ⟨_, rfl, letb rfl (hk _ (kw7.then k8))⟩)

end Go.Br
