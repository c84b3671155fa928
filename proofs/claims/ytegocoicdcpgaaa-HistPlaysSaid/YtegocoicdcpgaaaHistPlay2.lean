/- The document's part, and the law of plays, walked. -/
import Derived.Test.YtegocoicdcpgaaaNHistPlay2
import Derived.Test.YtegocoicdcpgaaaHistPlay
set_option linter.unusedVariables false
namespace Go.Br
open Go

theorem lit1 (w : World) (a : Int) : (Instr.buildSlice 23 1 #[(0, .int .i64 a)]).run PG w = .ok (.slice (some ⟨w.heap.size, 0, none⟩) 1 1) (w.alloc (.cells #[.int .i64 a] 3)) := by kernel_rfl
theorem lit0 (w : World) : (Instr.buildSlice 53 0 #[]).run PG w = .ok (.slice (some ⟨w.heap.size, 0, none⟩) 0 0) (w.alloc (.cells #[] 59)) := by kernel_rfl
theorem tiInt : TI PG 3 1 8 (.int .i64 0) := tiOf (by kernel_rfl)
theorem tiI : TI PG 59 2 16 (.agg #[.int .i64 0, .int .i64 0]) := tiOf (by kernel_rfl)
theorem huInts : PG.underlying 23 = some (.slice 3) := by kernel_rfl
theorem huIs : PG.underlying 53 = some (.slice 59) := by kernel_rfl
noncomputable def rv (x : P2) : Value := .int .i64 (hR x.1 : Int)

theorem cut_of {part : Int} {pt : Nat} (h : (pt : Int) = minN (maxN part 0) 1000) {p1 : Int} (h1 : (part < 0 ∧ p1 = 0) ∨ (¬ part < 0 ∧ p1 = part)) : (1000 < p1 → (1000 : Int) = pt) ∧ (¬ 1000 < p1 → p1 = pt) := by
  have := cl_or (by decide) h; omega
theorem hit_of {f : Nat → Nat} {m part r : Nat} (h : 0 < f r ∧ m * part ≤ pre f (r + 1) * 1000) : Hit f m part r := h

theorem hit2 {mp P c : Nat} (h1 : (c : Int) > 0) (h2 : ((P * 1000 : Nat) : Int) ≥ (mp : Int)) : 0 < c ∧ mp ≤ P * 1000 := by omega
theorem rBelow_ok {w : World} {A : Option Addr} {L : List P2} {c : Nat} (h : Ps w A L) (hln : L.length ≤ 80) {part : Int} {pt : Nat} (hpt : (pt : Int) = minN (maxN part 0) 1000) {Q : Value → World → Prop}
    (hk : ∀ (w' : World) (v : Nat), Kp [] w w' → IsBelow (fun r => cnt r L) (mny L) pt v → Q (.int .i64 (v : Int)) w') :
    CALL PG 97 [.slice A L.length c, .int .i64 part] w Q := by
  refine call97 ?_
  unfold N97
  have hptl : pt ≤ 1000 := by have := cl_or (by decide) hpt; omega
  refine ⟨fun p1 w1 => ((part < 0 ∧ p1 = 0) ∨ (¬ part < 0 ∧ p1 = part)) ∧ w1 = w, ifd (fun h => ⟨.inl ⟨h, rfl⟩, rfl⟩) (fun h => ⟨.inr ⟨h, rfl⟩, rfl⟩), ?_⟩
  rintro p1 w1 ⟨hp1, rfl⟩
  obtain ⟨c1, c2⟩ := cut_of hpt hp1
  refine ⟨fun p2 w2 => p2 = (pt : Int) ∧ w2 = w1, ifd (fun h => ⟨c1 h, rfl⟩) (fun h => ⟨c2 h, rfl⟩), ?_⟩
  rintro _ w2 ⟨rfl, rfl⟩
  refine rMany_ok h hln fun w3 k3 => ⟨_, _, rfl, leti rfl (leti rfl ?_)⟩
  refine ⟨fun m R n cc i w4 => ∃ j : Nat, j + m = L.length ∧ i = (j : Int) ∧ n = j ∧ Own w4 3 1 R n cc ((L.take j).map rv) ∧ Kp [] w2 w4 ∧ ∀ b ∈ fpA R, w2.heap.size ≤ b, ⟨L.length, 0, by omega, rfl, rfl, by simpa using Own.nil w3 3 1, k3, by simp [fpA]⟩, ?_⟩
  rintro m R n cc _ w4 ⟨j, hm, rfl, rfl, ho, k4, hfp⟩
  refine ifd (fun hlt => ?_) fun hge => ?_
  · obtain ⟨x, hx⟩ := get_ex (L := L) (j := n) (by omega)
    obtain ⟨a, rfl, l0, l1⟩ := h.get hx
    have hb : (0 : Int) ≤ (n : Int) ∧ (n : Int) < (L.length : Int) := by omega
    refine ⟨hb, a, rfl, RD.of (l0 w4 k4) ⟨_, rfl, rRow_ok' ⟨_, rfl, ?_⟩⟩⟩
    refine RUN.of (lit1 _ _) ⟨_, _, _, rfl, ?_⟩
    have ka := alloc_kp w4 (.cells #[Value.int .i64 (hR x.1 : Int)] 3)
    have hnew := (Blk.new w4 #[Value.int .i64 (hR x.1 : Int)] 3).row 0 1
    refine append1 huInts tiInt rfl (by decide) (by decide) (ho.kp ka (by simp)) (m := 1) hnew rfl (flat_one rfl) (by omega) fun A' c' w' k5 ho' hA' => ⟨_, _, _, rfl, ?_⟩
    refine leti (y := ((n + 1 : Nat) : Int)) (wrap_i64 (by omega) (by omega)) ⟨m - 1, by omega, n + 1, by omega, rfl, rfl, ?_, (k4.then ka).new k5 hfp, ?_⟩
    · rw [take_snoc hx, List.map_append]; exact ho'
    · rcases hA' with rfl | ⟨a', rfl, ha'⟩
      · exact hfp
      · have hs := k4.size
        have hs' := ka.size
        simp only [fpA, List.mem_singleton]; intro b hb; subst hb; omega
  · have hn : n = L.length := by omega
    subst hn
    rw [List.take_length] at ho
    have hb1 := mny_le L
    have hb2 : mny L ≤ 83886080 := by omega
    have hmp : mny L * pt ≤ 83886080 * 1000 := Nat.mul_le_mul hb2 hptl
    have hh : Ps w4 A L := Row.keep h k4
    have hpre := pre_cnt L
    have step : ∀ j, pre (fun r => cnt r L) (j + 1) = pre (fun r => cnt r L) j + cnt j L := fun _ => rfl
    have hrow := ho.row
    refine ⟨fun m n r w8 => ∃ j : Nat, j + m = 120 ∧ r = (j : Int) ∧ n = (pre (fun r => cnt r L) j : Int) ∧ (∀ s, s < j → ¬ Hit (fun r => cnt r L) (mny L) pt s) ∧ w8 = w4, ⟨120, 0, by omega, rfl, by simp [pre], fun s hs => by omega, rfl⟩, ?_⟩
    rintro k _ _ w8 ⟨j, hj, rfl, rfl, hno, rfl⟩
    refine ifd (fun hlt => ?_) fun hge2 => hk w8 0 k4 (.inr ⟨fun s hs => hno s (by omega), rfl⟩)
    refine ⟨fun m cn i w9 => ∃ q : Nat, q + m = L.length ∧ i = (q : Int) ∧ cn = (cnt j (L.take q) : Int) ∧ w9 = w8, ⟨L.length, 0, by omega, rfl, by simp [cnt], rfl⟩, ?_⟩
    rintro m2 _ _ w9 ⟨q, hq, rfl, rfl, rfl⟩
    refine ifd (fun hlt2 => ?_) fun hge3 => ?_
    · obtain ⟨x, hx⟩ := get_ex (L := L) (j := q) (by omega)
      obtain ⟨a, ea, l0, l1⟩ := hh.get hx
      obtain ⟨b, eb, hcell⟩ := hrow q (rv x) (by rw [List.getElem?_map, hx]; rfl)
      have hbq : (0 : Int) ≤ (q : Int) ∧ (q : Int) < (L.length : Int) := by omega
      refine ⟨hbq, b, eb, RD.of (v := rv x) (by rw [Int.toNat_natCast, Nat.mul_one]; exact ldc hcell (by kernel_rfl)) ⟨_, rfl, ?_⟩⟩
      have b1 := mny_le (L.take q)
      have b2 := cnt_le j (L.take q)
      have b3 : (L.take q).length ≤ 80 := by rw [List.length_take]; omega
      have b4 := of_le x.2
      by_cases c : hR x.1 = j
      · refine ift (by simp [c]) ⟨hbq, a, ea, RD.of (l1 w9 (Kp.refl _)) ⟨_, rfl, often_ok ⟨_, rfl, ?_⟩⟩⟩
        refine leti (y := (cnt j (L.take (q + 1)) : Int)) ?_ (leti (y := ((q + 1 : Nat) : Int)) (wrap_i64 (by omega) (by omega)) ⟨m2 - 1, by omega, q + 1, by omega, rfl, rfl, rfl⟩)
        rw [take_snoc hx, cnt_append]
        simp only [cnt, c, if_true]
        rw [wrap_i64 (by omega) (by omega)]; omega
      · refine iff_ (by simp; omega) ?_
        refine (leti (y := ((q + 1 : Nat) : Int)) (wrap_i64 (by omega) (by omega)) ⟨m2 - 1, by omega, q + 1, by omega, rfl, ?_, rfl⟩)
        rw [take_snoc hx, cnt_append]
        simp only [cnt, c, if_false]
        omega
    · rw [List.take_of_length_le (show L.length ≤ q by omega)]
      have hp1 := hpre (j + 1)
      have e := step j
      refine leti (y := (pre (fun r => cnt r L) (j + 1) : Int)) (by rw [wrap_i64 (by omega) (by omega)]; omega) ?_
      have hit : (0 < cnt j L ∧ mny L * pt ≤ pre (fun r => cnt r L) (j + 1) * 1000) ↔ Hit (fun r => cnt r L) (mny L) pt j := Iff.rfl
      rw [show (mny L : Int) * (pt : Int) = ((mny L * pt : Nat) : Int) by push_cast; rfl]
      generalize hgmp : mny L * pt = mp at hmp hit ⊢
      generalize hgp : pre (fun r => cnt r L) (j + 1) = P at hp1 e hit ⊢
      have next : ¬ (0 < cnt j L ∧ mp ≤ P * 1000) → ∀ s, s < j + 1 → ¬ Hit (fun r => cnt r L) (mny L) pt s := by
        intro hn s hs
        rcases Nat.lt_or_ge s j with c | c
        · exact hno s c
        · rw [show s = j by omega]; exact fun hh => hn (hit.2 hh)
      have w1000 : IntKind.i64.wrap ((P : Int) * 1000) = ((P * 1000 : Nat) : Int) := by rw [wrap_i64 (by omega) (by omega)]; rfl
      rw [w1000, wrap_i64 (n := (mp : Int)) (by omega) (by omega)]
      refine ifd (fun h1 => ifd (fun h2 => ?_) fun h2 => ?_) fun h1 => ?_
      · refine rLeast_ok (d := j) (by unfold minN maxN; rw [if_neg (show ¬ (0 : Int) > (j : Int) by omega), if_neg (by omega)]) ⟨_, rfl, leti rfl ?_⟩
        have hj2 : j < 120 := by omega
        have hh3 : Hit (fun r => cnt r L) (mny L) pt j := hit.1 (hit2 h1 h2)
        exact hk w9 (hL j) k4 (Or.inl (Exists.intro j ⟨hj2, hh3, hno, Eq.refl _⟩))
      · exact leti (y := ((j + 1 : Nat) : Int)) (wrap_i64 (by omega) (by omega)) ⟨k - 1, by omega, j + 1, by omega, rfl, by rw [hgp], next (by omega), rfl⟩
      · exact leti (y := ((j + 1 : Nat) : Int)) (wrap_i64 (by omega) (by omega)) ⟨k - 1, by omega, j + 1, by omega, rfl, by rw [hgp], next (by omega), rfl⟩

theorem same_ok {w : World} {p : Nat} {A : Option Addr} {L : List P2} {c : Nat} {part : Int} (h : HistOf w p L) (hl : Ps w A L) (hln : L.length ≤ 80) {Q : Value → World → Prop} (hk : ∀ w', Kp [] w w' → Q (.bool true) w') :
    CALL PG 38 [.pointer (some ⟨p, 0, none⟩), .slice A L.length c, .int .i64 part] w Q := by
  refine call38 ?_
  unfold N38
  have b1 := mny_le L
  have b2 := smm_le L
  obtain ⟨pt, hpt⟩ := cl_ex part (t := 1000) (by decide)
  refine rMany_ok hl hln fun w1 k1 => ⟨_, _, rfl, leti rfl (leti rfl ?_)⟩
  refine ⟨fun me w2 => me = ((smm L / mny L : Nat) : Int) ∧ w2 = w1, ?_, ?_⟩
  · refine ifd (fun h0 => ⟨by omega, leti (y := ((smm L / mny L : Nat) : Int)) ?_ ⟨rfl, rfl⟩⟩) fun h0 => ⟨?_, rfl⟩
    · have hd : smm L / mny L ≤ smm L := Nat.div_le_self _ _
      have e : Int.tdiv (smm L : Int) (mny L : Int) = ((smm L / mny L : Nat) : Int) := by rw [Int.tdiv_eq_ediv_of_nonneg (by omega)]; rfl
      rw [e]
      generalize smm L / mny L = y at hd ⊢
      exact wrap_i64 (by omega) (by omega)
    · rw [show mny L = 0 by omega]; simp
  rintro _ w2 ⟨rfl, rfl⟩
  have h2 : HistOf w2 p L := HistAt.kp h k1 (by simp)
  have hl2 : Ps w2 A L := Row.keep hl k1
  refine ⟨fun m i w3 => ∃ j : Nat, j + m = L.length ∧ i = (j : Int) ∧ w3 = w2, ⟨L.length, 0, by omega, rfl, rfl⟩, ?_⟩
  rintro m _ w3 ⟨j, hm, rfl, rfl⟩
  refine ifd (fun hlt => ?_) fun hge => ?_
  · obtain ⟨x, hx⟩ := get_ex (L := L) (j := j) (by omega)
    obtain ⟨a, ea, l0, l1⟩ := hl2.get hx
    refine ⟨⟨by omega, by omega⟩, a, ea, RD.of (l0 w3 (Kp.refl _)) ⟨_, rfl, rRow_ok' ⟨_, rfl, leti rfl ?_⟩⟩⟩
    refine count_ok h2 (hR_is x.1).1 ⟨_, rfl, rCount_ok hl2 hln ⟨_, rfl, iff_ (by simp) ?_⟩⟩
    exact leti (y := ((j + 1 : Nat) : Int)) (wrap_i64 (by omega) (by omega)) ⟨m - 1, by omega, j + 1, by omega, rfl, rfl⟩
  · refine many_ok h2 ⟨_, rfl, ift (by simp) ?_⟩
    refine mean_ok h2 (by omega) fun w4 k4 h4 => ⟨_, rfl, ift (by simp) ?_⟩
    have hl4 : Ps w4 A L := Row.keep hl2 k4
    refine below_ok h4 (pre_cnt L) (by omega) hpt fun v hv => ⟨_, rfl, ?_⟩
    refine rBelow_ok hl4 hln hpt fun w5 v' k5 hv' => ⟨_, rfl, ?_⟩
    have e := hv'.uniq hv
    subst e
    refine ift (by simp) (count_out (.inl (by decide)) ⟨_, rfl, ift rfl (count_out (.inr (by decide)) ⟨_, rfl, letb rfl (hk w5 ((k1.then k4).then k5))⟩)⟩)

theorem HistOf.nil {w : World} {p : Nat} (h : HistAt w p (fun _ => 0) 0 0) : HistOf w p [] := h
theorem HistOf.add {w : World} {p r : Nat} {L : List P2} {x : P2} (hr : IsRow (cl x.1) r) (h : HistAt w p (fun y => if y = r then cnt r L + of x.2 else cnt y L) (mny L + of x.2) (smm L + of x.2 * cl x.1)) : HistOf w p (L ++ [x]) := by
  have e := hr.uniq (hR_is x.1)
  subst e
  unfold HistOf
  have e1 : (fun r => cnt r (L ++ [x])) = fun y => if y = hR x.1 then cnt (hR x.1) L + of x.2 else cnt y L := by
    funext y
    rw [cnt_append]
    simp only [cnt, Nat.add_zero]
    by_cases c : y = hR x.1
    · rw [if_pos c, c, if_pos rfl]
    · rw [if_neg c, if_neg (fun e => c e.symm), Nat.add_zero]
  rw [e1, mny_append, smm_append]
  simpa only [mny, smm, Nat.add_zero] using h
theorem HistOf.both {w : World} {p : Nat} {L M : List P2} (h : HistAt w p (fun r => cnt r L + cnt r M) (mny L + mny M) (smm L + smm M)) : HistOf w p (L ++ M) := by
  unfold HistOf
  have e1 : (fun r => cnt r (L ++ M)) = fun r => cnt r L + cnt r M := by funext y; exact cnt_append _ _ _
  rw [e1, mny_append, smm_append]; exact h

theorem plays_ok {w : World} {A B : Option Addr} {L M : List P2} {lc mc : Nat} {part : Int} (hl : Ps w A L) (hm : Ps w B M) {Q : Value → World → Prop} (hk : ∀ w', Kp [] w w' → Q (.bool true) w') :
    CALL PG 7 [.slice A L.length lc, .slice B M.length mc, .int .i64 part] w Q := by
  refine call7 ?_
  unfold N7
  refine ifd (fun _ => hk w (Kp.refl w)) fun h1 => ifd (fun _ => hk w (Kp.refl w)) fun h2 => ?_
  have hL : L.length ≤ 40 := by omega
  have hM : M.length ≤ 40 := by omega
  clear h1 h2
  refine RD.of (buildH w) ⟨_, rfl, RD.of (buildH w) ⟨_, rfl, ?_⟩⟩
  refine allocH fun w1 k1 s1 h1 => ⟨_, rfl, ?_⟩
  refine allocH fun w2 k2 s2 h2 => ⟨_, rfl, ?_⟩
  have hne : w.heap.size ≠ w1.heap.size := by omega
  refine storeH (h1.kp k2 (by simp)) fun w3 k3 s3 h3 => ?_
  refine storeH (h2.kp k3 (by simp; omega)) fun w4 k4 s4 h4 => ?_
  have h34 := h3.kp k4 (by simp; omega)
  have K4 : Kp [] w w4 := ((k1.then k2).new k3 (by simp)).new k4 (by simp; omega)
  clear k2 k3 k4 h1 h2 h3 s2 s3 s4
  generalize w1.heap.size = b at *
  generalize ha : w.heap.size = a at *
  have hb : a ≤ b := by omega
  have bl := mny_le L; have bl2 := smm_le L; have bm := mny_le M; have bm2 := smm_le M
  refine ⟨fun m i w5 => ∃ j : Nat, j + m = L.length ∧ i = (j : Int) ∧ HistOf w5 a (L.take j) ∧ HistOf w5 b [] ∧ Kp [] w w5, ⟨L.length, 0, by omega, rfl, h34, h4, K4⟩, ?_⟩
  rintro m _ w5 ⟨j, hj, rfl, ha5, hb5, k5⟩
  refine ifd (fun hlt => ?_) fun hge => ?_
  · obtain ⟨x, hx⟩ := get_ex (L := L) (j := j) (by omega)
    obtain ⟨ad, ea, l0, l1⟩ := hl.get hx
    have kd := k5.then (Kp.drew w5)
    have b1 := mny_le (L.take j); have b2 := smm_le (L.take j)
    have b3 : (L.take j).length ≤ 40 := by rw [List.length_take]; omega
    refine ⟨⟨by omega, by omega⟩, ad, ea, RD.of (l0 _ kd) ⟨_, rfl, ⟨by omega, by omega⟩, ad, ea, RD.of (l1 _ kd) ⟨_, rfl, ?_⟩⟩⟩
    refine add_ok ha5.drew (of_is x.2) (cl_is x.1) (by omega) (by omega) fun w6 r hr k6 s6 h6 => ⟨rfl, ?_⟩
    refine leti (y := ((j + 1 : Nat) : Int)) (wrap_i64 (by omega) (by omega)) ⟨m - 1, by omega, j + 1, by omega, rfl, ?_, hb5.drew.kp k6 (by simp; omega), kd.new k6 (by simp; omega)⟩
    rw [take_snoc hx]; exact HistOf.add hr h6
  have eL : L.take j = L := List.take_of_length_le (by omega)
  rw [eL] at ha5
  clear hj hge eL
  refine ⟨fun m i w7 => ∃ j : Nat, j + m = M.length ∧ i = (j : Int) ∧ HistOf w7 b (M.take j) ∧ HistOf w7 a L ∧ Kp [] w w7, ⟨M.length, 0, by omega, rfl, hb5, ha5, k5⟩, ?_⟩
  rintro m _ w7 ⟨j, hj, rfl, hb7, ha7, k7⟩
  refine ifd (fun hlt => ?_) fun hge => ?_
  · obtain ⟨x, hx⟩ := get_ex (L := M) (j := j) (by omega)
    obtain ⟨ad, ea, l0, l1⟩ := hm.get hx
    have kd := k7.then (Kp.drew w7)
    have b1 := mny_le (M.take j); have b2 := smm_le (M.take j)
    have b3 : (M.take j).length ≤ 40 := by rw [List.length_take]; omega
    refine ⟨⟨by omega, by omega⟩, ad, ea, RD.of (l0 _ kd) ⟨_, rfl, ⟨by omega, by omega⟩, ad, ea, RD.of (l1 _ kd) ⟨_, rfl, ?_⟩⟩⟩
    refine add_ok hb7.drew (of_is x.2) (cl_is x.1) (by omega) (by omega) fun w6 r hr k6 s6 h6 => ⟨rfl, ?_⟩
    refine leti (y := ((j + 1 : Nat) : Int)) (wrap_i64 (by omega) (by omega)) ⟨m - 1, by omega, j + 1, by omega, rfl, ?_, ha7.drew.kp k6 (by simp; omega), kd.new k6 (by simp; omega)⟩
    rw [take_snoc hx]; exact HistOf.add hr h6
  have eM : M.take j = M := List.take_of_length_le (by omega)
  rw [eM] at hb7
  clear hj hge eM
  refine same_ok ha7 (Row.keep hl k7) (by omega) fun w9 k9 => ⟨_, rfl, iff_ rfl ?_⟩
  have K9 := k7.then k9
  have hb9 := hb7.kp k9 (by simp)
  have ha9 := ha7.kp k9 (by simp)
  refine same_ok hb9 (Row.keep hm K9) (by omega) fun w10 k10 => ⟨_, rfl, iff_ rfl ?_⟩
  have K10 := K9.then k10
  have hb10 := hb9.kp k10 (by simp)
  have ha10 := ha9.kp k10 (by simp)
  refine join_ok ha10 hb10 (by omega) (by omega) (by omega) (by omega) (by omega) fun w11 k11 s11 h11 => ⟨rfl, ?_⟩
  have h11 := HistOf.both h11
  have hb11 := hb10.kp k11 (by simp; omega)
  have K11 : Kp [] w w11 := K10.new k11 (by simp; omega)
  refine join_nil ⟨rfl, ?_⟩
  refine RUN.of (lit0 _) ⟨_, _, _, rfl, ?_⟩
  have ka := alloc_kp w11 (.cells #[] 59)
  have ho : Own (w11.alloc (.cells #[] 59)) 59 2 (some ⟨w11.heap.size, 0, none⟩) 0 0 [] := Own.made (c := 0) (Blk.new w11 #[] 59) rfl
  have flp : ∀ L : List P2, Flat (L.flatMap pr) := by
    intro L v hv
    simp only [List.mem_flatMap, pr] at hv
    obtain ⟨x, _, hx⟩ := hv
    simp at hx
    rcases hx with rfl | rfl <;> rfl
  have sz := K11.size
  have ltb : b < w11.heap.size := hb11.hp.lt
  have lta : a < w11.heap.size := h11.hp.lt
  refine append1 huIs tiI rfl (by decide) (by decide) ho (Row.keep (Row.keep hl K11) ka) (flat_length pr_length L) (flp L) (by omega) fun A2 c2 w12 k12 ho12 hA2 => ⟨_, _, _, rfl, ?_⟩
  have K12 : Kp [] w11 w12 := ka.new k12 (by simp [fpA])
  have fp2 : ∀ x ∈ fpA A2, w11.heap.size ≤ x := by
    rcases hA2 with rfl | ⟨a', rfl, ha'⟩
    · simp [fpA]
    · have := ka.size; simp only [fpA, List.mem_singleton]; intro x hx; subst hx; omega
  refine append1 huIs tiI rfl (by decide) (by decide) ho12 (Row.keep (Row.keep hm K11) K12) (flat_length pr_length M) (flp M) (by omega) fun A3 c3 w13 k13 ho13 hA3 => ⟨_, _, _, rfl, ?_⟩
  have K13 : Kp [] w11 w13 := K12.new k13 fp2
  have hrow : Ps w13 A3 (L ++ M) := by
    have := ho13.row
    rw [List.nil_append] at this
    unfold Ps
    rw [List.flatMap_append]
    exact this
  have e : 0 + L.length + M.length = (L ++ M).length := by rw [List.length_append]; omega
  rw [e]
  refine same_ok (h11.kp K13 (by simp)) hrow (by rw [List.length_append]; omega) fun w14 k14 => ⟨_, rfl, ift rfl ?_⟩
  have K14 := K13.then k14
  refine same_ok (hb11.kp K14 (by simp)) (Row.keep (Row.keep hm K11) K14) (by omega) fun w15 k15 => ⟨_, rfl, ift rfl ?_⟩
  exact alive_ok fun w16 k16 => ⟨_, rfl, letb rfl (hk w16 (((K11.then K14).then k15).then k16))⟩
end Go.Br
