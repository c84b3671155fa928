/- The law of the heap's plays, walked. -/
import Derived.Test.YtegocoicdcpgaaaNHeapPlay2
import Derived.Test.YtegocoicdcpgaaaHeapPlay
set_option linter.unusedVariables false
namespace Go.Br
open Go

theorem nd_inj : ∀ {L : List It}, (L.map (·.seq)).Nodup → ∀ {a b : It}, a ∈ L → b ∈ L → a.seq = b.seq → a = b
  | [], _, a, b, ha, _, _ => by simp at ha
  | x :: L, h, a, b, ha, hb, e => by
    simp only [List.map_cons, List.nodup_cons] at h
    rcases List.mem_cons.1 ha with ea | ha'
    · rcases List.mem_cons.1 hb with eb | hb'
      · rw [ea, eb]
      · exact absurd (show x.seq ∈ L.map (·.seq) by rw [← ea, e]; exact List.mem_map_of_mem hb') h.1
    · rcases List.mem_cons.1 hb with eb | hb'
      · exact absurd (show x.seq ∈ L.map (·.seq) by rw [← eb, ← e]; exact List.mem_map_of_mem ha') h.1
      · exact nd_inj h.2 ha' hb' e
theorem le_anti {a b : It} (h : le a b) (k : le b a) : a.seq = b.seq := by unfold le at *; omega
theorem sort_uniq {R R' : List It} (h : R.Pairwise le) (h' : R'.Pairwise le) (p : R.Perm R') (nd : (R.map (·.seq)).Nodup) : R = R' :=
  List.Perm.eq_of_pairwise (le := le) (fun a b ha hb h1 h2 => nd_inj nd ha (p.mem_iff.2 hb) (le_anti h1 h2)) h h' p
theorem sort_head {R L : List It} {m : It} (h : R.Pairwise le) (nd : (R.map (·.seq)).Nodup) (p : R.Perm L) (hh : Hp L) (hm : L[0]? = some m) : ∃ R', R = m :: R' := by
  have hmR : m ∈ R := p.mem_iff.2 (List.mem_of_getElem? hm)
  cases R with
  | nil => simp at hmR
  | cons r R' =>
    have h1 := hh.min' hm r (p.mem_iff.1 (by simp))
    have h2 : le r m := by
      rcases List.mem_cons.1 hmR with rfl | hmR
      · exact le_refl _
      · exact (List.pairwise_cons.1 h).1 m hmR
    exact ⟨R', by rw [nd_inj nd (by simp) hmR (le_anti h2 h1)]⟩
theorem Ins.perm {R R' : List It} {x : It} (h : Ins R x R') : R'.Perm (R ++ [x]) := by
  obtain ⟨pre, post, rfl, rfl, _, _⟩ := h
  rw [List.append_assoc]
  exact List.Perm.append_left pre (List.perm_append_singleton x post).symm
theorem Ins.sorted {R R' : List It} {x : It} (h : Ins R x R') (hs : R.Pairwise le) (hq : ∀ y ∈ R, y.seq < x.seq) : R'.Pairwise le := by
  obtain ⟨pre, post, rfl, rfl, h1, h2⟩ := h
  rw [List.pairwise_append] at hs ⊢
  obtain ⟨s1, s2, s3⟩ := hs
  refine ⟨s1, ?_, ?_⟩
  · rw [List.pairwise_cons]
    exact ⟨fun b hb => .inl (h1 b hb), s2⟩
  · intro a ha b hb
    rcases List.mem_cons.1 hb with rfl | hb
    · have hqa := hq a (by simp [ha])
      rcases List.eq_nil_or_concat pre with rfl | ⟨q, y, rfl⟩
      · simp at ha
      rw [List.concat_eq_append] at *
      have hy := h2 q y rfl
      rw [List.pairwise_append] at s1
      have hay : a.time ≤ y.time := by
        simp only [List.mem_append, List.mem_singleton] at ha
        rcases ha with ha | rfl
        · have := s1.2.2 a ha y (by simp); unfold le at this; omega
        · exact Int.le_refl _
      unfold le; omega
    · exact s3 a ha b hb

structure Op3 where
  kind : Int
  time : Int
  what : Int
def o3 (x : Op3) : List Value := [.int .i64 x.kind, .int .i64 x.time, .int .i64 x.what]
theorem o3_length (x : Op3) : (o3 x).length = 3 := rfl
abbrev o3v (x : Op3) : Value := .agg #[.int .i64 x.kind, .int .i64 x.time, .int .i64 x.what]
theorem tiO : TI PG 107 3 24 (o3v ⟨0, 0, 0⟩) := tiOf (by kernel_rfl)
theorem ldO {w : World} {a : Addr} {c : Op3} (h : ∀ j v, (o3 c)[j]? = some v → w.cell? (a.add j) = some v) : (loadVar 107 a).run PG w = .ok (o3v c) w := ldAt (cs := o3 c) (by kernel_rfl) (by kernel_rfl) h
theorem o3_flat1 (x : Op3) : Flat (o3 x) := by intro v hv; simp [o3] at hv; rcases hv with rfl | rfl | rfl <;> rfl

/-- What holds between two calls. -/
def Both (w0 : World) (p : Nat) (mo : Int) (j : Nat) (r : Option Addr) (rN rC : Nat) (w : World) : Prop :=
  ∃ (A : Option Addr) (cc : Nat) (L R : List It) (sq : Int), HQ w p A cc L mo sq ∧ Hp L ∧ 0 ≤ sq ∧ sq ≤ j ∧ L.length ≤ j ∧ R.Perm L ∧ R.Pairwise le ∧ (R.map (·.seq)).Nodup ∧ (∀ x ∈ R, x.seq ≤ sq) ∧
    Row w r (R.flatMap jt) ∧ rN = R.length ∧ rN ≤ rC ∧ (∀ a, r = some a → R ≠ [] → a.block ≠ p ∧ a.block ∉ fpA A) ∧ (∀ b ∈ fpA A, w0.heap.size ≤ b) ∧ Kp [] w0 w

theorem hmo_is (most : Int) : (most < 0 → hmo most = 0) ∧ (65536 < most → hmo most = 65536) ∧ (0 ≤ most → most ≤ 65536 → hmo most = most) := by
  unfold hmo minN maxN
  refine ⟨fun h => ?_, fun h => ?_, fun h1 h2 => ?_⟩
  · rw [if_pos (show (0 : Int) > most from h)]; rfl
  · rw [if_neg (show ¬ (0 : Int) > most by omega), if_pos (by omega)]
  · rw [if_neg (show ¬ (0 : Int) > most by omega), if_neg (by omega)]
theorem nd_filter {R : List It} (nd : (R.map (·.seq)).Nodup) (g : It → Bool) : ((R.filter g).map (·.seq)).Nodup := List.Nodup.sublist (List.Sublist.map _ List.filter_sublist) nd
theorem due_same {T L' L R : List It} {now : Int} (p : (T ++ L').Perm L) (q : R.Perm L) (hT : T.Pairwise le) (hR : R.Pairwise le) (nd : (R.map (·.seq)).Nodup) (h1 : ∀ x ∈ T, x.time ≤ now) (h2 : ∀ x ∈ L', now < x.time) :
    (R.filter fun x => decide (x.time ≤ now)) = T ∧ (R.filter fun x => !decide (x.time ≤ now)).Perm L' := by
  have pq := q.trans p.symm
  have f1 : (T ++ L').filter (fun x => decide (x.time ≤ now)) = T := by
    rw [List.filter_append, List.filter_eq_self.2 (fun x hx => by simpa using h1 x hx), List.filter_eq_nil_iff.2 (fun x hx => by have := h2 x hx; simp; omega), List.append_nil]
  have f2 : (T ++ L').filter (fun x => !decide (x.time ≤ now)) = L' := by
    rw [List.filter_append, List.filter_eq_nil_iff.2 (fun x hx => by have := h1 x hx; simp; omega), List.filter_eq_self.2 (fun x hx => by have := h2 x hx; simp; omega), List.nil_append]
  have p1 := pq.filter (fun x => decide (x.time ≤ now))
  have p2 := pq.filter (fun x => !decide (x.time ≤ now))
  rw [f1] at p1
  rw [f2] at p2
  exact ⟨sort_uniq (hR.filter _) hT p1 (nd_filter nd _), p2⟩

theorem hplays_ok {w : World} {l : Option Addr} {xs : List Op3} {lc : Nat} {most : Int} (hs : Row w l (xs.flatMap o3)) {Q : Value → World → Prop} (hk : ∀ w', Kp [] w w' → Q (.bool true) w') :
    CALL PG 12 [.int .i64 most, .slice l xs.length lc] w Q := by
  refine call12 ?_
  unfold N12
  refine ifd (fun _ => hk w (Kp.refl w)) fun h150 => ?_
  refine hq_new fun w1 k1 s1 h1 => ⟨_, rfl, iff_ rfl (leti rfl ?_)⟩
  obtain ⟨mo, hmo⟩ : ∃ mo, mo = hmo most := ⟨_, rfl⟩
  have hm := hmo_is most
  have hmr := hmo_ok most
  rw [← hmo] at hm hmr h1
  clear hmo
  refine ⟨fun m1 w2 => ((most < 0 ∧ m1 = 0) ∨ (¬ most < 0 ∧ m1 = most)) ∧ w2 = w1, ifd (fun h => ⟨.inl ⟨h, rfl⟩, rfl⟩) (fun h => ⟨.inr ⟨h, rfl⟩, rfl⟩), ?_⟩
  rintro m1 w2 ⟨hm1, rfl⟩
  refine ⟨fun m2 w3 => m2 = mo ∧ w3 = w2, ifd (fun h => ⟨by omega, rfl⟩) (fun h => ⟨by omega, rfl⟩), ?_⟩
  rintro m2 w3 ⟨rfl, rfl⟩
  generalize hp0 : w.heap.size = p at *
  have start : Hp [] := fun k x y _ hx _ => by simp at hx
  refine ⟨fun m r rN rC i w4 => ∃ j : Nat, j + m = xs.length ∧ i = (j : Int) ∧ Both w p m2 j r rN rC w4, ⟨xs.length, 0, by omega, rfl, none, 0, [], [], 0, h1, start, by decide, by decide, by simp, .refl _, .nil, by simp, by simp, Row.nil _ _, rfl, by simp, by simp, by simp [fpA], k1⟩, ?_⟩
  rintro m r rN rC _ w4 ⟨j, hj, rfl, hB⟩
  refine ifd (fun hlt => ?_) fun hge => ?_
  rotate_left
  · obtain ⟨A, cc, L, R, sq, _, _, _, _, _, _, _, _, _, _, _, _, _, _, k4⟩ := hB
    exact hq_alive fun w' k => ⟨_, rfl, letb rfl (hk w' (k4.then k))⟩
  obtain ⟨A, cc, L, R, sq, hq, hh, sq0, sqj, hLj, hRL, hRs, hnd, hsq, hrow, rfl, hrc, hsep, hA, k4⟩ := hB
  have hRl := hRL.length_eq
  obtain ⟨x, hx⟩ := ex_get (L := xs) (j := j) (by omega)
  obtain ⟨a, ea, hc⟩ := row_get o3_length (by decide) hs hx
  refine ⟨⟨by omega, by omega⟩, a, ea, RD.of (ldO fun f v hf => cell_old k4 (hc f v hf)) ⟨_, _, _, rfl, ?_⟩⟩
  refine tmp1 (v := o3v x) tiO rfl rfl (o3_flat1 x) fun w6 k6 s6 hb6 => ?_
  have hb6 : Blk w6 w4.heap.size 107 (o3 x) := hb6
  have hq6 := hq.keep k6
  have hrow6 := hrow.keep k6
  have K6 := k4.then k6
  have sz6 := K6.size
  have plt := hq.lt
  refine ⟨fun r rN rC w17 => Both w p m2 (j + 1) r rN rC w17, ?_, ?_⟩
  · refine RD.of (ld 0 hb6 rfl (by kernel_rfl)) ⟨_, rfl, ⟨by decide, ⟨by decide, ?_⟩⟩⟩
    refine ⟨fun b w7 => w7 = w6, letb rfl ⟨fun _ => rfl, fun _ => letb rfl rfl⟩, ?_⟩
    rintro b w7 rfl
    refine ⟨fun _ => ?_, fun _ => letb rfl ⟨fun _ => ?_, fun _ => ?_⟩⟩
    · -- what is first is taken
      refine hq_take hq6 hh (fun hL w8 k8 => ⟨_, _, _, _, rfl, ?_⟩) fun mm hmm w8 N k8 hq8 hp8 hh8 => ⟨_, _, _, _, rfl, ?_⟩
      · subst hL
        have hR0 : R = [] := List.eq_nil_of_length_eq_zero (by simpa using hRl)
        subst hR0
        refine tmpIt it0 fun w10 k10 s10 hb10 => letb rfl (iff_ rfl (iff_ rfl (ift rfl ?_)))
        refine RD.of (ld 0 hb10.drew rfl (by kernel_rfl)) ⟨_, rfl, iff_ rfl (RD.of (ld 1 hb10.drew rfl (by kernel_rfl)) ⟨_, rfl, iff_ rfl (iff_ rfl ?_)⟩)⟩
        have kk := (k8.then k10).then (Kp.drew w10)
        exact ⟨A, cc, [], [], sq, hq6.keep kk, hh, sq0, by omega, by simp, hRL, hRs, hnd, hsq, hrow6.keep kk, rfl, hrc, by simp, hA, K6.then kk⟩
      · obtain ⟨R', rfl⟩ := sort_head hRs hnd hRL hh hmm
        refine tmpIt mm fun w10 k10 s10 hb10 => letb rfl (iff_ (by simp) (ift rfl ?_))
        have lenN := hp8.length_eq
        simp only [List.length_cons] at lenN hrc
        have hrow8 : Row w8 r ((mm :: R').flatMap jt) := hrow6.kp k8 (fun a ha _ hc => by
          have := hsep a ha (by simp)
          simp only [List.mem_cons] at hc
          rcases hc with hc | hc
          · exact this.1 hc
          · exact this.2 hc)
        have kd := k10.then (Kp.drew w10)
        have hrowd := hrow8.keep kd
        obtain ⟨b, eb, hcr⟩ := row_get jt_length (by decide) hrowd (i := 0) (x := mm) rfl
        have bd : (0 : Int) ≤ 0 ∧ (0 : Int) < (((mm :: R').length : Nat) : Int) := by simp
        refine RD.of (ld 0 hb10.drew rfl (by kernel_rfl)) ⟨_, rfl, bd, b, eb, RD.of (ldc (hcr 0 _ rfl) (by kernel_rfl)) ⟨_, rfl, iff_ (by simp) ?_⟩⟩
        refine RD.of (ld 1 hb10.drew rfl (by kernel_rfl)) ⟨_, rfl, bd, b, eb, RD.of (ldc (hcr 1 _ rfl) (by kernel_rfl)) ⟨_, rfl, iff_ (by simp) (iff_ rfl (ift rfl ?_))⟩⟩
        refine ⟨⟨by decide, by simp; omega, by simp; omega⟩, ?_⟩
        have e1 : Int.toNat (((mm :: R').length : Nat) : Int) - Int.toNat (1 : Int) = R'.length := by simp
        rw [e1]
        have hpR : R'.Perm N := List.Perm.cons_inv (hRL.trans hp8.symm)
        have K8 : Kp [] w w8 := K6.new k8 (by rw [hp0]; exact consA (Nat.le_refl _) (by rw [← hp0]; exact hA))
        refine ⟨A, cc, N, R', sq, hq8.keep kd, hh8, sq0, by omega, by omega, hpR, (List.pairwise_cons.1 hRs).2, by simp only [List.map_cons, List.nodup_cons] at hnd; exact hnd.2, fun y hy => hsq y (List.mem_cons_of_mem _ hy), ?_, rfl, by simp; omega, ?_, hA, K8.then kd⟩
        · have := cutA_row (z := 2) (l := 1) hrowd (c := rC) (by rw [flat_length jt_length, List.length_cons]; omega)
          exact this
        · intro a ha _
          obtain ⟨b', hb', e⟩ := cutA_block ha
          rw [e]; exact hsep b' hb' (by simp)
    · -- what is due
      refine RD.of (ld 1 hb6 rfl (by kernel_rfl)) ⟨_, rfl, ?_⟩
      refine rDue_ok hrow6 (by omega) fun G gc O oc w11 k11 hG fG hO fO => ⟨_, _, _, _, _, _, rfl, ?_⟩
      refine RD.of (ld 1 (hb6.kp k11 (by simp)) rfl (by kernel_rfl)) ⟨_, rfl, ?_⟩
      have hq11 := hq6.keep k11
      refine due_ok hq11 hh fun T L' V vc w12 k12 hq12 hh12 hpT hTs hT1 hT2 hV fV => ⟨_, _, _, rfl, ?_⟩
      obtain ⟨eT, pL⟩ := due_same hpT hRL hTs hRs hnd hT1 hT2
      have sz7 := hq6.lt
      have offG : ∀ b ∈ fpA G, b ∉ p :: fpA A := by
        intro b hb hc
        have := fG b hb
        simp only [List.mem_cons] at hc
        rcases hc with hc | hc
        · omega
        · have := sz7.2 b hc; omega
      have offO : ∀ b ∈ fpA O, b ∉ p :: fpA A := by
        intro b hb hc
        have := fO b hb
        simp only [List.mem_cons] at hc
        rcases hc with hc | hc
        · omega
        · have := sz7.2 b hc; omega
      have hG12 := hG.kp k12 offG
      have hO12 := hO.kp k12 offO
      rw [eT] at hO12
      have lT := hpT.length_eq
      rw [List.length_append] at lT
      have rs := fun (Q' : Value → World → Prop) hk' => rows_same (w := w12) (A := V) (B := O) (xs := T.map (fun x => x.what)) (ac := vc) (bc := oc) (show Ints w12 V (T.map (fun x => x.what)) from hV.row) (show Ints w12 O (T.map (fun x => x.what)) from hO12.row) (by rw [List.length_map]; omega) (Q := Q') hk'
      rw [List.length_map] at rs
      rw [eT]
      refine rs _ fun w13 k13 => ⟨_, rfl, iff_ rfl ?_⟩
      have K12 : Kp [] w w12 := (K6.then k11).new k12 (by rw [hp0]; exact consA (Nat.le_refl _) (by rw [← hp0]; exact hA))
      refine ⟨A, cc, L', _, sq, hq12.keep k13, hh12, sq0, by omega, by omega, pL, hRs.filter _, nd_filter hnd _, fun y hy => hsq y (List.mem_filter.1 hy).1, (hG12.kp k13 (by simp)).row, rfl, hG12.le, ?_, hA, K12.then k13⟩
      intro a ha _
      have := offG a.block (by rw [ha]; simp [fpA])
      simp only [List.mem_cons, not_or] at this
      exact this
    · -- one more
      refine letb rfl ?_
      by_cases hroom : (R.length : Int) < m2
      · refine ift (by simpa using hroom) (RD.of (ld 1 hb6 rfl (by kernel_rfl)) ⟨_, rfl, RD.of (ld 2 hb6 rfl (by kernel_rfl)) ⟨_, rfl, ?_⟩⟩)
        have eb : (Instr.build 113 #[(0, .int .i64 x.time), (1, .int .i64 x.what)]).run PG w7 = .ok (jtv ⟨x.time, x.what, sq + 1⟩) w7 := by kernel_rfl
        refine RD.of eb ⟨_, _, rfl, ?_⟩
        refine rPut_ok hrow6 (by omega) ⟨x.time, x.what, sq + 1⟩ fun O oc R' w14 k14 hO fO hI => ⟨_, _, _, rfl, ?_⟩
        have hb14 := hb6.kp k14 (by simp)
        refine RD.of (ld 1 hb14 rfl (by kernel_rfl)) ⟨_, rfl, RD.of (ld 2 hb14 rfl (by kernel_rfl)) ⟨_, rfl, ?_⟩⟩
        have hq14 := hq6.keep k14
        have sz7 := hq6.lt
        have offO : ∀ b ∈ fpA O, b ∉ p :: fpA A := by
          intro b hb hc
          have := fO b hb
          simp only [List.mem_cons] at hc
          rcases hc with hc | hc
          · omega
          · have := sz7.2 b hc; omega
        refine hq_put hq14 hh (by omega) sq0 (by omega) (fun h => absurd h (by omega)) fun _ A' c' L' w15 k15 hq15 hp15 hh15 hA15 => ⟨_, rfl, iff_ (by simp [hroom]) ?_⟩
        have K14 := K6.then k14
        have K15 : Kp [] w w15 := K14.new k15 (by rw [hp0]; exact consA (Nat.le_refl _) (by rw [← hp0]; exact hA))
        have hO15 := hO.kp k15 offO
        have lO := hO.lt
        have pI := hI.perm
        have lR' : R'.length = R.length + 1 := by rw [pI.length_eq]; simp
        have qI : ∀ y ∈ R, y.seq < sq + 1 := fun y hy => by have := hsq y hy; omega
        refine ⟨A', c', L', R', sq + 1, hq15, hh15, by omega, by omega, by rw [hp15.length_eq]; simp; omega, (pI.trans (List.Perm.append_right _ hRL)).trans hp15.symm, hI.sorted hRs qI, ?_, ?_, hO15.row, lR'.symm, hO15.le, ?_, fresh_of hA hA15 K14.size, K15⟩
        · rw [(pI.map _).nodup_iff, List.map_append, List.nodup_append]
          refine ⟨hnd, by simp, fun a ha b hb => ?_⟩
          simp at ha hb
          obtain ⟨y, hy, rfl⟩ := ha
          have := qI y hy
          omega
        · intro y hy
          have := pI.mem_iff.1 hy
          simp only [List.mem_append, List.mem_singleton] at this
          rcases this with h | rfl
          · have := hsq y h; omega
          · exact Int.le_refl _
        · intro a ha _
          have hab : a.block ∈ fpA O := by rw [ha]; simp [fpA]
          have h1 := offO a.block hab
          simp only [List.mem_cons, not_or] at h1
          refine ⟨h1.1, fun hc => ?_⟩
          exact apart_of (S := fpA O) (fun b hb hc => by have := offO b hc; simp only [List.mem_cons, not_or] at this; exact this.2 hb) hA15 (fun b hb => lO b hb) a.block hc hab
      · refine iff_ (by simpa using hroom) (RD.of (ld 1 hb6 rfl (by kernel_rfl)) ⟨_, rfl, RD.of (ld 2 hb6 rfl (by kernel_rfl)) ⟨_, rfl, ?_⟩⟩)
        refine hq_put hq6 hh (by omega) sq0 (by omega) (fun _ w16 k16 => ⟨_, rfl, iff_ (by simp [hroom]) ?_⟩) fun h => absurd h (by omega)
        exact ⟨A, cc, L, R, sq, hq6.keep k16, hh, sq0, by omega, by omega, hRL, hRs, hnd, hsq, hrow6.keep k16, rfl, hrc, hsep, hA, K6.then k16⟩
  · rintro r1 rN1 rC1 w17 ⟨A, cc, L, R, sq, hq, hh, sq0, sqj, hLj, hRL, hRs, hnd, hsq, hrow, rfl, hrc, hsep, hA, k17⟩
    have hRl := hRL.length_eq
    have next : (IntKind.i64.wrap ((j : Int) + 1)) = ((j + 1 : Nat) : Int) := wrap_i64 (by omega) (by omega)
    refine hq_first hq fun w18 k18 => ⟨_, _, _, _, rfl, ?_⟩
    refine tmpIt (L.head?.getD it0) fun w20 k20 s20 hb20 => letb rfl ?_
    have k1820 := k18.then k20
    refine ⟨fun w' => Kp [] w20 w', Kp.drew w20, hq_len ((hq.keep k1820).keep (Kp.drew w20)) ⟨_, rfl, fun w' => Kp [] w20 w', fun _ h => h, Kp.drew w20, iff_ (by simp [hRl]) ?_⟩⟩
    have fin : ∀ w', Kp [] w20 w' → ∃ m5, m5 < m ∧ ∃ j' : Nat, j' + m5 = xs.length ∧ ((j + 1 : Nat) : Int) = (j' : Int) ∧ Both w p m2 j' r1 R.length rC1 w' := fun w' k => by
      have kk := k1820.then k
      exact ⟨m - 1, by omega, j + 1, by omega, rfl, A, cc, L, R, sq, hq.keep kk, hh, sq0, sqj, hLj, hRL, hRs, hnd, hsq, hrow.keep kk, rfl, hrc, hsep, hA, k17.then kk⟩
    cases L with
    | nil =>
      have hR0 : R = [] := List.eq_nil_of_length_eq_zero (by simpa using hRl)
      subst hR0
      exact iff_ rfl (iff_ rfl (leti next (fin _ (Kp.drew w20))))
    | cons mm L' =>
      obtain ⟨R', rfl⟩ := sort_head hRs hnd hRL hh (m := mm) rfl
      refine iff_ (by simp) (ift rfl ?_)
      obtain ⟨b, eb, hcr⟩ := row_get jt_length (by decide) (hrow.keep k1820) (i := 0) (x := mm) rfl
      have bd : (0 : Int) ≤ 0 ∧ (0 : Int) < (((mm :: R').length : Nat) : Int) := by simp
      refine ⟨_, fun w' k => ld 0 (hb20.kp k (by simp)) rfl (by kernel_rfl), _, rfl, bd, b, eb, ⟨_, fun w' k => ldc (cell_old k (hcr 0 _ rfl)) (by kernel_rfl), _, rfl, iff_ (by simp) ?_⟩⟩
      refine ⟨_, fun w' k => ld 1 (hb20.kp k (by simp)) rfl (by kernel_rfl), _, rfl, bd, b, eb, ⟨_, fun w' k => ldc (cell_old k (hcr 1 _ rfl)) (by kernel_rfl), _, rfl, iff_ (by simp) ?_⟩⟩
      exact leti next (fin _ (Kp.drew w20))
end Go.Br
