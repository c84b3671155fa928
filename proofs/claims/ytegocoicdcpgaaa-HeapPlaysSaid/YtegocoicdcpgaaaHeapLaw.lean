/- All that is due; the example; the law of sorting, walked. -/
import Derived.Test.YtegocoicdcpgaaaNHeapLaw
import Derived.Test.YtegocoicdcpgaaaHeap
set_option linter.unusedVariables false
namespace Go.Br
open Go

theorem tiI64 : TI PG 3 1 8 (.int .i64 0) := tiOf (by kernel_rfl)
theorem huI64 : PG.underlying 23 = some (.slice 3) := by kernel_rfl
theorem litI (a : Int) (w : World) : (Instr.buildSlice 23 1 #[(0, .int .i64 a)]).run PG w = .ok (.slice (some ⟨w.heap.size, 0, none⟩) 1 1) (w.alloc (.cells (iv a).toArray 3)) := by kernel_rfl
theorem iv_flat1 (a : Int) : Flat (iv a) := by intro v hv; simp [iv] at hv; subst hv; rfl
theorem appI {w : World} {A : Option Addr} {n c : Nat} {xs : List Int} (ho : Own w 3 1 A n c (xs.flatMap iv)) (hn : n ≤ 1000000) (x : Int) {K : Option Addr → Nat → Nat → World → Prop}
    (hk : ∀ A' c' w', Kp (fpA A) w w' → Own w' 3 1 A' (n + 1) c' ((xs ++ [x]).flatMap iv) → (A' = A ∨ ∃ a, A' = some a ∧ w.heap.size ≤ a.block) → K A' (n + 1) c' w') :
    RUN PG (Instr.buildSlice 23 1 #[(0, .int .i64 x)]) w fun v5 w3 => ∃ (y : Option Addr) (N C : Nat), v5 = .slice y N C ∧ RUN PG (Builtin.append_ #[23, 23] 23 #[.slice A n c, .slice y N C]) w3 fun v6 w4 => ∃ (y : Option Addr) (yN yC : Nat), v6 = .slice y yN yC ∧ K y yN yC w4 :=
  app1 huI64 tiI64 rfl (by decide) (by decide) ho (litI x) rfl (iv_flat1 x) (by omega) fun A' c' w' k h hA => hk A' c' w' k (by rw [List.flatMap_append, List.flatMap_cons, List.flatMap_nil, List.append_nil]; exact h) hA

theorem due_ok {w : World} {p : Nat} {A : Option Addr} {c : Nat} {L : List It} {mo sq : Int} (h : HQ w p A c L mo sq) (hh : Hp L) {now : Int} {Q : Value → World → Prop}
    (hk : ∀ T L' O oc w', Kp (p :: fpA A) w w' → HQ w' p A c L' mo sq → Hp L' → (T ++ L').Perm L → T.Pairwise le → (∀ x ∈ T, x.time ≤ now) → (∀ x ∈ L', now < x.time) →
      Own w' 3 1 O T.length oc ((T.map (·.what)).flatMap iv) → (∀ b ∈ fpA O, w.heap.size ≤ b) → Q (.slice O T.length oc) w') :
    CALL PG 67 [.pointer (some ⟨p, 0, none⟩), .int .i64 now] w Q := by
  refine call67 ?_
  unfold N67
  have hbig := h.big
  have lt0 := h.lt
  refine ⟨fun m O n oc w1 => ∃ T M : List It, m = M.length ∧ n = T.length ∧ HQ w1 p A c M mo sq ∧ Hp M ∧ (T ++ M).Perm L ∧ T.Pairwise le ∧ (∀ x ∈ T, x.time ≤ now) ∧ (∀ x ∈ T, ∀ y ∈ M, le x y) ∧ Own w1 3 1 O n oc ((T.map (·.what)).flatMap iv) ∧ (∀ b ∈ fpA O, w.heap.size ≤ b) ∧ Kp (p :: fpA A) w w1,
    ⟨L.length, [], L, rfl, rfl, h, hh, .refl _, .nil, by simp, by simp, Own.nil _ _ _, by simp [fpA], (Kp.refl w).mono (by simp)⟩, ?_⟩
  rintro m O n oc w1 ⟨T, M, rfl, rfl, h1, hp1, hperm, hpw, hT, hTM, ho, hfr, k1⟩
  have hlen := hperm.length_eq
  rw [List.length_append] at hlen
  refine hq_first h1 fun w2 k2 => ⟨_, _, _, _, rfl, ?_⟩
  refine tmpIt (M.head?.getD it0) fun w3 k3 s3 hb3 => letb rfl ?_
  have k23 := k2.then k3
  have h3 := h1.keep k23
  have ho3 := ho.kp k23 (by simp)
  have K3 : Kp (p :: fpA A) w w3 := k1.then (k23.mono (by simp))
  cases M with
  | nil => exact ift rfl (hk T [] O oc w3 K3 h3 hp1 hperm hpw hT (by simp) ho3 hfr)
  | cons x M' =>
    refine iff_ rfl (RD.of (ld 0 hb3 rfl (by kernel_rfl)) ⟨_, rfl, ifd (fun hgt => ?_) fun hle => ?_⟩)
    · refine hk T (x :: M') O oc w3 K3 h3 hp1 hperm hpw hT (fun y hy => ?_) ho3 hfr
      have hgt : x.time > now := hgt
      have := hp1.min' (m := x) rfl y hy
      unfold le at this; omega
    · have hle : x.time ≤ now := by have : ¬ x.time > now := hle; omega
      refine hq_take h3 hp1 (fun e => by cases e) fun m hm w4 N k4 h4 hperm4 hp4 => ⟨_, _, _, _, rfl, ?_⟩
      have hm : x = m := by simpa using hm
      subst hm
      have ls := K3.size
      have hb4 := hb3.kp k4 (by
        have := h3.lt
        have l2 : p < w2.heap.size := (h1.keep k2).lt.1
        have l3 := (h1.keep k2).lt.2
        intro hc; simp only [List.mem_cons] at hc
        rcases hc with hc | hc
        · omega
        · have := l3 _ hc; omega)
      have ho4 := ho3.kp k4 (by
        intro b hb hc
        have := hfr b hb
        simp only [List.mem_cons] at hc
        rcases hc with hc | hc
        · omega
        · have := lt0.2 _ hc; omega)
      refine RD.of (ld 1 hb4 rfl (by kernel_rfl)) ⟨_, rfl, ?_⟩
      have K4 := K3.then k4
      have sz4 := K4.size
      refine appI ho4 (by omega) x.what fun O' oc' w5 k5 ho5 hO => ⟨N.length, ?_, T ++ [x], N, rfl, by simp, h4.kp k5 ?_ ?_, hp4, ?_, ?_, ?_, ?_, ?_, fresh_of hfr hO sz4, kp_sub K4 k5 fun i hi => .inr (hfr i hi)⟩
      · have := hperm4.length_eq; simp at this; simp; omega
      · intro hc; have := hfr _ hc; omega
      · intro b hb hc; have := hfr _ hc; have := lt0.2 _ hb; omega
      · refine List.Perm.trans ?_ hperm
        rw [List.append_assoc]
        exact List.Perm.append_left T hperm4
      · rw [List.pairwise_append]
        exact ⟨hpw, List.pairwise_singleton _ _, fun a ha b hb => by simp at hb; subst hb; exact hTM a ha b (by simp)⟩
      · intro y hy; simp only [List.mem_append, List.mem_singleton] at hy
        rcases hy with hy | rfl
        · exact hT y hy
        · exact hle
      · intro y hy z hz
        have hzM : z ∈ x :: M' := hperm4.mem_iff.1 (List.mem_cons_of_mem _ hz)
        simp only [List.mem_append, List.mem_singleton] at hy
        rcases hy with hy | rfl
        · exact hTM y hy z hzM
        · exact hp1.min' (m := y) rfl z hzM
      · rw [List.map_append]; simpa using ho5

theorem ints_at {w : World} {O : Option Addr} {n c : Nat} {xs : List Int} (h : Own w 3 1 O n c (xs.flatMap iv)) {j : Nat} {x : Int} (hx : xs[j]? = some x) : ∃ a, O = some a ∧ (loadVar 3 (Addr.add a (Int.toNat (j : Int) * 1))).run PG w = .ok (.int .i64 x) w := by
  obtain ⟨a, ea, hr⟩ := Ints.get (P := PG) (show Ints w O xs from h.row) hx
  exact ⟨a, ea, hr w (Kp.refl w) (by kernel_rfl)⟩
theorem consA {lo p : Nat} {A : Option Addr} (hp : lo ≤ p) (hf : ∀ b ∈ fpA A, lo ≤ b) : ∀ i ∈ p :: fpA A, lo ≤ i := by
  intro i hi
  simp only [List.mem_cons] at hi
  rcases hi with rfl | hi
  · exact hp
  · exact hf i hi
theorem hq_alive {w : World} {Q : Value → World → Prop} (hk : ∀ w', Kp [] w w' → Q (.bool true) w') : CALL PG 72 [] w Q := by
  refine call72 ?_
  unfold N72
  refine hq_new fun w1 k1 s1 h1 => ⟨_, rfl, iff_ rfl ?_⟩
  have em : hmo 9 = 9 := by decide
  rw [em] at h1
  have sz1 := k1.size
  have start : Hp [] := fun k x y _ hx _ => by simp at hx
  refine ⟨fun ok w' => ok = true ∧ ∃ A c L, HQ w' w.heap.size A c L 9 3 ∧ Hp L ∧ L.Perm [⟨5, 1, 1⟩, ⟨3, 2, 2⟩, ⟨5, 3, 3⟩] ∧ (∀ b ∈ fpA A, w.heap.size ≤ b) ∧ Kp [] w w', ?_, ?_⟩
  · refine hq_put h1 start (by decide) (by decide) (by decide) (fun h => absurd h (by decide)) fun _ A2 c2 L2 w2 k2 h2 p2 hp2 hA2 => ⟨_, rfl, ift rfl ?_⟩
    have K2 : Kp [] w w2 := k1.new k2 (by simp [fpA])
    have f2 : ∀ b ∈ fpA A2, w.heap.size ≤ b := fresh_of (by simp [fpA]) hA2 sz1
    have e2 := p2.length_eq
    refine hq_put h2 hp2 (by decide) (by decide) (by decide) (fun h => absurd h (by rw [e2]; decide)) fun _ A3 c3 L3 w3 k3 h3 p3 hp3 hA3 => ⟨_, rfl, ift rfl ?_⟩
    have K3 : Kp [] w w3 := K2.new k3 (consA (Nat.le_refl _) f2)
    have f3 : ∀ b ∈ fpA A3, w.heap.size ≤ b := fresh_of f2 hA3 K2.size
    have e3 := p3.length_eq
    rw [List.length_append, e2] at e3
    refine hq_put h3 hp3 (by decide) (by decide) (by decide) (fun h => absurd h (by rw [e3]; decide)) fun _ A4 c4 L4 w4 k4 h4 p4 hp4 hA4 => ⟨_, rfl, letb rfl ⟨rfl, A4, c4, L4, h4, hp4, ?_, fresh_of f3 hA4 K3.size, K3.new k4 (consA (Nat.le_refl _) f3)⟩⟩
    exact p4.trans (List.Perm.append_right _ (p3.trans (List.Perm.append_right _ p2)))
  rintro _ w5 ⟨rfl, A, c, L, h5, hp5, pm, fA, k5⟩
  refine due_ok h5 hp5 fun T L' O oc w6 k6 h6 hp6 hperm hpw hT hL' ho fr => ⟨_, _, _, rfl, ?_⟩
  have pm2 := hperm.trans pm
  have eL : L' = [] := by
    cases L' with
    | nil => rfl
    | cons y r =>
      have hy := hL' y (by simp)
      have : y ∈ [(⟨5, 1, 1⟩ : It), ⟨3, 2, 2⟩, ⟨5, 3, 3⟩] := pm2.mem_iff.1 (by simp)
      simp at this
      rcases this with rfl | rfl | rfl <;> simp at hy
  subst eL
  rw [List.append_nil] at pm2
  have eT : T = [⟨3, 2, 2⟩, ⟨5, 1, 1⟩, ⟨5, 3, 3⟩] := by
    refine List.Perm.eq_of_pairwise (le := le) (fun a b ha hb h1 h2 => ?_) hpw ?_ (pm2.trans (List.Perm.swap _ _ _))
    · have ha := pm2.mem_iff.1 ha
      simp at ha hb
      unfold le at h1 h2
      rcases ha with rfl | rfl | rfl <;> rcases hb with rfl | rfl | rfl <;> first | rfl | (exfalso; simp at h1 h2)
    · simp [le]
  subst eT
  obtain ⟨a0, e0, r0⟩ := ints_at ho (j := 0) (x := 2) rfl
  obtain ⟨a1, e1, r1⟩ := ints_at ho (j := 1) (x := 1) rfl
  obtain ⟨a2, e2, r2⟩ := ints_at ho (j := 2) (x := 3) rfl
  refine ift rfl (ift rfl ⟨⟨by decide, by decide⟩, a0, e0, RD.of r0 ⟨_, rfl, ift rfl ⟨⟨by decide, by decide⟩, a1, e1, RD.of r1 ⟨_, rfl, ift rfl ⟨⟨by decide, by decide⟩, a2, e2, RD.of r2 ⟨_, rfl, ift rfl ?_⟩⟩⟩⟩⟩⟩)
  refine hq_len h6 ⟨_, rfl, letb rfl (hk w6 (k5.new k6 (consA (Nat.le_refl _) fA)))⟩

/-- What is in the heap while numbers are sorted. -/
def Srt (xs : List Int) (n : Nat) (L : List It) : Prop := (∀ x ∈ L, ∃ k : Nat, k < n ∧ x.what = (k : Int) ∧ x.seq = (k : Int) + 1 ∧ xs[k]? = some x.time) ∧ (L.map (·.what)).Nodup
theorem Srt.perm {xs : List Int} {n : Nat} {L L' : List It} (h : Srt xs n L) (p : L'.Perm L) : Srt xs n L' := ⟨fun x hx => h.1 x (p.mem_iff.1 hx), (p.map _).nodup_iff.2 h.2⟩

theorem sorts_ok {w : World} {B : Option Addr} {xs : List Int} {c : Nat} (hs : Ints w B xs) {Q : Value → World → Prop} (hk : ∀ w', Kp [] w w' → Q (.bool true) w') : CALL PG 13 [.slice B xs.length c] w Q := by
  refine call13 ?_
  unfold N13
  refine ifd (fun _ => hk w (Kp.refl w)) fun h500 => ?_
  refine hq_new fun w1 k1 s1 h1 => ⟨_, rfl, iff_ rfl ?_⟩
  have em : hmo 1000 = 1000 := by decide
  rw [em] at h1
  have sz1 := k1.size
  generalize hp0 : w.heap.size = p at *
  have start : Hp [] := fun k x y _ hx _ => by simp at hx
  refine ⟨fun m i w2 => ∃ (j : Nat) (A : Option Addr) (cc : Nat) (L : List It), j + m = xs.length ∧ i = (j : Int) ∧ HQ w2 p A cc L 1000 (j : Int) ∧ Hp L ∧ L.length = j ∧ Srt xs j L ∧ (∀ b ∈ fpA A, p ≤ b) ∧ Kp [] w w2,
    ⟨xs.length, 0, none, 0, [], by omega, rfl, h1, start, rfl, ⟨by simp, by simp⟩, by simp [fpA], k1⟩, ?_⟩
  rintro m _ w2 ⟨j, A, cc, L, hj, rfl, h2, hh2, hL, hsr, fA, k2⟩
  refine ifd (fun hlt => ?_) fun hge => ?_
  · obtain ⟨x, hx⟩ := ex_get (L := xs) (j := j) (by omega)
    obtain ⟨a, ea, hr⟩ := hs.get (P := PG) hx
    refine ⟨⟨by omega, by omega⟩, a, ea, RD.of (hr w2 k2 (by kernel_rfl)) ⟨_, rfl, ?_⟩⟩
    refine hq_put h2 hh2 (by decide) (by omega) (by omega) (fun h => absurd h (by omega)) fun _ A3 c3 L3 w3 k3 h3 p3 hp3 hA3 => ⟨_, rfl, iff_ rfl ?_⟩
    refine leti (y := ((j + 1 : Nat) : Int)) (wrap_i64 (by omega) (by omega)) ⟨m - 1, by omega, j + 1, A3, c3, L3, by omega, rfl, h3, hp3, by rw [p3.length_eq]; simp [hL], Srt.perm ?_ p3, fresh_of fA hA3 (by have := k2.size; omega), k2.new k3 ?_⟩
    · refine ⟨fun y hy => ?_, ?_⟩
      · simp only [List.mem_append, List.mem_singleton] at hy
        rcases hy with hy | rfl
        · obtain ⟨k, q1, q2⟩ := hsr.1 y hy
          exact ⟨k, by omega, q2⟩
        · exact ⟨j, by omega, rfl, rfl, hx⟩
      · rw [List.map_append, List.nodup_append]
        refine ⟨hsr.2, by simp, fun a ha b hb => ?_⟩
        simp at ha hb
        obtain ⟨y, hy, rfl⟩ := ha
        obtain ⟨k, q1, q2, _⟩ := hsr.1 y hy
        subst hb
        omega
    · rw [hp0]; exact consA (Nat.le_refl _) fA
  have hjn : j = xs.length := by omega
  refine ⟨fun m last i w4 => ∃ (i' : Nat) (L : List It), i' + m = xs.length ∧ i = (i' : Int) ∧ HQ w4 p A cc L 1000 (j : Int) ∧ Hp L ∧ L.length = m ∧ Srt xs j L ∧ Kp [] w w4 ∧
      (last = -1 ∨ ∃ (k : Nat) (t : Int), last = (k : Int) ∧ k < xs.length ∧ xs[k]? = some t ∧ ∀ x ∈ L, t < x.time ∨ (t = x.time ∧ (k : Int) < x.what)), ⟨xs.length, 0, L, by omega, rfl, h2, hh2, by omega, hsr, k2, .inl rfl⟩, ?_⟩
  rintro m4 last _ w4 ⟨i', M, hi, rfl, h4, hh4, hM, hsr4, k4, hlast⟩
  refine ifd (fun hlt => ?_) fun hge2 => ?_
  · refine hq_take h4 hh4 (fun e => by rw [e] at hM; simp at hM; omega) fun x hx w5 N k5 h5 p5 hp5 => ⟨_, _, _, _, rfl, ?_⟩
    have K5 : Kp [] w w5 := k4.new k5 (by rw [hp0]; exact consA (Nat.le_refl _) fA)
    refine tmpIt x fun w7 k7 s7 hb7 => letb rfl (iff_ rfl ?_)
    have hbd := hb7.drew
    have Kd := (K5.then k7).then (Kp.drew w7)
    have hxM : x ∈ M := List.mem_of_getElem? hx
    obtain ⟨k, q1, q2, q3, q4⟩ := hsr4.1 x hxM
    obtain ⟨a, ea, hr⟩ := hs.get (P := PG) q4
    have hsrN := hsr4.perm p5
    have lx : ∀ {W : World}, Blk W w5.heap.size 109 (it x) → (loadVar 3 (Addr.add ⟨w5.heap.size, 0, none⟩ 1)).run PG W = .ok (.int .i64 (k : Int)) W := fun hb => by rw [← q2]; exact ld 1 hb rfl (by kernel_rfl)
    have lt : ∀ {W : World}, Blk W w5.heap.size 109 (it x) → (loadVar 3 (Addr.add ⟨w5.heap.size, 0, none⟩ 0)).run PG W = .ok (.int .i64 x.time) W := fun hb => ld 0 hb rfl (by kernel_rfl)
    refine RD.of (lx hbd) ⟨_, rfl, ifdf (by omega) (RD.of (lx hbd) ⟨_, rfl, ifdf (by omega) (RD.of (lt hbd) ⟨_, rfl, RD.of (lx hbd) ⟨_, rfl, ⟨by omega, by omega⟩, a, ea, RD.of (hr _ Kd (by kernel_rfl)) ⟨_, rfl, iff_ (by simp) ?_⟩⟩⟩)⟩)⟩
    have hbdd := hbd.drew
    have Kdd := Kd.then (Kp.drew w7.drew)
    have next : ∃ m5, m5 < m4 ∧ ∃ (i'' : Nat) (L : List It), i'' + m5 = xs.length ∧ (((i' + 1 : Nat) : Int)) = (i'' : Int) ∧ HQ w7.drew.drew p A cc L 1000 (j : Int) ∧ Hp L ∧ L.length = m5 ∧ Srt xs j L ∧ Kp [] w w7.drew.drew ∧
      ((k : Int) = -1 ∨ ∃ (k' : Nat) (t : Int), (k : Int) = (k' : Int) ∧ k' < xs.length ∧ xs[k']? = some t ∧ ∀ x ∈ L, t < x.time ∨ (t = x.time ∧ (k' : Int) < x.what)) := by
      have el := p5.length_eq
      simp at el
      refine ⟨m4 - 1, by omega, i' + 1, N, by omega, rfl, ((h5.keep k7).keep (Kp.drew _)).keep (Kp.drew _), hp5, by omega, ⟨fun y hy => hsrN.1 y (List.mem_cons_of_mem _ hy), by have := hsrN.2; simp at this; exact this.2⟩, Kdd, .inr ⟨k, x.time, rfl, by omega, q4, fun y hy => ?_⟩⟩
      have hyM : y ∈ M := p5.mem_iff.1 (List.mem_cons_of_mem _ hy)
      have hle := hh4.min' hx y hyM
      obtain ⟨k', r1, r2, r3, r4⟩ := hsr4.1 y hyM
      have hne : x.what ≠ y.what := by
        have := hsrN.2
        simp only [List.map_cons, List.nodup_cons] at this
        intro e; exact this.1 (by rw [e]; exact List.mem_map_of_mem hy)
      unfold le at hle; omega
    have hw1 : IntKind.i64.wrap ((i' : Int) + 1) = ((i' + 1 : Nat) : Int) := wrap_i64 (by omega) (by omega)
    rcases hlast with rfl | ⟨kl, t, rfl, hkl, ht, hall⟩
    · exact ifdf (by decide) (RD.of (lx hbdd) ⟨_, rfl, leti rfl (leti hw1 next)⟩)
    · obtain ⟨a', ea', hr'⟩ := hs.get (P := PG) ht
      have hax := hall x hxM
      refine ifdt (by omega) ⟨⟨by omega, by omega⟩, a', ea', RD.of (hr' _ Kdd (by kernel_rfl)) ⟨_, rfl, RD.of (lt hbdd) ⟨_, rfl, ifdf (by omega) ?_⟩⟩⟩
      refine ⟨⟨by omega, by omega⟩, a', ea', RD.of (hr' _ Kdd (by kernel_rfl)) ⟨_, rfl, RD.of (lt hbdd) ⟨_, rfl, ?_⟩⟩⟩
      by_cases c1 : t = x.time
      · exact ift (by simp [c1]) (RD.of (lx hbdd) ⟨_, rfl, ifdf (by omega) (RD.of (lx hbdd) ⟨_, rfl, leti rfl (leti hw1 next)⟩)⟩)
      · exact iff_ (by simp [c1]) (RD.of (lx hbdd) ⟨_, rfl, leti rfl (leti hw1 next)⟩)
  · have hM0 : M = [] := List.eq_nil_of_length_eq_zero (by omega)
    subst hM0
    refine hq_take h4 hh4 (fun _ w5 k5 => ⟨_, _, _, _, rfl, ?_⟩) fun x hx => by simp at hx
    refine tmpIt it0 fun w6 k6 s6 hb6 => letb rfl (ift rfl (hq_len ((h4.keep k5).keep k6) ⟨_, rfl, ift rfl (hq_alive fun w7 k7 => ⟨_, rfl, letb rfl (hk w7 (((k4.then k5).then k6).then k7))⟩)⟩))
end Go.Br
