/- The document's row of what is to happen: what its functions answer. -/
import Derived.Test.YtegocoicdcpgaaaNHeapPlay
import Derived.Test.YtegocoicdcpgaaaHeapLaw
set_option linter.unusedVariables false
namespace Go.Br
open Go

/-- An item as the document's. -/
def jt (x : It) : List Value := [.int .i64 x.time, .int .i64 x.what]
theorem jt_length (x : It) : (jt x).length = 2 := rfl
abbrev jtv (x : It) : Value := .agg #[.int .i64 x.time, .int .i64 x.what]
theorem jt_flat1 (x : It) : Flat (jt x) := by intro v hv; simp [jt] at hv; rcases hv with rfl | rfl <;> rfl
theorem jt_flat (L : List It) : Flat (L.flatMap jt) := by
  intro v hv
  simp only [List.mem_flatMap] at hv
  obtain ⟨x, _, hx⟩ := hv
  exact jt_flat1 x v hx
theorem tiJ : TI PG 113 2 16 (jtv it0) := tiOf (by kernel_rfl)
theorem huJ : PG.underlying 105 = some (.slice 113) := by kernel_rfl
theorem litJ (x : It) (w : World) : (Instr.buildSlice 105 1 #[(0, jtv x)]).run PG w = .ok (.slice (some ⟨w.heap.size, 0, none⟩) 1 1) (w.alloc (.cells (jt x).toArray 113)) := by kernel_rfl
theorem litJ0 (w : World) : (Instr.buildSlice 105 0 #[]).run PG w = .ok (.slice (some ⟨w.heap.size, 0, none⟩) 0 0) (w.alloc (.cells #[] 113)) := by kernel_rfl
theorem ldJ {w : World} {a : Addr} {c : It} (h : ∀ j v, (jt c)[j]? = some v → w.cell? (a.add j) = some v) : (loadVar 113 a).run PG w = .ok (jtv c) w := ldAt (cs := jt c) (by kernel_rfl) (by kernel_rfl) h
theorem ldJB {w : World} {B T : Nat} {c : It} (h : Blk w B T (jt c)) : (loadVar 113 ⟨B, 0, none⟩).run PG w = .ok (jtv c) w := ldAll h (by kernel_rfl) (by kernel_rfl)
theorem appJ {w : World} {A : Option Addr} {n c : Nat} {L : List It} (ho : Own w 113 2 A n c (L.flatMap jt)) (hn : n ≤ 1000000) (x : It) {K : Option Addr → Nat → Nat → World → Prop}
    (hk : ∀ A' c' w', Kp (fpA A) w w' → Own w' 113 2 A' (n + 1) c' ((L ++ [x]).flatMap jt) → (A' = A ∨ ∃ a, A' = some a ∧ w.heap.size ≤ a.block) → K A' (n + 1) c' w') :
    RUN PG (Instr.buildSlice 105 1 #[(0, jtv x)]) w fun v5 w3 => ∃ (y : Option Addr) (N C : Nat), v5 = .slice y N C ∧ RUN PG (Builtin.append_ #[105, 105] 105 #[.slice A n c, .slice y N C]) w3 fun v6 w4 => ∃ (y : Option Addr) (yN yC : Nat), v6 = .slice y yN yC ∧ K y yN yC w4 :=
  app1 huJ tiJ rfl (by decide) (by decide) ho (litJ x) rfl (jt_flat1 x) (by omega) fun A' c' w' k h hA => hk A' c' w' k (by rw [List.flatMap_append, List.flatMap_cons, List.flatMap_nil, List.append_nil]; exact h) hA

theorem rows_same {w : World} {A B : Option Addr} {xs : List Int} {ac bc : Nat} (ha : Ints w A xs) (hb : Ints w B xs) (hl : xs.length ≤ 1000000) {Q : Value → World → Prop} (hk : ∀ w', Kp [] w w' → Q (.bool true) w') : CALL PG 66 [.slice A xs.length ac, .slice B xs.length bc] w Q := by
  refine call66 ?_
  unfold N66
  refine iff_ (by simp) ⟨fun m i w1 => ∃ j : Nat, j + m = xs.length ∧ i = (j : Int) ∧ Kp [] w w1, ⟨xs.length, 0, by omega, rfl, Kp.refl w⟩, ?_⟩
  rintro m _ w1 ⟨j, hj, rfl, k1⟩
  refine ifd (fun hlt => ?_) fun hge => hk w1 k1
  obtain ⟨x, hx⟩ := ex_get (L := xs) (j := j) (by omega)
  obtain ⟨a, ea, ra⟩ := ha.get (P := PG) hx
  obtain ⟨b, eb, rb⟩ := hb.get (P := PG) hx
  have kd := k1.then (Kp.drew w1)
  refine ⟨⟨by omega, by omega⟩, a, ea, RD.of (ra _ kd (by kernel_rfl)) ⟨_, rfl, ⟨by omega, by omega⟩, b, eb, RD.of (rb _ kd (by kernel_rfl)) ⟨_, rfl, iff_ (by simp) ?_⟩⟩⟩
  exact leti (y := ((j + 1 : Nat) : Int)) (wrap_i64 (by omega) (by omega)) ⟨m - 1, by omega, j + 1, by omega, rfl, kd⟩

/-- What is left, what is due. -/
theorem rDue_ok {w : World} {A : Option Addr} {c : Nat} {R : List It} (h : Row w A (R.flatMap jt)) (hR : R.length ≤ 1000) {now : Int} {Q : Value → World → Prop}
    (hk : ∀ G gc O oc w', Kp [] w w' → Own w' 113 2 G (R.filter fun x => !decide (x.time ≤ now)).length gc ((R.filter fun x => !decide (x.time ≤ now)).flatMap jt) → (∀ b ∈ fpA G, w.heap.size ≤ b) →
      Own w' 3 1 O (R.filter fun x => decide (x.time ≤ now)).length oc (((R.filter fun x => decide (x.time ≤ now)).map (·.what)).flatMap iv) → (∀ b ∈ fpA O, w.heap.size ≤ b) →
      Q (.tuple #[.slice G (R.filter fun x => !decide (x.time ≤ now)).length gc, .slice O (R.filter fun x => decide (x.time ≤ now)).length oc]) w') :
    CALL PG 65 [.slice A R.length c, .int .i64 now] w Q := by
  refine call65 ?_
  unfold N65
  generalize hg : (fun x : It => decide (x.time ≤ now)) = g at hk
  have hgx : ∀ x : It, g x = decide (x.time ≤ now) := fun x => by rw [← hg]
  have hng : (fun x : It => !decide (x.time ≤ now)) = fun x => !g x := by funext x; rw [hgx]
  rw [hng] at hk
  refine ⟨fun m G gn gc O n oc i w1 => ∃ j : Nat, j + m = R.length ∧ i = (j : Int) ∧ Kp [] w w1 ∧ Own w1 113 2 G gn gc (((R.take j).filter fun x => !g x).flatMap jt) ∧ gn = ((R.take j).filter fun x => !g x).length ∧
      Own w1 3 1 O n oc ((((R.take j).filter g).map (·.what)).flatMap iv) ∧ n = ((R.take j).filter g).length ∧ (∀ b ∈ fpA G, w.heap.size ≤ b ∧ b ∉ fpA O) ∧ (∀ b ∈ fpA O, w.heap.size ≤ b),
    ⟨R.length, 0, by omega, rfl, Kp.refl w, Own.nil _ _ _, rfl, Own.nil _ _ _, rfl, by simp [fpA], by simp [fpA]⟩, ?_⟩
  rintro m G gn gc O n oc _ w1 ⟨j, hj, rfl, k1, hG, hgn, hO, hn, fG, fO⟩
  have sz := k1.size
  have l1 := List.length_filter_le g (R.take j)
  have l2 := List.length_filter_le (fun x => !g x) (R.take j)
  have l3 : (R.take j).length ≤ 1000 := by rw [List.length_take]; omega
  refine ifd (fun hlt => ?_) fun hge => ?_
  · obtain ⟨x, hx⟩ := ex_get (L := R) (j := j) (by omega)
    obtain ⟨a, ea, hc⟩ := row_get jt_length (by decide) h hx
    have bd : (0 : Int) ≤ (j : Int) ∧ (j : Int) < (R.length : Int) := by omega
    have next : (IntKind.i64.wrap ((j : Int) + 1)) = ((j + 1 : Nat) : Int) := wrap_i64 (by omega) (by omega)
    refine ⟨bd, a, ea, RD.of (ldc (cell_old k1 (hc 0 _ rfl)) (by kernel_rfl)) ⟨_, rfl, ?_⟩⟩
    cases hgv : g x with
    | true =>
      have hg1 := hgv
      rw [hgx] at hg1
      refine ift hg1 ⟨bd, a, ea, RD.of (ldc (cell_old k1 (hc 1 _ rfl)) (by kernel_rfl)) ⟨_, rfl, ?_⟩⟩
      refine appI hO (by omega) x.what fun O' oc' w5 k5 hO5 hA5 => leti next ⟨m - 1, by omega, j + 1, by omega, rfl, k1.new k5 fO, ?_, ?_, ?_, ?_, ?_, fresh_of fO hA5 sz⟩
      · rw [take_snoc' hx, List.filter_append, List.filter_cons_of_neg (by simp [hgv])]
        simp only [List.filter_nil, List.append_nil]
        exact hG.kp k5 fun b hb hc => (fG b hb).2 hc
      · rw [take_snoc' hx, List.filter_append, List.filter_cons_of_neg (by simp [hgv])]; simp [hgn]
      · rw [take_snoc' hx, List.filter_append, List.filter_cons_of_pos hgv, List.map_append]; exact hO5
      · rw [take_snoc' hx, List.filter_append, List.filter_cons_of_pos hgv]; simp [hn]
      · exact fun b hb => ⟨(fG b hb).1, fun hc => apart_of (S := fpA G) (fun b hb hc => (fG b hc).2 hb) hA5 (fun b hb => hG.lt b hb) b hc hb⟩
    | false =>
      have hg1 := hgv
      rw [hgx] at hg1
      refine iff_ hg1 ⟨bd, a, ea, RD.of (ldJ fun j v hj => cell_old k1 (hc j v hj)) ⟨_, _, rfl, ?_⟩⟩
      refine appJ hG (by omega) x fun G' gc' w5 k5 hG5 hA5 => leti next ⟨m - 1, by omega, j + 1, by omega, rfl, k1.new k5 fun b hb => (fG b hb).1, ?_, ?_, ?_, ?_, ?_, fO⟩
      · rw [take_snoc' hx, List.filter_append, List.filter_cons_of_pos (by simp [hgv])]; exact hG5
      · rw [take_snoc' hx, List.filter_append, List.filter_cons_of_pos (by simp [hgv])]; simp [hgn]
      · rw [take_snoc' hx, List.filter_append, List.filter_cons_of_neg (by simp [hgv])]
        simp only [List.filter_nil, List.append_nil]
        exact hO.kp k5 fun b hb hc => (fG b hc).2 hb
      · rw [take_snoc' hx, List.filter_append, List.filter_cons_of_neg (by simp [hgv])]; simp [hn]
      · exact fun b hb => ⟨fresh_of (fun b hb => (fG b hb).1) hA5 sz b hb, apart_of (S := fpA O) (fun b hb => (fG b hb).2) hA5 (fun b hb => hO.lt b hb) b hb⟩
  · rw [List.take_of_length_le (by omega)] at hG hgn hO hn
    subst hgn; subst hn
    exact hk G gc O oc w1 k1 hG (fun b hb => (fG b hb).1) hO fO

/-- Where a new one comes to stand. -/
def Ins (R : List It) (x : It) (R' : List It) : Prop := ∃ pre post, R = pre ++ post ∧ R' = pre ++ x :: post ∧ (∀ y ∈ post, x.time < y.time) ∧ (∀ q y, pre = q ++ [y] → y.time ≤ x.time)
theorem rPut_ok {w : World} {A : Option Addr} {c : Nat} {R : List It} (h : Row w A (R.flatMap jt)) (hR : R.length ≤ 1000) (x : It) {Q : Value → World → Prop}
    (hk : ∀ O oc R' w', Kp [] w w' → Own w' 113 2 O (R.length + 1) oc (R'.flatMap jt) → (∀ b ∈ fpA O, w.heap.size ≤ b) → Ins R x R' → Q (.slice O (R.length + 1) oc) w') :
    CALL PG 68 [.slice A R.length c, jtv x] w Q := by
  refine call68 ?_
  unfold N68
  refine box1 fun w1 k1 s1 hb => ⟨_, rfl, ?_⟩
  have kd := k1.then (Kp.drew w1)
  have szd := kd.size
  refine ⟨fun w' => Kp [] w1.drew w', Kp.refl _, ⟨_, fun w' k => ldJB (c := x) (hb.drew.kp k (by simp)), _, _, rfl, ?_⟩⟩
  have row1 : ∀ W : World, Row (W.alloc (.cells (jt x).toArray 113)) (some ⟨W.heap.size, 0, none⟩) (jt x) := fun W => by
    have := (Blk.new W (jt x).toArray 113).row 0 2
    exact this
  have own0 : ∀ W : World, Own (W.alloc (.cells #[] 113)) 113 2 (some ⟨W.heap.size, 0, none⟩) 0 0 [] := fun W => Own.made (c := 0) (Blk.new W #[] 113) rfl
  refine ⟨RUN.of (litJ0 _) ⟨_, _, _, rfl, fun w' => Kp [] w1.drew w', fun _ h => h, alloc_kp _ _, ?_, ?_⟩, RUN.of (litJ x _) ⟨_, _, _, rfl, fun w' => Kp [] w1.drew w', fun _ h => h, alloc_kp _ _, ?_⟩⟩
  · have ka := alloc_kp w1.drew (.cells #[] 113)
    refine append1 huJ tiJ rfl (by decide) (by decide) (own0 w1.drew) (m := R.length) (h.keep (kd.then ka)) (flat_length jt_length R) (jt_flat R) (by omega) fun A9 c9 w3 k3 ho3 hA3 => ⟨_, _, _, rfl, fun w' => Kp [] w1.drew w', fun _ h => h, ka.new k3 (by simp [fpA]), ?_⟩
    have f3 : ∀ b ∈ fpA A9, w1.drew.heap.size ≤ b := fresh_of (by simp [fpA]) hA3 ka.size
    have K3 : Kp [] w1.drew w3 := ka.new k3 (by simp [fpA])
    refine RUN.of (litJ x _) ⟨_, _, _, rfl, ?_⟩
    have kb := alloc_kp w3 (.cells (jt x).toArray 113)
    refine append1 huJ tiJ rfl (by decide) (by decide) (ho3.kp kb (by simp)) (m := 1) (row1 w3) rfl (jt_flat1 x) (by omega) fun O oc w5 k5 ho hO => ⟨_, _, _, rfl, ?_⟩
    have fr : ∀ b ∈ fpA O, w.heap.size ≤ b := fresh_of (fun b hb => Nat.le_trans szd (f3 b hb)) hO (by have := K3.size; have := kb.size; omega)
    have K : Kp [] w w5 := (kd.then (K3.then kb)).new k5 fun b hb => Nat.le_trans szd (f3 b hb)
    clear hO k5 kb K3 f3 hA3 ho3 k3 ka
    have e0 : 0 + R.length + 1 = R.length + 1 := by omega
    rw [e0] at ho ⊢
    have ho1 : Own w5 113 2 O (R.length + 1) oc ((R ++ [x]).flatMap jt) := by
      rw [List.flatMap_append, List.flatMap_cons, List.flatMap_nil, List.append_nil]; exact ho
    refine leti (y := (R.length : Int)) (by rw [wrap_i64 (by omega) (by omega)]; omega) ?_
    refine ⟨fun m i w6 => ∃ pre post : List It, R = pre ++ post ∧ i = (pre.length : Int) ∧ m = pre.length ∧ Own w6 113 2 O (R.length + 1) oc ((pre ++ x :: post).flatMap jt) ∧ (∀ y ∈ post, x.time < y.time) ∧ Kp [] w w6, ⟨R.length, R, [], by simp, rfl, rfl, ho1, by simp, K⟩, ?_⟩
    rintro m _ w6 ⟨pre, post, hRp, rfl, rfl, ho6, hpost, K6⟩
    have hl : R.length = pre.length + post.length := by rw [hRp, List.length_append]
    have hx : (pre ++ x :: post)[pre.length]? = some x := by simp
    obtain ⟨a, ea, hc⟩ := row_get jt_length (by decide) ho6.row hx
    refine ifd (fun hpos => ?_) fun hz => ?_
    · rcases List.eq_nil_or_concat pre with rfl | ⟨q, y, hq⟩
      · simp at hpos
      rw [List.concat_eq_append] at hq
      subst hq
      have hy : (q ++ [y] ++ x :: post)[q.length]? = some y := by simp
      obtain ⟨a', ea', hc'⟩ := row_get jt_length (by decide) ho6.row hy
      rw [ea] at ea'
      injection ea' with ea'
      subst ea'
      subst ea
      have hql : (q ++ [y]).length = q.length + 1 := by simp
      have ew : IntKind.i64.wrap (((q ++ [y]).length : Int) - 1) = (q.length : Int) := by rw [hql, wrap_i64 (by omega) (by omega)]; omega
      rw [ew]
      have b1 : (0 : Int) ≤ ((q ++ [y]).length : Int) ∧ ((q ++ [y]).length : Int) < ((R.length + 1 : Nat) : Int) := by omega
      have b2 : (0 : Int) ≤ (q.length : Int) ∧ (q.length : Int) < ((R.length + 1 : Nat) : Int) := by omega
      refine ⟨b1, a, rfl, RD.of (ldc (cell_old (Kp.drew w6) (hc 0 _ rfl)) (by kernel_rfl)) ⟨_, rfl, b2, a, rfl, RD.of (ldc (cell_old (Kp.drew w6) (hc' 0 _ rfl)) (by kernel_rfl)) ⟨_, rfl, ?_⟩⟩⟩
      refine ifd (fun hlt => ?_) fun hge => ?_
      · have kdd := (Kp.drew w6).then (Kp.drew w6.drew)
        refine ⟨b2, a, rfl, RD.of (ldJ fun j v hj => cell_old kdd (hc' j v hj)) ⟨_, _, rfl, b1, a, rfl, RD.of (ldJ fun j v hj => cell_old kdd (hc j v hj)) ⟨_, _, rfl, b1, a, rfl, ?_⟩⟩⟩
        have ab : w.heap.size ≤ a.block := fr a.block (by simp [fpA])
        refine st_elem (v := jtv y) jt_length (ho6.kp kdd (by simp)) (by simp) rfl (by kernel_rfl) (jt_flat1 y) fun w7 k7 s7 ho7 => ⟨b2, a, rfl, ?_⟩
        refine st_elem (v := jtv x) jt_length ho7 (by simp) rfl (by kernel_rfl) (jt_flat1 x) fun w8 k8 s8 ho8 => ?_
        have es : ((q ++ [y] ++ x :: post).set (q ++ [y]).length y).set q.length x = q ++ x :: (y :: post) := by simp
        rw [es] at ho8
        refine leti rfl ⟨q.length, by omega, q, y :: post, by rw [hRp]; simp, rfl, rfl, ho8, ?_, ((K6.then kdd).new k7 (by simp; exact ab)).new k8 (by simp; exact ab)⟩
        intro z hz; simp at hz; rcases hz with rfl | hz
        · exact hlt
        · exact hpost z hz
      · refine hk (some a) oc _ _ (K6.then (Kp.drew w6)) ho6.drew fr ⟨q ++ [y], post, hRp, rfl, hpost, fun q' y' e => ?_⟩
        have := List.append_inj' e (by simp)
        simp at this
        rw [← this.2]; have : ¬ x.time < y.time := hge; omega
    · have hp0 : pre = [] := List.eq_nil_of_length_eq_zero (by omega)
      subst hp0
      exact hk O oc _ _ (K6.then (Kp.drew w6)) ho6.drew fr ⟨[], post, hRp, rfl, hpost, fun q' y' e => by simp at e⟩
  · -- the document's one ahead of the row
    have ka := alloc_kp w1.drew (.cells #[] 113)
    refine RUN.of (litJ x _) ⟨_, _, _, rfl, fun w' => Kp [] w1.drew w', fun _ h => h, ka.then (alloc_kp _ _), ?_⟩
    have kb := alloc_kp (w1.drew.alloc (.cells #[] 113)) (.cells (jt x).toArray 113)
    have kab := ka.then kb
    have hrx := row1 (w1.drew.alloc (.cells #[] 113))
    refine append1 huJ tiJ rfl (by decide) (by decide) ((own0 w1.drew).kp kb (by simp)) (m := R.length) (h.keep (kd.then kab)) (flat_length jt_length R) (jt_flat R) (by omega) fun A9 c9 w3 k3 ho3 hA3 => ⟨_, _, _, rfl, fun w' => Kp [] w1.drew w', fun _ h => h, kab.new k3 (by simp [fpA]), ?_⟩
    have f3 : ∀ b ∈ fpA A9, w1.drew.heap.size ≤ b := fresh_of (by simp [fpA]) hA3 kab.size
    have K3 : Kp [] w1.drew w3 := kab.new k3 (by simp [fpA])
    refine append1 huJ tiJ rfl (by decide) (by decide) ho3 (m := 1) (hrx.kp k3 (by intro a ha _; injection ha with ha; subst ha; simp [fpA, World.alloc])) rfl (jt_flat1 x) (by omega) fun O oc w5 k5 ho hO => ⟨_, _, _, rfl, ?_⟩
    have fr : ∀ b ∈ fpA O, w.heap.size ≤ b := fresh_of (fun b hb => Nat.le_trans szd (f3 b hb)) hO (by have := K3.size; omega)
    have K : Kp [] w w5 := (kd.then K3).new k5 fun b hb => Nat.le_trans szd (f3 b hb)
    clear hO k5 K3 f3 hA3 ho3 k3 ka kb kab hrx
    have e0 : 0 + R.length + 1 = R.length + 1 := by omega
    rw [e0] at ho ⊢
    have ho1 : Own w5 113 2 O (R.length + 1) oc ((R ++ [x]).flatMap jt) := by
      rw [List.flatMap_append, List.flatMap_cons, List.flatMap_nil, List.append_nil]; exact ho
    refine leti (y := (R.length : Int)) (by rw [wrap_i64 (by omega) (by omega)]; omega) ?_
    refine ⟨fun m i w6 => ∃ pre post : List It, R = pre ++ post ∧ i = (pre.length : Int) ∧ m = pre.length ∧ Own w6 113 2 O (R.length + 1) oc ((pre ++ x :: post).flatMap jt) ∧ (∀ y ∈ post, x.time < y.time) ∧ Kp [] w w6, ⟨R.length, R, [], by simp, rfl, rfl, ho1, by simp, K⟩, ?_⟩
    rintro m _ w6 ⟨pre, post, hRp, rfl, rfl, ho6, hpost, K6⟩
    have hl : R.length = pre.length + post.length := by rw [hRp, List.length_append]
    have hx : (pre ++ x :: post)[pre.length]? = some x := by simp
    obtain ⟨a, ea, hc⟩ := row_get jt_length (by decide) ho6.row hx
    refine ifd (fun hpos => ?_) fun hz => ?_
    · rcases List.eq_nil_or_concat pre with rfl | ⟨q, y, hq⟩
      · simp at hpos
      rw [List.concat_eq_append] at hq
      subst hq
      have hy : (q ++ [y] ++ x :: post)[q.length]? = some y := by simp
      obtain ⟨a', ea', hc'⟩ := row_get jt_length (by decide) ho6.row hy
      rw [ea] at ea'
      injection ea' with ea'
      subst ea'
      subst ea
      have hql : (q ++ [y]).length = q.length + 1 := by simp
      have ew : IntKind.i64.wrap (((q ++ [y]).length : Int) - 1) = (q.length : Int) := by rw [hql, wrap_i64 (by omega) (by omega)]; omega
      rw [ew]
      have b1 : (0 : Int) ≤ ((q ++ [y]).length : Int) ∧ ((q ++ [y]).length : Int) < ((R.length + 1 : Nat) : Int) := by omega
      have b2 : (0 : Int) ≤ (q.length : Int) ∧ (q.length : Int) < ((R.length + 1 : Nat) : Int) := by omega
      refine ⟨b1, a, rfl, RD.of (ldc (cell_old (Kp.drew w6) (hc 0 _ rfl)) (by kernel_rfl)) ⟨_, rfl, b2, a, rfl, RD.of (ldc (cell_old (Kp.drew w6) (hc' 0 _ rfl)) (by kernel_rfl)) ⟨_, rfl, ?_⟩⟩⟩
      refine ifd (fun hlt => ?_) fun hge => ?_
      · have kdd := (Kp.drew w6).then (Kp.drew w6.drew)
        refine ⟨b2, a, rfl, RD.of (ldJ fun j v hj => cell_old kdd (hc' j v hj)) ⟨_, _, rfl, b1, a, rfl, RD.of (ldJ fun j v hj => cell_old kdd (hc j v hj)) ⟨_, _, rfl, b1, a, rfl, ?_⟩⟩⟩
        have ab : w.heap.size ≤ a.block := fr a.block (by simp [fpA])
        refine st_elem (v := jtv y) jt_length (ho6.kp kdd (by simp)) (by simp) rfl (by kernel_rfl) (jt_flat1 y) fun w7 k7 s7 ho7 => ⟨b2, a, rfl, ?_⟩
        refine st_elem (v := jtv x) jt_length ho7 (by simp) rfl (by kernel_rfl) (jt_flat1 x) fun w8 k8 s8 ho8 => ?_
        have es : ((q ++ [y] ++ x :: post).set (q ++ [y]).length y).set q.length x = q ++ x :: (y :: post) := by simp
        rw [es] at ho8
        refine leti rfl ⟨q.length, by omega, q, y :: post, by rw [hRp]; simp, rfl, rfl, ho8, ?_, ((K6.then kdd).new k7 (by simp; exact ab)).new k8 (by simp; exact ab)⟩
        intro z hz; simp at hz; rcases hz with rfl | hz
        · exact hlt
        · exact hpost z hz
      · refine hk (some a) oc _ _ (K6.then (Kp.drew w6)) ho6.drew fr ⟨q ++ [y], post, hRp, rfl, hpost, fun q' y' e => ?_⟩
        have := List.append_inj' e (by simp)
        simp at this
        rw [← this.2]; have : ¬ x.time < y.time := hge; omega
    · have hp0 : pre = [] := List.eq_nil_of_length_eq_zero (by omega)
      subst hp0
      exact hk O oc _ _ (K6.then (Kp.drew w6)) ho6.drew fr ⟨[], post, hRp, rfl, hpost, fun q' y' e => by simp at e⟩
  · have kb := alloc_kp w1.drew (.cells (jt x).toArray 113)
    have hrx := row1 w1.drew
    generalize hw2 : w1.drew.alloc (.cells (jt x).toArray 113) = w2 at *
    refine RUN.of (litJ0 _) ⟨_, _, _, rfl, fun w' => Kp [] w1.drew w', fun _ h => h, kb.then (alloc_kp _ _), ?_⟩
    have ka := alloc_kp w2 (.cells #[] 113)
    have kab := kb.then ka
    have fB : ∀ b ∈ fpA (some (⟨w2.heap.size, 0, none⟩ : Addr)), w1.drew.heap.size ≤ b := fun b hb => by simp only [fpA, List.mem_singleton] at hb; subst hb; exact kb.size
    refine append1 huJ tiJ rfl (by decide) (by decide) (own0 w2) (m := R.length) (h.keep (kd.then kab)) (flat_length jt_length R) (jt_flat R) (by omega) fun A9 c9 w3 k3 ho3 hA3 => ⟨_, _, _, rfl, fun w' => Kp [] w1.drew w', fun _ h => h, kab.new k3 fB, ?_⟩
    have f3 : ∀ b ∈ fpA A9, w1.drew.heap.size ≤ b := fresh_of fB hA3 kab.size
    have K3 : Kp [] w1.drew w3 := kab.new k3 fB
    have lt2 : w1.drew.heap.size < w2.heap.size := by rw [← hw2]; simp [World.alloc]
    refine append1 huJ tiJ rfl (by decide) (by decide) ho3 (m := 1) ((hrx.keep ka).kp k3 (by intro a ha _; injection ha with ha; subst ha; simp only [fpA, List.mem_singleton]; omega)) rfl (jt_flat1 x) (by omega) fun O oc w5 k5 ho hO => ⟨_, _, _, rfl, ?_⟩
    have fr : ∀ b ∈ fpA O, w.heap.size ≤ b := fresh_of (fun b hb => Nat.le_trans szd (f3 b hb)) hO (by have := K3.size; omega)
    have K : Kp [] w w5 := (kd.then K3).new k5 fun b hb => Nat.le_trans szd (f3 b hb)
    clear hO k5 K3 f3 hA3 ho3 k3 ka kb kab hrx lt2 fB
    have e0 : 0 + R.length + 1 = R.length + 1 := by omega
    rw [e0] at ho ⊢
    have ho1 : Own w5 113 2 O (R.length + 1) oc ((R ++ [x]).flatMap jt) := by
      rw [List.flatMap_append, List.flatMap_cons, List.flatMap_nil, List.append_nil]; exact ho
    refine leti (y := (R.length : Int)) (by rw [wrap_i64 (by omega) (by omega)]; omega) ?_
    refine ⟨fun m i w6 => ∃ pre post : List It, R = pre ++ post ∧ i = (pre.length : Int) ∧ m = pre.length ∧ Own w6 113 2 O (R.length + 1) oc ((pre ++ x :: post).flatMap jt) ∧ (∀ y ∈ post, x.time < y.time) ∧ Kp [] w w6, ⟨R.length, R, [], by simp, rfl, rfl, ho1, by simp, K⟩, ?_⟩
    rintro m _ w6 ⟨pre, post, hRp, rfl, rfl, ho6, hpost, K6⟩
    have hl : R.length = pre.length + post.length := by rw [hRp, List.length_append]
    have hx : (pre ++ x :: post)[pre.length]? = some x := by simp
    obtain ⟨a, ea, hc⟩ := row_get jt_length (by decide) ho6.row hx
    refine ifd (fun hpos => ?_) fun hz => ?_
    · rcases List.eq_nil_or_concat pre with rfl | ⟨q, y, hq⟩
      · simp at hpos
      rw [List.concat_eq_append] at hq
      subst hq
      have hy : (q ++ [y] ++ x :: post)[q.length]? = some y := by simp
      obtain ⟨a', ea', hc'⟩ := row_get jt_length (by decide) ho6.row hy
      rw [ea] at ea'
      injection ea' with ea'
      subst ea'
      subst ea
      have hql : (q ++ [y]).length = q.length + 1 := by simp
      have ew : IntKind.i64.wrap (((q ++ [y]).length : Int) - 1) = (q.length : Int) := by rw [hql, wrap_i64 (by omega) (by omega)]; omega
      rw [ew]
      have b1 : (0 : Int) ≤ ((q ++ [y]).length : Int) ∧ ((q ++ [y]).length : Int) < ((R.length + 1 : Nat) : Int) := by omega
      have b2 : (0 : Int) ≤ (q.length : Int) ∧ (q.length : Int) < ((R.length + 1 : Nat) : Int) := by omega
      refine ⟨b1, a, rfl, RD.of (ldc (cell_old (Kp.drew w6) (hc 0 _ rfl)) (by kernel_rfl)) ⟨_, rfl, b2, a, rfl, RD.of (ldc (cell_old (Kp.drew w6) (hc' 0 _ rfl)) (by kernel_rfl)) ⟨_, rfl, ?_⟩⟩⟩
      refine ifd (fun hlt => ?_) fun hge => ?_
      · have kdd := (Kp.drew w6).then (Kp.drew w6.drew)
        refine ⟨b2, a, rfl, RD.of (ldJ fun j v hj => cell_old kdd (hc' j v hj)) ⟨_, _, rfl, b1, a, rfl, RD.of (ldJ fun j v hj => cell_old kdd (hc j v hj)) ⟨_, _, rfl, b1, a, rfl, ?_⟩⟩⟩
        have ab : w.heap.size ≤ a.block := fr a.block (by simp [fpA])
        refine st_elem (v := jtv y) jt_length (ho6.kp kdd (by simp)) (by simp) rfl (by kernel_rfl) (jt_flat1 y) fun w7 k7 s7 ho7 => ⟨b2, a, rfl, ?_⟩
        refine st_elem (v := jtv x) jt_length ho7 (by simp) rfl (by kernel_rfl) (jt_flat1 x) fun w8 k8 s8 ho8 => ?_
        have es : ((q ++ [y] ++ x :: post).set (q ++ [y]).length y).set q.length x = q ++ x :: (y :: post) := by simp
        rw [es] at ho8
        refine leti rfl ⟨q.length, by omega, q, y :: post, by rw [hRp]; simp, rfl, rfl, ho8, ?_, ((K6.then kdd).new k7 (by simp; exact ab)).new k8 (by simp; exact ab)⟩
        intro z hz; simp at hz; rcases hz with rfl | hz
        · exact hlt
        · exact hpost z hz
      · refine hk (some a) oc _ _ (K6.then (Kp.drew w6)) ho6.drew fr ⟨q ++ [y], post, hRp, rfl, hpost, fun q' y' e => ?_⟩
        have := List.append_inj' e (by simp)
        simp at this
        rw [← this.2]; have : ¬ x.time < y.time := hge; omega
    · have hp0 : pre = [] := List.eq_nil_of_length_eq_zero (by omega)
      subst hp0
      exact hk O oc _ _ (K6.then (Kp.drew w6)) ho6.drew fr ⟨[], post, hRp, rfl, hpost, fun q' y' e => by simp at e⟩
end Go.Br
