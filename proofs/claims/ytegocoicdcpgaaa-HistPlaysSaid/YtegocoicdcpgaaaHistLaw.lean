/- A count of numbers: what a call of each of its functions does, and the law of rows. -/
import Derived.Test.YtegocoicdcpgaaaNHistLaw
import Derived.Test.YtegocoicdcpgaaaHist
import Derived.Test.YtegocoicdcpgaaaBrSlice
set_option linter.unusedVariables false
namespace Go.Br
open Go

def hcs (f : Nat → Nat) (m s : Nat) : List Value := (List.range 120).map (fun r => Value.int .i64 (f r : Int)) ++ [.int .i64 (m : Int), .int .i64 (s : Int)]
theorem hcs_length (f : Nat → Nat) (m s : Nat) : (hcs f m s).length = 122 := by simp [hcs]
theorem hcs_row (f : Nat → Nat) (m s : Nat) {r : Nat} (h : r < 120) : (hcs f m s)[r]? = some (.int .i64 (f r : Int)) := by
  unfold hcs
  rw [List.getElem?_append_left (by simpa using h)]
  simp [h]
theorem hcs_many (f : Nat → Nat) (m s : Nat) : (hcs f m s)[120]? = some (.int .i64 (m : Int)) := by
  unfold hcs
  rw [List.getElem?_append_right (by simp)]
  simp
theorem hcs_sum (f : Nat → Nat) (m s : Nat) : (hcs f m s)[121]? = some (.int .i64 (s : Int)) := by
  unfold hcs
  rw [List.getElem?_append_right (by simp)]
  simp
theorem hcs_ext {l : List Value} {f : Nat → Nat} {m s : Nat} (hl : l.length = 122) (h1 : ∀ r, r < 120 → l[r]? = some (.int .i64 (f r : Int))) (h2 : l[120]? = some (.int .i64 (m : Int))) (h3 : l[121]? = some (.int .i64 (s : Int))) : l = hcs f m s := by
  refine ext_lt (by rw [hl, hcs_length]) fun i hi => ?_
  rw [hl] at hi
  by_cases c : i < 120
  · rw [h1 i c, hcs_row f m s c]
  · by_cases d : i = 120
    · rw [d, h2, hcs_many]
    · rw [show i = 121 by omega, h3, hcs_sum]
theorem hcs_set (f : Nat → Nat) (m s v : Nat) {r : Nat} (h : r < 120) : (hcs f m s).set r (.int .i64 (v : Int)) = hcs (fun x => if x = r then v else f x) m s := by
  refine hcs_ext (by simp [hcs_length]) (fun x hx => ?_) ?_ ?_
  · by_cases c : r = x
    · subst c; rw [List.getElem?_set_self (by rw [hcs_length]; omega)]; simp
    · rw [List.getElem?_set_ne c, hcs_row f m s hx, if_neg (fun e => c e.symm)]
  · rw [List.getElem?_set_ne (by omega), hcs_many]
  · rw [List.getElem?_set_ne (by omega), hcs_sum]
theorem hcs_set_many (f : Nat → Nat) (m s v : Nat) : (hcs f m s).set 120 (.int .i64 (v : Int)) = hcs f v s := by
  refine hcs_ext (by simp [hcs_length]) (fun x hx => ?_) ?_ ?_
  · rw [List.getElem?_set_ne (by omega), hcs_row f m s hx]
  · rw [List.getElem?_set_self (by rw [hcs_length]; omega)]
  · rw [List.getElem?_set_ne (by omega), hcs_sum]
theorem hcs_set_sum (f : Nat → Nat) (m s v : Nat) : (hcs f m s).set 121 (.int .i64 (v : Int)) = hcs f m v := by
  refine hcs_ext (by simp [hcs_length]) (fun x hx => ?_) ?_ ?_
  · rw [List.getElem?_set_ne (by omega), hcs_row f m s hx]
  · rw [List.getElem?_set_ne (by omega), hcs_many]
  · rw [List.getElem?_set_self (by rw [hcs_length]; omega)]

structure HistAt (w : World) (p : Nat) (f : Nat → Nat) (m s : Nat) : Prop where
  hp : Blk w p 56 (hcs f m s)
  le : ∀ r, r < 120 → f r ≤ m
theorem HistAt.kp {S : List Nat} {w w' : World} {p m s : Nat} {f : Nat → Nat} (h : HistAt w p f m s) (k : Kp S w w') (h1 : p ∉ S) : HistAt w' p f m s := ⟨h.hp.kp k h1, h.le⟩
theorem HistAt.drew {w : World} {p m s : Nat} {f : Nat → Nat} (h : HistAt w p f m s) : HistAt w.drew p f m s := ⟨h.hp.drew, h.le⟩
theorem at_row (p r : Nat) : Addr.add (Addr.add ⟨p, 0, none⟩ 0) (Int.toNat (r : Int) * 1) = Addr.add ⟨p, 0, none⟩ r := by rw [add_add]; simp

def zH : Value := .agg (Array.replicate 122 (.int .i64 0))
theorem zH_cells : zH.cells.toList = hcs (fun _ => 0) 0 0 := by
  have e : zH.cells.toList = List.replicate 122 (.int .i64 0) := by simp [zH, Value.cells]
  rw [e]
  refine hcs_ext (by simp) (fun x hx => ?_) ?_ ?_ <;> rw [List.getElem?_replicate, if_pos (by omega)] <;> rfl
theorem buildH (w : World) : (Instr.build 56 #[]).run PG w = .ok zH w := by kernel_rfl
theorem infoH : ∃ i, PG.info? 56 = some i ∧ i.zero = some zH ∧ i.size = 122 := by
  have h : (PG.info? 56).map (fun i => (i.zero, i.size)) = some (some zH, 122) := by kernel_rfl
  cases hi : PG.info? 56 with
  | none => rw [hi] at h; cases h
  | some i => rw [hi] at h; simp at h; exact ⟨i, rfl, h.1, h.2⟩
theorem allocH {w : World} {K : Value → World → Prop} (hk : ∀ w', Kp [] w w' → w'.heap.size = w.heap.size + 1 → HistAt w' w.heap.size (fun _ => 0) 0 0 → K (.pointer (some ⟨w.heap.size, 0, none⟩)) w') :
    RUN PG (Instr.alloc 56 true (.tuple #[])) w K := by
  obtain ⟨i, h1, h2, h3⟩ := infoH
  refine RUN.of (run_alloc w 56 h1 h2) (hk _ (alloc_kp _ _) (by simp) ⟨?_, fun _ _ => Nat.le_refl _⟩)
  rw [← zH_cells]
  exact Blk.new w zH.cells 56
theorem storeH {w : World} {p m s : Nat} {f : Nat → Nat} (h : HistAt w p f m s) {K : World → Prop} (hk : ∀ w', Kp [p] w w' → w'.heap.size = w.heap.size → HistAt w' p (fun _ => 0) 0 0 → K w') :
    RUNU PG (storeVar 56 ⟨p, 0, none⟩ zH) w K := by
  obtain ⟨i, h1, h2, h3⟩ := infoH
  have hz : zH.cells.size = 122 := by simp [zH, Value.cells]
  have hr := run_storeVar (P := PG) (t := 56) (v := zH) (o := 0) h.hp (by unfold sizeAt; rw [h1]; simp [h3, hz]) (by rw [hz, hcs_length]; omega) (by
    intro u hu
    simp [zH, Value.cells] at hu
    subst hu; rfl)
  refine RUNU.of hr (hk _ (putBlk_kp _ _ _) (putBlk_size _ _ _) ⟨?_, fun _ _ => Nat.le_refl _⟩)
  have e : splice (hcs f m s) 0 zH.cells.toList = hcs (fun _ => 0) 0 0 := by
    rw [← zH_cells]
    unfold splice
    rw [List.drop_eq_nil_of_le (by rw [hcs_length]; simp [zH, Value.cells])]
    simp
  rw [e]
  exact h.hp.put (by rw [hcs_length, hcs_length])

theorem many_ok {w : World} {p m s : Nat} {f : Nat → Nat} (h : HistAt w p f m s) {Q : Value → World → Prop} (hk : Q (.int .i64 (m : Int)) w) : CALL PG 89 [.pointer (some ⟨p, 0, none⟩)] w Q := by
  refine call89 ?_
  unfold N89
  exact RD.of (ld 120 h.hp (hcs_many _ _ _) (by kernel_rfl)) ⟨_, rfl, leti rfl hk⟩
theorem mean_ok {w : World} {p m s : Nat} {f : Nat → Nat} (h : HistAt w p f m s) (hs : s ≤ 2 ^ 62) {Q : Value → World → Prop} (hk : ∀ w', Kp [] w w' → HistAt w' p f m s → Q (.int .i64 ((s / m : Nat) : Int)) w') : CALL PG 90 [.pointer (some ⟨p, 0, none⟩)] w Q := by
  refine call90 ?_
  unfold N90
  refine RD.of (ld 120 h.hp (hcs_many _ _ _) (by kernel_rfl)) ⟨_, rfl, ?_⟩
  have hd : s / m ≤ s := Nat.div_le_self s m
  rcases Nat.eq_zero_or_pos m with h0 | h0
  · subst h0
    refine ift rfl ?_
    have := hk w (Kp.refl w) h
    rwa [Nat.div_zero] at this
  · refine iff_ (by simp; omega) ?_
    refine RD.of (ld 121 h.hp.drew (hcs_sum _ _ _) (by kernel_rfl)) ⟨_, rfl, ?_⟩
    refine RD.of (ld 120 h.hp.drew (hcs_many _ _ _) (by kernel_rfl)) ⟨_, rfl, ⟨by omega, ?_⟩⟩
    refine leti (y := ((s / m : Nat) : Int)) ?_ (hk _ (Kp.drew w) h.drew)
    have e : Int.tdiv (s : Int) (m : Int) = ((s / m : Nat) : Int) := by rw [Int.tdiv_eq_ediv_of_nonneg (by omega)]; rfl
    rw [e]
    generalize s / m = y at hd ⊢
    exact wrap_i64 (by omega) (by omega)
theorem add_ok {w : World} {p m s : Nat} {f : Nat → Nat} (h : HistAt w p f m s) {n often : Int} {o c : Nat} (ho : (o : Int) = minN (maxN often 0) 1048576) (hc : (c : Int) = minN (maxN n 0) 2147483647) (hm : m ≤ 2 ^ 40) (hs : s ≤ 2 ^ 61)
    {Q : Value → World → Prop} (hk : ∀ (w' : World) (r : Nat), IsRow c r → Kp [p] w w' → w'.heap.size = w.heap.size → HistAt w' p (fun x => if x = r then f r + o else f x) (m + o) (s + o * c) → Q (.tuple #[]) w') :
    CALL PG 37 [.pointer (some ⟨p, 0, none⟩), .int .i64 n, .int .i64 often] w Q := by
  refine call37 ?_
  unfold N37
  have hol : o ≤ 1048576 := by have := cl_or (by decide) ho; omega
  have hcl : c ≤ 2147483647 := by have := cl_or (by decide) hc; omega
  have hoc : o * c ≤ 1048576 * 2147483647 := Nat.mul_le_mul hol hcl
  refine leti ho.symm ?_
  refine ⟨fun w' => w' = w.drew, rfl, ?_⟩
  refine row_ok hc fun r hr => ⟨_, rfl, fun w' => w' = w.drew, fun _ h => h, rfl, ?_⟩
  have hr1 := hr.1
  have hle := h.le r hr1
  refine ⟨⟨by omega, by omega⟩, ?_⟩
  rw [at_row]
  refine ⟨_, fun w' e => by subst e; exact ld r h.hp.drew (hcs_row _ _ _ hr1) (by kernel_rfl), _, rfl, ⟨by omega, by omega⟩, ?_⟩
  rw [show IntKind.i64.wrap (((f r : Nat) : Int) + (o : Int)) = ((f r + o : Nat) : Int) by rw [wrap_i64 (by omega) (by omega)]; omega]
  refine st r h.hp.drew (by kernel_rfl) rfl (by rw [hcs_length]; omega) fun w1 k1 s1 h1 => ?_
  rw [hcs_set _ _ _ _ hr1] at h1
  refine RD.of (ld 120 h1 (hcs_many _ _ _) (by kernel_rfl)) ⟨_, rfl, ?_⟩
  rw [show IntKind.i64.wrap ((m : Int) + (o : Int)) = ((m + o : Nat) : Int) by rw [wrap_i64 (by omega) (by omega)]; omega]
  refine st 120 h1 (by kernel_rfl) rfl (by rw [hcs_length]; omega) fun w2 k2 s2 h2 => ?_
  rw [hcs_set_many] at h2
  refine RD.of (ld 121 h2 (hcs_sum _ _ _) (by kernel_rfl)) ⟨_, rfl, ?_⟩
  rw [← hc, show IntKind.i64.wrap ((s : Int) + IntKind.i64.wrap ((o : Int) * (c : Int))) = ((s + o * c : Nat) : Int) by
    rw [show (o : Int) * (c : Int) = ((o * c : Nat) : Int) by push_cast; rfl]
    generalize o * c = y at hoc ⊢
    rw [wrap_i64 (n := (y : Int)) (by omega) (by omega), wrap_i64 (by omega) (by omega)]; omega]
  refine st 121 h2 (by kernel_rfl) rfl (by rw [hcs_length]; omega) fun w3 k3 s3 h3 => ?_
  rw [hcs_set_sum] at h3
  refine hk w3 r hr (((Kp.drew w).mono (by simp)).then (k1.then (k2.then k3))) (by rw [s3, s2, s1]; rfl) ⟨h3, fun x hx => ?_⟩
  have := h.le x hx
  by_cases c : x = r <;> simp only [c, if_true, if_false] <;> omega

theorem alive_ok {w : World} {Q : Value → World → Prop} (hk : ∀ w', Kp [] w w' → Q (.bool true) w') : CALL PG 29 [] w Q := by
  refine call29 ?_
  unfold N29
  refine RD.of (buildH w) ⟨_, rfl, ?_⟩
  refine allocH fun w1 k1 s1 h1 => ⟨_, rfl, ?_⟩
  refine storeH h1 fun w2 k2 s2 h2 => ?_
  refine add_ok (o := 2) (c := 5) h2 (by decide) (by decide) (by decide) (by decide) fun w3 r hr k3 s3 h3 => ⟨rfl, ?_⟩
  have k : Kp [] w w3 := k1.new (k2.then k3) (by simp)
  clear hr
  refine row_ok (c := 5) (by decide) fun r5 hr5 => ⟨_, rfl, ?_⟩
  have e5 : r5 = 5 := hr5.uniq ⟨by decide, by decide, by decide⟩
  subst e5
  refine ift rfl (row_ok (c := 9) (by decide) fun r9 hr9 => ⟨_, rfl, ?_⟩)
  have e9 : r9 = 8 := hr9.uniq ⟨by decide, by decide, by decide⟩
  subst e9
  refine ift rfl (least_ok (d := 8) (by decide) fun _ => ⟨_, rfl, ift (by decide) (many_ok h3 ⟨_, rfl, ift rfl (mean_ok h3 (by decide) fun w4 k4 h4 => ⟨_, rfl, ift (by decide) (letb rfl (hk _ (k.then k4)))⟩)⟩)⟩)

theorem rows_ok {n row : Int} {w : World} {Q : Value → World → Prop} (hk : ∀ w', Kp [] w w' → Q (.bool true) w') : CALL PG 5 [.int .i64 n, .int .i64 row] w Q := by
  refine call5 ?_
  unfold N5
  obtain ⟨c, hc⟩ := cl_ex n (t := 2147483647) (by decide)
  obtain ⟨d, hd⟩ := cl_ex row (t := 120) (by decide)
  refine row_ok hc fun r hr => ⟨_, rfl, leti rfl ?_⟩
  refine rRow_ok hc fun r' hr' => ⟨_, rfl, ?_⟩
  have e := hr'.uniq hr
  subst e
  obtain ⟨r1, r2, r3⟩ := hr
  refine iff_ (by simp) ?_
  refine least_ok hd fun _ => ⟨_, rfl, rLeast_ok hd ⟨_, rfl, iff_ (by simp) ?_⟩⟩
  refine ifdf (by omega) (ifdf (by omega) ?_)
  have hcn := cl_or (by decide) hc
  refine ifd (fun _ => alive_ok fun w' k => ⟨_, rfl, letb rfl (hk _ k)⟩) fun h1 => ifd (fun _ => alive_ok fun w' k => ⟨_, rfl, letb rfl (hk _ k)⟩) fun h2 => ?_
  have hcn : (c : Int) = n := by omega
  subst hcn
  have cl : ∀ {x : Nat} {t : Int}, (x : Int) ≤ t → (x : Int) = minN (maxN (x : Int) 0) t := by
    intro x t h; unfold minN maxN; rw [if_neg (show ¬ (0 : Int) > (x : Int) by omega), if_neg (by omega)]
  refine least_ok (d := r') (cl (by omega)) fun _ => ⟨_, rfl, ifdt (by omega) ?_⟩
  rw [show IntKind.i64.wrap ((r' : Int) + 1) = ((r' + 1 : Nat) : Int) by rw [wrap_i64 (by omega) (by omega)]; rfl]
  refine least_ok (d := r' + 1) (cl (by omega)) fun _ => ⟨_, rfl, ifdt (by omega) ?_⟩
  refine least_ok (d := r') (cl (by omega)) fun _ => ⟨_, rfl, ?_⟩
  refine row_ok (c := hL r') (cl (by omega)) fun r2 hr2 => ⟨_, rfl, ?_⟩
  have e2 : r2 = r' := hr2.uniq ⟨r1, Nat.le_refl _, hL_lt r1⟩
  subst e2
  exact ift (by simp) (alive_ok fun w' k => ⟨_, rfl, letb rfl (hk _ k)⟩)
end Go.Br
