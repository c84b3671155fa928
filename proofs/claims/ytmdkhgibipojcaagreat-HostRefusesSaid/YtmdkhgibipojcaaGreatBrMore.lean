/- Slices of structs, fields of what is given, arrays that are values. -/
import Derived.Test.YtmdkhgibipojcaaGreatBrRow
import Derived.Test.YtmdkhgibipojcaaGreatBrSlice
set_option linter.unusedVariables false
set_option linter.unusedSimpArgs false
namespace Go.Br
open Go

/-- A field of a struct that is given. -/
theorem rd_field {P : Program} {w : World} {f : Nat} {t ft : TypeId} {i off z z' : Nat} {cs : List Value} (hf : (fieldOf P t i).map (fun f => (f.type, f.offset)) = some (ft, off)) (hz : P.cellsOf t = z) (hz' : P.cellsOf ft = z') (h : RdT P w f t cs) :
    cs.length = z ∧ ∃ f', RdT P w f' ft ((cs.drop off).take z') := by
  cases f with
  | zero => exact h.elim
  | succ f =>
    unfold fieldOf at hf
    split at hf
    · rename_i fs hu
      unfold RdT at h; rw [hu] at h
      obtain ⟨h1, h2⟩ := h
      cases hg : fs[i]? with
      | none => rw [hg] at hf; cases hf
      | some fd =>
        rw [hg] at hf
        simp at hf
        have := h2 fd (by simpa using Array.mem_of_getElem? hg)
        rw [hf.1, hf.2, hz'] at this
        exact ⟨by rw [h1, hz], f, this⟩
    · cases hf

/-- An element of an array that is a value. -/
theorem idx_arr {P : Program} {T e : TypeId} {n r : Nat} {cs : List Value} {v : Value} {w : World} (hu : P.underlying T = some (.array n e)) (hz : sizeAt P e = some 1) (ha : ldT P e = true) (hr : r < n) (hv : cs[r]? = some v) :
    (Instr.index T (.agg cs.toArray) (.int .i64 (r : Int))).run P w = .ok v w := by
  simp only [ldT, Bool.and_eq_true, Bool.not_eq_true'] at ha
  have hag : (isAgg e).run P w = .ok false w := by
    have h1 := ha.1
    unfold isAggT at h1
    cases hu : P.underlying e with
    | none => rw [hu] at ha; cases ha.2
    | some d =>
      rw [hu] at h1
      simp only [isAgg, Sem.run_bind, run_und hu, Result.andThen_ok]
      cases d <;> first | rfl | cases h1
  unfold sizeAt at hz
  cases hi : P.info? e with
  | none => simp [hi] at hz
  | some i =>
    simp [hi] at hz
    simp [Instr.index, asIntOf, run_und hu, hr, part, hag, sizeOf, run_info hi, hz, hv]

/-- The cells of a row of structs. -/
theorem flat_length {α : Type} {g : α → List Value} {z : Nat} (hz : ∀ x, (g x).length = z) (L : List α) : (L.flatMap g).length = L.length * z := by
  induction L with
  | nil => simp
  | cons x L ih => simp only [List.flatMap_cons, List.length_append, hz, ih, List.length_cons, Nat.add_mul, Nat.one_mul]; omega
theorem flat_get {α : Type} {g : α → List Value} {z : Nat} (hz : ∀ x, (g x).length = z) : ∀ {L : List α} {i j : Nat} {x : α}, L[i]? = some x → j < z → (L.flatMap g)[i * z + j]? = (g x)[j]? := by
  intro L
  induction L with
  | nil => intro i j x h _; simp at h
  | cons y L ih =>
    intro i j x h hj
    rw [List.flatMap_cons]
    cases i with
    | zero =>
      simp at h; subst h
      rw [Nat.zero_mul, Nat.zero_add, List.getElem?_append_left (by rw [hz]; exact hj)]
    | succ i =>
      simp at h
      rw [List.getElem?_append_right (by rw [hz, Nat.add_mul]; omega), hz, show (i + 1) * z + j - z = i * z + j by rw [Nat.add_mul]; omega]
      exact ih h hj
theorem row_flat {α : Type} {w : World} {A : Option Addr} {n z : Nat} {g : α → List Value} (hz : ∀ x, (g x).length = z) (h : ∀ i, i < n → ∃ x a, A = some a ∧ ∀ j v, (g x)[j]? = some v → w.cell? (a.add (i * z + j)) = some v) :
    ∃ L : List α, L.length = n ∧ Row w A (L.flatMap g) := by
  obtain ⟨L, hl, hx⟩ := exists_list (p := fun i x => ∃ a, A = some a ∧ ∀ j v, (g x)[j]? = some v → w.cell? (a.add (i * z + j)) = some v) n h
  refine ⟨L, hl, fun k v hk => ?_⟩
  have hk2 : k < L.length * z := by
    rw [← flat_length hz L]
    exact (List.getElem?_eq_some_iff.1 hk).1
  rcases Nat.eq_zero_or_pos z with h0 | h0
  · subst h0; omega
  have hd : k / z < L.length := (Nat.div_lt_iff_lt_mul h0).2 hk2
  obtain ⟨x, e⟩ : ∃ x, L[k / z]? = some x := ⟨L[k / z], by simp [hd]⟩
  have hm : k / z * z + k % z = k := by rw [Nat.mul_comm]; exact Nat.div_add_mod k z
  have := flat_get hz e (Nat.mod_lt k h0)
  rw [hm, hk] at this
  obtain ⟨a, h1, h2⟩ := hx _ x e
  refine ⟨a, h1, ?_⟩
  have := h2 _ v this.symm
  rwa [hm] at this

theorem flat_set {α : Type} {g : α → List Value} {z : Nat} (hz : ∀ x, (g x).length = z) : ∀ {L : List α} {i j : Nat} {x y : α} {v : Value}, L[i]? = some x → j < z → g y = (g x).set j v → (L.flatMap g).set (i * z + j) v = (L.set i y).flatMap g := by
  intro L
  induction L with
  | nil => intro i j x y v h; simp at h
  | cons u L ih =>
    intro i j x y v h hj hy
    cases i with
    | zero =>
      simp at h; subst h
      rw [Nat.zero_mul, Nat.zero_add, List.flatMap_cons, List.set_append_left _ _ (by rw [hz]; exact hj), List.set_cons_zero, List.flatMap_cons, hy]
    | succ i =>
      simp at h
      have e : (i + 1) * z + j - z = i * z + j := by rw [Nat.add_mul]; omega
      rw [List.flatMap_cons, List.set_append_right _ _ (by rw [hz, Nat.add_mul]; omega), hz, e, List.set_cons_succ, List.flatMap_cons, ih h hj hy]
/-- An element of a row of structs. -/
theorem row_get {α : Type} {g : α → List Value} {z : Nat} {w : World} {A : Option Addr} {L : List α} {i : Nat} {x : α} (hz : ∀ x, (g x).length = z) (h0 : 0 < z) (h : Row w A (L.flatMap g)) (hx : L[i]? = some x) :
    ∃ a, A = some a ∧ ∀ j v, (g x)[j]? = some v → w.cell? (Addr.add (Addr.add a (Int.toNat (i : Int) * z)) j) = some v := by
  obtain ⟨v0, e0⟩ : ∃ v, (g x)[0]? = some v := ⟨(g x)[0]'(by rw [hz]; exact h0), by simp [hz, h0]⟩
  obtain ⟨a, rfl, _⟩ := h _ _ ((flat_get hz hx h0).trans e0)
  refine ⟨a, rfl, fun j v hj => ?_⟩
  have hjz : j < z := by rw [← hz x]; exact (List.getElem?_eq_some_iff.1 hj).1
  obtain ⟨a', ha, h1⟩ := h _ _ ((flat_get hz hx hjz).trans hj)
  injection ha with ha
  subst ha
  rw [add_add, Int.toNat_natCast]
  exact h1
theorem ldAt {P : Program} {w : World} {t : TypeId} {a : Addr} {cs : List Value} (ht : isAggT P t = true) (hz : sizeAt P t = some cs.length) (h : ∀ j v, cs[j]? = some v → w.cell? (a.add j) = some v) : (loadVar t a).run P w = .ok (.agg cs.toArray) w :=
  run_loadVar_agg ht hz h
theorem ldAll {P : Program} {w : World} {t : TypeId} {B T : Nat} {cs : List Value} (hb : Blk w B T cs) (ht : isAggT P t = true) (hz : sizeAt P t = some cs.length) : (loadVar t ⟨B, 0, none⟩).run P w = .ok (.agg cs.toArray) w :=
  run_loadVar_agg ht hz fun j v hj => by rw [add_lit, hb.cell, Nat.zero_add]; exact hj
/-- A field of an element that is written. -/
theorem st_own {α : Type} {P : Program} {w : World} {t e : TypeId} {z : Nat} {g : α → List Value} {a : Addr} {n c : Nat} {L : List α} {i j : Nat} {x y : α} {v : Value} (hz : ∀ x, (g x).length = z) (ho : Own w e z (some a) n c (L.flatMap g)) (hx : L[i]? = some x) (hj : j < z) (hy : g y = (g x).set j v)
    (h1 : sizeAt P t = some 1) (hv : v.oneCell' = true) {K : World → Prop} (hk : ∀ w', Kp [a.block] w w' → w'.heap.size = w.heap.size → Own w' e z (some a) n c ((L.set i y).flatMap g) → K w') :
    RUNU P (storeVar t (Addr.add (Addr.add a (Int.toNat (i : Int) * z)) j) v) w K := by
  rcases ho with ⟨h, _⟩ | ⟨B, spare, hA, hb, h2, h3, h4⟩
  · cases h
  injection hA with hA
  subst hA
  rw [add_add, Int.toNat_natCast]
  have hi : i < L.length := (List.getElem?_eq_some_iff.1 hx).1
  have hk1 : i * z + j < (L.flatMap g).length := by
    rw [flat_length hz]
    have : (i + 1) * z ≤ L.length * z := Nat.mul_le_mul_right z hi
    rw [Nat.add_mul] at this; omega
  refine st (i * z + j) hb h1 hv (by rw [List.length_append]; omega) fun w' k s hb' => hk w' k s (.inr ⟨B, spare, rfl, ?_, ?_, h3, h4⟩)
  · rw [List.set_append_left _ _ hk1, flat_set hz hx hj hy] at hb'
    exact hb'
  · rw [← h2, flat_length hz, flat_length hz, List.length_set]
theorem alloc1 {P : Program} {w : World} {t : TypeId} {z b : Nat} {zv : Value} (hi : TI P t z b zv) {K : Value → World → Prop} (hk : ∀ w', Kp [] w w' → w'.heap.size = w.heap.size + 1 → Blk w' w.heap.size t zv.cells.toList → K (.pointer (some ⟨w.heap.size, 0, none⟩)) w') :
    RUN P (Instr.alloc t true (.tuple #[])) w K := by
  obtain ⟨i, h1, h2, h3, h4⟩ := hi
  exact RUN.of (run_alloc w t h1 h4) (hk _ (alloc_kp _ _) (by simp) (Blk.new w zv.cells t))
theorem box1 {P : Program} {w : World} {t : TypeId} {v : Value} {K : Value → World → Prop} (hk : ∀ w', Kp [] w w' → w'.heap.size = w.heap.size + 1 → Blk w' w.heap.size t v.cells.toList → K (.pointer (some ⟨w.heap.size, 0, none⟩)) w') :
    RUN P (Instr.box t v) w K := RUN.of (run_box w t v) (hk _ (alloc_kp _ _) (by simp) (Blk.new w v.cells t))
/-- A whole variable that is written. -/
theorem stAll {P : Program} {w : World} {t : TypeId} {B T z : Nat} {cs : List Value} {v : Value} (hb : Blk w B T cs) (hl : cs.length = z) (hz : sizeAt P t = some z) (hv : v.cells.size = z) (hf : Flat v.cells.toList) {K : World → Prop}
    (hk : ∀ w', Kp [B] w w' → w'.heap.size = w.heap.size → Blk w' B T v.cells.toList → K w') : RUNU P (storeVar t ⟨B, 0, none⟩ v) w K := by
  have hr := run_storeVar (P := P) (t := t) (v := v) (o := 0) hb (by rw [hv]; exact hz) (by omega) hf
  have e : splice cs 0 v.cells.toList = v.cells.toList := by
    unfold splice
    rw [List.drop_eq_nil_of_le (by simp; omega)]
    simp
  rw [e] at hr
  exact RUNU.of hr (hk _ (putBlk_kp _ _ _) (putBlk_size _ _ _) (hb.put (by simp; omega)))
/-- A new variable that is given a value. -/
theorem tmp1 {P : Program} {w : World} {t : TypeId} {z b : Nat} {zv v : Value} (hi : TI P t z b zv) (hzc : zv.cells.size = z) (hv : v.cells.size = z) (hf : Flat v.cells.toList) {K : Addr → World → Prop}
    (hk : ∀ w', Kp [] w w' → w'.heap.size = w.heap.size + 1 → Blk w' w.heap.size t v.cells.toList → K ⟨w.heap.size, 0, none⟩ w') :
    RUN P (Instr.alloc t true (.tuple #[])) w fun v2 w2 => ∃ a, v2 = .pointer (some a) ∧ RUNU P (storeVar t a v) w2 fun w3 => K a w3 := by
  refine alloc1 hi fun w1 k1 s1 h1 => ⟨_, rfl, stAll h1 (by simp [hzc]) hi.size hv hf fun w2 k2 s2 h2 => hk w2 (k1.new k2 (by simp)) (by rw [s2, s1]) h2⟩
/-- One more. -/
theorem app1 {P : Program} {w : World} {t ty e : TypeId} {z b : Nat} {zv : Value} (hu : P.underlying t = some (.slice e)) (hi : TI P e z b zv) (hzc : zv.cells.size = z) (hb0 : b ≠ 0) (hz0 : z ≤ b) {A : Option Addr} {n c : Nat} {cs : List Value} (ho : Own w e z A n c cs)
    {v : Value} {new : Array Value} (hlit : ∀ w, (Instr.buildSlice t 1 #[(0, v)]).run P w = .ok (.slice (some ⟨w.heap.size, 0, none⟩) 1 1) (w.alloc (.cells new e))) (hn : new.size = z) (hf : Flat new.toList) (hbig : (n + 1) * b ≤ 140737488355328)
    {K : Option Addr → Nat → Nat → World → Prop} (hk : ∀ A' c' w', Kp (fpA A) w w' → Own w' e z A' (n + 1) c' (cs ++ new.toList) → (A' = A ∨ ∃ a, A' = some a ∧ w.heap.size ≤ a.block) → K A' (n + 1) c' w') :
    RUN P (Instr.buildSlice t 1 #[(0, v)]) w fun v5 w3 => ∃ (x : Option Addr) (N C : Nat), v5 = .slice x N C ∧ RUN P (Builtin.append_ #[t, t] ty #[.slice A n c, .slice x N C]) w3 fun v6 w4 => ∃ (y : Option Addr) (yN yC : Nat), v6 = .slice y yN yC ∧ K y yN yC w4 := by
  refine RUN.of (hlit w) ⟨_, _, _, rfl, ?_⟩
  have ka := alloc_kp w (.cells new e)
  have hrow : Row (w.alloc (.cells new e)) (some ⟨w.heap.size, 0, none⟩) new.toList := by
    have := (Blk.new w new e).row 0 new.size
    rw [List.drop_zero, List.take_of_length_le (by simp)] at this
    exact this
  refine append1 hu hi hzc hb0 hz0 (ho.kp ka (by simp)) (m := 1) hrow (by simp [hn]) hf hbig fun A' c' w' k ho' hA => ⟨_, _, _, rfl, hk A' c' w' (ka.trans k (by simp) (fun i h _ => h)) ho' ?_⟩
  rcases hA with h | ⟨a, h1, h2⟩
  · exact .inl h
  · exact .inr ⟨a, h1, by have := ka.size; omega⟩
/-- What a slice becomes is new, if what it was is new. -/
theorem fresh_of {A A' : Option Addr} {s n : Nat} (h : ∀ b ∈ fpA A, s ≤ b) (hA : A' = A ∨ ∃ a, A' = some a ∧ n ≤ a.block) (hs : s ≤ n) : ∀ b ∈ fpA A', s ≤ b := by
  rcases hA with rfl | ⟨a, rfl, h2⟩
  · exact h
  · simp only [fpA, List.mem_singleton]; intro b hb; subst hb; omega
theorem apart_of {A A' : Option Addr} {n : Nat} {S : List Nat} (h : ∀ b ∈ fpA A, b ∉ S) (hA : A' = A ∨ ∃ a, A' = some a ∧ n ≤ a.block) (hs : ∀ b ∈ S, b < n) : ∀ b ∈ fpA A', b ∉ S := by
  rcases hA with rfl | ⟨a, rfl, h2⟩
  · exact h
  · simp only [fpA, List.mem_singleton]; intro b hb hc; subst hb; have := hs _ hc; omega
/-- A row of numbers. -/
def iv (x : Int) : List Value := [.int .i64 x]
theorem iv_length (x : Int) : (iv x).length = 1 := rfl
def Ints (w : World) (A : Option Addr) (xs : List Int) : Prop := Row w A (xs.flatMap iv)
theorem rd_ints {P : Program} {w : World} {f : Nat} {t e : TypeId} {v : Value} (hu : P.underlying t = some (.slice e)) (he : P.underlying e = some (.int .i64)) (hz : P.cellsOf e = 1) (h : RdT P w f t [v]) : ∃ A xs c, v = .slice A xs.length c ∧ Ints w A xs := by
  obtain ⟨g, A, n, c, e1, _, _, hl⟩ := rd_slice hu hz h
  injection e1 with e1
  subst e1
  obtain ⟨L, hL, hr⟩ := row_flat (w := w) (A := A) (n := n) iv_length fun i hi => by
    obtain ⟨a, es, q1, q2, q3, q4⟩ := hl i hi
    obtain ⟨x, rfl, _⟩ := rd_int he q4
    exact ⟨x, a, q1, fun j v hj => q3 j v hj⟩
  exact ⟨A, L, c, by rw [hL], hr⟩
theorem Ints.get {P : Program} {w : World} {A : Option Addr} {xs : List Int} (h : Ints w A xs) {j : Nat} {x : Int} (hx : xs[j]? = some x) : ∃ a, A = some a ∧ ∀ w', Kp [] w w' → ∀ {t : TypeId}, ldT P t = true → (loadVar t (Addr.add a (Int.toNat (j : Int) * 1))).run P w' = .ok (.int .i64 x) w' := by
  obtain ⟨a, ea, hc⟩ := row_get iv_length (by decide) h hx
  refine ⟨a, ea, fun w' k t ht => ldc (cell_old k ?_) ht⟩
  have := hc 0 _ rfl
  rwa [add_add, Nat.add_zero] at this
theorem ex_get {α : Type} {L : List α} {j : Nat} (h : j < L.length) : ∃ x, L[j]? = some x := ⟨L[j], by simp [h]⟩
theorem take_snoc' {α : Type} {L : List α} {j : Nat} {x : α} (h : L[j]? = some x) : L.take (j + 1) = L.take j ++ [x] := by rw [List.take_add_one, h]; rfl
theorem drop_cons' {α : Type} {L : List α} {j : Nat} {x : α} (h : L[j]? = some x) : L.drop j = x :: L.drop (j + 1) := by
  obtain ⟨h1, h2⟩ := List.getElem?_eq_some_iff.1 h
  rw [← h2]; exact List.drop_eq_getElem_cons h1
theorem filter_both {α : Type} (p : α → Bool) (L : List α) : (L.filter p).length + (L.filter fun x => !p x).length = L.length := by
  induction L with
  | nil => rfl
  | cons x L ih => cases h : p x <;> simp [List.filter_cons, h] <;> omega
/-- Rows of bytes. -/
def BRows (w : World) (A : Option Addr) (n : Nat) : Prop := ∀ i, i < n → ∃ a B m c xs, A = some a ∧ w.cell? (a.add i) = some (.slice B m c) ∧ m ≤ c ∧ xs.length = m ∧ Row w B (bvs xs)
theorem rd_brows {P : Program} {w : World} {f : Nat} {t e u : TypeId} {v : Value} (hu : P.underlying t = some (.slice e)) (he : P.underlying e = some (.slice u)) (hb : P.underlying u = some (.int .u8)) (hz : P.cellsOf e = 1) (hz' : P.cellsOf u = 1) (h : RdT P w f t [v]) : ∃ A n c, v = .slice A n c ∧ BRows w A n := by
  obtain ⟨g, A, n, c, e1, _, _, hl⟩ := rd_slice hu hz h
  injection e1 with e1
  refine ⟨A, n, c, e1, fun i hi => ?_⟩
  obtain ⟨a, es, q1, q2, q3, q4⟩ := hl i hi
  obtain ⟨B, m, c, xs, rfl, hm, _, hx, hrow⟩ := rd_bytes he hb hz' q4
  refine ⟨a, B, m, c, xs, q1, ?_, hm, hx, hrow⟩
  have := q3 0 _ rfl
  rwa [Nat.mul_one, Nat.add_zero] at this
/-- Bytes that stand in the text. -/
theorem newBytes {P : Program} {w : World} {t e : TypeId} (hu : P.underlying t = some (.slice e)) (he : P.underlying e = some (.int .u8)) {parts : Array (Nat × Value)} {n : Nat} (xs : List UInt8)
    (hlit : ∀ w, (Instr.buildSlice t n parts).run P w = .ok (.slice (some ⟨w.heap.size, 0, none⟩) n n) (w.alloc (.cells (bvs xs).toArray e))) {K : Option Addr → Nat → Nat → World → Prop}
    (hk : ∀ w' A, Kp [] w w' → Row w' A (bvs xs) → (∀ x, A = some x → w.heap.size ≤ x.block) → K A n n w') :
    RUN P (Instr.buildSlice t n parts) w fun v2 w2 => ∃ (x : Option Addr) (N C : Nat), v2 = .slice x N C ∧ RUN P (convert t t (.slice x N C)) w2 fun v3 w3 => ∃ (y : Option Addr) (yN yC : Nat), v3 = .slice y yN yC ∧ K y yN yC w3 := by
  refine RUN.of (hlit w) ⟨_, _, _, rfl, ?_⟩
  have k1 := alloc_kp w (.cells (bvs xs).toArray e)
  refine RUN.bytesBytes hu he (Blk.new w (bvs xs).toArray e) fun w' k2 s2 hb => ⟨_, _, _, rfl, hk w' _ (k1.new k2 (by simp)) ?_ (by intro x hx; injection hx with hx; subst hx; exact Nat.le_refl _)⟩
  have := hb.row 0 (bvs xs).length
  rw [List.drop_zero, List.take_of_length_le (by simp)] at this
  exact this
/-- An element that is written whole. -/
theorem flat_splice {α : Type} {g : α → List Value} {z : Nat} (hz : ∀ x, (g x).length = z) {y : α} {sp : List Value} : ∀ {L : List α} {i : Nat}, i < L.length → splice (L.flatMap g ++ sp) (i * z) (g y) = (L.set i y).flatMap g ++ sp := by
  intro L
  induction L with
  | nil => intro i h; simp at h
  | cons u L ih =>
    intro i h
    cases i with
    | zero =>
      unfold splice
      rw [List.set_cons_zero, List.flatMap_cons, List.flatMap_cons, Nat.zero_mul, Nat.zero_add, hz, List.take_zero, List.nil_append, List.append_assoc, List.append_assoc]
      congr 1
      rw [List.drop_append_of_le_length (by rw [hz]; exact Nat.le_refl _), List.drop_eq_nil_of_le (by rw [hz]; exact Nat.le_refl _), List.nil_append]
    | succ i =>
      have hi : i < L.length := by simpa using h
      have := ih hi
      unfold splice at this ⊢
      rw [List.set_cons_succ, List.flatMap_cons, List.flatMap_cons, List.append_assoc (g u), List.append_assoc (g u), ← this, hz]
      have e1 : (i + 1) * z = (g u).length + i * z := by rw [hz, Nat.add_mul]; omega
      have e2 : (i + 1) * z + z = (g u).length + (i * z + z) := by rw [e1]; omega
      rw [e2, e1, List.take_length_add_append, List.drop_length_add_append]
      simp [List.append_assoc]
theorem st_elem {α : Type} {P : Program} {w : World} {t e : TypeId} {z : Nat} {g : α → List Value} {a : Addr} {n c : Nat} {L : List α} {i : Nat} {y : α} {v : Value} (hz : ∀ x, (g x).length = z) (ho : Own w e z (some a) n c (L.flatMap g)) (hi : i < L.length) (hv : v.cells.toList = g y)
    (h1 : sizeAt P t = some z) (hf : Flat (g y)) {K : World → Prop} (hk : ∀ w', Kp [a.block] w w' → w'.heap.size = w.heap.size → Own w' e z (some a) n c ((L.set i y).flatMap g) → K w') :
    RUNU P (storeVar t (Addr.add a (Int.toNat (i : Int) * z)) v) w K := by
  rcases ho with ⟨h, _⟩ | ⟨B, spare, hA, hb, h2, h3, h4⟩
  · cases h
  injection hA with hA
  subst hA
  rw [Int.toNat_natCast, add_lit, Nat.zero_add]
  have hvz : v.cells.size = z := by have := congrArg List.length hv; simpa [hz] using this
  have hL := flat_length hz L
  have hle : (i + 1) * z ≤ L.length * z := Nat.mul_le_mul_right z hi
  rw [Nat.add_mul] at hle
  have hr := run_storeVar (P := P) (t := t) (v := v) (o := i * z) hb (by rw [hvz]; exact h1) (by rw [hvz, List.length_append]; omega) (by rw [hv]; exact hf)
  rw [hv, flat_splice hz hi] at hr
  refine RUNU.of hr (hk _ (putBlk_kp _ _ _) (putBlk_size _ _ _) (.inr ⟨B, spare, rfl, hb.put ?_, ?_, h3, h4⟩))
  · rw [List.length_append, List.length_append, flat_length hz, flat_length hz, List.length_set]
  · rw [← h2, flat_length hz, flat_length hz, List.length_set]
/-- The first ones of a slice. -/
theorem own_take {α : Type} {w : World} {e : TypeId} {z : Nat} {g : α → List Value} {A : Option Addr} {c j : Nat} {L : List α} (hz : ∀ x, (g x).length = z) (ho : Own w e z A L.length c (L.flatMap g)) (hj : j ≤ L.length) (hA : A ≠ none) : Own w e z A j c ((L.take j).flatMap g) := by
  rcases ho with ⟨h, _⟩ | ⟨B, spare, rfl, hb, h2, h3, h4⟩
  · exact absurd h hA
  · have e1 : L.flatMap g = (L.take j).flatMap g ++ (L.drop j).flatMap g := by rw [← List.flatMap_append, List.take_append_drop]
    refine .inr ⟨B, (L.drop j).flatMap g ++ spare, rfl, ?_, ?_, ?_, by omega⟩
    · rw [← List.append_assoc, ← e1]; exact hb
    · rw [flat_length hz, List.length_take]; congr 1; omega
    · rw [List.length_append, flat_length hz, List.length_drop, h3, ← Nat.add_mul]; congr 1; omega
theorem kp_sub {S S' : List Nat} {w w1 w2 : World} (h : Kp S w w1) (h' : Kp S' w1 w2) (hs : ∀ i ∈ S', i ∈ S ∨ w.heap.size ≤ i) : Kp S w w2 :=
  h.trans h' (fun _ h => h) fun i hi hlt => by rcases hs i hi with h | h <;> first | exact h | omega
end Go.Br
