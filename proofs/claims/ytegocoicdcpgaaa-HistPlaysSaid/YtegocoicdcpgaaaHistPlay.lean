/- What comes to a count, and all that it tells: the law of plays. -/
import Derived.Test.YtegocoicdcpgaaaNHistPlay
import Derived.Test.YtegocoicdcpgaaaHistLaw
import Derived.Test.YtegocoicdcpgaaaBrMore
set_option linter.unusedVariables false
namespace Go.Br
open Go

def cl (n : Int) : Nat := (minN (maxN n 0) 2147483647).toNat
def of (n : Int) : Nat := (minN (maxN n 0) 1048576).toNat
theorem cl_is (n : Int) : (cl n : Int) = minN (maxN n 0) 2147483647 := by obtain ⟨c, h⟩ := cl_ex n (t := 2147483647) (by decide); unfold cl; omega
theorem of_is (n : Int) : (of n : Int) = minN (maxN n 0) 1048576 := by obtain ⟨c, h⟩ := cl_ex n (t := 1048576) (by decide); unfold of; omega
theorem cl_le (n : Int) : cl n ≤ 2147483647 := by have := cl_or (by decide) (cl_is n); omega
theorem of_le (n : Int) : of n ≤ 1048576 := by have := cl_or (by decide) (of_is n); omega
theorem row_ex {c : Nat} : ∀ s, s ≤ 120 → c < hL s → ∃ r, IsRow c r := by
  intro s
  induction s with
  | zero => intro _ h; exact absurd h (by simp [hL])
  | succ s ih =>
    intro hs h
    by_cases k : c < hL s
    · exact ih (by omega) k
    · exact ⟨s, by omega, by omega, h⟩
open Classical in
noncomputable def hR (n : Int) : Nat := if h : ∃ r, IsRow (cl n) r then h.choose else 0
theorem hR_is (n : Int) : IsRow (cl n) (hR n) := by
  have h : ∃ r, IsRow (cl n) r := row_ex 120 (by decide) (by rw [hL_top]; have := cl_le n; omega)
  unfold hR
  rw [dif_pos h]
  exact h.choose_spec
theorem row_ok' {n : Int} {w : World} {Q : Value → World → Prop} (hk : Q (.int .i64 (hR n : Int)) w) : CALL PG 25 [.int .i64 n] w Q :=
  row_ok (cl_is n) fun r h => by rw [h.uniq (hR_is n)]; exact hk
theorem rRow_ok' {n : Int} {w : World} {Q : Value → World → Prop} (hk : Q (.int .i64 (hR n : Int)) w) : CALL PG 26 [.int .i64 n] w Q :=
  rRow_ok (cl_is n) fun r h => by rw [h.uniq (hR_is n)]; exact hk

abbrev P2 := Int × Int
def pr (x : P2) : List Value := [.int .i64 x.1, .int .i64 x.2]
theorem pr_length (x : P2) : (pr x).length = 2 := rfl
def mny : List P2 → Nat
  | [] => 0
  | x :: l => of x.2 + mny l
def smm : List P2 → Nat
  | [] => 0
  | x :: l => of x.2 * cl x.1 + smm l
noncomputable def cnt (r : Nat) : List P2 → Nat
  | [] => 0
  | x :: l => (if hR x.1 = r then of x.2 else 0) + cnt r l
theorem mny_append (a b : List P2) : mny (a ++ b) = mny a + mny b := by induction a with | nil => simp [mny] | cons x a ih => simp [mny, ih]; omega
theorem smm_append (a b : List P2) : smm (a ++ b) = smm a + smm b := by induction a with | nil => simp [smm] | cons x a ih => simp [smm, ih]; omega
theorem cnt_append (r : Nat) (a b : List P2) : cnt r (a ++ b) = cnt r a + cnt r b := by induction a with | nil => simp [cnt] | cons x a ih => simp [cnt, ih]; omega
theorem mny_le (a : List P2) : mny a ≤ a.length * 1048576 := by induction a with | nil => simp [mny] | cons x a ih => simp only [mny, List.length_cons]; have := of_le x.2; omega
theorem smm_le (a : List P2) : smm a ≤ a.length * (1048576 * 2147483647) := by
  induction a with
  | nil => simp [smm]
  | cons x a ih => simp only [smm, List.length_cons]; have := Nat.mul_le_mul (of_le x.2) (cl_le x.1); generalize of x.2 * cl x.1 = y at *; omega
theorem cnt_le (r : Nat) (a : List P2) : cnt r a ≤ mny a := by induction a with | nil => simp [cnt] | cons x a ih => simp only [cnt, mny]; split <;> omega
theorem take_snoc {L : List P2} {j : Nat} {x : P2} (h : L[j]? = some x) : L.take (j + 1) = L.take j ++ [x] := by
  rw [List.take_add_one, h]; rfl

/-- A row of numbers, and how often each came. -/
def Ps (w : World) (A : Option Addr) (L : List P2) : Prop := Row w A (L.flatMap pr)
theorem Ps.get {w : World} {A : Option Addr} {L : List P2} (h : Ps w A L) {j : Nat} {x : P2} (hx : L[j]? = some x) : ∃ a, A = some a ∧
    (∀ w', Kp [] w w' → (loadVar 3 (Addr.add (Addr.add a (Int.toNat (j : Int) * 2)) 0)).run PG w' = .ok (.int .i64 x.1) w') ∧
    (∀ w', Kp [] w w' → (loadVar 3 (Addr.add (Addr.add a (Int.toNat (j : Int) * 2)) 1)).run PG w' = .ok (.int .i64 x.2) w') := by
  have e0 := flat_get pr_length (j := 0) hx (by decide)
  have e1 := flat_get pr_length (j := 1) hx (by decide)
  obtain ⟨a, rfl, h0⟩ := h _ _ e0
  obtain ⟨a', ha, h1⟩ := h _ _ e1
  injection ha with ha; subst ha
  refine ⟨a, rfl, fun w' k => ?_, fun w' k => ?_⟩
  · rw [add_add]; exact ldc (cell_old k h0) (by kernel_rfl)
  · rw [add_add]; exact ldc (cell_old k h1) (by kernel_rfl)
theorem get_ex {L : List P2} {j : Nat} (h : j < L.length) : ∃ x, L[j]? = some x := ⟨L[j], by simp [h]⟩

theorem often_ok {n : Int} {w : World} {Q : Value → World → Prop} (hk : Q (.int .i64 (of n : Int)) w) : CALL PG 119 [.int .i64 n] w Q := by
  refine call119 ?_
  unfold N119
  have := cl_or (by decide) (of_is n)
  refine ifd (fun h => ?_) fun h => ifd (fun h2 => ?_) fun h2 => ?_
  · rw [show (0 : Int) = (of n : Int) by omega]; exact hk
  · rw [show (1048576 : Int) = (of n : Int) by omega]; exact hk
  · refine leti (y := (of n : Int)) (by omega) hk

theorem rMany_ok {w : World} {A : Option Addr} {L : List P2} {c : Nat} (h : Ps w A L) (hL : L.length ≤ 80) {Q : Value → World → Prop} (hk : ∀ w', Kp [] w w' → Q (.tuple #[.int .i64 (mny L : Int), .int .i64 (smm L : Int)]) w') :
    CALL PG 93 [.slice A L.length c] w Q := by
  refine call93 ?_
  unfold N93
  refine ⟨fun m n s i w1 => ∃ j : Nat, j + m = L.length ∧ i = (j : Int) ∧ n = (mny (L.take j) : Int) ∧ s = (smm (L.take j) : Int) ∧ Kp [] w w1, ⟨L.length, 0, by omega, rfl, by simp [mny], by simp [smm], Kp.refl w⟩, ?_⟩
  rintro m _ _ _ w1 ⟨j, hm, rfl, rfl, rfl, k1⟩
  refine ifd (fun hlt => ?_) fun hge => ?_
  · obtain ⟨x, hx⟩ := get_ex (L := L) (j := j) (by omega)
    obtain ⟨a, rfl, l0, l1⟩ := h.get hx
    have hb : (0 : Int) ≤ (j : Int) ∧ (j : Int) < (L.length : Int) := by omega
    have b1 := mny_le (L.take j)
    have b2 := smm_le (L.take j)
    have b3 : (L.take j).length ≤ 80 := by rw [List.length_take]; omega
    have b4 := of_le x.2
    have b5 := Nat.mul_le_mul (of_le x.2) (cl_le x.1)
    refine ⟨hb, a, rfl, RD.of (l1 w1 k1) ⟨_, rfl, often_ok ⟨_, rfl, ?_⟩⟩⟩
    refine leti (y := (mny (L.take (j + 1)) : Int)) (by rw [take_snoc hx, mny_append]; simp only [mny]; rw [wrap_i64 (by omega) (by omega)]; omega) ?_
    have kd : Kp [] w w1.drew := k1.then (Kp.drew _)
    refine ⟨fun w' => Kp [] w w', kd, hb, a, rfl, ⟨_, fun w' k => l1 w' k, _, rfl, hb, a, rfl, ⟨_, fun w' k => l0 w' k, _, rfl, ?_⟩⟩⟩
    refine often_ok ⟨_, rfl, fun w' => Kp [] w w', fun _ h => h, kd, ?_⟩
    refine within_ok (cl_is x.1) ⟨_, rfl, fun w' => Kp [] w w', fun _ h => h, kd, ?_⟩
    refine leti (y := (smm (L.take (j + 1)) : Int)) ?_ (leti (y := ((j + 1 : Nat) : Int)) (wrap_i64 (by omega) (by omega)) ⟨m - 1, by omega, j + 1, by omega, rfl, rfl, rfl, kd⟩)
    rw [take_snoc hx, smm_append]
    simp only [smm, Nat.add_zero]
    rw [show (of x.2 : Int) * (cl x.1 : Int) = ((of x.2 * cl x.1 : Nat) : Int) by push_cast; rfl]
    generalize of x.2 * cl x.1 = y at b5 ⊢
    rw [wrap_i64 (n := (y : Int)) (by omega) (by omega), wrap_i64 (by omega) (by omega)]; omega
  · have e : L.take j = L := List.take_of_length_le (by omega)
    rw [e]
    exact leti rfl (leti rfl (hk w1 k1))
theorem rCount_ok {w : World} {A : Option Addr} {L : List P2} {c r : Nat} (h : Ps w A L) (hL : L.length ≤ 80) {Q : Value → World → Prop} (hk : Q (.int .i64 (cnt r L : Int)) w) :
    CALL PG 95 [.slice A L.length c, .int .i64 (r : Int)] w Q := by
  refine call95 ?_
  unfold N95
  refine ⟨fun m n i w1 => ∃ j : Nat, j + m = L.length ∧ i = (j : Int) ∧ n = (cnt r (L.take j) : Int) ∧ w1 = w, ⟨L.length, 0, by omega, rfl, by simp [cnt], rfl⟩, ?_⟩
  rintro m _ _ w1 ⟨j, hm, rfl, rfl, rfl⟩
  refine ifd (fun hlt => ?_) fun hge => ?_
  · obtain ⟨x, hx⟩ := get_ex (L := L) (j := j) (by omega)
    obtain ⟨a, rfl, l0, l1⟩ := h.get hx
    have hb : (0 : Int) ≤ (j : Int) ∧ (j : Int) < (L.length : Int) := by omega
    have b1 := mny_le (L.take j)
    have b2 := cnt_le r (L.take j)
    have b3 : (L.take j).length ≤ 80 := by rw [List.length_take]; omega
    have b4 := of_le x.2
    refine ⟨hb, a, rfl, RD.of (l0 w1 (Kp.refl _)) ⟨_, rfl, rRow_ok' ⟨_, rfl, ?_⟩⟩⟩
    by_cases c : hR x.1 = r
    · refine ift (by simp [c]) ⟨hb, a, rfl, RD.of (l1 w1 (Kp.refl _)) ⟨_, rfl, often_ok ⟨_, rfl, ?_⟩⟩⟩
      refine leti (y := (cnt r (L.take (j + 1)) : Int)) ?_ (leti (y := ((j + 1 : Nat) : Int)) (wrap_i64 (by omega) (by omega)) ⟨m - 1, by omega, j + 1, by omega, rfl, rfl, rfl⟩)
      rw [take_snoc hx, cnt_append]
      simp only [cnt, c, if_true]
      rw [wrap_i64 (by omega) (by omega)]; omega
    · refine iff_ (by simp; omega) ?_
      refine (leti (y := ((j + 1 : Nat) : Int)) (wrap_i64 (by omega) (by omega)) ⟨m - 1, by omega, j + 1, by omega, rfl, ?_, rfl⟩)
      rw [take_snoc hx, cnt_append]
      simp only [cnt, c, if_false]
      omega
  · have e : L.take j = L := List.take_of_length_le (by omega)
    rw [e]
    exact leti rfl hk

/-- How many are ahead of a row. -/
def pre (f : Nat → Nat) : Nat → Nat
  | 0 => 0
  | r + 1 => pre f r + f r
def Hit (f : Nat → Nat) (m part r : Nat) : Prop := 0 < f r ∧ m * part ≤ pre f (r + 1) * 1000
def IsBelow (f : Nat → Nat) (m part v : Nat) : Prop := (∃ r, r < 120 ∧ Hit f m part r ∧ (∀ s, s < r → ¬ Hit f m part s) ∧ v = hL r) ∨ ((∀ s, s < 120 → ¬ Hit f m part s) ∧ v = 0)
theorem IsBelow.uniq {f : Nat → Nat} {m part v v' : Nat} (h : IsBelow f m part v) (k : IsBelow f m part v') : v = v' := by
  rcases h with ⟨r, h1, h2, h3, rfl⟩ | ⟨h1, rfl⟩
  · rcases k with ⟨s, k1, k2, k3, rfl⟩ | ⟨k1, rfl⟩
    · rcases Nat.lt_trichotomy r s with c | c | c
      · exact absurd h2 (k3 r c)
      · rw [c]
      · exact absurd k2 (h3 s c)
    · exact absurd h2 (k1 r h1)
  · rcases k with ⟨s, k1, k2, k3, rfl⟩ | ⟨k1, rfl⟩
    · exact absurd k2 (h1 s k1)
    · rfl
theorem pre_cnt (L : List P2) : ∀ s, pre (fun r => cnt r L) s ≤ mny L := by
  intro s
  have : ∀ x : P2, ∀ s, pre (fun r => if hR x.1 = r then of x.2 else 0) s = if hR x.1 < s then of x.2 else 0 := by
    intro x s
    induction s with
    | zero => simp [pre]
    | succ s ih =>
      simp only [pre, ih]
      by_cases a : hR x.1 < s
      · rw [if_pos a, if_neg (by omega), if_pos (by omega)]; omega
      · by_cases b : hR x.1 = s
        · rw [if_neg a, if_pos b, if_pos (by omega)]; omega
        · rw [if_neg a, if_neg b, if_neg (by omega)]
  have add : ∀ (f g : Nat → Nat) s, pre (fun r => f r + g r) s = pre f s + pre g s := by
    intro f g s
    induction s with
    | zero => rfl
    | succ s ih => simp only [pre, ih]; omega
  induction L with
  | nil => clear this; induction s with | zero => simp [pre] | succ s ih => simp only [pre, cnt] at *; omega
  | cons x L ih =>
    simp only [cnt, mny]
    rw [add, this]
    split <;> omega

def HistOf (w : World) (p : Nat) (L : List P2) : Prop := HistAt w p (fun r => cnt r L) (mny L) (smm L)

theorem count_ok {w : World} {p m s r : Nat} {f : Nat → Nat} (h : HistAt w p f m s) (hr : r < 120) {Q : Value → World → Prop} (hk : Q (.int .i64 (f r : Int)) w) : CALL PG 94 [.pointer (some ⟨p, 0, none⟩), .int .i64 (r : Int)] w Q := by
  refine call94 ?_
  unfold N94
  refine ifdf (by omega) (ifdf (by omega) ⟨⟨by omega, by omega⟩, ?_⟩)
  rw [at_row]
  exact RD.of (ld r h.hp (hcs_row _ _ _ hr) (by kernel_rfl)) ⟨_, rfl, leti rfl hk⟩
theorem count_out {w : World} {p : Option Addr} {row : Int} (hr : row < 0 ∨ 120 ≤ row) {Q : Value → World → Prop} (hk : Q (.int .i64 0) w) : CALL PG 94 [.pointer p, .int .i64 row] w Q := by
  refine call94 ?_
  unfold N94
  exact ifd (fun _ => hk) fun h => ifd (fun _ => hk) fun h2 => absurd hr (by omega)

theorem rowsV {w : World} {p m s : Nat} {f : Nat → Nat} (h : HistAt w p f m s) : ∃ cs : List Value, (loadVar 54 (Addr.add ⟨p, 0, none⟩ 0)).run PG w = .ok (.agg cs.toArray) w ∧ ∀ r, r < 120 → cs[r]? = some (.int .i64 (f r : Int)) := by
  refine ⟨(hcs f m s).take 120, ?_, fun r hr => by rw [List.getElem?_take_of_lt hr, hcs_row f m s hr]⟩
  refine run_loadVar_agg (by kernel_rfl) (by rw [show ((hcs f m s).take 120).length = 120 by simp [hcs_length]]; kernel_rfl) fun j v hj => ?_
  rw [add_add, add_lit, h.hp.cell]
  simp only [Nat.zero_add]
  by_cases c : j < 120
  · rwa [List.getElem?_take_of_lt c] at hj
  · rw [List.getElem?_eq_none (by rw [List.length_take, hcs_length]; omega)] at hj; cases hj
theorem rowAt {w : World} {cs : List Value} {f : Nat → Nat} (h : ∀ r, r < 120 → cs[r]? = some (.int .i64 (f r : Int))) {r : Nat} (hr : r < 120) : (Instr.index 54 (.agg cs.toArray) (.int .i64 (r : Int))).run PG w = .ok (.int .i64 (f r : Int)) w :=
  idx_arr (n := 120) (e := 3) (by kernel_rfl) (by kernel_rfl) (by kernel_rfl) hr (h r hr)

theorem want_le {mp x : Nat} (h : (x : Int) ≥ (((mp + 999) / 1000 : Nat) : Int)) : mp ≤ x * 1000 := by omega
theorem below_ok {w : World} {p m s : Nat} {f : Nat → Nat} (h : HistAt w p f m s) (hp : ∀ r, pre f r ≤ m) (hm : m ≤ 2 ^ 40) {part : Int} {pt : Nat} (hpt : (pt : Int) = minN (maxN part 0) 1000) {Q : Value → World → Prop}
    (hk : ∀ v : Nat, IsBelow f m pt v → Q (.int .i64 (v : Int)) w) : CALL PG 96 [.pointer (some ⟨p, 0, none⟩), .int .i64 part] w Q := by
  refine call96 ?_
  unfold N96
  have hptl : pt ≤ 1000 := by have := cl_or (by decide) hpt; omega
  refine leti hpt.symm ?_
  refine RD.of (ld 120 h.hp (hcs_many _ _ _) (by kernel_rfl)) ⟨_, rfl, ⟨by decide, ?_⟩⟩
  have hmp : m * pt ≤ 2 ^ 40 * 1000 := Nat.mul_le_mul hm hptl
  unfold IsBelow Hit at hk
  rw [show (m : Int) * (pt : Int) = ((m * pt : Nat) : Int) by push_cast; rfl]
  generalize m * pt = mp at hmp hk ⊢
  refine leti (y := (((mp + 999) / 1000 : Nat) : Int)) ?_ ?_
  · rw [wrap_i64 (n := (mp : Int)) (by omega) (by omega), wrap_i64 (n := (mp : Int) + 999) (by omega) (by omega), Int.tdiv_eq_ediv_of_nonneg (by omega), wrap_i64 (by omega) (by omega)]; omega
  obtain ⟨cs, hrd, hrow⟩ := rowsV h
  refine RD.of hrd ⟨_, rfl, ?_⟩
  refine ⟨fun k n x w1 => ∃ j : Nat, j + k = 120 ∧ x = (j : Int) ∧ n = (pre f j : Int) ∧ (∀ s, s < j → ¬ (0 < f s ∧ mp ≤ pre f (s + 1) * 1000)) ∧ w1 = w, ⟨120, 0, by omega, rfl, by simp [pre], fun s hs => by omega, rfl⟩, ?_⟩
  rintro k _ _ w1 ⟨j, hj, rfl, rfl, hno, rfl⟩
  refine ifd (fun hlt => ?_) fun hge => hk 0 (.inr ⟨fun s hs => hno s (by omega), rfl⟩)
  have hj1 : j < 120 := by omega
  refine RD.of (rowAt hrow hj1) ⟨_, rfl, leti rfl (leti rfl ?_)⟩
  have hpj := hp (j + 1)
  have hle := h.le j hj1
  have e : pre f (j + 1) = pre f j + f j := rfl
  refine leti (y := (pre f (j + 1) : Int)) (by rw [wrap_i64 (by omega) (by omega)]; omega) ?_
  have next : (¬ (0 < f j ∧ mp ≤ pre f (j + 1) * 1000)) → ∃ m2, m2 < k ∧ ∃ j' : Nat, j' + m2 = 120 ∧ IntKind.i64.wrap ((j : Int) + 1) = (j' : Int) ∧ (pre f (j + 1) : Int) = (pre f j' : Int) ∧ (∀ s, s < j' → ¬ (0 < f s ∧ mp ≤ pre f (s + 1) * 1000)) ∧ w1 = w1 := by
    intro hn
    refine ⟨k - 1, by omega, j + 1, by omega, wrap_i64 (by omega) (by omega), rfl, fun s hs => ?_, rfl⟩
    rcases Nat.lt_or_ge s j with c | c
    · exact hno s c
    · rw [show s = j by omega]; exact hn
  refine ifd (fun h1 => ifd (fun h2 => ?_) fun h2 => next (by omega)) fun h1 => next (by omega)
  refine least_ok (d := j) (by unfold minN maxN; rw [if_neg (show ¬ (0 : Int) > (j : Int) by omega), if_neg (by omega)]) fun _ => ⟨_, rfl, leti rfl ?_⟩
  have h3 : mp ≤ pre f (j + 1) * 1000 := want_le h2
  have h4 : 0 < f j := by omega
  refine hk (hL j) (Or.inl (Exists.intro j ?_))
  exact ⟨hj1, ⟨h4, h3⟩, hno, Eq.refl _⟩

theorem join_ok {w : World} {p q m s m' s' : Nat} {f g : Nat → Nat} (h : HistAt w p f m s) (hq : HistAt w q g m' s') (hpq : p ≠ q) (hm : m ≤ 2 ^ 40) (hs : s ≤ 2 ^ 60) (hm' : m' ≤ 2 ^ 40) (hs' : s' ≤ 2 ^ 60) {Q : Value → World → Prop}
    (hk : ∀ w', Kp [p] w w' → w'.heap.size = w.heap.size → HistAt w' p (fun r => f r + g r) (m + m') (s + s') → Q (.tuple #[]) w') : CALL PG 39 [.pointer (some ⟨p, 0, none⟩), .pointer (some ⟨q, 0, none⟩)] w Q := by
  refine call39 ?_
  unfold N39
  refine iff_ rfl ?_
  obtain ⟨cs, hrd, hrow⟩ := rowsV hq
  refine RD.of hrd ⟨_, rfl, ?_⟩
  refine ⟨fun k x w1 => ∃ j : Nat, j + k = 120 ∧ x = (j : Int) ∧ Blk w1 p 56 (hcs (fun r => if r < j then f r + g r else f r) m s) ∧ Kp [p] w w1 ∧ w1.heap.size = w.heap.size, ⟨120, 0, by omega, rfl, by simpa using h.hp, (Kp.refl w).mono (by simp), rfl⟩, ?_⟩
  rintro k _ w1 ⟨j, hj, rfl, hb, k1, s1⟩
  refine ifd (fun hlt => ?_) fun hge => ?_
  · have hj1 : j < 120 := by omega
    refine RD.of (rowAt hrow hj1) ⟨_, rfl, leti rfl (leti rfl ⟨⟨by omega, by omega⟩, ?_⟩)⟩
    rw [at_row]
    refine RD.of (ld j hb.drew (hcs_row _ _ _ hj1) (by kernel_rfl)) ⟨_, rfl, ⟨by omega, by omega⟩, ?_⟩
    have l1 := h.le j hj1
    have l2 := hq.le j hj1
    rw [if_neg (Nat.lt_irrefl j), show IntKind.i64.wrap ((f j : Int) + (g j : Int)) = ((f j + g j : Nat) : Int) by rw [wrap_i64 (by omega) (by omega)]; rfl]
    rw [at_row]
    refine st j hb.drew (by kernel_rfl) rfl (by rw [hcs_length]; omega) fun w2 k2 s2 h2 => ?_
    rw [hcs_set _ _ _ _ hj1] at h2
    refine ⟨k - 1, by omega, j + 1, by omega, wrap_i64 (by omega) (by omega), ?_, k1.then (((Kp.drew w1).mono (by simp)).then k2), by rw [s2]; exact s1⟩
    have e : (fun x => if x = j then f j + g j else if x < j then f x + g x else f x) = fun r => if r < j + 1 then f r + g r else f r := by
      funext x
      by_cases c : x = j
      · subst c; rw [if_pos rfl, if_pos (by omega)]
      · rw [if_neg c]
        by_cases d : x < j
        · rw [if_pos d, if_pos (by omega)]
        · rw [if_neg d, if_neg (by omega)]
    rw [← e]; exact h2
  · have hj1 : j = 120 := by omega
    subst hj1
    have hq1 := hq.kp k1 (by simp; exact fun e => hpq e.symm)
    refine RD.of (ld 120 hb.drew (hcs_many _ _ _) (by kernel_rfl)) ⟨_, rfl, ?_⟩
    refine RD.of (ld 120 hq1.drew.hp (hcs_many _ _ _) (by kernel_rfl)) ⟨_, rfl, ?_⟩
    rw [show IntKind.i64.wrap ((m : Int) + (m' : Int)) = ((m + m' : Nat) : Int) by rw [wrap_i64 (by omega) (by omega)]; rfl]
    refine st 120 hb.drew (by kernel_rfl) rfl (by rw [hcs_length]; omega) fun w2 k2 s2 h2 => ?_
    rw [hcs_set_many] at h2
    have k3 : Kp [p] w w2 := k1.then (((Kp.drew w1).mono (by simp)).then k2)
    have hq2 := hq.kp k3 (by simp; exact fun e => hpq e.symm)
    refine RD.of (ld 121 h2.drew (hcs_sum _ _ _) (by kernel_rfl)) ⟨_, rfl, ?_⟩
    refine RD.of (ld 121 hq2.drew.hp (hcs_sum _ _ _) (by kernel_rfl)) ⟨_, rfl, ?_⟩
    rw [show IntKind.i64.wrap ((s : Int) + (s' : Int)) = ((s + s' : Nat) : Int) by rw [wrap_i64 (by omega) (by omega)]; rfl]
    refine st 121 h2.drew (by kernel_rfl) rfl (by rw [hcs_length]; omega) fun w4 k4 s4 h4 => ?_
    rw [hcs_set_sum] at h4
    refine hk w4 (k3.then (((Kp.drew w2).mono (by simp)).then k4)) (by rw [s4]; show w2.heap.size = _; rw [s2]; exact s1) ⟨?_, fun r hr => ?_⟩
    · have e : hcs (fun r => if r < 120 then f r + g r else f r) (m + m') (s + s') = hcs (fun r => f r + g r) (m + m') (s + s') := hcs_ext (hcs_length _ _ _) (fun r hr => by rw [hcs_row _ _ _ hr, if_pos hr]) (hcs_many _ _ _) (hcs_sum _ _ _)
      rw [← e]; exact h4
    · have := h.le r hr; have := hq.le r hr; omega
theorem join_nil {w : World} {p : Option Addr} {Q : Value → World → Prop} (hk : Q (.tuple #[]) w) : CALL PG 39 [.pointer p, .pointer none] w Q := by
  refine call39 ?_
  unfold N39
  exact ift rfl hk
end Go.Br
