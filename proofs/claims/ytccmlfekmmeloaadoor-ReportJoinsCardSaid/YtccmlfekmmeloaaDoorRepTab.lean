/- Rows of texts as lines: what a call does, of the program and of the document. -/
import Derived.Test.YtccmlfekmmeloaaDoorNRepTab
import Derived.Test.YtccmlfekmmeloaaDoorPdq
import Derived.Test.YtccmlfekmmeloaaDoorRep
import Derived.Test.YtccmlfekmmeloaaDoorStrLib
set_option linter.unusedVariables false
set_option linter.unusedSimpArgs false
set_option linter.unnecessarySimpa false
namespace Go.Br
open Go
attribute [local irreducible] Addr.add RD RDS RUN RUNU NILC LETB CALL CALLX CALLV

/-- A row of texts. -/
structure Rw where
  A : Option Addr
  ss : List ByteArray
  k : Nat
def rwv (x : Rw) : List Value := [.slice x.A x.ss.length x.k]
def tv (s : ByteArray) : List Value := [.string s]
def sAt (ss : List ByteArray) (i : Nat) : ByteArray := ss.getD i (ByteArray.mk #[])
theorem sAt_get {ss : List ByteArray} {i : Nat} (h : i < ss.length) : ss[i]? = some (sAt ss i) := by
  unfold sAt
  rw [List.getD_eq_getElem?_getD, List.getElem?_eq_getElem h]
  rfl
def szA (x : Rw) (i : Nat) : Nat := (sAt x.ss i).size
theorem szA_out {x : Rw} {i : Nat} (h : x.ss.length ≤ i) : szA x i = 0 := by
  unfold szA sAt
  rw [List.getD_eq_getElem?_getD, List.getElem?_eq_none h]
  rfl
/-- The longest text of a column. -/
def wd (X : List Rw) (i : Nat) : Nat := X.foldl (fun n x => max n (szA x i)) 0
theorem wd_snoc (X : List Rw) (x : Rw) (i : Nat) : wd (X ++ [x]) i = max (wd X i) (szA x i) := by unfold wd; rw [List.foldl_append]; rfl
theorem wd_take {X : List Rw} {j : Nat} {x : Rw} (h : X[j]? = some x) (i : Nat) : wd (X.take (j + 1)) i = max (wd (X.take j) i) (szA x i) := by rw [take_snoc' h, wd_snoc]
structure TabB (X : List Rw) : Prop where
  rows : X.length ≤ 1000
  cols : ∀ x ∈ X, x.ss.length ≤ 100
  size : ∀ x ∈ X, ∀ i, szA x i ≤ 100
theorem wd_aux (i : Nat) : ∀ (X : List Rw) (n : Nat), n ≤ 100 → (∀ x ∈ X, szA x i ≤ 100) → X.foldl (fun n x => max n (szA x i)) n ≤ 100 ∧ n ≤ X.foldl (fun n x => max n (szA x i)) n ∧ ∀ x ∈ X, szA x i ≤ X.foldl (fun n x => max n (szA x i)) n
  | [], n, hn, _ => ⟨hn, Nat.le_refl _, fun x hx => by cases hx⟩
  | y :: X, n, hn, h => by
    have hy := h y (by simp)
    obtain ⟨h1, h2, h3⟩ := wd_aux i X (max n (szA y i)) (by omega) fun x hx => h x (by simp [hx])
    rw [List.foldl_cons]
    refine ⟨h1, by omega, fun x hx => ?_⟩
    simp only [List.mem_cons] at hx
    rcases hx with rfl | hx
    · omega
    · exact h3 x hx
theorem wd_bd (X : List Rw) (i : Nat) (h : ∀ x ∈ X, szA x i ≤ 100) : wd X i ≤ 100 ∧ ∀ x ∈ X, szA x i ≤ wd X i := by
  obtain ⟨h1, _, h3⟩ := wd_aux i X 0 (by omega) h
  exact ⟨h1, h3⟩
/-- A text, and the blanks behind it. -/
def cellL (X : List Rw) (ss : List ByteArray) (i : Nat) : List UInt8 := (sAt ss i).data.toList ++ (if i + 1 < ss.length then List.replicate (wd X i + 2 - (sAt ss i).size) 32 else [])
def lineTo (X : List Rw) (ss : List ByteArray) (q : Nat) : List UInt8 := ((List.range q).map (cellL X ss)).flatten
theorem lineTo_succ (X : List Rw) (ss : List ByteArray) (q : Nat) : lineTo X ss (q + 1) = lineTo X ss q ++ cellL X ss q := by unfold lineTo; rw [List.range_succ]; simp
def tabTo (X : List Rw) (j : Nat) : List UInt8 := ((X.take j).map fun x => trimR (lineTo X x.ss x.ss.length) ++ [10]).flatten
theorem tabTo_succ {X : List Rw} {j : Nat} {x : Rw} (h : X[j]? = some x) : tabTo X (j + 1) = tabTo X j ++ (trimR (lineTo X x.ss x.ss.length) ++ [10]) := by unfold tabTo; rw [take_snoc' h]; simp
def tabL (X : List Rw) : List UInt8 := tabTo X X.length
theorem lineTo_le {X : List Rw} (hB : TabB X) {x : Rw} (hx : x ∈ X) : ∀ q, (lineTo X x.ss q).length ≤ q * 202
  | 0 => by simp [lineTo]
  | q + 1 => by
    have ih := lineTo_le hB hx q
    rw [lineTo_succ, List.length_append]
    have h1 : (sAt x.ss q).size ≤ 100 := hB.size x hx q
    have h2 := (wd_bd X q fun y hy => hB.size y hy q).1
    unfold cellL
    rw [List.length_append, size_data]
    split
    · rw [List.length_replicate]; omega
    · simp; omega
theorem tabTo_le {X : List Rw} (hB : TabB X) : ∀ j, j ≤ X.length → (tabTo X j).length ≤ j * 20300
  | 0, _ => by simp [tabTo]
  | j + 1, hj => by
    have ih := tabTo_le hB j (by omega)
    obtain ⟨x, hx⟩ := ex_get (L := X) (j := j) (by omega)
    have hm := List.mem_of_getElem? hx
    have h1 := lineTo_le hB hm x.ss.length
    have h2 := hB.cols x hm
    have h3 := trimR_le (lineTo X x.ss x.ss.length)
    rw [tabTo_succ hx]
    simp only [List.length_append, List.length_singleton]
    omega
theorem at0_app0 (W : List Int) (i : Nat) : at0 (W ++ [0]) i = at0 W i := by
  unfold at0
  rw [List.getD_eq_getElem?_getD, List.getD_eq_getElem?_getD]
  rcases Nat.lt_trichotomy i W.length with h | h | h
  · rw [List.getElem?_append_left h]
  · rw [List.getElem?_append_right (by omega), h]; simp
  · rw [List.getElem?_eq_none (by simp; omega), List.getElem?_eq_none (by omega)]
theorem i64max : IntKind.i64.max = 9223372036854775807 := by decide
section
variable {c : Ctx} {w : World} {L R : List SA} {A : Option Addr} {k : Nat}
theorem St.rowL {X : List Rw} {K : Option Addr → Nat → Nat → Prop} (h : St c w L) (hr : RdIn L A (X.flatMap rwv)) {j : Nat} {x : Rw} (hx : X[j]? = some x) (hk : K x.A x.ss.length x.k) :
    IDX A X.length (j : Int) fun a => RDL PG (loadVar 34 (Addr.add a (Int.toNat (j : Int) * 1))) w K :=
  h.ix (z := 0) hr hx (fun a ha => by subst ha; exact h.rdWL hr hx hk) (List.getElem?_eq_some_iff.1 hx).1
theorem St.rowT {ss : List ByteArray} {K : ByteArray → Prop} (h : St c w L) (hr : RdIn L A (ss.flatMap tv)) {i : Nat} (hi : i < ss.length) (hk : K (sAt ss i)) :
    IDX A ss.length (i : Int) fun a => RDT PG (loadVar 9 (Addr.add a (Int.toNat (i : Int) * 1))) w K :=
  h.ix (z := 0) hr (sAt_get hi) (fun a ha => by subst ha; exact h.rdWT hr (sAt_get hi) hk) hi
theorem widest_ok (h : St c w L) {X : List Rw} (hr : RdIn L A (X.flatMap rwv)) (hs : ∀ x ∈ X, RdIn L x.A (x.ss.flatMap tv)) (hB : TabB X) {i : Nat} {Q : Value → World → Prop}
    (hk : ∀ w', St c w' L → Q (.int .i64 (wd X i : Int)) w') : CALL PG 21 [.slice A X.length k, .int .i64 (i : Int)] w Q := by
  have hX := hB.rows
  refine call21 ?_
  unfold N21
  refine ⟨fun m n x w' => ∃ j : Nat, x = j ∧ m = X.length - j ∧ j ≤ X.length ∧ n = (wd (X.take j) i : Int) ∧ St c w' L, ⟨_, 0, rfl, rfl, by omega, rfl, h⟩, ?_⟩
  clear h
  rintro m _ _ w' ⟨j, rfl, rfl, hj, rfl, h⟩
  refine ifd (fun hlt => ?_) fun hge => ?_
  rotate_left
  · have ej : j = X.length := by omega
    rw [ej, List.take_length]
    exact leti rfl (hk _ h)
  obtain ⟨x, hx⟩ := ex_get (L := X) (j := j) (by omega)
  have hm := List.mem_of_getElem? hx
  have hw := wd_take hx i
  have nx : IntKind.i64.wrap ((j : Int) + 1) = ((j + 1 : Nat) : Int) := by rw [wrap_i64 (by omega) (by omega)]; omega
  refine h.rowL hr hx ?_
  refine ifd (fun hi => ?_) fun hi => leti nx ⟨_, by omega, j + 1, rfl, rfl, by omega, by rw [hw, szA_out (by omega)]; simp, h⟩
  refine h.rowL hr hx ?_
  refine h.rowT (hs x hm) (by omega) ?_
  have esz : (sAt x.ss i).size = szA x i := rfl
  rw [esz]
  refine ifd (fun hgt => ?_) fun hle => leti nx ⟨_, by omega, j + 1, rfl, rfl, by omega, by rw [hw]; omega, h⟩
  refine h.rowL hr hx ?_
  refine h.rowT (hs x hm) (by omega) ?_
  rw [esz]
  exact leti rfl (leti nx ⟨_, by omega, j + 1, rfl, rfl, by omega, by rw [hw]; omega, h⟩)
theorem table_ok (h : St c w L) {X : List Rw} (hr : RdIn L A (X.flatMap rwv)) (hs : ∀ x ∈ X, RdIn L x.A (x.ss.flatMap tv)) (hB : TabB X) {Q : Value → World → Prop}
    (hk : ∀ w', St c w' L → Q (.string (strOf (tabL X))) w') : CALL PG 12 [.slice A X.length k] w Q := by
  have hX := hB.rows
  refine call12 ?_
  unfold N12
  have h := h.addOwnNil 3 1
  refine ⟨fun m A' n' d' x w' => ∃ (j : Nat) (W : List Int), x = j ∧ m = X.length - j ∧ j ≤ X.length ∧ W.length = n' ∧ n' ≤ 100 ∧ (∀ i, at0 W i = (wd (X.take j) i : Int)) ∧ (∀ y ∈ X.take j, y.ss.length ≤ n') ∧ St c w' (own 3 1 A' n' d' (W.flatMap iv) :: L),
    ⟨_, 0, [], rfl, rfl, by omega, rfl, by omega, fun i => rfl, fun y hy => by simp at hy, h⟩, ?_⟩
  clear h
  rintro m O N0 d _ w' ⟨j, W, rfl, rfl, hj, hWl, hN, hW, hc, h⟩
  refine ifd (fun hlt => ?_) fun hge => ?_
  · obtain ⟨y, hy⟩ := ex_get (L := X) (j := j) (by omega)
    have hm := List.mem_of_getElem? hy
    have hyc := hB.cols y hm
    have nx : IntKind.i64.wrap ((j : Int) + 1) = ((j + 1 : Nat) : Int) := by rw [wrap_i64 (by omega) (by omega)]; omega
    refine h.rowL hr.more hy ?_
    refine ⟨fun m A' n' d' x w' => ∃ (q : Nat) (W : List Int), x = q ∧ m = y.ss.length - q ∧ q ≤ y.ss.length ∧ W.length = n' ∧ n' ≤ 100 ∧ q ≤ n' ∧ N0 ≤ n' ∧ (∀ i, at0 W i = if i < q then (wd (X.take (j + 1)) i : Int) else (wd (X.take j) i : Int)) ∧ St c w' (own 3 1 A' n' d' (W.flatMap iv) :: L),
      ⟨_, 0, W, rfl, rfl, by omega, hWl, hN, by omega, Nat.le_refl _, fun i => by rw [if_neg (by omega)]; exact hW i, h⟩, ?_⟩
    clear h hW hWl W
    rintro m O n' d _ w' ⟨q, W, rfl, rfl, hq, hWl, hn', hqn, hN0, hW, h⟩
    refine ifd (fun hlt2 => ?_) fun hge2 => ?_
    rotate_left
    · have eq : q = y.ss.length := by omega
      rw [nx]
      refine ⟨_, by omega, j + 1, W, rfl, rfl, by omega, hWl, hn', fun i => ?_, fun z hz => ?_, h⟩
      · rw [hW i]
        split
        · rfl
        · rw [wd_take hy, szA_out (by omega)]; simp
      · rw [take_snoc' hy, List.mem_append, List.mem_singleton] at hz
        rcases hz with hz | rfl
        · have := hc z hz; omega
        · omega
    have fin : ∀ (W : List Int) (n' : Nat) (O : Option Addr) (d : Nat) (w' : World), W.length = n' → n' ≤ 100 → q < n' → N0 ≤ n' → (∀ i, at0 W i = if i < q then (wd (X.take (j + 1)) i : Int) else (wd (X.take j) i : Int)) → St c w' (own 3 1 O n' d (W.flatMap iv) :: L) →
        IDX O n' (q : Int) fun a => RDI PG (loadVar 3 (Addr.add a (Int.toNat (q : Int) * 1))) .i64 w' fun x => IDX O n' (q : Int) fun a => RUNU PG (storeVar 3 (Addr.add a (Int.toNat (q : Int) * 1)) (.int .i64 (maxN x (((sAt y.ss q).size : Nat) : Int)))) w' fun w'' =>
        ∃ m', m' < y.ss.length - q ∧ ∃ (q' : Nat) (W : List Int), IntKind.i64.wrap ((q : Int) + 1) = q' ∧ m' = y.ss.length - q' ∧ q' ≤ y.ss.length ∧ W.length = n' ∧ n' ≤ 100 ∧ q' ≤ n' ∧ N0 ≤ n' ∧ (∀ i, at0 W i = if i < q' then (wd (X.take (j + 1)) i : Int) else (wd (X.take j) i : Int)) ∧ St c w'' (own 3 1 O n' d (W.flatMap iv) :: L) := by
      intro W n' O d w' hWl hn' hq' hN0 hW h
      refine h.arrR .head hWl hq' ?_
      refine h.arrW .head hWl hq' fun w' h => ?_
      refine ⟨_, by omega, q + 1, _, by rw [wrap_i64 (by omega) (by omega)]; omega, rfl, by omega, by rw [List.length_set]; exact hWl, hn', by omega, hN0, fun i => ?_, h⟩
      rw [at0_set (by omega)]
      by_cases ei : i = q
      · subst ei
        rw [if_pos rfl, if_pos (by omega), wd_take hy, hW, if_neg (by omega)]
        have esz : (sAt y.ss i).size = szA y i := rfl
        rw [esz]
        unfold maxN
        split <;> omega
      · rw [if_neg ei, hW i]
        by_cases e2 : i < q
        · rw [if_pos e2, if_pos (by omega)]
        · rw [if_neg e2, if_neg (by omega)]
    refine h.rowT (hs y hm).more (by omega) ?_
    refine leti rfl (lets rfl ?_)
    refine ifq (fun e => ?_) fun e => fin W n' O d w' hWl hn' (by omega) hN0 hW h
    refine h.app1 huInts tiInt [.int .i64 0] .head (iv_flat1 0) (by omega) fun O2 d2 w' h => ?_
    have ew : W.flatMap iv ++ [.int .i64 0] = (W ++ [0]).flatMap iv := by rw [List.flatMap_append]; rfl
    rw [ew] at h
    exact fin (W ++ [0]) (n' + 1) O2 d2 w' (by simp [hWl]) (by omega) (by omega) (by omega) (fun i => by rw [at0_app0]; exact hW i) h
  have ej : j = X.length := by omega
  rw [ej, List.take_length] at hW hc
  clear ej hge hj
  refine ⟨fun m o x w' => ∃ j : Nat, x = j ∧ m = X.length - j ∧ j ≤ X.length ∧ o = strOf (tabTo X j) ∧ St c w' (own 3 1 O N0 d (W.flatMap iv) :: L), ⟨_, 0, rfl, rfl, by omega, rfl, h⟩, ?_⟩
  clear h
  rintro m _ _ w' ⟨j, rfl, rfl, hj, rfl, h⟩
  have hto := tabTo_le hB j hj
  refine ifd (fun hlt => ?_) fun hge => ?_
  rotate_left
  · have ej : j = X.length := by omega
    rw [ej]
    exact lets rfl (hk _ h.drop)
  obtain ⟨y, hy⟩ := ex_get (L := X) (j := j) (by omega)
  have hm := List.mem_of_getElem? hy
  have hyc := hB.cols y hm
  refine h.rowL hr.more hy ?_
  refine ⟨fun m o x w' => ∃ q : Nat, x = q ∧ m = y.ss.length - q ∧ q ≤ y.ss.length ∧ o = strOf (lineTo X y.ss q) ∧ St c w' (own 3 1 O N0 d (W.flatMap iv) :: L), ⟨_, 0, rfl, rfl, by omega, rfl, h⟩, ?_⟩
  clear h
  rintro m _ _ w' ⟨q, rfl, rfl, hq, rfl, h⟩
  have hlo := lineTo_le hB hm q
  refine ifd (fun hlt2 => ?_) fun hge2 => ?_
  rotate_left
  · have eq : q = y.ss.length := by omega
    rw [eq] at hlo ⊢
    refine trim_ok (by omega) ?_
    (repeat (first | apply Exists.intro (α := Int) | apply Exists.intro (α := Bool) | apply Exists.intro (α := ByteArray) | (apply Exists.intro (α := Option Addr); apply Exists.intro (α := Nat); apply Exists.intro (α := Nat)) | apply Exists.intro (α := Option Addr) | apply Exists.intro (α := Value)))
    refine ⟨rfl, ?_⟩
    have h3 := trimR_le (lineTo X y.ss y.ss.length)
    have e10 : strOf (trimR (lineTo X y.ss y.ss.length)) ++ ByteArray.mk #[10] = strOf (trimR (lineTo X y.ss y.ss.length) ++ [10]) := strOf_app _ _
    have s10 : (ByteArray.mk #[10]).size = 1 := rfl
    rw [e10, i64max, strOf_size, strOf_size, strOf_size, s10, List.length_append, List.length_singleton]
    exact ⟨by omega, by omega, lets (by rw [strOf_append, ← tabTo_succ hy]) ⟨_, by omega, j + 1, by rw [wrap_i64 (by omega) (by omega)]; omega, rfl, by omega, rfl, h⟩⟩
  have nx : IntKind.i64.wrap ((q : Int) + 1) = ((q + 1 : Nat) : Int) := by rw [wrap_i64 (by omega) (by omega)]; omega
  have hsz : (sAt y.ss q).size ≤ 100 := hB.size y hm q
  have hwb := wd_bd X q fun y hy => hB.size y hy q
  have hwy : (sAt y.ss q).size ≤ wd X q := hwb.2 y hm
  refine h.rowT (hs y hm).more (by omega) (leti rfl (lets rfl ⟨?_, lets (strOf_app _ _) ?_⟩))
  · rw [i64max, strOf_size]; omega
  rw [show IntKind.i64.wrap ((y.ss.length : Int) - 1) = ((y.ss.length - 1 : Nat) : Int) by rw [wrap_i64 (by omega) (by omega)]; omega]
  refine ifd (fun hlt3 => ?_) fun hge3 => ?_
  · have hcy := hc y hm
    refine h.arrR .head hWl (by omega) ?_
    rw [hW q, show IntKind.i64.wrap (IntKind.i64.wrap ((wd X q : Int) - (((sAt y.ss q).size : Nat) : Int)) + 2) = ((wd X q + 2 - (sAt y.ss q).size : Nat) : Int) by
      rw [wrap_i64 (n := (wd X q : Int) - (((sAt y.ss q).size : Nat) : Int)) (by omega) (by omega), wrap_i64 (by omega) (by omega)]; omega]
    refine repeat_ok (by omega) (by omega) ?_
    (repeat (first | apply Exists.intro (α := Int) | apply Exists.intro (α := Bool) | apply Exists.intro (α := ByteArray) | (apply Exists.intro (α := Option Addr); apply Exists.intro (α := Nat); apply Exists.intro (α := Nat)) | apply Exists.intro (α := Option Addr) | apply Exists.intro (α := Value)))
    refine ⟨rfl, ?_⟩
    refine ⟨?_, lets (y := strOf (lineTo X y.ss (q + 1))) ?_ ⟨_, by omega, q + 1, nx, rfl, by omega, rfl, h⟩⟩
    · rw [i64max, strOf_size, strOf_size, List.length_append, size_data, List.length_replicate]; omega
    · rw [strOf_append, lineTo_succ]
      unfold cellL
      rw [if_pos (by omega), List.append_assoc]
  · refine ⟨_, by omega, q + 1, nx, rfl, by omega, ?_, h⟩
    rw [lineTo_succ]
    unfold cellL
    rw [if_neg (by omega), List.append_nil]
theorem rtable_ok (h : St c w L) {X : List Rw} (hr : RdIn L A (X.flatMap rwv)) (hs : ∀ x ∈ X, RdIn L x.A (x.ss.flatMap tv)) (hB : TabB X) {Q : Value → World → Prop}
    (hk : ∀ w', St c w' L → Q (.string (strOf (tabL X))) w') : CALL PG 13 [.slice A X.length k] w Q := by
  have hX := hB.rows
  refine call13 ?_
  unfold N13
  refine ⟨fun m o x w' => ∃ j : Nat, x = j ∧ m = X.length - j ∧ j ≤ X.length ∧ o = strOf (tabTo X j) ∧ St c w' L, ⟨_, 0, rfl, rfl, by omega, rfl, h⟩, ?_⟩
  clear h
  rintro m _ _ w' ⟨j, rfl, rfl, hj, rfl, h⟩
  have hto := tabTo_le hB j hj
  refine ifd (fun hlt => ?_) fun hge => ?_
  rotate_left
  · have ej : j = X.length := by omega
    rw [ej]
    exact lets rfl (hk _ h)
  obtain ⟨y, hy⟩ := ex_get (L := X) (j := j) (by omega)
  have hm := List.mem_of_getElem? hy
  have hyc := hB.cols y hm
  refine ⟨fun m o x w' => ∃ q : Nat, x = q ∧ m = y.ss.length - q ∧ q ≤ y.ss.length ∧ o = strOf (lineTo X y.ss q) ∧ St c w' L, ⟨_, 0, rfl, rfl, by omega, rfl, h⟩, ?_⟩
  clear h
  rintro m _ _ w' ⟨q, rfl, rfl, hq, rfl, h⟩
  have hlo := lineTo_le hB hm q
  refine h.rowL hr hy ?_
  refine ifd (fun hlt2 => ?_) fun hge2 => ?_
  · have hsz : (sAt y.ss q).size ≤ 100 := hB.size y hm q
    have hwb := wd_bd X q fun y hy => hB.size y hy q
    have hwy : (sAt y.ss q).size ≤ wd X q := hwb.2 y hm
    have nx : IntKind.i64.wrap ((q : Int) + 1) = ((q + 1 : Nat) : Int) := by rw [wrap_i64 (by omega) (by omega)]; omega
    refine h.rowL hr hy (h.rowT (hs y hm) (by omega) ⟨?_, lets (strOf_app _ _) ?_⟩)
    · rw [i64max, strOf_size]; omega
    refine h.rowL hr hy (h.rowT (hs y hm) (by omega) (leti rfl ?_))
    refine ⟨fun m o x w' => ∃ t : Nat, x = (((sAt y.ss q).size + t : Nat) : Int) ∧ m = wd X q + 2 - (sAt y.ss q).size - t ∧ t ≤ wd X q + 2 - (sAt y.ss q).size ∧ (q + 1 = y.ss.length → t = 0) ∧ o = strOf (lineTo X y.ss q ++ (sAt y.ss q).data.toList ++ List.replicate t 32) ∧ St c w' L,
      ⟨_, 0, rfl, rfl, by omega, fun _ => rfl, by simp, h⟩, ?_⟩
    clear h
    rintro m _ _ w' ⟨t, rfl, rfl, ht, hq1, rfl, h⟩
    refine widest_ok h hr hs hB fun w' h => ?_
    (repeat (first | apply Exists.intro (α := Int) | apply Exists.intro (α := Bool) | apply Exists.intro (α := ByteArray) | (apply Exists.intro (α := Option Addr); apply Exists.intro (α := Nat); apply Exists.intro (α := Nat)) | apply Exists.intro (α := Option Addr) | apply Exists.intro (α := Value)))
    refine ⟨rfl, ?_⟩
    rw [show IntKind.i64.wrap ((wd X q : Int) + 2) = ((wd X q + 2 : Nat) : Int) by rw [wrap_i64 (by omega) (by omega)]; omega]
    refine ifd (fun hlt3 => ?_) fun hge3 => ?_
    · refine h.rowL hr hy ?_
      rw [show IntKind.i64.wrap ((y.ss.length : Int) - 1) = ((y.ss.length - 1 : Nat) : Int) by rw [wrap_i64 (by omega) (by omega)]; omega]
      refine ifd (fun hlt4 => ?_) fun hge4 => ?_
      · refine ⟨?_, lets (y := strOf (lineTo X y.ss q ++ (sAt y.ss q).data.toList ++ List.replicate (t + 1) 32)) ?_ (leti (y := (((sAt y.ss q).size + (t + 1) : Nat) : Int)) (by rw [wrap_i64 (by omega) (by omega)]; omega) ⟨_, by omega, t + 1, rfl, rfl, by omega, fun e => by omega, rfl, h⟩)⟩
        · rw [i64max, strOf_size, List.length_append, List.length_append, size_data, List.length_replicate, show (ByteArray.mk #[32]).size = 1 from rfl]; omega
        · rw [strOf_app, List.replicate_succ', List.append_assoc]
      · have t0 := hq1 (by omega)
        subst t0
        refine leti nx ⟨_, by omega, q + 1, rfl, rfl, by omega, ?_, h⟩
        rw [lineTo_succ]
        unfold cellL
        rw [if_neg (by omega)]
        simp
    · have et : t = wd X q + 2 - (sAt y.ss q).size := by omega
      refine leti nx ⟨_, by omega, q + 1, rfl, rfl, by omega, ?_, h⟩
      rw [lineTo_succ]
      unfold cellL
      rw [if_pos (by omega), et, List.append_assoc]
  have eq : q = y.ss.length := by omega
  rw [eq] at hlo ⊢
  clear eq hge2 hq
  have nx : IntKind.i64.wrap ((j : Int) + 1) = ((j + 1 : Nat) : Int) := by rw [wrap_i64 (by omega) (by omega)]; omega
  have s10 : (ByteArray.mk #[10]).size = 1 := rfl
  refine ⟨fun m o w' => ∃ l' : List UInt8, o = strOf l' ∧ m = l'.length ∧ l'.length ≤ y.ss.length * 202 ∧ trimR l' = trimR (lineTo X y.ss y.ss.length) ∧ St c w' L, ⟨_, _, rfl, rfl, hlo, rfl, h⟩, ?_⟩
  clear h
  rintro m _ w' ⟨l', rfl, rfl, hle, ht, h⟩
  have fin : ∀ {l' : List UInt8}, l'.length ≤ y.ss.length * 202 → l' = trimR (lineTo X y.ss y.ss.length) → ∀ {K : ByteArray → Prop}, K (strOf (tabTo X (j + 1))) →
      (((strOf l').size + (ByteArray.mk #[10]).size : Nat) : Int) ≤ IntKind.i64.max ∧ (((strOf (tabTo X j)).size + (strOf l' ++ ByteArray.mk #[10]).size : Nat) : Int) ≤ IntKind.i64.max ∧ LETS (strOf (tabTo X j) ++ (strOf l' ++ ByteArray.mk #[10])) K := by
    intro l' hle e K hK
    have e10 : strOf l' ++ ByteArray.mk #[10] = strOf (l' ++ [10]) := strOf_app _ _
    rw [e10, i64max, strOf_size, strOf_size, strOf_size, s10, List.length_append, List.length_singleton]
    exact ⟨by omega, by omega, lets (by rw [strOf_append, e, ← tabTo_succ hy]) hK⟩
  rw [strOf_size]
  refine ifd (fun hpos => ?_) fun hz => ?_
  rotate_left
  · have e : l' = [] := List.length_eq_zero_iff.1 (by omega)
    subst e
    obtain ⟨f1, f2, f3⟩ := fin (l' := []) (by simp) (by rw [← ht]; rfl) (K := fun o => LETI (IntKind.i64.wrap ((j : Int) + 1)) fun i2 => ∃ m13, m13 < X.length - j ∧ ∃ j' : Nat, i2 = j' ∧ m13 = X.length - j' ∧ j' ≤ X.length ∧ o = strOf (tabTo X j') ∧ St c w' L) (leti nx ⟨_, by omega, j + 1, rfl, rfl, by omega, rfl, h⟩)
    rw [strOf_size] at f1
    exact ⟨f1, f2, f3⟩
  rw [show IntKind.i64.wrap (((l'.length : Nat) : Int) - 1) = ((l'.length - 1 : Nat) : Int) by rw [wrap_i64 (by omega) (by omega)]; omega]
  refine ⟨⟨by omega, by omega⟩, ?_⟩
  rcases List.eq_nil_or_concat l' with rfl | ⟨q, b, rfl⟩
  · simp at hpos
  rw [List.concat_eq_append] at *
  have lq : (q ++ [b]).length - 1 = q.length := by simp
  have lq2 : (q ++ [b]).length = q.length + 1 := by simp
  rw [lq, sbyte_strOf (b := b) (by simp)]
  refine ifq (fun e => ?_) fun e => ?_
  · have eb : b = 32 := by
      apply UInt8.toNat_inj.1
      show b.toNat = 32
      omega
    subst eb
    rw [trimR_blank] at ht
    exact ⟨⟨by decide, by omega, by omega⟩, lets (y := strOf q) (by rw [cutS_strOf]; simp) ⟨_, by omega, q, rfl, rfl, by omega, ht, h⟩⟩
  · have eb : b ≠ 32 := fun h => e (by rw [h]; rfl)
    rw [trimR_other q eb] at ht
    obtain ⟨f1, f2, f3⟩ := fin hle ht (K := fun o => LETI (IntKind.i64.wrap ((j : Int) + 1)) fun i2 => ∃ m13, m13 < X.length - j ∧ ∃ j' : Nat, i2 = j' ∧ m13 = X.length - j' ∧ j' ≤ X.length ∧ o = strOf (tabTo X j') ∧ St c w' L) (leti nx ⟨_, by omega, j + 1, rfl, rfl, by omega, rfl, h⟩)
    rw [strOf_size] at f1
    exact ⟨f1, f2, f3⟩
end
end Go.Br
