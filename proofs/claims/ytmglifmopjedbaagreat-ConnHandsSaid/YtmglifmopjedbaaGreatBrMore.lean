/- Slices of structs, fields of what is given, arrays that are values. -/
import Derived.Test.YtmglifmopjedbaaGreatBrRow
import Derived.Test.YtmglifmopjedbaaGreatBrSlice
set_option linter.unusedVariables false
set_option linter.unusedSimpArgs false
namespace Go.Br
open Go
theorem rd_field {P : Program} {w : World} {f : Nat} {t ft : TypeId} {i off z z' : Nat} {cs : List Value} (hf : (fieldOf P t i).map (fun f => (f.type,f.offset)) = some (ft,off)) (hz : P.cellsOf t = z) (hz' : P.cellsOf ft = z') (h : RdT P w f t cs) :
  cs.length = z /\ ∃ f',RdT P w f' ft ((cs.drop off).take z'):=by
 cases f with
 | zero => exact h.elim
 | succ f =>
  unfold fieldOf at hf
  split at hf
  ·rename_i fs hu
   unfold RdT at h; rw [hu] at h
   obtain ⟨h1,h2⟩:=h
   cases hg : fs[i]? with
   | none => rw [hg] at hf; cases hf
   | some fd =>
    rw [hg] at hf
    simp at hf
    have:=h2 fd (by simpa using Array.mem_of_getElem? hg)
    rw [hf.1,hf.2,hz'] at this
    exact ⟨by rw [h1,hz],f,this⟩
  ·cases hf
theorem flat_length {α : Type} {g : α -> List Value} {z : Nat} (hz : ∀ x,(g x).length = z) (L : List α) : (L.flatMap g).length = L.length * z:=by
 induction L with
 | nil => simp
 | cons x L ih => simp only [List.flatMap_cons,List.length_append,hz,ih,List.length_cons,Nat.add_mul,Nat.one_mul]; omega
theorem flat_get {α : Type} {g : α -> List Value} {z : Nat} (hz : ∀ x,(g x).length = z) : ∀ {L : List α} {i j : Nat} {x : α},L[i]? = some x -> j < z -> (L.flatMap g)[i * z + j]? = (g x)[j]?:=by
 intro L
 induction L with
 | nil => intro i j x h _; simp at h
 | cons y L ih =>
  intro i j x h hj
  rw [List.flatMap_cons]
  cases i with
  | zero =>
   simp at h; subst h
   rw [Nat.zero_mul,Nat.zero_add,List.getElem?_append_left (by rw [hz]; exact hj)]
  | succ i =>
   simp at h
   rw [List.getElem?_append_right (by rw [hz,Nat.add_mul]; omega),hz,show (i + 1) * z + j - z = i * z + j by rw [Nat.add_mul]; omega]
   exact ih h hj
theorem flat_set {α : Type} {g : α -> List Value} {z : Nat} (hz : ∀ x,(g x).length = z) : ∀ {L : List α} {i j : Nat} {x y : α} {v : Value},L[i]? = some x -> j < z -> g y = (g x).set j v -> (L.flatMap g).set (i * z + j) v = (L.set i y).flatMap g:=by
 intro L
 induction L with
 | nil => intro i j x y v h; simp at h
 | cons u L ih =>
  intro i j x y v h hj hy
  cases i with
  | zero =>
   simp at h; subst h
   rw [Nat.zero_mul,Nat.zero_add,List.flatMap_cons,List.set_append_left _ _ (by rw [hz]; exact hj),List.set_cons_zero,List.flatMap_cons,hy]
  | succ i =>
   simp at h
   have e : (i + 1) * z + j - z = i * z + j:=by rw [Nat.add_mul]; omega
   rw [List.flatMap_cons,List.set_append_right _ _ (by rw [hz,Nat.add_mul]; omega),hz,e,List.set_cons_succ,List.flatMap_cons,ih h hj hy]
theorem row_get {α : Type} {g : α -> List Value} {z : Nat} {w : World} {A : Option Addr} {L : List α} {i : Nat} {x : α} (hz : ∀ x,(g x).length = z) (h0 : 0 < z) (h : Row w A (L.flatMap g)) (hx : L[i]? = some x) :
  ∃ a,A = some a /\ ∀ j v,(g x)[j]? = some v -> w.cell? (Addr.add (Addr.add a (Int.toNat (i : Int) * z)) j) = some v:=by
 obtain ⟨v0,e0⟩ : ∃ v,(g x)[0]? = some v:=⟨(g x)[0]'(by rw [hz]; exact h0),by simp [hz,h0]⟩
 obtain ⟨a,rfl,_⟩:=h _ _ ((flat_get hz hx h0).trans e0)
 refine ⟨a,rfl,fun j v hj => ?_⟩
 have hjz : j < z:=by rw [<- hz x]; exact (List.getElem?_eq_some_iff.1 hj).1
 obtain ⟨a',ha,h1⟩:=h _ _ ((flat_get hz hx hjz).trans hj)
 injection ha with ha
 subst ha
 rw [add_add,Int.toNat_natCast]
 exact h1
theorem ldAt {P : Program} {w : World} {t : TypeId} {a : Addr} {cs : List Value} (ht : isAggT P t = true) (hz : sizeAt P t = some cs.length) (h : ∀ j v,cs[j]? = some v -> w.cell? (a.add j) = some v) : (loadVar t a).run P w = .ok (.agg cs.toArray) w :=
 run_loadVar_agg ht hz h
theorem ldAll {P : Program} {w : World} {t : TypeId} {B T : Nat} {cs : List Value} (hb : Blk w B T cs) (ht : isAggT P t = true) (hz : sizeAt P t = some cs.length) : (loadVar t ⟨B,0,none⟩).run P w = .ok (.agg cs.toArray) w :=
 run_loadVar_agg ht hz fun j v hj => by rw [add_lit,hb.cell,Nat.zero_add]; exact hj
theorem st_own {α : Type} {P : Program} {w : World} {t e : TypeId} {z : Nat} {g : α -> List Value} {a : Addr} {n c : Nat} {L : List α} {i j : Nat} {x y : α} {v : Value} (hz : ∀ x,(g x).length = z) (ho : Own w e z (some a) n c (L.flatMap g)) (hx : L[i]? = some x) (hj : j < z) (hy : g y = (g x).set j v)
  (h1 : sizeAt P t = some 1) (hv : v.oneCell' = true) {K : World -> Prop} (hk : ∀ w',Kp [a.block] w w' -> w'.heap.size = w.heap.size -> Own w' e z (some a) n c ((L.set i y).flatMap g) -> K w') :
  RUNU P (storeVar t (Addr.add (Addr.add a (Int.toNat (i : Int) * z)) j) v) w K:=by
 rcases ho with ⟨h,_⟩ | ⟨B,spare,hA,hb,h2,h3,h4⟩
 ·cases h
 injection hA with hA
 subst hA
 rw [add_add,Int.toNat_natCast]
 have hi : i < L.length:=(List.getElem?_eq_some_iff.1 hx).1
 have hk1 : i * z + j < (L.flatMap g).length:=by
  rw [flat_length hz]
  have : (i + 1) * z <= L.length * z:=Nat.mul_le_mul_right z hi
  rw [Nat.add_mul] at this; omega
 refine st (i * z + j) hb h1 hv (by rw [List.length_append]; omega) fun w' k s hb' => hk w' k s (.inr ⟨B,spare,rfl,?_,?_,h3,h4⟩)
 ·rw [List.set_append_left _ _ hk1,flat_set hz hx hj hy] at hb'
  exact hb'
 ·rw [<- h2,flat_length hz,flat_length hz,List.length_set]
theorem stAll {P : Program} {w : World} {t : TypeId} {B T z : Nat} {cs : List Value} {v : Value} (hb : Blk w B T cs) (hl : cs.length = z) (hz : sizeAt P t = some z) (hv : v.cells.size = z) (hf : Flat v.cells.toList) {K : World -> Prop}
  (hk : ∀ w',Kp [B] w w' -> w'.heap.size = w.heap.size -> Blk w' B T v.cells.toList -> K w') : RUNU P (storeVar t ⟨B,0,none⟩ v) w K:=by
 have hr:=run_storeVar (P:=P) (t:=t) (v:=v) (o:=0) hb (by rw [hv]; exact hz) (by omega) hf
 have e : splice cs 0 v.cells.toList = v.cells.toList:=by
  unfold splice
  rw [List.drop_eq_nil_of_le (by simp; omega)]
  simp
 rw [e] at hr
 exact RUNU.of hr (hk _ (putBlk_kp _ _ _) (putBlk_size _ _ _) (hb.put (by simp; omega)))
theorem ex_get {α : Type} {L : List α} {j : Nat} (h : j < L.length) : ∃ x,L[j]? = some x:=⟨L[j],by simp [h]⟩
theorem take_snoc' {α : Type} {L : List α} {j : Nat} {x : α} (h : L[j]? = some x) : L.take (j + 1) = L.take j ++ [x]:=by rw [List.take_add_one,h]; rfl
theorem drop_cons' {α : Type} {L : List α} {j : Nat} {x : α} (h : L[j]? = some x) : L.drop j = x :: L.drop (j + 1):=by
 obtain ⟨h1,h2⟩:=List.getElem?_eq_some_iff.1 h
 rw [<- h2]; exact List.drop_eq_getElem_cons h1
end Go.Br
