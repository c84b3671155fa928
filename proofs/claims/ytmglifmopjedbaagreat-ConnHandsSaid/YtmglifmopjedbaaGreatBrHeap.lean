/- Memory: blocks that are known whole, rows that are read, what a call leaves as it was; what the operations on memory do to them. -/
import Derived.Test.YtmglifmopjedbaaGreatBrCode
import Derived.Below
import Derived.Laws.Append
import Derived.Laws.MakeOwn
import Derived.Laws.Rows
import Derived.Laws.NewBlocks
set_option linter.unusedVariables false
set_option linter.unusedSimpArgs false
namespace Go.Br
open Go
structure Blk (w : World) (B : Nat) (T : TypeId) (cs : List Value) : Prop where
 at_ : ∃ lo hi,w.heap[B]? = some (.cells cs.toArray T (lo,hi)) /\ (cs.length <= lo ∨ lo = hi)
structure Kp (S : List Nat) (w w' : World) : Prop where
 os : w'.os = w.os
 tape : w'.tape = w.tape
 output : w'.output = w.output
 size : w.heap.size <= w'.heap.size
 block : ∀ i,i < w.heap.size -> i ∉ S -> w'.heap[i]? = w.heap[i]?
def Row (w : World) (A : Option Addr) (cs : List Value) : Prop:=∀ j v,cs[j]? = some v -> ∃ a,A = some a /\ w.cell? (a.add j) = some v
theorem Kp.refl (w : World) : Kp [] w w:=⟨rfl,rfl,rfl,Nat.le_refl _,fun _ _ _ => rfl⟩
theorem Kp.drew (w : World) : Kp [] w w.drew:=⟨rfl,rfl,rfl,Nat.le_refl _,fun _ _ _ => rfl⟩
theorem Kp.mono {S S' : List Nat} {w w' : World} (h : Kp S w w') (hs : ∀ i ∈ S,i ∈ S') : Kp S' w w' :=
 ⟨h.os,h.tape,h.output,h.size,fun i hi hn => h.block i hi fun hm => hn (hs i hm)⟩
theorem Kp.trans {S S' R : List Nat} {w w1 w2 : World} (h : Kp S w w1) (h' : Kp S' w1 w2) (hs : ∀ i ∈ S,i ∈ R) (hs' : ∀ i ∈ S',i < w.heap.size -> i ∈ R) : Kp R w w2 :=
 ⟨h'.os.trans h.os,h'.tape.trans h.tape,h'.output.trans h.output,Nat.le_trans h.size h'.size,fun i hi hn =>
  (h'.block i (Nat.lt_of_lt_of_le hi h.size) fun hm => hn (hs' i hm hi)).trans (h.block i hi fun hm => hn (hs i hm))⟩
theorem Kp.then {S : List Nat} {w w1 w2 : World} (h : Kp S w w1) (h' : Kp S w1 w2) : Kp S w w2:=h.trans h' (fun _ h => h) fun _ h _ => h
theorem Kp.below {w w' : World} (h : Kp [] w w') : RowKit.Below w.heap.size w w':=⟨h.os,h.tape,h.output,h.size,fun i hi => h.block i hi (by simp)⟩
theorem Blk.lt {w : World} {B : Nat} {T : TypeId} {cs : List Value} (h : Blk w B T cs) : B < w.heap.size:=by
 obtain ⟨lo,hi,h,_⟩:=h.at_
 exact (Array.getElem?_eq_some_iff.1 h).1
theorem Blk.kp {S : List Nat} {w w' : World} {B : Nat} {T : TypeId} {cs : List Value} (h : Blk w B T cs) (k : Kp S w w') (hn : B ∉ S) : Blk w' B T cs:=by
 have hl:=h.lt
 obtain ⟨lo,hi,h1,h2⟩:=h.at_
 exact ⟨lo,hi,(k.block B hl hn).trans h1,h2⟩
theorem cell_kp {S : List Nat} {w w' : World} (k : Kp S w w') {a : Addr} {v : Value} (h : w.cell? a = some v) (hn : a.block ∉ S) : w'.cell? a = some v:=by
 have hl:=World.block_lt_of_cell? w a h
 unfold World.cell? at *
 rw [k.block _ hl hn]; exact h
theorem add_block (a : Addr) (n : Nat) : (a.add n).block = a.block:=by unfold Addr.add; split <;> rfl
theorem add_add (a : Addr) (n m : Nat) : (a.add n).add m = a.add (n + m):=by
 unfold Addr.add
 by_cases h : n = 0
 ·subst h; simp
 ·by_cases h' : m = 0
  ·subst h'; simp [h]
  ·have : ¬ n + m = 0:=by omega
   simp [h,h',this,Nat.add_assoc]
theorem add_lit (B o n : Nat) : Addr.add ⟨B,o,none⟩ n = ⟨B,o + n,none⟩:=by unfold Addr.add; split <;> simp_all
theorem Row.kp {S : List Nat} {w w' : World} {A : Option Addr} {cs : List Value} (h : Row w A cs) (k : Kp S w w') (hn : ∀ a,A = some a -> cs ≠ [] -> a.block ∉ S) : Row w' A cs:=by
 intro j v hj
 obtain ⟨a,ha,hc⟩:=h j v hj
 exact ⟨a,ha,cell_kp k hc (by rw [add_block]; exact hn a ha (by intro e; subst e; simp at hj))⟩
theorem Row.nil (w : World) (A : Option Addr) : Row w A []:=by intro j v h; simp at h
theorem Blk.cell {w : World} {B : Nat} {T : TypeId} {cs : List Value} (h : Blk w B T cs) (o : Nat) : w.cell? ⟨B,o,none⟩ = cs[o]?:=by
 obtain ⟨lo,hi,h,_⟩:=h.at_
 simp [World.cell?,h]
theorem Blk.frozen {w : World} {B : Nat} {T : TypeId} {cs : List Value} (h : Blk w B T cs) {o : Nat} (ho : o < cs.length) : w.frozen? ⟨B,o,none⟩ = false:=by
 obtain ⟨lo,hi,h,h'⟩:=h.at_
 simp only [World.frozen?,h]
 simp only [Bool.and_eq_false_imp,decide_eq_true_eq,decide_eq_false_iff_not]
 intro _; omega
theorem Blk.row {w : World} {B : Nat} {T : TypeId} {cs : List Value} (h : Blk w B T cs) (o n : Nat) : Row w (some ⟨B,o,none⟩) ((cs.drop o).take n):=by
 intro j v hj
 refine ⟨_,rfl,?_⟩
 rw [add_lit,h.cell]
 simp only [List.getElem?_take,List.getElem?_drop] at hj
 split at hj
 ·exact hj
 ·cases hj
def World.putBlk (w : World) (B : Nat) (cs : List Value) : World :=
 { w with heap:=w.heap.modify B fun
   | .cells _ T fr => .cells cs.toArray T fr
   | o => o }
theorem putBlk_kp (w : World) (B : Nat) (cs : List Value) : Kp [B] w (World.putBlk w B cs):=by
 refine ⟨rfl,rfl,rfl,by simp [World.putBlk],fun i hi hn => ?_⟩
 have : ¬ B = i:=fun e => hn (by simp [e])
 simp [World.putBlk,Array.getElem?_modify,this]
theorem putBlk_size (w : World) (B : Nat) (cs : List Value) : (World.putBlk w B cs).heap.size = w.heap.size:=by simp [World.putBlk]
theorem Blk.put {w : World} {B : Nat} {T : TypeId} {cs : List Value} (h : Blk w B T cs) {cs' : List Value} (hl : cs'.length = cs.length) : Blk (World.putBlk w B cs') B T cs':=by
 obtain ⟨lo,hi,h,h'⟩:=h.at_
 refine ⟨lo,hi,?_,by rw [hl]; exact h'⟩
 simp [World.putBlk,Array.getElem?_modify,h]
theorem setCell_eq {w : World} {B : Nat} {T : TypeId} {cs : List Value} (h : Blk w B T cs) (o : Nat) (v : Value) : w.setCell ⟨B,o,none⟩ v = World.putBlk w B (cs.set o v):=by
 obtain ⟨lo,hi,h,h'⟩:=h.at_
 unfold World.setCell World.putBlk
 congr 1
 apply Array.ext_getElem?
 intro i
 simp only [Array.getElem?_modify]
 by_cases hi : B = i
 ·subst hi
  simp only [if_true,h,Option.map_some,Option.isSome_none,Bool.false_eq_true,if_false]
  congr 2
  apply Array.ext'
  simp
 ·simp [hi]
theorem putBlk_put (w : World) (B : Nat) (cs cs' : List Value) : World.putBlk (World.putBlk w B cs) B cs' = World.putBlk w B cs':=by
 unfold World.putBlk
 congr 1
 apply Array.ext_getElem?
 intro i
 simp only [Array.getElem?_modify]
 by_cases hi : B = i
 ·subst hi
  simp only [if_true,Option.map_map]
  congr 1
  funext x
  cases x <;> rfl
 ·simp [hi]
def splice (cs : List Value) (o : Nat) (new : List Value) : List Value:=cs.take o ++ new ++ cs.drop (o + new.length)
theorem splice_length {cs : List Value} {o : Nat} {new : List Value} (h : o + new.length <= cs.length) : (splice cs o new).length = cs.length:=by
 simp [splice]; omega
theorem splice_nil (cs : List Value) (o : Nat) : splice cs o [] = cs:=by simp [splice]
theorem splice_cons {cs : List Value} {o : Nat} {v : Value} {r : List Value} (h : o + (r.length + 1) <= cs.length) : splice cs o (v :: r) = splice (cs.set o v) (o + 1) r:=by
 unfold splice
 have h1 : (cs.set o v).take (o + 1) = cs.take o ++ [v]:=by
  rw [List.take_set,List.take_succ_eq_append_getElem (by omega)]
  rw [List.set_append_right _ _ (by simp; omega)]
  simp [Nat.min_eq_left (show o <= cs.length by omega)]
 have h2 : (cs.set o v).drop (o + 1 + r.length) = cs.drop (o + (r.length + 1)):=by
  rw [List.drop_set_of_lt (by omega)]; congr 1; omega
 rw [h1,h2]
 simp
theorem run_storeCells {P : Program} : ∀ (new : List Value) (w : World) (B : Nat) (T : TypeId) (cs : List Value) (o i : Nat),Blk w B T cs -> o + i + new.length <= cs.length -> (∀ v ∈ new,v.oneCell' = true) ->
  (storeCells ⟨B,o,none⟩ new i).run P w = .ok () (World.putBlk w B (splice cs (o + i) new))
 | [],w,B,T,cs,o,i,h,hl,hv => by
  rw [splice_nil]
  have : World.putBlk w B cs = w:=by
   obtain ⟨lo,hi,h,h'⟩:=h.at_
   unfold World.putBlk
   cases w
   congr 1
   apply Array.ext_getElem?
   intro j
   simp only [Array.getElem?_modify]
   by_cases hj : B = j
   ·subst hj; simp only [if_true]; simp only at h; rw [h]; rfl
   ·simp [hj]
  simp [storeCells,this]
 | v :: r,w,B,T,cs,o,i,h,hl,hv => by
  simp only [List.length_cons] at hl
  have hc : w.cell? ⟨B,o + i,none⟩ = some (cs[o + i]'(by omega)):=by rw [h.cell]; exact List.getElem?_eq_getElem _
  have hf:=h.frozen (o:=o + i) (by omega)
  have hs:=run_store P w ⟨B,o + i,none⟩ v .plain (hv v List.mem_cons_self)
  rw [hc] at hs
  simp only [hf,Bool.false_eq_true,if_false] at hs
  have h1 : Blk (w.setCell ⟨B,o + i,none⟩ v) B T (cs.set (o + i) v):=by rw [setCell_eq h]; exact h.put (by simp)
  have ih:=run_storeCells (P:=P) r _ B T (cs.set (o + i) v) o (i + 1) h1 (by simp; omega) (fun u hu => hv u (List.mem_cons_of_mem _ hu))
  simp only [storeCells,Sem.run_bind,add_lit,hs,Result.andThen_ok]
  rw [ih,setCell_eq h,putBlk_put,splice_cons (by simpa using hl)]
  rfl
/-! ### Loads and stores -/
theorem run_loadVar {P : Program} {w : World} {t : TypeId} {a : Addr} {v : Value} (ht : isAggT P t = false) (hd : (P.underlying t).isSome = true) (h : w.cell? a = some v) : (loadVar t a).run P w = .ok v w:=by
 have hag : (isAgg t).run P w = .ok false w:=by
  unfold isAggT at ht
  cases hu : P.underlying t with
  | none => rw [hu] at hd; cases hd
  | some d =>
   rw [hu] at ht
   simp only [isAgg,Sem.run_bind,run_und hu,Result.andThen_ok]
   cases d <;> first | rfl | cases ht
 simp [loadVar,hag,h]
theorem run_loadVar_agg {P : Program} {w : World} {t : TypeId} {a : Addr} {cs : List Value} (ht : isAggT P t = true) (hz : sizeAt P t = some cs.length) (h : ∀ j v,cs[j]? = some v -> w.cell? (a.add j) = some v) :
  (loadVar t a).run P w = .ok (.agg cs.toArray) w:=by
 have hag : (isAgg t).run P w = .ok true w:=by
  unfold isAggT at ht
  split at ht
  ·rename_i hu; simp [isAgg,run_und hu]
  ·rename_i hu; simp [isAgg,run_und hu]
  ·cases ht
 unfold sizeAt at hz
 cases hi : P.info? t with
 | none => simp [hi] at hz
 | some i =>
  simp [hi] at hz
  simp [loadVar,hag,sizeOf,run_info hi,hz,run_loadCells_list w a cs h]
theorem run_storeVar {P : Program} {w : World} {t : TypeId} {B o : Nat} {T : TypeId} {cs : List Value} {v : Value} (hB : Blk w B T cs) (hz : sizeAt P t = some v.cells.size) (ho : o + v.cells.size <= cs.length) (hv : ∀ u ∈ v.cells.toList,u.oneCell' = true) :
  (storeVar t ⟨B,o,none⟩ v).run P w = .ok () (World.putBlk w B (splice cs o v.cells.toList)):=by
 unfold sizeAt at hz
 cases hi : P.info? t with
 | none => simp [hi] at hz
 | some i =>
  simp [hi] at hz
  have:=run_storeCells (P:=P) v.cells.toList w B T cs o 0 hB (by simpa using ho) hv
  simp only [Nat.add_zero] at this
  simp [storeVar,sizeOf,run_info hi,hz,this]
theorem splice_one {cs : List Value} {o : Nat} {v : Value} (h : o < cs.length) : splice cs o [v] = cs.set o v:=by
 unfold splice
 rw [List.set_eq_take_append_cons_drop]
 simp [h]
/-! ### New blocks -/
theorem alloc_kp (w : World) (o : Obj) : Kp [] w (w.alloc o):=by
 refine ⟨rfl,rfl,rfl,by simp,fun i hi _ => ?_⟩
 simp only [World.alloc,Array.getElem?_push]
 simp [Nat.ne_of_lt hi]
theorem Blk.new (w : World) (cs : Array Value) (T : TypeId) : Blk (w.alloc (.cells cs T)) w.heap.size T cs.toList :=
 ⟨0,0,by simp only [World.alloc,Array.getElem?_push]; simp,.inr rfl⟩
theorem run_box {P : Program} (w : World) (t : TypeId) (v : Value) : (Instr.box t v).run P w = .ok (.pointer (some ⟨w.heap.size,0,none⟩)) (w.alloc (.cells v.cells t)):=by
 simp [Instr.box,newVar,newRow]
theorem run_alloc {P : Program} (w : World) (t : TypeId) {i : TypeInfo} {z : Value} (hi : P.info? t = some i) (hz : i.zero = some z) :
  (Instr.alloc t true (.tuple #[])).run P w = .ok (.pointer (some ⟨w.heap.size,0,none⟩)) (w.alloc (.cells z.cells t)):=by
 simp [Instr.alloc,zeroValue,run_info hi,hz,newVar,newRow]
/-! ### The steps -/
theorem RD.of {P : Program} {s : Sem Value} {w : World} {K : Value -> Prop} {v : Value} (h : s.run P w = .ok v w) (hk : K v) : RD P s w K:=⟨v,h,hk⟩
theorem RUN.of {P : Program} {s : Sem Value} {w w' : World} {K : Value -> World -> Prop} {v : Value} (h : s.run P w = .ok v w') (hk : K v w') : RUN P s w K:=⟨v,w',h,hk⟩
theorem RUNU.of {P : Program} {s : Sem Unit} {w w' : World} {K : World -> Prop} (h : s.run P w = .ok () w') (hk : K w') : RUNU P s w K:=⟨w',h,hk⟩
end Go.Br
