/- Memory: slices: made, grown, copied, cleared; strings and their bytes. -/
import Derived.Test.YtmglifmopjedbaaGreatBrHeap
import Derived.Laws.BytesArg
import Derived.Laws.AppendOwn
set_option linter.unusedVariables false
set_option linter.unusedSimpArgs false
namespace Go.Br
open Go
def Own (w : World) (e : TypeId) (z : Nat) (A : Option Addr) (n c : Nat) (cs : List Value) : Prop :=
 (A = none /\ n = 0 /\ c = 0 /\ cs = []) ∨ ∃ B spare,A = some ⟨B,0,none⟩ /\ Blk w B e (cs ++ spare) /\ cs.length = n * z /\ spare.length = (c - n) * z /\ n <= c
def fpA (A : Option Addr) : List Nat:=match A with
 | some a => [a.block]
 | none => []
theorem Own.nil (w : World) (e : TypeId) (z : Nat) : Own w e z none 0 0 []:=.inl ⟨rfl,rfl,rfl,rfl⟩
theorem Own.length {w : World} {e : TypeId} {z : Nat} {A : Option Addr} {n c : Nat} {cs : List Value} (h : Own w e z A n c cs) : cs.length = n * z:=by
 rcases h with ⟨_,rfl,_,rfl⟩ | ⟨B,spare,_,_,h,_⟩
 ·simp
 ·exact h
theorem Own.row {w : World} {e : TypeId} {z : Nat} {A : Option Addr} {n c : Nat} {cs : List Value} (h : Own w e z A n c cs) : Row w A cs:=by
 rcases h with ⟨_,_,_,rfl⟩ | ⟨B,spare,rfl,hb,h1,h2,h3⟩
 ·exact Row.nil _ _
 ·have:=hb.row 0 cs.length
  simpa using this
theorem Own.lt {w : World} {e : TypeId} {z : Nat} {A : Option Addr} {n c : Nat} {cs : List Value} (h : Own w e z A n c cs) : ∀ i ∈ fpA A,i < w.heap.size:=by
 rcases h with ⟨rfl,_⟩ | ⟨B,spare,rfl,hb,_⟩
 ·simp [fpA]
 ·simpa [fpA] using hb.lt
theorem Own.le {w : World} {e : TypeId} {z : Nat} {A : Option Addr} {n c : Nat} {cs : List Value} (h : Own w e z A n c cs) : n <= c:=by
 rcases h with ⟨_,rfl,rfl,_⟩ | ⟨B,spare,_,_,_,_,h⟩
 ·exact Nat.le_refl _
 ·exact h
theorem Row.take {w : World} {A : Option Addr} {cs : List Value} (h : Row w A cs) (n : Nat) : Row w A (cs.take n):=by
 intro j v hj
 simp only [List.getElem?_take] at hj
 split at hj
 ·exact h j v hj
 ·cases hj
theorem Row.drop {w : World} {A : Option Addr} {cs : List Value} (h : Row w A cs) (n : Nat) : Row w (A.map (·.add n)) (cs.drop n):=by
 intro j v hj
 simp only [List.getElem?_drop] at hj
 obtain ⟨a,rfl,hc⟩:=h _ v hj
 exact ⟨_,rfl,by rw [add_add]; exact hc⟩
theorem cutA_row {w : World} {A : Option Addr} {cs : List Value} {c z : Nat} {l : Int} (h : Row w A cs) (hc : cs.length <= c * z) : Row w (cutA A c z l) (cs.drop (l.toNat * z)):=by
 unfold cutA
 split
 ·rename_i e
  rw [List.drop_eq_nil_of_le (by rw [<- e]; exact hc)]
  exact Row.nil _ _
 ·exact h.drop _
theorem cutA_zero (A : Option Addr) (c z : Nat) : cutA A c z 0 = A:=by
 unfold cutA
 split
 ·rfl
 ·cases A <;> simp [Addr.add]
theorem cutA_at {B o c z : Nat} {l : Int} (h : l.toNat < c) : cutA (some ⟨B,o,none⟩) c z l = some ⟨B,o + l.toNat * z,none⟩:=by
 unfold cutA
 rw [if_neg (by omega)]
 simp [add_lit]
theorem wrap_i64 {n : Int} (h1 : -9223372036854775808 <= n) (h2 : n <= 9223372036854775807) : IntKind.i64.wrap n = n:=by
 simp only [IntKind.wrap,IntKind.bits,IntKind.signed]
 simp only [Bool.true_and]
 split <;> simp at * <;> omega
theorem wrapU8 (n : Int) : IntKind.u8.wrap n = n % 256:=by simp [IntKind.wrap,IntKind.bits,IntKind.signed]
theorem wrapU16 (n : Int) : IntKind.u16.wrap n = n % 65536:=by simp [IntKind.wrap,IntKind.bits,IntKind.signed]
theorem wrapU32 (n : Int) : IntKind.u32.wrap n = n % 4294967296:=by simp [IntKind.wrap,IntKind.bits,IntKind.signed]
theorem wrapU64 (n : Int) : IntKind.u64.wrap n = n % 18446744073709551616:=by simp [IntKind.wrap,IntKind.bits,IntKind.signed]
theorem shrU64 {x : Int} {i : Nat} (hi : i <= 64) : shrN .u64 x (i : Int) = x / 2 ^ i:=by
 unfold shrN
 rw [show min (Int.toNat (i : Int)) (IntKind.bits .u64) = i by simp [IntKind.bits]; omega]
 exact Int.fdiv_eq_ediv_of_nonneg x (Int.le_of_lt (Int.pow_pos (by decide)))
def byteOf (n : Int) : UInt8:=UInt8.ofNat (n % 256).toNat
theorem byteOf_val (n : Int) : ((byteOf n).toNat : Int) = n % 256:=by
 unfold byteOf
 rw [UInt8.toNat_ofNat']
 have h0:=Int.emod_nonneg n (show (256 : Int) ≠ 0 by decide)
 have h1:=Int.emod_lt_of_pos n (show (0 : Int) < 256 by decide)
 omega
theorem run_firstCells {P : Program} {w : World} {A : Option Addr} {n m c : Nat} {cs : List Value} {z : Nat} (h : Row w A cs) (hl : cs.length = n * z) (hA : A = none -> cs = []) :
  (Builtin.firstCells z n (.slice A m c)).run P w = .ok cs.toArray w:=by
 cases A with
 | none => rw [hA rfl]; simp [Builtin.firstCells]
 | some a =>
  refine run_firstCells_some w z n a m c cs hl fun j v hj => ?_
  obtain ⟨b,hb,hc⟩:=h j v hj
  injection hb with hb
  subst hb
  exact hc
theorem Row.none {w : World} {cs : List Value} (h : Row w none cs) : cs = []:=by
 cases cs with
 | nil => rfl
 | cons c r => obtain ⟨a,ha,_⟩:=h 0 c (by simp); cases ha
theorem run_firstCells' {P : Program} {w : World} {A : Option Addr} {n m c : Nat} {cs : List Value} {z : Nat} (h : Row w A cs) (hl : cs.length = n * z) :
 (Builtin.firstCells z n (.slice A m c)).run P w = .ok cs.toArray w:=run_firstCells h hl fun e => by subst e; exact h.none
def zeros (zero : List Value) (n : Nat) : List Value:=(Builtin.zeroCells zero.toArray n).toList
theorem zeros_length (zero : List Value) (n : Nat) : (zeros zero n).length = n * zero.length:=by simp [zeros,Builtin.zeroCells]
def Flat (cs : List Value) : Prop:=∀ v ∈ cs,v.oneCell' = true
theorem Flat.take {a : List Value} (h : Flat a) (n : Nat) : Flat (a.take n):=fun v hv => h v (List.mem_of_mem_take hv)
theorem RUN.append {P : Program} {w : World} {t ty e : TypeId} {z b : Nat} {i : TypeInfo} {zv : Value} (hu : P.underlying t = some (.slice e)) (hi : P.info? e = some i) (hz : i.size = z) (hb : i.bytes = b) (hzero : i.zero = some zv) (hzc : zv.cells.size = z) (hb0 : b ≠ 0) (hz0 : z <= b)
  {A : Option Addr} {n c : Nat} {cs : List Value} (ho : Own w e z A n c cs) {A2 : Option Addr} {m c2 : Nat} {new : List Value} (hr : Row w A2 new) (hl : new.length = m * z) (hf : Flat new)
  (hbig : (n + m) * b <= 140737488355328) {K : Value -> World -> Prop}
  (hk : ∀ A' c' w',Kp (fpA A) w w' -> Own w' e z A' (n + m) c' (cs ++ new) -> (A' = A ∨ ∃ a,A' = some a /\ w.heap.size <= a.block) -> K (.slice A' (n + m) c') w') :
  RUN P (Builtin.append_ #[t,t] ty #[.slice A n c,.slice A2 m c2]) w K:=by
 have hle:=ho.le
 have hcl:=ho.length
 by_cases hroom : n + m <= c
 ·-- there is room
  have hn : (Builtin.firstCells z m (.slice A2 m c2)).run P w = .ok new.toArray w:=run_firstCells' hr hl
  rcases ho with ⟨rfl,rfl,rfl,rfl⟩ | ⟨B,spare,rfl,hB,h1,h2,h3⟩
  ·have : m = 0:=by omega
   subst this
   have : new = []:=by simpa using hl
   subst this
   refine RUN.of (v:=.slice none 0 0) (w':=w) ?_ (hk none 0 w ((Kp.refl w).mono (by simp)) (Own.nil _ _ _) (.inl rfl))
   simp [Builtin.append_,run_und hu,sizeOf,run_info hi,Builtin.lenOf,hz,hn]
  ·have hlen : n * z + new.length <= (cs ++ spare).length:=by
    simp only [List.length_append]; rw [hl,h1,h2,<- Nat.add_mul,<- Nat.add_mul]
    exact Nat.mul_le_mul_right _ (by omega)
   have hs:=run_storeCells (P:=P) new w B e (cs ++ spare) (n * z) 0 hB (by simpa using hlen) hf
   simp only [Nat.add_zero] at hs
   have hsplice : splice (cs ++ spare) (n * z) new = (cs ++ new) ++ spare.drop (m * z):=by
    unfold splice
    rw [<- h1]
    simp only [List.take_left,List.drop_append]
    rw [List.drop_eq_nil_of_le (by omega)]
    simp [<- hl]
   refine RUN.of (v:=.slice (some ⟨B,0,none⟩) (n + m) c) (w':=World.putBlk w B (splice (cs ++ spare) (n * z) new)) ?_ (hk _ _ _ (by simpa [fpA] using putBlk_kp w B _) ?_ (.inl rfl))
   ·simp [Builtin.append_,run_und hu,sizeOf,run_info hi,Builtin.lenOf,hz,hn,hroom,add_lit,hs]
   ·refine .inr ⟨B,spare.drop (m * z),rfl,?_,by simp [h1,hl,Nat.add_mul],?_,by omega⟩
    ·rw [<- hsplice]; exact hB.put (splice_length hlen)
    ·simp only [List.length_drop,h2]; rw [<- Nat.sub_mul]; congr 1; omega
 ·-- a new array
  have hn : (Builtin.firstCells z m (.slice A2 m c2)).run P w.drew = .ok new.toArray w.drew:=run_firstCells' (w:=w.drew) (fun j v hj => hr j v hj) hl
  have ho' : (Builtin.firstCells z n (.slice A n c)).run P w.drew = .ok cs.toArray w.drew:=run_firstCells' (w:=w.drew) (fun j v hj => ho.row j v hj) hcl
  have hbb : n + m <= (n + m) * b:=Nat.le_mul_of_pos_right _ (Nat.pos_of_ne_zero hb0)
  have h63 : ¬ (9223372036854775807 < (n : Int) + (m : Int)):=by omega
  have hfit : Builtin.nextslicecap (n + m) c * b <= 281474976710656:=growslice_fits (by omega) hbig
  have h48 : ¬ (281474976710656 < Builtin.nextslicecap (n + m) c * b):=by omega
  have hrun : (Builtin.append_ #[t,t] ty #[.slice A n c,.slice A2 m c2]).run P w =
    .ok (.slice (some ⟨w.heap.size,0,none⟩) (n + m) (grownCap w (n + m) c e)) (w.drew.alloc (.cells (cs.toArray ++ new.toArray ++ Builtin.zeroCells zv.cells (grownCap w (n + m) c e - (n + m))) e)):=by
   simp [Builtin.append_,run_und hu,sizeOf,run_info hi,Builtin.lenOf,hz,hb,hroom,h63,h48,Question.forced,hn,ho',zeroValue,hzero,newRow,grownCap]
   congr 2
   apply Array.ext'
   simp [List.append_assoc]
  have hge : n + m <= grownCap w (n + m) c e:=by simp [grownCap,Question.cut]
  refine RUN.of hrun (hk _ _ _ ?_ ?_ (.inr ⟨_,rfl,Nat.le_refl _⟩))
  ·exact ((Kp.drew w).then (alloc_kp _ _)).mono (by simp)
  ·refine .inr ⟨w.heap.size,(Builtin.zeroCells zv.cells (grownCap w (n + m) c e - (n + m))).toList,rfl,?_,by simp [hcl,hl,Nat.add_mul],by simp [Builtin.zeroCells,hzc],hge⟩
   have:=Blk.new w.drew (cs.toArray ++ new.toArray ++ Builtin.zeroCells zv.cells (grownCap w (n + m) c e - (n + m))) e
   simpa [List.append_assoc] using this
theorem RUN.makeSlice {P : Program} {w : World} {t e : TypeId} {i : TypeInfo} {zv : Value} (hu : P.underlying t = some (.slice e)) (hi : P.info? e = some i) (hzero : i.zero = some zv) (hzc : zv.cells.size = i.size)
  {l c : Int} (h0 : 0 <= l) (h1 : l <= c) (hbig : i.bytes * c <= 140737488355328) (hc : c <= 140737488355328) {K : Value -> World -> Prop}
  (hk : ∀ w',Kp [] w w' -> w'.heap.size = w.heap.size + 1 -> Blk w' w.heap.size e (zeros zv.cells.toList c.toNat) -> K (.slice (some ⟨w.heap.size,0,none⟩) l.toNat c.toNat) w') :
  RUN P (Instr.makeSlice t (.int .i64 l) (.int .i64 c)) w K:=by
 have hrun:=run_make (P:=P) w t e i zv hu hi hzero .i64 .i64 l c h0 h1 (by omega) (by omega)
 have hm : madeCells zv.cells (c.toNat * i.size) = Builtin.zeroCells zv.cells c.toNat:=by simp [madeCells,Builtin.zeroCells,hzc]
 rw [hm] at hrun
 refine RUN.of hrun (hk _ (alloc_kp _ _) (by simp) ?_)
 have:=Blk.new w (Builtin.zeroCells zv.cells c.toNat) e
 simpa [zeros] using this
theorem RUN.copy {P : Program} {w : World} {t ty e : TypeId} {z : Nat} (hu : P.underlying t = some (.slice e)) (hz : sizeAt P e = some z)
  {B o T dn dc : Nat} {cs : List Value} (hB : Blk w B T cs) (hd : o + dn * z <= cs.length) {A2 : Option Addr} {m c2 : Nat} {new : List Value} (hr : Row w A2 new) (hl : new.length = m * z) (hf : Flat new) {K : Value -> World -> Prop}
  (hk : ∀ w',Kp [B] w w' -> w'.heap.size = w.heap.size -> Blk w' B T (splice cs o (new.take (min m dn * z))) -> K (.int .i64 ((min m dn : Nat) : Int)) w') :
  RUN P (Builtin.copy_ #[t,t] ty #[.slice (some ⟨B,o,none⟩) dn dc,.slice A2 m c2]) w K:=by
 unfold sizeAt at hz
 cases hi : P.info? e with
 | none => simp [hi] at hz
 | some i =>
  simp [hi] at hz
  have hlen : (new.take (min m dn * z)).length = min m dn * z:=by
   simp only [List.length_take,hl]
   exact Nat.min_eq_left (Nat.mul_le_mul_right _ (Nat.min_le_left _ _))
  have hle : o + (new.take (min m dn * z)).length <= cs.length:=by
   rw [hlen]
   exact Nat.le_trans (Nat.add_le_add_left (Nat.mul_le_mul_right _ (Nat.min_le_right _ _)) _) hd
  have hn : (Builtin.firstCells z (min m dn) (.slice A2 m c2)).run P w = .ok (new.take (min m dn * z)).toArray w:=run_firstCells' (hr.take _) hlen
  have hs:=run_storeCells (P:=P) (new.take (min m dn * z)) w B T cs o 0 hB (by simpa using hle) (hf.take _)
  simp only [Nat.add_zero] at hs
  refine RUN.of (v:=.int .i64 ((min m dn : Nat) : Int)) (w':=World.putBlk w B (splice cs o (new.take (min m dn * z)))) ?_ (hk _ (putBlk_kp _ _ _) (putBlk_size _ _ _) (hB.put (splice_length hle)))
  have hn' : (Builtin.firstCells z (Nat.min m dn) (.slice A2 m c2)).run P w = .ok (new.take (min m dn * z)).toArray w:=hn
  simp only [Builtin.copy_,Sem.run_bind,run_und hu,Result.andThen_ok,sizeOf,run_info hi,Sem.run_pure,Builtin.lenOf,hz,List.getElem?_toArray,List.getElem?_cons_zero,List.getElem?_cons_succ,hn']
  simp [hs,goInt]
theorem RUN.clear {P : Program} {w : World} {t ty e : TypeId} {i : TypeInfo} {zv : Value} (hu : P.underlying t = some (.slice e)) (hi : P.info? e = some i) (hzero : i.zero = some zv)
  {B o T dn dc : Nat} {cs : List Value} (hB : Blk w B T cs) (hd : o + dn * zv.cells.size <= cs.length) (hf : Flat zv.cells.toList) {K : Value -> World -> Prop}
  (hk : ∀ w',Kp [B] w w' -> w'.heap.size = w.heap.size -> Blk w' B T (splice cs o (zeros zv.cells.toList dn)) -> K (.tuple #[]) w') :
  RUN P (Builtin.clear_ #[t] ty #[.slice (some ⟨B,o,none⟩) dn dc]) w K:=by
 have hlen : o + (zeros zv.cells.toList dn).length <= cs.length:=by rw [zeros_length]; simpa using hd
 have hff : Flat (zeros zv.cells.toList dn):=by
  intro v hv
  simp only [zeros,Builtin.zeroCells] at hv
  simp only [Array.toList_map,List.mem_map,Array.mem_toList_iff,Array.mem_range] at hv
  obtain ⟨j,hj,rfl⟩:=hv
  have hp : 0 < zv.cells.size:=by
   rcases Nat.eq_zero_or_pos zv.cells.size with h | h
   ·simp [h] at hj
   ·exact h
  have : j % zv.cells.size < zv.cells.size:=Nat.mod_lt _ hp
  refine hf _ ?_
  simp [this]
 cases dn with
 | zero =>
  have hz : zeros zv.cells.toList 0 = []:=by simp [zeros,Builtin.zeroCells]
  rw [hz,splice_nil] at hk
  refine RUN.of (v:=.tuple #[]) (w':=w) ?_ (hk w ((Kp.refl w).mono (by simp)) rfl hB)
  simp [Builtin.clear_,run_und hu]
 | succ dn =>
  have hs:=run_storeCells (P:=P) (zeros zv.cells.toList (dn + 1)) w B T cs o 0 hB (by simpa using hlen) hff
  simp only [Nat.add_zero] at hs
  refine RUN.of (v:=.tuple #[]) (w':=World.putBlk w B (splice cs o (zeros zv.cells.toList (dn + 1)))) ?_ (hk _ (putBlk_kp _ _ _) (putBlk_size _ _ _) (hB.put (splice_length hlen)))
  simp only [zeros,Array.toArray_toList] at hs
  simp [Builtin.clear_,run_und hu,zeroValue,run_info hi,hzero,zeros,hs]
/-! ### Bytes -/
def bv (b : UInt8) : Value:=.int .u8 (b.toNat : Int)
def bvs (bs : List UInt8) : List Value:=bs.map bv
theorem bvs_ne {bs : List UInt8} (h : bvs bs ≠ []) : bs ≠ []:=by intro e; subst e; exact h rfl
@[simp] theorem bvs_length (bs : List UInt8) : (bvs bs).length = bs.length:=by simp [bvs]
theorem bv_byteOf (n : Int) : Value.int .u8 (n % 256) = bv (byteOf n):=by rw [bv,byteOf_val]
theorem Flat.bvs (bs : List UInt8) : Flat (bvs bs):=by
 intro v hv
 simp only [Br.bvs,List.mem_map] at hv
 obtain ⟨b,_,rfl⟩:=hv
 rfl
theorem bvs_take (bs : List UInt8) (n : Nat) : (bvs bs).take n = bvs (bs.take n):=by simp [bvs,List.map_take]
theorem bvs_drop (bs : List UInt8) (n : Nat) : (bvs bs).drop n = bvs (bs.drop n):=by simp [bvs,List.map_drop]
theorem bvs_append (a b : List UInt8) : bvs a ++ bvs b = bvs (a ++ b):=by simp [bvs]
/-! ### Short forms -/
theorem Blk.drew {w : World} {B : Nat} {T : TypeId} {cs : List Value} (h : Blk w B T cs) : Blk w.drew B T cs:=⟨h.at_⟩
def ldT (P : Program) (t : TypeId) : Bool:=!(isAggT P t) && (P.underlying t).isSome
theorem ld {P : Program} {w : World} {t : TypeId} {B : Nat} {T : TypeId} {cs : List Value} {v : Value} (o : Nat) (hB : Blk w B T cs) (hv : cs[o]? = some v) (ht : ldT P t = true) :
  (loadVar t (Addr.add ⟨B,0,none⟩ o)).run P w = .ok v w:=by
 simp only [ldT,Bool.and_eq_true,Bool.not_eq_true'] at ht
 refine run_loadVar ht.1 ht.2 ?_
 rw [add_lit,Nat.zero_add,hB.cell,hv]
theorem st {P : Program} {w : World} {t : TypeId} {B : Nat} {T : TypeId} {cs : List Value} {v : Value} (o : Nat) (hB : Blk w B T cs) (hz : sizeAt P t = some 1) (hv : v.oneCell' = true) (ho : o < cs.length) {K : World -> Prop}
  (hk : ∀ w',Kp [B] w w' -> w'.heap.size = w.heap.size -> Blk w' B T (cs.set o v) -> K w') : RUNU P (storeVar t (Addr.add ⟨B,0,none⟩ o) v) w K:=by
 have hc : v.cells = #[v]:=by cases v <;> first | rfl | cases hv
 rw [add_lit,Nat.zero_add]
 refine RUNU.of (w':=World.putBlk w B (cs.set o v)) ?_ (hk _ (putBlk_kp _ _ _) (putBlk_size _ _ _) (hB.put (by simp)))
 have:=run_storeVar (P:=P) (t:=t) (v:=v) (o:=o) hB (by rw [hc]; exact hz) (by rw [hc]; exact ho) (by rw [hc]; simpa using hv)
 rw [this,hc,splice_one ho]
theorem leti {x y : Int} {K : Int -> Prop} (h : x = y) (hk : K y) : LETI x K:=by subst h; exact hk
theorem letb {x y : Bool} {K : Bool -> Prop} (h : x = y) (hk : K y) : LETB x K:=by subst h; exact hk
theorem ift {b : Bool} {X Y : Prop} (h : b = true) (hx : X) : IFB b X Y:=⟨fun _ => hx,fun h' => by rw [h] at h'; cases h'⟩
theorem iff_ {b : Bool} {X Y : Prop} (h : b = false) (hy : Y) : IFB b X Y:=⟨fun h' => (by rw [h] at h'; cases h'),fun _ => hy⟩
theorem ifd {p : Prop} [Decidable p] {X Y : Prop} (hx : p -> X) (hy : ¬ p -> Y) : IFB (decide p) X Y:=⟨fun h => hx (of_decide_eq_true h),fun h => hy (of_decide_eq_false h)⟩
theorem ifdt {p : Prop} [Decidable p] {X Y : Prop} (h : p) (hx : X) : IFB (decide p) X Y:=ift (decide_eq_true h) hx
theorem ifdf {p : Prop} [Decidable p] {X Y : Prop} (h : ¬ p) (hy : Y) : IFB (decide p) X Y:=iff_ (decide_eq_false h) hy
def TI (P : Program) (e : TypeId) (z b : Nat) (zv : Value) : Prop:=∃ i,P.info? e = some i /\ i.size = z /\ i.bytes = b /\ i.zero = some zv
theorem tiOf {P : Program} {e : TypeId} {z b : Nat} {zv : Value} (h : (P.info? e).map (fun i => (i.size,i.bytes,i.zero)) = some (z,b,some zv)) : TI P e z b zv:=by
 cases hi : P.info? e with
 | none => rw [hi] at h; cases h
 | some i =>
  rw [hi] at h
  simp only [Option.map_some,Option.some.injEq,Prod.mk.injEq] at h
  exact ⟨i,hi,h.1,h.2.1,h.2.2⟩
theorem zeros_one (v : Value) (n : Nat) : zeros [v] n = List.replicate n v:=by
 apply List.ext_getElem?
 intro j
 simp only [zeros,Builtin.zeroCells]
 by_cases h : j < n
 ·simp [h,Nat.mod_one]
 ·simp [h]
theorem zeros_u8 (n : Nat) : zeros (Value.int .u8 0).cells.toList n = bvs (List.replicate n 0):=by
 show zeros [Value.int .u8 0] n = _
 rw [zeros_one]
 simp [bvs,bv]
theorem append1 {P : Program} {w : World} {t ty e : TypeId} {z b : Nat} {zv : Value} (hu : P.underlying t = some (.slice e)) (hi : TI P e z b zv) (hzc : zv.cells.size = z) (hb0 : b ≠ 0) (hz0 : z <= b)
  {A : Option Addr} {n c : Nat} {cs : List Value} (ho : Own w e z A n c cs) {A2 : Option Addr} {m c2 : Nat} {new : List Value} (hr : Row w A2 new) (hl : new.length = m * z) (hf : Flat new)
  (hbig : (n + m) * b <= 140737488355328) {K : Value -> World -> Prop}
  (hk : ∀ A' c' w',Kp (fpA A) w w' -> Own w' e z A' (n + m) c' (cs ++ new) -> (A' = A ∨ ∃ a,A' = some a /\ w.heap.size <= a.block) -> K (.slice A' (n + m) c') w') :
  RUN P (Builtin.append_ #[t,t] ty #[.slice A n c,.slice A2 m c2]) w K:=by
 obtain ⟨i,hi,h1,h2,h3⟩:=hi
 exact RUN.append hu hi h1 h2 h3 hzc hb0 hz0 ho hr hl hf hbig hk
theorem make1 {P : Program} {w : World} {t e : TypeId} {z b : Nat} {zv : Value} (hu : P.underlying t = some (.slice e)) (hi : TI P e z b zv) (hzc : zv.cells.size = z)
  {l c : Int} (h0 : 0 <= l) (h1 : l <= c) (hbig : (b : Int) * c <= 140737488355328) (hc : c <= 140737488355328) {K : Value -> World -> Prop}
  (hk : ∀ w',Kp [] w w' -> w'.heap.size = w.heap.size + 1 -> Blk w' w.heap.size e (zeros zv.cells.toList c.toNat) -> K (.slice (some ⟨w.heap.size,0,none⟩) l.toNat c.toNat) w') :
  RUN P (Instr.makeSlice t (.int .i64 l) (.int .i64 c)) w K:=by
 obtain ⟨i,hi,h2,h3,h4⟩:=hi
 exact RUN.makeSlice hu hi h4 (by rw [hzc,h2]) h0 h1 (by rw [h3]; exact hbig) hc hk
theorem clear1 {P : Program} {w : World} {t ty e : TypeId} {z b : Nat} {zv : Value} (hu : P.underlying t = some (.slice e)) (hi : TI P e z b zv) (hzc : zv.cells.size = z)
  {B o T dn dc : Nat} {cs : List Value} (hB : Blk w B T cs) (hd : o + dn * z <= cs.length) (hf : Flat zv.cells.toList) {K : Value -> World -> Prop}
  (hk : ∀ w',Kp [B] w w' -> w'.heap.size = w.heap.size -> Blk w' B T (splice cs o (zeros zv.cells.toList dn)) -> K (.tuple #[]) w') :
  RUN P (Builtin.clear_ #[t] ty #[.slice (some ⟨B,o,none⟩) dn dc]) w K:=by
 obtain ⟨i,hi,h2,h3,h4⟩:=hi
 exact RUN.clear hu hi h4 hB (by rw [hzc]; exact hd) hf hk
theorem Own.full {w : World} {B e z c : Nat} {cs : List Value} (h : Blk w B e cs) (hl : cs.length = c * z) : Own w e z (some ⟨B,0,none⟩) c c cs :=
 .inr ⟨B,[],rfl,by simpa using h,hl,by simp,Nat.le_refl _⟩
theorem Blk.mark {w : World} {B e : Nat} {cs : List Value} (h : Blk w B e cs) : Blk (w.freeze ⟨B,cs.length,none⟩ 1) B e cs /\ Kp [B] w (w.freeze ⟨B,cs.length,none⟩ 1):=by
 obtain ⟨lo,hi,h1,h2⟩:=h.at_
 refine ⟨?_,?_⟩
 ·by_cases hlh : lo = hi
  ·refine ⟨cs.length,cs.length + 1,?_,.inl (Nat.le_refl _)⟩
   simp [World.freeze,Array.getElem?_modify,h1,hlh]
  ·have h3 : cs.length <= lo:=h2.resolve_right hlh
   refine ⟨min lo cs.length,max hi (cs.length + 1),?_,.inl (by omega)⟩
   simp [World.freeze,Array.getElem?_modify,h1,hlh]
 ·refine ⟨by simp [World.freeze],by simp [World.freeze],by simp [World.freeze],by simp [World.freeze],fun i hi hn => ?_⟩
  have : ¬ B = i:=fun e => hn (by simp [e])
  simp [World.freeze,Array.getElem?_modify,this]
theorem run_markStringish {P : Program} {w : World} {B e : Nat} {cs : List Value} (h : Blk w B e cs) : (markStringish ⟨B,0,none⟩).run P w = .ok () (w.freeze ⟨B,cs.length,none⟩ 1):=by
 obtain ⟨lo,hi,h1,h2⟩:=h.at_
 simp [markStringish,World.shape?,h1]
theorem RUN.bytesBytes {P : Program} {w : World} {t e : TypeId} (hu : P.underlying t = some (.slice e)) (he : P.underlying e = some (.int .u8)) {B T n c : Nat} {cs : List Value} (hB : Blk w B T cs) {K : Value -> World -> Prop}
  (hk : ∀ w',Kp [B] w w' -> w'.heap.size = w.heap.size -> Blk w' B T cs -> K (.slice (some ⟨B,0,none⟩) n c) w') : RUN P (convert t t (.slice (some ⟨B,0,none⟩) n c)) w K:=by
 refine RUN.of (w':=w.freeze ⟨B,cs.length,none⟩ 1) ?_ (hk _ hB.mark.2 (by simp [World.freeze]) hB.mark.1)
 simp [convert,run_und hu,run_und he,run_markStringish hB]
theorem bvs_set (bs : List UInt8) (i : Nat) (b : UInt8) : (bvs bs).set i (bv b) = bvs (bs.set i b):=by simp [bvs,List.map_set]
theorem Row.byte {w : World} {A : Option Addr} {bs : List UInt8} (h : Row w A (bvs bs)) {i : Nat} (hi : i < bs.length) : ∃ a,A = some a /\ w.cell? (a.add i) = some (bv bs[i]) :=
 h i _ (by simp [bvs,List.getElem?_eq_getElem hi])
theorem ldc {P : Program} {w : World} {t : TypeId} {a : Addr} {v : Value} (h : w.cell? a = some v) (ht : ldT P t = true) : (loadVar t a).run P w = .ok v w:=by
 simp only [ldT,Bool.and_eq_true,Bool.not_eq_true'] at ht
 exact run_loadVar ht.1 ht.2 h
end Go.Br
