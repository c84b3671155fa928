/- Slices that are opened as blocks: copy, clear, append of make, overlaps. -/
import Derived.Test.YtmglifmopjedbaaGreatBrSep
import Derived.Lib.Overlaps
set_option linter.unusedVariables false
set_option linter.unusedSimpArgs false
namespace Go.Br
open Go
attribute [local semireducible] RDI RDB RDT RDP RDL RDSI RDSB RDST RDSP RDSL RUNA RUNI RUNL
theorem splice_mid {P N Q R : List Value} (h : Q.length = N.length) : splice (P ++ Q ++ R) P.length N = P ++ N ++ R:=by
 have e1 : (P ++ Q ++ R).take P.length = P:=by simp [List.append_assoc]
 have e2 : (P ++ Q ++ R).drop (P.length + N.length) = R:=by rw [<- h,<- List.length_append,List.drop_left]
 unfold splice
 rw [e1,e2]
theorem splice_tail {P N Q : List Value} (h : N.length <= Q.length) : splice (P ++ Q) P.length N = P ++ N ++ Q.drop N.length:=by
 have:=splice_mid (P:=P) (N:=N) (Q:=Q.take N.length) (R:=Q.drop N.length) (by rw [List.length_take]; omega)
 rwa [List.append_assoc,List.take_append_drop] at this
theorem St.ownBlk {c : Ctx} {w : World} {R : List SA} {e z n d : Nat} {A : Option Addr} {cs : List Value} (h : St c w (Br.own e z A n d cs :: R)) (hn : 0 < d) :
  ∃ B spare,A = some ⟨B,0,none⟩ /\ spare.length = (d - n) * z /\ n <= d /\ cs.length = n * z /\ St c w (Br.blk B e (cs ++ spare) :: R):=by
 obtain ⟨k,F,G,h1,h2⟩:=h
 rw [all_cons] at h1
 obtain ⟨F1,G1,F2,G2,rfl,rfl,h1,h3,h4,h5⟩:=h1
 rw [own_p] at h1
 obtain ⟨rfl,rfl,ho⟩:=h1
 rcases ho with ⟨_,_,rfl,_⟩ | ⟨B,spare,rfl,hB,e1,e2,e3⟩
 ·omega
 ·exact ⟨B,spare,rfl,e2,e3,e1,k,_,_,all_cons.2 ⟨[B],[],F2,G2,rfl,rfl,blk_p.2 ⟨rfl,rfl,hB⟩,h3,h4,h5⟩,h2⟩
theorem blk_ownS {B e z n d : Nat} {cs spare : List Value} (h1 : cs.length = n * z) (h2 : spare.length = (d - n) * z) (h3 : n <= d) : Ent (Br.blk B e (cs ++ spare)) (Br.own e z (some ⟨B,0,none⟩) n d cs):=fun F G w h => by
 rw [blk_p] at h
 obtain ⟨rfl,rfl,h⟩:=h
 exact ⟨[B],[],own_p.2 ⟨rfl,rfl,.inr ⟨B,spare,rfl,h,h1,h2,h3⟩⟩,fun _ h => h,by simp⟩
theorem St.blkOwn {c : Ctx} {w : World} {R : List SA} {B e z n d : Nat} {cs spare : List Value} (h : St c w (Br.blk B e (cs ++ spare) :: R)) (h1 : cs.length = n * z) (h2 : spare.length = (d - n) * z) (h3 : n <= d) : St c w (Br.own e z (some ⟨B,0,none⟩) n d cs :: R) :=
 h.enth (blk_ownS h1 h2 h3)
theorem St.rowB {c : Ctx} {w : World} {L R : List SA} {B : Nat} {T : TypeId} {cs : List Value} (h : St c w L) (hp : Pick (Br.blk B T cs) L R) (o n : Nat) : Row w (some ⟨B,o,none⟩) ((cs.drop o).take n):=(h.blk hp).row o n
theorem St.copyB {c : Ctx} {w : World} {L R : List SA} {P : Program} {t ty e : TypeId} {z B o T dn dc m c2 : Nat} {A2 : Option Addr} {cs new : List Value} {K : Int -> World -> Prop} (h : St c w L) (hp : Pick (Br.blk B T cs) L R) (hu : P.underlying t = some (.slice e)) (hz : sizeAt P e = some z)
  (hd : o + dn * z <= cs.length) (hr : Row w A2 new) (hl : new.length = m * z) (hf : Flat new) (hk : ∀ w',St c w' (Br.blk B T (splice cs o (new.take (min m dn * z))) :: R) -> K ((min m dn : Nat) : Int) w') :
  RUNI P (Builtin.copy_ #[t,t] ty #[.slice (some ⟨B,o,none⟩) dn dc,.slice A2 m c2]) .i64 w K:=by
 obtain ⟨F,G,h1,h2⟩:=(h.pick hp).open
 rw [blk_p] at h1
 obtain ⟨rfl,rfl,hb⟩:=h1
 exact RUN.copy hu hz hb hd hr hl hf fun w' k s hb' => ⟨_,rfl,hk w' (h2 k (blk_p.2 ⟨rfl,rfl,hb'⟩) (by simp) (by simp))⟩
theorem St.copyC {c : Ctx} {w : World} {L R : List SA} {P : Program} {t ty e : TypeId} {z B o T dn dc m c2 q : Nat} {A2 : Option Addr} {cs new : List Value} {K : Int -> World -> Prop} (h : St c w L) (hp : Pick (Br.blk B T cs) L R) (hu : P.underlying t = some (.slice e)) (hz : sizeAt P e = some z) (hq : min m dn = q)
  (hd : o + q * z <= cs.length) (hr : Row w A2 new) (hl : new.length = q * z) (hf : Flat new) (hk : ∀ w',St c w' (Br.blk B T (splice cs o new) :: R) -> K (q : Int) w') :
  RUNI P (Builtin.copy_ #[t,t] ty #[.slice (some ⟨B,o,none⟩) dn dc,.slice A2 m c2]) .i64 w K:=by
 obtain ⟨F,G,h1,h2⟩:=(h.pick hp).open
 rw [blk_p] at h1
 obtain ⟨rfl,rfl,hB⟩:=h1
 unfold sizeAt at hz
 cases hi : P.info? e with
 | none => simp [hi] at hz
 | some i =>
  simp [hi] at hz
  have hle : o + new.length <= cs.length:=by rw [hl]; exact hd
  have hn : (Builtin.firstCells z q (.slice A2 m c2)).run P w = .ok new.toArray w:=run_firstCells' hr hl
  have hs:=run_storeCells (P:=P) new w B T cs o 0 hB (by simpa using hle) hf
  simp only [Nat.add_zero] at hs
  refine ⟨.int .i64 (q : Int),World.putBlk w B (splice cs o new),?_,_,rfl,hk _ (h2 (putBlk_kp w B _) (blk_p.2 ⟨rfl,rfl,hB.put (splice_length hle)⟩) (by simp) (by simp))⟩
  have hn' : (Builtin.firstCells z (Nat.min m dn) (.slice A2 m c2)).run P w = .ok new.toArray w:=by rw [show Nat.min m dn = q from hq]; exact hn
  have hq' : Nat.min m dn = q:=hq
  simp only [Builtin.copy_,Sem.run_bind,run_und hu,Result.andThen_ok,sizeOf,run_info hi,Sem.run_pure,Builtin.lenOf,hz,List.getElem?_toArray,List.getElem?_cons_zero,List.getElem?_cons_succ,hn']
  simp [hs,goInt,hq']
theorem St.clearB {c : Ctx} {w : World} {L R : List SA} {P : Program} {t ty e : TypeId} {z b B o T dn dc : Nat} {zv : Value} {cs : List Value} {K : World -> Prop} (h : St c w L) (hp : Pick (Br.blk B T cs) L R) (hu : P.underlying t = some (.slice e)) (hi : TI P e z b zv)
  (hd : o + dn * z <= cs.length) (hk : ∀ w',St c w' (Br.blk B T (splice cs o (zeros zv.cells.toList dn)) :: R) -> K w') (hzc : zv.cells.size = z:=by rfl) (hf : zv.cells.toList.all Value.oneCell' = true:=by rfl) :
  RUN P (Builtin.clear_ #[t] ty #[.slice (some ⟨B,o,none⟩) dn dc]) w fun v w' => v = .tuple #[] /\ K w':=by
 obtain ⟨F,G,h1,h2⟩:=(h.pick hp).open
 rw [blk_p] at h1
 obtain ⟨rfl,rfl,hb⟩:=h1
 exact clear1 hu hi hzc hb hd (flat_all hf) fun w' k s hb' => ⟨rfl,hk w' (h2 k (blk_p.2 ⟨rfl,rfl,hb'⟩) (by simp) (by simp))⟩
theorem St.appMake {c : Ctx} {w : World} {L : List SA} {P : Program} {t ti ty e : TypeId} {z b : Nat} {zv : Value} {A : Option Addr} {n d : Nat} {l : Int} {cs : List Value} {K : Option Addr -> Nat -> Nat -> World -> Prop} (h : St c w L) (hu : P.underlying t = some (.slice e)) (hti : P.underlying ti = some (.int .i64)) (hi : TI P e z b zv)
  (hr : RdIn L A cs) (hl : cs.length = n * z) (h0 : 0 < l) (hroom : d < n + l.toNat) (hbig : (n + l.toNat) * b <= 140737488355328)
  (hk : ∀ p c' w',n + l.toNat <= c' -> St c w' (Br.own e z (some ⟨p,0,none⟩) (n + l.toNat) c' (cs ++ zeros zv.cells.toList l.toNat) :: L) -> K (some ⟨p,0,none⟩) (n + l.toNat) c' w') (hzc : zv.cells.size = z:=by rfl) (hb0 : b ≠ 0:=by decide) (hz0 : z <= b:=by decide) (hz1 : z ≠ 0:=by decide) :
  RUNL P (Builtin.append_ #[t,ti] ty #[.slice A n d,.int .i64 l]) w K:=by
 obtain ⟨i,h1,hz,hb,hzero⟩:=hi
 have hrow:=hr c w h
 have ho' : (Builtin.firstCells z n (.slice A n d)).run P w.drew = .ok cs.toArray w.drew:=run_firstCells' (w:=w.drew) (fun j v hj => hrow j v hj) hl
 have hm : l = ((l.toNat : Nat) : Int):=by omega
 generalize l.toNat = m at *
 subst hm
 have hbb : n + m <= (n + m) * b:=Nat.le_mul_of_pos_right _ (Nat.pos_of_ne_zero hb0)
 have hmb : m * b <= (n + m) * b:=Nat.mul_le_mul_right b (by omega)
 have hw : IntKind.i64.wrap (m : Int) = (m : Int):=wrap_i64 (by omega) (by omega)
 have h63 : ¬ (9223372036854775807 < (n : Int) + (m : Int)):=by omega
 have hfit : Builtin.nextslicecap (n + m) d * b <= 281474976710656:=growslice_fits (by omega) hbig
 have h48 : ¬ (281474976710656 < Builtin.nextslicecap (n + m) d * b):=by omega
 have hlt : ¬ ((m : Int) < 0):=by omega
 have hmb2 : ¬ (281474976710656 < (m : Int) * (b : Int)):=by
  have : ((m * b : Nat) : Int) = (m : Int) * (b : Int):=by simp
  omega
 have hm0 : ¬ (m * z = 0):=by have:=Nat.mul_pos (show 0 < m by omega) (Nat.pos_of_ne_zero hz1); omega
 have hnr : ¬ (n + m <= d):=by omega
 have hrun : (Builtin.append_ #[t,ti] ty #[.slice A n d,.int .i64 (m : Int)]).run P w =
   .ok (.slice (some ⟨w.heap.size,0,none⟩) (n + m) (grownCap w (n + m) d e)) (w.drew.alloc (.cells (cs.toArray ++ Builtin.zeroCells zv.cells m ++ Builtin.zeroCells zv.cells (grownCap w (n + m) d e - (n + m))) e)):=by
  simp [Builtin.append_,run_und hu,run_und hti,sizeOf,run_info h1,Builtin.lenOf,asIntOf,asInt,hw,hz,hb,hnr,h63,h48,hlt,hmb2,Question.forced,ho',zeroValue,hzero,newRow,grownCap,hm0]
 have hge : n + m <= grownCap w (n + m) d e:=by simp [grownCap,Question.cut]
 refine ⟨_,_,hrun,_,_,_,rfl,hk _ _ _ hge ?_⟩
 have hk2 : Kp [] w (w.drew.alloc (.cells (cs.toArray ++ Builtin.zeroCells zv.cells m ++ Builtin.zeroCells zv.cells (grownCap w (n + m) d e - (n + m))) e)):=(Kp.drew w).then (alloc_kp _ _)
 refine h.new (F:=[w.heap.size]) (G:=[]) hk2 (own_p.2 ⟨rfl,rfl,.inr ⟨w.heap.size,(Builtin.zeroCells zv.cells (grownCap w (n + m) d e - (n + m))).toList,rfl,?_,?_,?_,hge⟩⟩) (by simp) (by simp)
 ·have:=Blk.new w.drew (cs.toArray ++ Builtin.zeroCells zv.cells m ++ Builtin.zeroCells zv.cells (grownCap w (n + m) d e - (n + m))) e
  simpa [zeros,List.append_assoc] using this
 ·rw [List.length_append,zeros_length,hl,Nat.add_mul]; simp [hzc]
 ·simp [Builtin.zeroCells,hzc]
theorem St.appRoom {c : Ctx} {w : World} {L R : List SA} {P : Program} {t ty e : TypeId} {z B n m d c2 : Nat} {A2 : Option Addr} {cs new : List Value} {K : Option Addr -> Nat -> Nat -> World -> Prop} (h : St c w L) (hp : Pick (Br.blk B e cs) L R) (hu : P.underlying t = some (.slice e)) (hz : sizeAt P e = some z)
  (hroom : n + m <= d) (hlen : n * z + m * z <= cs.length) (hr : Row w A2 new) (hl : new.length = m * z) (hf : Flat new) (hk : ∀ w',St c w' (Br.blk B e (splice cs (n * z) new) :: R) -> K (some ⟨B,0,none⟩) (n + m) d w') :
  RUNL P (Builtin.append_ #[t,t] ty #[.slice (some ⟨B,0,none⟩) n d,.slice A2 m c2]) w K:=by
 obtain ⟨F,G,h1,h2⟩:=(h.pick hp).open
 rw [blk_p] at h1
 obtain ⟨rfl,rfl,hB⟩:=h1
 unfold sizeAt at hz
 cases hi : P.info? e with
 | none => simp [hi] at hz
 | some i =>
  simp [hi] at hz
  have hn : (Builtin.firstCells z m (.slice A2 m c2)).run P w = .ok new.toArray w:=run_firstCells' hr hl
  have hs:=run_storeCells (P:=P) new w B e cs (n * z) 0 hB (by rw [hl]; simpa using hlen) hf
  simp only [Nat.add_zero] at hs
  refine ⟨.slice (some ⟨B,0,none⟩) (n + m) d,World.putBlk w B (splice cs (n * z) new),?_,_,_,_,rfl,hk _ (h2 (putBlk_kp w B _) (blk_p.2 ⟨rfl,rfl,hB.put (splice_length (by rw [hl]; exact hlen))⟩) (by simp) (by simp))⟩
  simp [Builtin.append_,run_und hu,sizeOf,run_info hi,Builtin.lenOf,hz,hn,hroom,add_lit,hs]
theorem flat_cut {α : Type} (g : α -> List Value) (S : List α) (i : Nat) : S.flatMap g = (S.take i).flatMap g ++ (S.drop i).flatMap g:=by rw [<- List.flatMap_append,List.take_append_drop]
theorem flat_drop {α : Type} {g : α -> List Value} {z : Nat} (hz : ∀ x,(g x).length = z) (S : List α) (n : Nat) : (S.flatMap g).drop (n * z) = (S.drop n).flatMap g:=by
 rcases Nat.le_total n S.length with h | h
 ·have l : ((S.take n).flatMap g).length = n * z:=by rw [flat_length hz,List.length_take]; congr 1; omega
  conv => lhs; rw [flat_cut g S n]
  rw [<- l,List.drop_left]
 ·rw [List.drop_eq_nil_of_le (by rw [flat_length hz]; exact Nat.mul_le_mul_right z h),List.drop_eq_nil_of_le h]; rfl
theorem St.pick2 {c : Ctx} {w : World} {A B : SA} {L R R2 : List SA} (h : St c w L) (hp : Pick A L R) (hq : Pick B R R2) : St c w (A :: B :: R2) :=
 (h.pick hp).ent (show Ent (all (A :: R)) (all (A :: B :: R2)) from (Ent.refl _).sep hq.ent)
@[irreducible] def blk0 (B : Nat) (T : TypeId) (cs : List Value) : SA:=⟨fun F G w => F = [B] /\ G = [] /\ w.heap[B]? = some (.cells cs.toArray T (0,0)),
 fun {F G w w'} h hw => by
  obtain ⟨rfl,rfl,h⟩:=h
  exact ⟨rfl,rfl,(hw B (by simp)).trans h⟩,
 fun {F G w} h i hi => by obtain ⟨rfl,rfl,h⟩:=h; simp at hi; subst hi; exact (Array.getElem?_eq_some_iff.1 h).1⟩
theorem blk0_p {B : Nat} {T : TypeId} {cs : List Value} {F G : List Nat} {w : World} : (blk0 B T cs).p F G w ↔ F = [B] /\ G = [] /\ w.heap[B]? = some (.cells cs.toArray T (0,0)):=by unfold blk0; exact Iff.rfl
theorem St.blk0H {c : Ctx} {w : World} {L R : List SA} {B : Nat} {T : TypeId} {cs : List Value} (h : St c w L) (hp : Pick (blk0 B T cs) L R) : w.heap[B]? = some (.cells cs.toArray T (0,0)):=by
 obtain ⟨F,G,h⟩:=h.get hp
 rw [blk0_p] at h; exact h.2.2
theorem RdIn.blk0 {L R : List SA} {B : Nat} {T : TypeId} {cs : List Value} (hp : Pick (Br.blk0 B T cs) L R) : RdIn L (some ⟨B,0,none⟩) cs:=fun c w h => by
 have hb : Blk w B T cs:=⟨0,0,h.blk0H hp,.inr rfl⟩
 have:=hb.row 0 cs.length
 simpa using this
theorem St.lit0 {c : Ctx} {w : World} {L : List SA} {P : Program} {t n : Nat} {parts : Array (Nat × Value)} {K : Option Addr -> Nat -> Nat -> World -> Prop} (h : St c w L) (e : TypeId) (cs : List Value) (hk : ∀ p w',St c w' (Br.blk0 p e cs :: L) -> K (some ⟨p,0,none⟩) n n w') (hl : ∀ w,(Instr.buildSlice t n parts).run P w = .ok (.slice (some ⟨w.heap.size,0,none⟩) n n) (w.alloc (.cells cs.toArray e)):=by intro w; kernel_rfl) :
  RUNL P (Instr.buildSlice t n parts) w K :=
 ⟨_,_,hl w,_,_,_,rfl,hk _ _ (h.new (F:=[w.heap.size]) (G:=[]) (alloc_kp w _) (blk0_p.2 ⟨rfl,rfl,by simp only [World.alloc,Array.getElem?_push]; simp⟩) (by simp) (by simp))⟩
theorem St.ne0 {c : Ctx} {w : World} {L R R2 : List SA} {B B2 T T2 : Nat} {cs cs2 : List Value} (h : St c w L) (hp : Pick (Br.blk0 B T cs) L R) (hp2 : Pick (Br.blk B2 T2 cs2) R R2) : B ≠ B2:=by
 have h:=h.pick hp
 have h' : St c w (Br.blk0 B T cs :: Br.blk B2 T2 cs2 :: R2):=h.ent (show Ent (all (Br.blk0 B T cs :: R)) (all (Br.blk0 B T cs :: Br.blk B2 T2 cs2 :: R2)) from (Ent.refl _).sep hp2.ent)
 obtain ⟨k,F,G,h1,h2⟩:=h'
 rw [all_cons] at h1
 obtain ⟨F1,G1,F2,G2,rfl,rfl,h1,h3,h4,h5⟩:=h1
 rw [blk0_p] at h1
 obtain ⟨rfl,rfl,_⟩:=h1
 rw [all_cons] at h3
 obtain ⟨F3,G3,F4,G4,rfl,rfl,h6,_,_,_⟩:=h3
 rw [blk_p] at h6
 obtain ⟨rfl,rfl,_⟩:=h6
 intro e
 subst e
 exact (h4 B (by simp)).1 (by simp)
theorem St.overlaps0 {c : Ctx} {w : World} {L R R2 : List SA} {P : Program} {g : Nat} {fn : Func} {t tb e z B o T B2 T2 la ca lb cb : Nat} {cs cs2 : List Value} {K : Value → World → Prop} (h : St c w L) (hp : Pick (Br.blk0 B T cs) L R) (hp2 : Pick (Br.blk B2 T2 cs2) R R2) (hne : cs2 ≠ [])
  (hf : P.funcs[g]? = some fn) (hname : (fn.name == "runtime.NumGoroutine") = false) (hb : fn.body.isNone = true) (hn : Extern.findNext fn = none) (he : Extern.find fn = some (Extern.SlicesOverlaps.overlaps #[t, t] #[tb])) (hu : P.underlying t = some (.slice e)) (hz : sizeAt P e = some z) (hk : K (.bool false) w) :
  CALLX P g [.slice (some ⟨B, 0, none⟩) la ca, .slice (some ⟨B2, o, none⟩) lb cb] w K := by
 have h0 := h.blk0H hp
 obtain ⟨lo, hi, h1, _⟩ := ((h.pick hp).drop.blk hp2).at_
 have hBB := h.ne0 hp hp2
 have hs : ∀ w, (Go.sizeOf e).run P w = .ok z w := fun w => by
  unfold sizeAt at hz
  cases hi : P.info? e with
  | none => simp [hi] at hz
  | some i => simp [hi] at hz; simp [sizeOf, run_info hi, hz]
 have := Lib.run_overlaps_apart w t tb e hu z hs ⟨B, 0, none⟩ ⟨B2, o, none⟩ la ca lb cb hBB T T2 cs.length cs2.length (by simp [World.shape?, h0]) (by simp [World.shape?, h1]) (by intro e; exact hne (List.length_eq_zero_iff.1 e)) (by simp [World.frozen?, h0]) (by simp [World.frozen?, h0])
 refine ⟨_, _, ?_, hk⟩
 rw [run_callFunc_extern hf hname hb hn he, this]
 rfl
theorem RDL.slice0 {P : Program} {w : World} {t e : TypeId} {z n c : Nat} {A : Option Addr} {h m : Nat} {K : Option Addr -> Nat -> Nat -> Prop} (hu : P.underlying t = some (.slice e)) (hz : sizeAt P e = some z) (h2 : h <= m) (h3 : m <= c) (hk : K A h m) :
  RDL P (Instr.sliceAt t (.slice A n c) none (some (.int .i64 (h : Int))) (some (.int .i64 (m : Int)))) w K:=by
 unfold sizeAt at hz
 cases hi : P.info? e with
 | none => simp [hi] at hz
 | some i =>
  have hb : (Instr.sliceBounds true n c none (some (.int .i64 (h : Int))) (some (.int .i64 (m : Int)))).run P w = .ok (0,h,m) w:=by
   unfold Instr.sliceBounds
   simp [sliceBound_ok (P:=P) (k:=.i64) (show 0 <= (m : Int) by omega) (show (m : Int) <= (c : Int) by omega),sliceBound_ok (P:=P) (k:=.i64) (show 0 <= (h : Int) by omega) (show (h : Int) <= (m : Int) by omega)]
  have ea : (if m = 0 then A else A.map (·.add (0 * i.size))) = A:=by
   exact cutA_zero A m i.size
  refine ⟨.slice (if m = 0 then A else A.map (·.add (0 * i.size))) (h - 0) (m - 0),?_,_,_,_,rfl,by rw [ea]; exact hk⟩
  simp [Instr.sliceAt,run_und hu,Instr.slice,hb,sizeOf,run_info hi]
theorem callvT {P : Program} {T : Tab} (hT : TabOk P T) {g : Nat} {args : List Value} {captured : Array Value} {w : World} {K : Value -> World -> Prop} (hg : fnOk T g = true) (h : CALL P g (args ++ captured.toList) w K) : CALLV P (.func (.func g) #[] captured) args w K:=by
 obtain ⟨f,h1,h2,h3⟩:=hT.fn g hg
 refine ⟨g,#[],captured,rfl,by simpa using h,f,h1,?_,by simpa using h3⟩
 cases hb : f.body <;> simp [hb] at h2 ⊢
theorem St.stGo {c : Ctx} {w : World} {L R : List SA} {P : Program} {B : Nat} {T t : TypeId} {cs vs : List Value} {K : World -> Prop} (h : St c w L) (o : Nat) (hk : ∀ w',St c w' (Br.blk B T (splice cs o vs) :: R) -> K w') (hp : Pick (Br.blk B T cs) L R:=by exact PkB.pk) (hz : sizeAt P t = some vs.length:=by kernel_rfl) (hl : o + vs.length <= cs.length:=by exact Nat.le_of_ble_eq_true rfl) (hf : vs.all Value.oneCell' = true:=by kernel_rfl) : RUNU P (storeVar t (Addr.add ⟨B,0,none⟩ o) (.agg vs.toArray)) w K:=by
 obtain ⟨F,G,h1,h2⟩:=(h.pick hp).open
 rw [blk_p] at h1
 obtain ⟨rfl,rfl,hb⟩:=h1
 have hf : Flat vs:=flat_all hf
 have hr:=run_storeVar (P:=P) (t:=t) (v:=.agg vs.toArray) (o:=o) hb (by simpa [Value.cells] using hz) (by simpa [Value.cells] using hl) (by simp only [Value.cells]; exact hf)
 have e : Addr.add ⟨B,0,none⟩ o = ⟨B,o,none⟩:=by rw [add_lit,Nat.zero_add]
 rw [e]
 exact RUNU.of hr (hk _ (h2 (putBlk_kp w B _) (blk_p.2 ⟨rfl,rfl,by simpa [Value.cells] using hb.put (splice_length (by simpa [Value.cells] using hl))⟩) (by simp) (by simp)))
theorem St.bytesBytes {c : Ctx} {w : World} {L R : List SA} {P : Program} {t u e : TypeId} {z B n d : Nat} {cs : List Value} {K : Option Addr -> Nat -> Nat -> World -> Prop} (h : St c w L) (hp : Pick (Br.own e z (some ⟨B,0,none⟩) n d cs) L R) (hk : ∀ w',St c w' (Br.own e z (some ⟨B,0,none⟩) n d cs :: R) -> K (some ⟨B,0,none⟩) n d w')
  (hd : 0 < d:=by omega) (hu : P.underlying t = some (.slice u):=by kernel_rfl) (he : P.underlying u = some (.int .u8):=by kernel_rfl) : RUNL P (convert t t (.slice (some ⟨B,0,none⟩) n d)) w K:=by
 obtain ⟨B',sp,e1,e2,e3,e4,h⟩:=(h.pick hp).ownBlk hd
 injection e1 with e1
 injection e1 with e1
 subst e1
 obtain ⟨F,G,h1,h2⟩:=h.open
 rw [blk_p] at h1
 obtain ⟨rfl,rfl,hb⟩:=h1
 unfold RUNL
 exact RUN.bytesBytes hu he hb fun w' k s hb' => ⟨_,_,_,rfl,hk w' ((h2 k (blk_p.2 ⟨rfl,rfl,hb'⟩) (by simp) (by simp)).blkOwn e4 e2 e3)⟩
end Go.Br
