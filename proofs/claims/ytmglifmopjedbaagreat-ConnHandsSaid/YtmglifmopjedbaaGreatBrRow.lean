/- From a call's proposition to a given row: what the arguments read as; that they read so behind the call, too. -/
import Derived.Test.YtmglifmopjedbaaGreatBrSlice
import Derived.ProofKit
import Derived.OpenShut
import Derived.ChangeOld
import Derived.Carry
import Derived.SizedLaws
import Derived.WideLaws
import Derived.WalkKit
set_option linter.unusedVariables false
set_option linter.unusedSimpArgs false
namespace Go.Br
open Go Go.ChangeShapes Go.WideShapes Go.ChangeAt
def RdT (P : Program) (w : World) : Nat -> TypeId -> List Value -> Prop
 | 0,_,_ => False
 | f + 1,t,cs => match P.underlying t with
  | some .bool => ∃ b,cs = [.bool b]
  | some (.int k) => ∃ n,cs = [.int k n] /\ (Lit.int k n).wf = true
  | some .string => ∃ s,cs = [.string s] /\ s.size <= maxLen
  | some (.slice e) => ∃ A n c,cs = [.slice A n c] /\ n <= c /\ c <= maxLen /\ ∀ i,i < n -> ∃ a es,A = some a /\ es.length = P.cellsOf e /\
    (∀ j v,es[j]? = some v -> w.cell? ((a.add (i * P.cellsOf e)).add j) = some v) /\ RdT P w f e es
  | some (.struct fs) => cs.length = P.cellsOf t /\ ∀ fd ∈ fs.toList,RdT P w f fd.type ((cs.drop fd.offset).take (P.cellsOf fd.type))
  | _ => True
theorem cells_of {w : World} {base : Nat} {a : Addr} {n : Nat} {es : List Value} (h : w.cells? base a n = some es) : es.length = n /\ ∀ j v,es[j]? = some v -> w.cell? (a.add j) = some v:=by
 obtain ⟨_,h1,h2⟩:=World.cells?_some h
 refine ⟨h1,fun j v hj => ?_⟩
 have hlt : j < n:=by
  rcases Nat.lt_or_ge j n with h | h
  ·exact h
  ·rw [List.getElem?_eq_none (by omega)] at hj; cases hj
 rw [h2 j hlt,hj]
theorem trod_rd {H : Type} {enc : TypeId × Value -> H} {P : Program} {w : World} {base : Nat} {spare : Nat -> Bool} {held : Bool} : ∀ (fuel : Nat) (t : TypeId) (cs : List Value) (x : DataW H × List MemPlace),
    DataW.trod enc P w base spare held fuel t cs = some x -> RdT P w fuel t cs:=by
  intro fuel
  induction fuel with
  | zero => intro t cs x h; simp [DataW.trod] at h
  | succ fuel ih =>
    intro t cs x h
    unfold RdT
    split
    · rename_i hu
      unfold DataW.trod at h
      rw [hu] at h
      split at h <;> simp_all
    · rename_i k hu
      unfold DataW.trod at h
      rw [hu] at h
      split at h <;> simp_all
    · rename_i hu
      unfold DataW.trod at h
      rw [hu] at h
      split at h <;> simp_all
    · rename_i e hu
      unfold DataW.trod at h
      rw [hu] at h
      split at h <;> try (rename_i hx _; cases hx; done)
      all_goals try (rename_i hx; cases hx; done)
      · rename_i e' _
        exact ⟨none,0,0,rfl,Nat.le_refl _,Nat.zero_le _,fun i hi => absurd hi (by omega)⟩
      · rename_i e' a len cap hx
        injection hx with hx
        injection hx with hx
        subst hx
        dsimp only at h
        split at h
        · rename_i hc
          obtain ⟨elems,he,_⟩:=Option.bind_eq_some_iff.1 h
          refine ⟨some a,len,cap,rfl,hc.2.1,hc.2.2,fun i hi => ?_⟩
          obtain ⟨y,hy⟩:=mapM_each he i (List.mem_range.2 hi)
          obtain ⟨es,h1,h2⟩:=Option.bind_eq_some_iff.1 hy
          obtain ⟨h3,h4⟩:=cells_of h1
          exact ⟨a,es,rfl,h3,h4,ih _ _ _ h2⟩
        · cases h
      all_goals simp_all
    · rename_i fs hu
      unfold DataW.trod at h
      rw [hu] at h
      split at h <;> try (rename_i hx _; cases hx; done)
      all_goals try (rename_i hx; cases hx; done)
      all_goals first
        | (rename_i fs' cs' hx
           injection hx with hx
           injection hx with hx
           subst hx
           split at h
           · rename_i hl
             refine ⟨hl,fun fd hfd => ?_⟩
             obtain ⟨xs,hxs,_⟩:=Option.map_eq_some_iff.1 h
             obtain ⟨y,hy⟩:=mapM_each hxs fd hfd
             exact ih _ _ _ hy
           · cases h)
        | simp_all
    · trivial
def ArgOk (P : Program) (w : World) (t : TypeId) (v : Value) : Prop:=∃ f cs,RdT P w f t cs /\ v.cells.toList = cs /\ (isAggT P t = false -> v.cells = #[v]) /\ (isAggT P t = true -> ∃ xs,v = .agg xs)
def ArgsOk (P : Program) (w : World) : List TypeId -> List Value -> Prop
 | [],[] => True
 | t :: ts,v :: vs => ArgOk P w t v /\ ArgsOk P w ts vs
 | _,_ => False
theorem okWide_cells {P : Program} {w : World} {r : Reach} {base : Nat} {t : TypeId} {v : Value} (h : Value.okWide P w r base t v) : (isAggT P t = false -> v.cells = #[v]) /\ (isAggT P t = true -> ∃ xs,v = .agg xs):=by
 unfold Value.okWide at h
 unfold isAggT
 split at h
 ·rename_i fs hu
  obtain ⟨cs,rfl,_⟩:=h
  rw [hu]
  exact ⟨fun h => by simp at h,fun _ => ⟨_,rfl⟩⟩
 ·rename_i n e hu
  obtain ⟨cs,rfl,_⟩:=h
  rw [hu]
  exact ⟨fun h => by simp at h,fun _ => ⟨_,rfl⟩⟩
 ·rename_i h1 h2
  refine ⟨fun _ => ?_,fun ha => ?_⟩
  ·cases v <;> first | rfl | (exfalso; unfold Cell.okWide at h; split at h <;> simp_all [Cell.ok])
  ·split at ha
   ·rename_i hu; exact absurd hu (h1 _)
   ·rename_i hu; exact absurd hu (h2 _ _)
   ·cases ha
theorem argsOk_of {H : Type} {enc : TypeId × Value -> H} {P : Program} {w : World} {b b' : Nat} {spare : Nat -> Bool} {held : Bool} : ∀ {ts : List TypeId} {vs : List Value} {ds : List (DataW H)} {ps : List MemPlace},
  DataW.TrodAll enc P w b spare held ts vs ds ps -> (∀ (j : Nat) t v,ts[j]? = some t -> vs[j]? = some v -> Value.okWide P w .any b' t v) -> ArgsOk P w ts vs
 | [],[],[],_,_,_ => trivial
 | t :: ts,v :: vs,d :: ds,_,⟨p,q,⟨n,h1⟩,h2,_⟩,hv => by
  refine ⟨⟨n,v.cells.toList,trod_rd n t _ _ h1,rfl,okWide_cells (hv 0 t v rfl rfl)⟩,argsOk_of h2 fun j t v h1 h2 => hv (j + 1) t v h1 h2⟩
theorem trodAll_keep {H : Type} {enc : TypeId × Value -> H} {P : Program} {W W' : World} (hl : laidOutB P = true) (hb : RowKit.Below W.heap.size W W') : ∀ {ts : List TypeId} {vs : List Value} {ds : List (DataW H)} {ps : List MemPlace},
  ts.all (fun t => P.readableRec t && decide (t < P.types.size)) = true -> DataW.TrodAll enc P W 0 (fun _ => true) true ts vs ds ps -> (∀ x ∈ ps,x.block < W.heap.size) ->
   DataW.TrodAll enc P W' 0 (fun b => decide (b < W.heap.size)) true ts vs ds ps
 | [],[],[],_,_,h,_ => h
 | t :: ts,v :: vs,d :: ds,_,hr,⟨p,q,h1,h2,e⟩,hlt => by
  subst e
  simp only [List.all_cons,Bool.and_eq_true,decide_eq_true_eq] at hr
  exact ⟨p,q,RowKit.Below.trod hl hr.1.1 hr.1.2 h1 hb (fun x hx => hlt x (List.mem_append_left _ hx)),trodAll_keep hl hb (by simpa using hr.2) h2 (fun x hx => hlt x (List.mem_append_right _ hx)),rfl⟩
theorem law_lift {C : Checked} {os : Os} {f : FuncId} {fn : Func} {s : ChangeSpec} {conds : List PathCond} {H : Type} {enc : TypeId × Value -> H} {bt : TypeId}
  (own : ownKnob C.prog.godebug = none) (started : os.Started) (noInit : C.prog.inits.idxOf? f = none) (hfn : C.prog.funcs[f]? = some fn) (hl : laidOutB C.prog = true)
  (hr : fn.params.toList.all (fun t => C.prog.readableRec t && decide (t < C.prog.types.size)) = true) (hres : fn.resultTypes = #[bt]) (hbt : C.prog.underlying bt = some .bool) (hvars : s.vars = [])
  (witness : ∃ (w : World) (tape : Tape) (i : Input),w.os = os /\ (w.forCall tape i).Shaped C.prog /\ i.vars = [] /\ Input.okWide C.prog (w.forCall tape i) .any w.heap.size f i /\
   s.pre6 enc C.prog fn conds false (w.forCall tape i).memory i.args /\ ({} : Assume).holds C.prog (lone (Frame.enter C.prog f i.args .normal) [] (w.forCall tape i)))
  (hs : ∀ ds : List (DataW H),ds.length = fn.params.size -> s.fn H ds = { results:=[.lit (.bool true)],args:=ds })
  (walk : ∀ (W : World) (args : List Value),ArgsOk C.prog W fn.params.toList args -> CALL C.prog f args W fun v W' => v = .bool true /\ Kp [] W W') :
  ReturnsInHanded {} C os f .any (s.pre6 enc C.prog fn conds false) (s.post enc C.prog fn false true false false):=by
 refine returnsInHanded_of_change_sized (C:=C) own started noInit hfn witness ?_
 intro W base args ds gs before hval hW hcnd hsz _
 have hW':=hW
 obtain ⟨p,q,hA,hV,rfl,hfz,hnd⟩:=hW
 rw [hvars] at hV
 obtain ⟨rfl,rfl⟩:=trodVars_none hV
 have hargs:=argsOk_of hA (fun j t v h1 h2 => hval j t v (by simpa using h1) (by simpa using h2))
 have hlen : ∀ {ts : List TypeId} {vs : List Value} {ds : List (DataW H)} {ps : List MemPlace},DataW.TrodAll enc C.prog W 0 (fun _ => true) true ts vs ds ps -> ds.length = ts.length:=by
  intro ts
  induction ts with
  | nil => intro vs ds ps h; cases vs <;> cases ds <;> first | rfl | exact h.elim
  | cons t ts ih => intro vs ds ps h; cases vs <;> cases ds <;> first | exact h.elim | (obtain ⟨_,_,_,h2,_⟩:=h; simp [ih h2])
 have hw:=walk W args.toList hargs
 unfold CALL at hw
 rw [Array.toArray_toList] at hw
 refine hw.mono fun e W' he => ?_
 cases e with
 | returned v =>
  obtain ⟨rfl,hk⟩:=he
  have bel:=hk.below
  have hds:=hs (ds ++ []) (by rw [List.append_nil,hlen hA]; simp)
  refine ⟨_,rfl,_,_,_,[],p,[],hW',?_,?_,?_,bel.frame _,fun h => by cases h⟩
  ·rw [hds,hres]
   exact trodAll_mk1 (RowKit.shut_bool hbt _)
  ·rw [hds,List.append_nil]
   exact trodAll_keep hl bel hr hA hA.lt
  ·rw [hds,hvars]; rfl
 | panicked c => exact he.elim
 | outgrown => exact he.elim
/-! ### What is read of arguments -/
theorem rd_int {P : Program} {w : World} {f : Nat} {t : TypeId} {k : IntKind} {cs : List Value} (hu : P.underlying t = some (.int k)) (h : RdT P w f t cs) : ∃ n,cs = [.int k n] /\ (Lit.int k n).wf = true:=by
 cases f with
 | zero => exact h.elim
 | succ f => unfold RdT at h; rw [hu] at h; exact h
theorem ArgsOk.cons {P : Program} {w : World} {t : TypeId} {ts : List TypeId} {vs : List Value} (h : ArgsOk P w (t :: ts) vs) : ∃ v r,vs = v :: r /\ ArgOk P w t v /\ ArgsOk P w ts r:=by
 cases vs with
 | nil => exact h.elim
 | cons v r => exact ⟨v,r,rfl,h.1,h.2⟩
theorem ArgsOk.nil {P : Program} {w : World} {vs : List Value} (h : ArgsOk P w [] vs) : vs = []:=by
 cases vs with
 | nil => rfl
 | cons v r => exact h.elim
end Go.Br
