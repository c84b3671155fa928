/- Two ends: they begin; the first segment arrives. -/
import Derived.Test.YtmglifmopjedbaaGreatNHandsB
import Derived.Test.YtmglifmopjedbaaGreatJHandsA
import Derived.Test.YtmglifmopjedbaaGreatJSegRound
set_option linter.unusedVariables false
set_option linter.unusedSimpArgs false
set_option linter.unnecessarySimpa false
namespace Go.Br
open Go
instance biHandsBa (x0 : Int) (x1 : Int) : Bld PG (Instr.build 73 #[(0,.agg #[.int .u64 x0,.int .u64 x1])]) (.agg #[.int .u64 x0,.int .u64 x1,.int .u64 0]):=⟨fun w => by kernel_rfl⟩
instance biHandsBc (x0 : Int) (x1 : Int) (x2 : Int) : Bld PG (Instr.build 51 #[(0,.int .i64 x0),(1,.int .u16 x1),(2,.int .u16 x2)]) (.agg #[.int .i64 x0,.int .u16 x1,.int .u16 x2]):=⟨fun w => by kernel_rfl⟩
instance biHandsBd : Zro PG 51 3 16 (.agg #[.int .i64 0,.int .u16 0,.int .u16 0]):=⟨tiOf (by kernel_rfl)⟩
instance biHandsBe : Zro PG 118 7 64 (.agg #[.int .u16 0,.int .u16 0,.int .u32 0,.int .u32 0,.int .u8 0,.slice none 0 0,.slice none 0 0]):=⟨tiOf (by kernel_rfl)⟩
instance biHandsBf : Zro PG 122 2 32 (.agg #[.int .u8 0,.slice none 0 0]):=⟨tiOf (by kernel_rfl)⟩
instance biHandsBg : Zro PG 128 3 24 (.agg #[.int .u64 0,.bool false,.int .u64 0]):=⟨tiOf (by kernel_rfl)⟩
attribute [local irreducible] Addr.add RD RDS RUN RUNU NILC LETB CALL CALLX CALLV
abbrev srcC (d : Dr) (k : Int) : List Value:=[.int .u64 d.seedK0,.int .u64 d.seedK1,.int .u64 k]
abbrev XA0 (g : Cfg) (d : Dr) (n : Nms) (fA : Option Addr) (fC : Nat) : Cn:=askC g d.ka 0 1000 80 n fA fC none 0 0
abbrev FA0 (d : Dr) (n : Nms) : Fw:=askF 0 1000 80 d.fa n
abbrev XB0 (g : Cfg) (d : Dr) (n : Nms) (fA : Option Addr) (fC : Nat) : Cn:=ansC g d.kb d.ka 0 80 1000 n fA fC none 0 0 (sessK d.ka d.kb)
abbrev FB0 (d : Dr) (n : Nms) : Fw:=ansF 0 80 1000 d.fb d.fa n
section
variable {c : Ctx} {w : World} {L : List SA}
theorem begin22_ok (h : St c w L) {g : Cfg} (hg : CfgOk g) {d : Dr} (hd : DrOk d) {Q : Value -> World -> Prop}
  (hk : ∀ t n fA fC q O1 d1 O2 d2 f w',f.to = 1 -> f.path = 0 -> f.bs = encB (askS 1000 80 d.fa d.ka) -> f.bs.length <= f.bC ->
   St c w' (blk t 38 (twc (two g d (some ⟨n.x,0,none⟩) none (some ⟨q,0,none⟩) O1 1 d1 O2 1 d2)) :: own 79 3 O1 1 d1 (([f] : List Fl22).flatMap flyc) :: own 79 3 O2 1 d2 (([f] : List Fl22).flatMap flyc) :: bodF [f,f] :: blk q 73 (srcC d 0) :: stP g n (XA0 g d n fA fC) (FA0 d n) [] 0 fA fC 0 L) -> Q (.pointer (some ⟨t,0,none⟩)) w') :
  CALL PG 5 [cfgv g,drcv d] w Q:=by
 refine call5 ?_
 unfold N5
 refine h.box (vs:=cfg g) fun q2 w' h => ?_
 refine h.box (vs:=drc d) fun q3 w' h => ?_
 refine h.rdG (B:=q2) ?_
 (repeat apply exi)
 apply exr
 refine h.rdG (B:=q3) ?_
 (repeat apply exi)
 apply exr
 refine h.rdGo (B:=q3) 4 2 ?_
 (repeat apply exi)
 apply exr
 refine RD.bld ?_
 (repeat apply exi)
 apply exr
 refine h.box (vs:=srcC d 0) fun q w' h => ?_
 have hb : (Instr.build 38 #[(2,cfgv g),(3,drcv d),(4,.pointer (some ⟨q,0,none⟩))]).run PG w' = .ok (.agg (twc (two g d none none (some ⟨q,0,none⟩) none 0 0 none 0 0)).toArray) w':=by kernel_rfl
 refine RD.of hb ⟨_,rfl,?_⟩
 refine h.box (vs:=twc (two g d none none (some ⟨q,0,none⟩) none 0 0 none 0 0)) fun t w' h => ?_
 refine h.rdG (B:=q2) ?_
 (repeat apply exi)
 apply exr
 refine h.rdI (B:=q3) 0 ?_
 refine RD.bld ?_
 (repeat apply exi)
 apply exr
 refine h.rdI (B:=q3) 2 ?_
 refine ask_ok (g:=g) h hg hd.ka (by decide) (by decide) hd.fa fun n fA fC pA pC p w' e1 e2 h => ?_
 (repeat apply exi)
 apply exr
 refine h.st (B:=t) 0 fun w' h => ?_
 refine h.rdP (B:=t) 0 ?_
 refine iff_ rfl ?_
 have h:=((h.addOwnNil 79 3).addOwnNil 79 3).addRo0 (φ:=fun w => ∀ f ∈ (([] : List Fl22) ++ []),Row w f.b (bvs f.bs)) (fun w f hf => by cases hf)
 refine gatherA_ok (T:=two g d none none (some ⟨q,0,none⟩) none 0 0 none 0 0) (W:=[]) (G:=[]) (XA:=askC g d.ka 0 1000 80 n fA fC pA 1 pC) (psA:=[p]) (h.sub (show Sub _ (blk t 38 (twc (two g d (some ⟨n.x,0,none⟩) none (some ⟨q,0,none⟩) none 0 0 none 0 0)) :: own 79 3 none 0 0 [] :: own 79 3 none 0 0 [] :: blk n.x 67 (cnc (askC g d.ka 0 1000 80 n fA fC pA 1 pC)) :: own 115 2 pA 1 pC (([p] : List Pkt).flatMap pkc) :: bodP [p] :: bodF ([] ++ []) :: _) from (.cons (.tail (.tail (.tail .head))) (.cons (.tail .head) (.cons (.tail .head) (.cons (.tail .head) (.cons (.tail .head) (.cons (.tail .head) (.cons .head ((Sub.same _))))))))))) rfl (by simp) (by simp) (by simp) fun O1 O2 d1 d2 w' h => ?_
 (repeat apply exi)
 apply exr
 have h:=(h.addOwnNil 115 2).addBod0
 have h:=h.sub (show Sub _ (rawP g n (XA0 g d n fA fC) (FA0 d n) [] fA fC 0 (blk t 38 (twc (two g d (some ⟨n.x,0,none⟩) none (some ⟨q,0,none⟩) O1 1 d1 O2 1 d2)) :: own 79 3 O1 1 d1 (([fly22 1 p] : List Fl22).flatMap flyc) :: own 79 3 O2 1 d2 (([fly22 1 p] : List Fl22).flatMap flyc) :: bodF [fly22 1 p,fly22 1 p] :: blk q 73 (srcC d 0) :: L)) from (.cons (.tail (.tail (.tail (.tail (.tail .head))))) (.cons (.tail .head) (.cons .head (.cons (.tail (.tail (.tail (.tail .head)))) (.cons (.tail (.tail (.tail (.tail .head)))) (.cons (.tail (.tail (.tail (.tail .head)))) (.cons (.tail (.tail (.tail (.tail .head)))) (.cons (.tail (.tail (.tail (.tail .head)))) (.cons (.tail (.tail (.tail (.tail .head)))) (.cons (.tail (.tail (.tail (.tail .head)))) (.cons (.tail (.tail (.tail (.tail .head)))) (.cons (.tail (.tail (.tail (.tail .head)))) (.cons (.tail (.tail (.tail (.tail .head)))) (.cons (.tail (.tail (.tail (.tail .head)))) (.cons (.tail (.tail (.tail (.tail .head)))) (.cons (.tail (.tail (.tail (.tail .head)))) (.cons (.tail (.tail (.tail (.tail .head)))) (.cons (.tail (.tail (.tail (.tail .head)))) (.cons (.tail (.tail (.tail (.tail .head)))) (.cons .head (.cons .head (.cons .head (.cons .head (.cons .head ((Sub.same _).more.more))))))))))))))))))))))))))
 have h:=stP_of hg h
 exact hk t n fA fC q O1 d1 O2 d2 (fly22 1 p) _ rfl e1 e2.1 e2.2 (h.sub (.cons (.tail (.tail (.tail (.tail (.tail (.tail (.tail (.tail (.tail (.tail (.tail (.tail (.tail (.tail (.tail (.tail (.tail (.tail .head)))))))))))))))))) (.cons (.tail (.tail (.tail (.tail (.tail (.tail (.tail (.tail (.tail (.tail (.tail (.tail (.tail (.tail (.tail (.tail (.tail (.tail .head)))))))))))))))))) (.cons (.tail (.tail (.tail (.tail (.tail (.tail (.tail (.tail (.tail (.tail (.tail (.tail (.tail (.tail (.tail (.tail (.tail (.tail .head)))))))))))))))))) (.cons (.tail (.tail (.tail (.tail (.tail (.tail (.tail (.tail (.tail (.tail (.tail (.tail (.tail (.tail (.tail (.tail (.tail (.tail .head)))))))))))))))))) (.cons (.tail (.tail (.tail (.tail (.tail (.tail (.tail (.tail (.tail (.tail (.tail (.tail (.tail (.tail (.tail (.tail (.tail (.tail .head)))))))))))))))))) (.cons .head (.cons .head (.cons .head (.cons .head (.cons .head (.cons .head (.cons .head (.cons .head (.cons .head (.cons .head (.cons .head (.cons .head (.cons .head (.cons .head (.cons .head (.cons .head (.cons .head (.cons .head ((Sub.same _))))))))))))))))))))))))))
theorem arrive1_ok {t q : Nat} {n : Nms} {fA : Option Addr} {fC : Nat} {O O2 : Option Addr} {dd d2 : Nat} {g : Cfg} (hg : CfgOk g) {d : Dr} (hd : DrOk d) {f : Fl22} (e1 : f.to = 1) (e2 : f.path = 0) (e3 : f.bs = encB (askS 1000 80 d.fa d.ka)) (hC : f.bs.length <= f.bC)
  (h : St c w (blk t 38 (twc (two g d (some ⟨n.x,0,none⟩) none (some ⟨q,0,none⟩) O 0 dd O2 1 d2)) :: own 79 3 O 0 dd [] :: own 79 3 O2 1 d2 (([f] : List Fl22).flatMap flyc) :: bodF [f,f] :: blk q 73 (srcC d 0) :: stP g n (XA0 g d n fA fC) (FA0 d n) [] 0 fA fC 0 L)) {Q : Value -> World -> Prop}
  (hk : ∀ n' fA' fC' O1 d1 O3 d3 f' w',f'.to = 0 -> f'.path = 0 -> f'.bs = encB (ansS (FB0 d n') d.kb d.ka) -> f'.bs.length <= f'.bC ->
   St c w' (blk t 38 (twc (two g d (some ⟨n.x,0,none⟩) (some ⟨n'.x,0,none⟩) (some ⟨q,0,none⟩) O1 1 d1 O3 2 d3)) :: own 79 3 O1 1 d1 (([f'] : List Fl22).flatMap flyc) :: own 79 3 O3 2 d3 (([f,f'] : List Fl22).flatMap flyc) :: bodF [f',f,f'] :: blk q 73 (srcC d 0) :: stP g n (XA0 g d n fA fC) (FA0 d n) [] 0 fA fC 0 (stP g n' (XB0 g d n' fA' fC') (FB0 d n') [] 0 fA' fC' 0 L)) -> Q (.int .i64 0) w') :
  CALL PG 18 [.pointer (some ⟨t,0,none⟩),flycv f] w Q:=by
 have okS : SgOk (askS 1000 80 d.fa d.ka):=askS_ok (by decide) (by decide) hd.fa
 have he:=parse_enc okS
 rw [<- e3] at he
 have h24 : f.bs.length <= 1000000:=by rw [e3]; simp [encB,askS,hdB,obs,obP,keyB,beB_length]
 have hf0 : RdIn (bodF [f,f] :: blk q 73 (srcC d 0) :: stP g n (XA0 g d n fA fC) (FA0 d n) [] 0 fA fC 0 L) f.b (bvs f.bs):=fun c w h => h.ro .head f (by simp)
 refine call18 ?_
 unfold N18
 refine h.box (vs:=flyc f) fun q3 w' h => ?_
 refine h.rdL (B:=q3) 2 ?_
 refine parseC_ok h hf0.more.more.more.more rfl hC h24 (fun e e2 => by rw [he] at e2; cases e2) fun s hs cap w' h => ?_
 rw [he] at hs
 injection hs with hs
 have s1 : s.src = 1000:=(congrArg SgP.src hs).symm
 have s2 : s.dst = 80:=(congrArg SgP.dst hs).symm
 have s3 : s.flags = 1:=(congrArg SgP.flags hs).symm
 have s4 : s.os.map opl = [(1,keyB d.ka 0 false)]:=(congrArg SgP.os hs).symm
 have s5 : s.seq = d.fa:=(congrArg SgP.seq hs).symm
 obtain ⟨o,so⟩ : ∃ o,s.os = [o]:=by
  cases hc : s.os with
  | nil => rw [hc] at s4; cases s4
  | cons x l =>
   rw [hc] at s4
   cases l with
   | nil => exact ⟨x,rfl⟩
   | cons y l => simp at s4
 rw [so] at s4
 injection s4 with s4
 have o1 : o.kind = 1:=congrArg Prod.fst s4
 have o2 : o.bodys = keyB d.ka 0 false:=congrArg Prod.snd s4
 have o8 : o.bodys.length = 8:=by rw [o2]; simp [keyB,beB_length]
 have hom : o ∈ s.os:=by rw [so]; exact List.mem_singleton.2 rfl
 have dk : (beN o.bodys : Int) = d.ka:=by
  rw [o2]
  unfold keyB
  rw [if_neg (by decide)]
  exact beN_beB 8 hd.ka.1 (by simpa using hd.ka.2)
 (repeat apply exi)
 apply exr
 refine h.allocZ fun q5 w' h => ?_
 refine h.stG (B:=q5) (fun w' h => ?_) (hl:=by rfl)
 refine leti rfl (ifnsame rfl (nilc ?_))
 refine h.rdP (B:=t) 0 ?_
 refine ⟨fun z w => z = none /\ St c w (blk q5 118 (sgc s) :: sgp s :: blk q3 79 (flyc f) :: blk t 38 (twc (two g d (some ⟨n.x,0,none⟩) none (some ⟨q,0,none⟩) O 0 dd O2 1 d2)) :: own 79 3 O 0 dd [] :: own 79 3 O2 1 d2 (([f] : List Fl22).flatMap flyc) :: bodF [f,f] :: blk q 73 (srcC d 0) :: stP g n (XA0 g d n fA fC) (FA0 d n) [] 0 fA fC 0 L),?_,?_⟩
 ·refine h.rdI (B:=q3) 0 ?_
  refine ift (by rw [e1]; rfl) (nilc (h.rdP (B:=t) 1 ⟨rfl,h⟩))
 clear h
 rintro z w' ⟨rfl,h⟩
 refine h.rdI (B:=q3) 1 (h.rdI (B:=q5) 1 (h.rdI (B:=q5) 0 ?_))
 rw [e2,s1,s2]
 refine RD.bld ?_
 (repeat apply exi)
 apply exr
 refine h.allocZ fun q8 w' h => ?_
 refine h.stG (B:=q8) fun w' h => ?_
 refine ift rfl ?_
 refine h.rdG (B:=q5) ?_
 (repeat apply exi)
 apply exr
 refine one_ok (s:=s) h (SgIn.here (.tail (.tail .head))) (by rw [so]; simp) (fun o' w' ho h => ?_) (fun hno => absurd (by rw [so]; simp [ofKind,o1]) hno)
 obtain rfl : o' = o:=by
  rw [so] at ho
  simp [ofKind,o1] at ho
  exact ho.symm
 (repeat apply exi)
 apply exr
 refine h.allocZ fun q9 w' h => ?_
 refine h.stG (B:=q9) (fun w' h => ?_) (hl:=by rfl)
 refine letb rfl (h.rdG (B:=q9) ?_)
 (repeat apply exi)
 apply exr
 refine pkey_ok h ((SgIn.opt (SgIn.here (.tail (.tail (.tail .head)))) hom)) (cap o' hom) (by omega) (fun _ _ w' h => ?_) (fun _ e => by omega) (fun e => by omega)
 (repeat apply exi)
 apply exr
 refine h.allocZ fun q11 w' h => ?_
 refine h.stG (B:=q11) (fun w' h => ?_) (hl:=by rfl)
 rw [dk] at h
 refine letb rfl ?_
 have h : St c w' (blk q11 128 [.int .u64 d.ka,.bool false,.int .u64 0] :: blk q9 122 (opx o') :: blk q8 51 [.int .i64 0,.int .u16 80,.int .u16 1000] :: blk q5 118 (sgc s) :: sgp s :: blk q3 79 (flyc f) :: blk t 38 (twc (two g d (some ⟨n.x,0,none⟩) none (some ⟨q,0,none⟩) O 0 dd O2 1 d2)) :: own 79 3 O 0 dd [] :: own 79 3 O2 1 d2 (([f] : List Fl22).flatMap flyc) :: bodF [f,f] :: blk q 73 (srcC d 0) :: stP g n (XA0 g d n fA fC) (FA0 d n) [] 0 fA fC 0 L):=h
 refine ⟨fun bb w => bb = true /\ St c w (blk q11 128 [.int .u64 d.ka,.bool false,.int .u64 0] :: blk q9 122 (opx o') :: blk q8 51 [.int .i64 0,.int .u16 80,.int .u16 1000] :: blk q5 118 (sgc s) :: sgp s :: blk q3 79 (flyc f) :: blk t 38 (twc (two g d (some ⟨n.x,0,none⟩) none (some ⟨q,0,none⟩) O 0 dd O2 1 d2)) :: own 79 3 O 0 dd [] :: own 79 3 O2 1 d2 (([f] : List Fl22).flatMap flyc) :: bodF [f,f] :: blk q 73 (srcC d 0) :: stP g n (XA0 g d n fA fC) (FA0 d n) [] 0 fA fC 0 L),?_,?_⟩
 ·refine ift rfl (ift rfl ?_)
  refine h.rdB (B:=q11) 1 (ift rfl ?_)
  refine h.rdI (B:=q5) 4 ?_
  refine ift (by rw [s3]; rfl) ?_
  refine h.rdI (B:=q3) 1 ?_
  exact ⟨by rw [e2]; rfl,h⟩
 clear h
 rintro bb w' ⟨rfl,h⟩
 have h:=h.drew
 refine ift rfl (nilc (h.rdGo (B:=t) 2 15 ?_))
 (repeat apply exi)
 apply exr
 refine nilc (h.rdI2 (B:=t) 17 1 ?_)
 refine h.rdG (B:=q8) ?_
 (repeat apply exi)
 apply exr
 refine nilc (h.rdI2 (B:=t) 17 3 ?_)
 refine h.rdG (B:=q5) ?_
 (repeat apply exi)
 apply exr
 refine h.rdI (B:=q11) 0 ?_
 refine answer_ok (g:=g) (s:=s) h hg hd.kb (by decide) (by decide) hd.fb fun n' fA' fC' pA pC p w' f1 f2 h => ?_
 rw [s5] at f2 h
 (repeat apply exi)
 apply exr
 refine nilc ?_
 refine h.st (B:=t) 1 fun w' h => ?_
 have h:=h.sub (show Sub _ (bodF [f,f] :: _) from (.cons (.tail (.tail (.tail (.tail (.tail (.tail (.tail (.tail (.tail (.tail (.tail (.tail (.tail (.tail (.tail (.tail (.tail (.tail (.tail (.tail (.tail (.tail (.tail (.tail (.tail (.tail (.tail (.tail .head)))))))))))))))))))))))))))) (.cons .head (.cons .head (.cons .head (.cons .head (.cons .head (.cons .head (.cons .head (.cons .head (.cons .head (.cons .head (.cons .head (.cons .head (.cons .head (.cons .head (.cons .head (.cons .head (.cons .head (.cons .head (.cons .head (.cons .head (.cons .head (.cons .head (.cons .head (.cons .head (.cons .head (.cons .head (.cons .head (.cons .head ((Sub.same _))))))))))))))))))))))))))))))))
 have h:=h.roW (ψ:=fun w => ∀ z ∈ (([] : List Fl22) ++ [f]),Row w z.b (bvs z.bs)) fun w a z hz => a z (by simp at hz; simp [hz])
 refine gatherAB_ok (T:=two g d (some ⟨n.x,0,none⟩) (some ⟨n'.x,0,none⟩) (some ⟨q,0,none⟩) O 0 dd O2 1 d2) (W:=[]) (G:=[f]) (XA:=XA0 g d n fA fC) (XB:=ansC g d.kb d.ka 0 80 1000 n' fA' fC' pA 1 pC (sessK d.ka d.kb)) (psA:=[]) (psB:=[p]) (h.sub (show Sub _ (blk t 38 (twc (two g d (some ⟨n.x,0,none⟩) (some ⟨n'.x,0,none⟩) (some ⟨q,0,none⟩) O 0 dd O2 1 d2)) :: own 79 3 O 0 dd [] :: own 79 3 O2 1 d2 (([f] : List Fl22).flatMap flyc) :: blk n.x 67 (cnc (XA0 g d n fA fC)) :: own 115 2 none 0 0 [] :: bodP [] :: blk n'.x 67 (cnc (ansC g d.kb d.ka 0 80 1000 n' fA' fC' pA 1 pC (sessK d.ka d.kb))) :: own 115 2 pA 1 pC (([p] : List Pkt).flatMap pkc) :: bodP [p] :: bodF ([] ++ [f]) :: _) from (.cons (.tail .head) (.cons (.tail (.tail (.tail (.tail (.tail (.tail (.tail (.tail (.tail (.tail (.tail (.tail (.tail (.tail (.tail (.tail (.tail (.tail (.tail (.tail (.tail (.tail (.tail (.tail (.tail (.tail .head)))))))))))))))))))))))))) (.cons (.tail (.tail (.tail (.tail (.tail (.tail (.tail (.tail (.tail (.tail (.tail (.tail (.tail (.tail (.tail (.tail (.tail (.tail (.tail (.tail (.tail (.tail (.tail (.tail (.tail (.tail .head)))))))))))))))))))))))))) (.cons (.tail (.tail (.tail (.tail (.tail (.tail (.tail (.tail (.tail (.tail (.tail (.tail (.tail (.tail (.tail (.tail (.tail (.tail (.tail (.tail (.tail (.tail (.tail (.tail (.tail (.tail (.tail .head))))))))))))))))))))))))))) (.cons (.tail (.tail (.tail (.tail (.tail (.tail (.tail (.tail (.tail (.tail (.tail (.tail (.tail (.tail (.tail (.tail (.tail (.tail (.tail (.tail (.tail (.tail (.tail (.tail (.tail (.tail (.tail (.tail .head)))))))))))))))))))))))))))) (.cons (.tail (.tail (.tail (.tail (.tail (.tail (.tail (.tail (.tail (.tail (.tail (.tail (.tail (.tail (.tail (.tail (.tail (.tail (.tail (.tail (.tail (.tail (.tail (.tail (.tail (.tail (.tail (.tail .head)))))))))))))))))))))))))))) (.cons (.tail .head) (.cons (.tail .head) (.cons (.tail .head) (.cons .head (.cons .head (.cons .head (.cons .head (.cons .head (.cons .head (.cons .head (.cons .head (.cons .head (.cons .head (.cons .head (.cons .head (.cons .head (.cons .head (.cons .head (.cons .head (.cons .head (.cons (.tail (.tail (.tail (.tail (.tail (.tail .head)))))) (.cons (.tail (.tail (.tail (.tail (.tail (.tail .head)))))) ((Sub.same _).more.more.more.more.more.more))))))))))))))))))))))))))))))) rfl (by simp) rfl (by simp) (by simp) (by simp) fun O1 O3 d1 d3 w' h => ⟨rfl,?_⟩
 have h:=(h.addOwnNil 115 2).addBod0
 have h:=h.sub (show Sub _ (rawP g n' (XB0 g d n' fA' fC') (FB0 d n') [] fA' fC' 0 (blk t 38 (twc (two g d (some ⟨n.x,0,none⟩) (some ⟨n'.x,0,none⟩) (some ⟨q,0,none⟩) O1 1 d1 O3 2 d3)) :: own 79 3 O1 1 d1 (([fly22 0 p] : List Fl22).flatMap flyc) :: own 79 3 O3 2 d3 (([f,fly22 0 p] : List Fl22).flatMap flyc) :: bodF [fly22 0 p,f,fly22 0 p] :: blk q 73 (srcC d 0) :: blk n.x 67 (cnc (XA0 g d n fA fC)) :: blk n.f 111 (fwc (FA0 d n)) :: _)) from (.cons (.tail (.tail (.tail (.tail (.tail (.tail .head)))))) (.cons (.tail .head) (.cons .head (.cons (.tail (.tail (.tail (.tail (.tail .head))))) (.cons (.tail (.tail (.tail (.tail (.tail .head))))) (.cons (.tail (.tail (.tail (.tail (.tail .head))))) (.cons (.tail (.tail (.tail (.tail (.tail .head))))) (.cons (.tail (.tail (.tail (.tail (.tail .head))))) (.cons (.tail (.tail (.tail (.tail (.tail .head))))) (.cons (.tail (.tail (.tail (.tail (.tail .head))))) (.cons (.tail (.tail (.tail (.tail (.tail .head))))) (.cons (.tail (.tail (.tail (.tail (.tail .head))))) (.cons (.tail (.tail (.tail (.tail (.tail .head))))) (.cons (.tail (.tail (.tail (.tail (.tail .head))))) (.cons (.tail (.tail (.tail (.tail (.tail .head))))) (.cons (.tail (.tail (.tail (.tail (.tail .head))))) (.cons (.tail (.tail (.tail (.tail (.tail .head))))) (.cons (.tail (.tail (.tail (.tail (.tail .head))))) (.cons (.tail (.tail (.tail (.tail (.tail .head))))) (.cons .head (.cons .head (.cons .head (.cons (.tail .head) (.cons (.tail .head) (.cons .head (.cons .head ((Sub.same _)))))))))))))))))))))))))))))
 have h:=stP_of hg h
 have h:=(h.addOwnNil 115 2).addBod0
 exact hk n' fA' fC' O1 d1 O3 d3 (fly22 0 p) _ rfl f1 f2.1 f2.2 (h.sub (.cons (.tail (.tail (.tail (.tail (.tail (.tail (.tail (.tail (.tail (.tail (.tail (.tail (.tail (.tail (.tail (.tail (.tail (.tail (.tail (.tail .head)))))))))))))))))))) (.cons (.tail (.tail (.tail (.tail (.tail (.tail (.tail (.tail (.tail (.tail (.tail (.tail (.tail (.tail (.tail (.tail (.tail (.tail (.tail (.tail .head)))))))))))))))))))) (.cons (.tail (.tail (.tail (.tail (.tail (.tail (.tail (.tail (.tail (.tail (.tail (.tail (.tail (.tail (.tail (.tail (.tail (.tail (.tail (.tail .head)))))))))))))))))))) (.cons (.tail (.tail (.tail (.tail (.tail (.tail (.tail (.tail (.tail (.tail (.tail (.tail (.tail (.tail (.tail (.tail (.tail (.tail (.tail (.tail .head)))))))))))))))))))) (.cons (.tail (.tail (.tail (.tail (.tail (.tail (.tail (.tail (.tail (.tail (.tail (.tail (.tail (.tail (.tail (.tail (.tail (.tail (.tail (.tail .head)))))))))))))))))))) (.cons (.tail (.tail (.tail (.tail (.tail (.tail (.tail (.tail (.tail (.tail (.tail (.tail (.tail (.tail (.tail (.tail (.tail (.tail (.tail (.tail .head)))))))))))))))))))) (.cons (.tail (.tail (.tail (.tail (.tail (.tail (.tail (.tail (.tail (.tail (.tail (.tail (.tail (.tail (.tail (.tail (.tail (.tail (.tail (.tail .head)))))))))))))))))))) (.cons (.tail .head) (.cons .head (.cons (.tail (.tail (.tail (.tail (.tail (.tail (.tail (.tail (.tail (.tail (.tail (.tail (.tail (.tail (.tail (.tail (.tail (.tail .head)))))))))))))))))) (.cons (.tail (.tail (.tail (.tail (.tail (.tail (.tail (.tail (.tail (.tail (.tail (.tail (.tail (.tail (.tail (.tail (.tail (.tail .head)))))))))))))))))) (.cons (.tail (.tail (.tail (.tail (.tail (.tail (.tail (.tail (.tail (.tail (.tail (.tail (.tail (.tail (.tail (.tail (.tail (.tail .head)))))))))))))))))) (.cons (.tail (.tail (.tail (.tail (.tail (.tail (.tail (.tail (.tail (.tail (.tail (.tail (.tail (.tail (.tail (.tail (.tail (.tail .head)))))))))))))))))) (.cons (.tail (.tail (.tail (.tail (.tail (.tail (.tail (.tail (.tail (.tail (.tail (.tail (.tail (.tail (.tail (.tail (.tail (.tail .head)))))))))))))))))) (.cons (.tail (.tail (.tail (.tail (.tail (.tail (.tail (.tail (.tail (.tail (.tail (.tail (.tail (.tail (.tail (.tail (.tail (.tail .head)))))))))))))))))) (.cons (.tail (.tail (.tail (.tail (.tail (.tail (.tail (.tail (.tail (.tail (.tail (.tail (.tail (.tail (.tail (.tail (.tail (.tail .head)))))))))))))))))) (.cons (.tail (.tail (.tail (.tail (.tail (.tail (.tail (.tail (.tail (.tail (.tail (.tail (.tail (.tail (.tail (.tail (.tail (.tail .head)))))))))))))))))) (.cons (.tail (.tail (.tail (.tail (.tail (.tail (.tail (.tail (.tail (.tail (.tail (.tail (.tail (.tail (.tail (.tail (.tail (.tail .head)))))))))))))))))) (.cons (.tail (.tail (.tail (.tail (.tail (.tail (.tail (.tail (.tail (.tail (.tail (.tail (.tail (.tail (.tail (.tail (.tail (.tail .head)))))))))))))))))) (.cons (.tail (.tail (.tail (.tail (.tail (.tail (.tail (.tail (.tail (.tail (.tail (.tail (.tail (.tail (.tail (.tail (.tail (.tail .head)))))))))))))))))) (.cons (.tail (.tail (.tail (.tail (.tail (.tail (.tail (.tail (.tail (.tail (.tail (.tail (.tail (.tail (.tail (.tail (.tail (.tail .head)))))))))))))))))) (.cons (.tail (.tail (.tail (.tail (.tail (.tail (.tail (.tail (.tail (.tail (.tail (.tail (.tail (.tail (.tail (.tail (.tail (.tail .head)))))))))))))))))) (.cons (.tail (.tail (.tail (.tail (.tail (.tail (.tail (.tail (.tail (.tail (.tail (.tail (.tail (.tail (.tail (.tail (.tail (.tail .head)))))))))))))))))) (.cons .head (.cons .head (.cons .head (.cons .head (.cons .head (.cons .head (.cons .head (.cons .head (.cons .head (.cons .head (.cons .head (.cons .head (.cons .head (.cons .head (.cons .head (.cons .head (.cons .head (.cons .head ((Sub.same _))))))))))))))))))))))))))))))))))))))))))))
end
end Go.Br
