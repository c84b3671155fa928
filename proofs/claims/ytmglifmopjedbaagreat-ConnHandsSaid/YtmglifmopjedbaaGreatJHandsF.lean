/- HandsE, HandsF -/
import Derived.Test.YtmglifmopjedbaaGreatBrSeat
import Derived.Test.YtmglifmopjedbaaGreatJHandsD
/- What the code of some functions says,as the core reads it; each reading is checked by the kernel. -/
set_option linter.unusedVariables false
set_option maxRecDepth 100000
namespace Go.Br
open Go Go.Proofs
def N6 (x : Option Addr) (w : World) (Q : QP) : Prop :=
 NILC x fun a4 =>
 RDI PG (loadVar 39 (a4.add 25)) .i64 w fun x6 =>
 LETI x6 fun x2 =>
 Q (.int .i64 x2) w
theorem call6 {x : Option Addr} {w : World} {Q : QP} (h_ : N6 x w Q) : CALL PG 6 [(.pointer x)] w Q:=calls_vq .nil tabOk Tryz.func6 (by kernel_rfl) h_
end Go.Br
/- The handshake: both ends,step by step. -/
set_option linter.unusedVariables false
set_option linter.unusedSimpArgs false
set_option linter.unnecessarySimpa false
namespace Go.Br
open Go
attribute [local irreducible] Addr.add RD RDS RUN RUNU NILC LETB CALL CALLX CALLV
abbrev sAB (g : Cfg) (d : Dr) (t q : Nat) (n n' : Nms) (fA : Option Addr) (fC : Nat) (fA' : Option Addr) (fC' : Nat) (O1 : Option Addr) (d1 : Nat) (O3 : Option Addr) (d3 : Nat) (f : Fl22) (G F0 : List Fl22) (XA : Cn) (FA : Fw) (XB : Cn) (FB : Fw) (L : List SA) : List SA :=
 blk t 38 (twc (two g d (some ⟨n.x,0,none⟩) (some ⟨n'.x,0,none⟩) (some ⟨q,0,none⟩) O1 1 d1 O3 G.length d3)) :: own 79 3 O1 1 d1 (([f] : List Fl22).flatMap flyc) :: own 79 3 O3 G.length d3 (G.flatMap flyc) :: bodF F0 :: blk q 73 (srcC d 0) :: stP g n XA FA [] 0 fA fC 0 (stP g n' XB FB [] 0 fA' fC' 0 L)
section
variable {c : Ctx} {w : World} {L : List SA}
theorem step1_ok {g : Cfg} (hg : CfgOk g) {d : Dr} (hd : DrOk d) {t q : Nat} {n : Nms} {fA : Option Addr} {fC : Nat} {O1 O2 : Option Addr} {d1 d2 : Nat} {f : Fl22} (e1 : f.to = 1) (e2 : f.path = 0) (e3 : f.bs = encB (askS 1000 80 d.fa d.ka)) (e4 : f.bs.length <= f.bC)
  (h : St c w (blk t 38 (twc (two g d (some ⟨n.x,0,none⟩) none (some ⟨q,0,none⟩) O1 1 d1 O2 1 d2)) :: own 79 3 O1 1 d1 (([f] : List Fl22).flatMap flyc) :: own 79 3 O2 1 d2 (([f] : List Fl22).flatMap flyc) :: bodF [f,f] :: blk q 73 (srcC d 0) :: stP g n (XA0 g d n fA fC) (FA0 d n) [] 0 fA fC 0 L)) {Q : Value -> World -> Prop}
  (hq : ∀ n' fA' fC' O1 d1 O3 d3 f' w',f'.to = 0 -> f'.path = 0 -> f'.bs = encB (ansS (FB0 d n') d.kb d.ka) -> f'.bs.length <= f'.bC -> St c w' (sAB g d t q n n' fA fC fA' fC' O1 d1 O3 d3 f' [f,f'] [f',f,f'] (XA0 g d n fA fC) (FA0 d n) (XB0 g d n' fA' fC') (FB0 d n') L) -> Q (.agg heard0.toArray) w') :
  CALL PG 7 [.pointer (some ⟨t,0,none⟩),.agg heard0.toArray,.agg #[.int .i64 0,.int .i64 0,.int .i64 0,.slice none 0 0]] w Q:=by
 refine do0_ok (T:=two g d (some ⟨n.x,0,none⟩) none (some ⟨q,0,none⟩) O1 1 d1 O2 1 d2) (f:=f) (P0:=own 79 3 O2 1 d2 (([f] : List Fl22).flatMap flyc) :: bodF [f,f] :: blk q 73 (srcC d 0) :: stP g n (XA0 g d n fA fC) (FA0 d n) [] 0 fA fC 0 [])
  (Good:=fun P => ∃ n' fA' fC' O1 d1 O3 d3 f',f'.to = 0 /\ f'.path = 0 /\ f'.bs = encB (ansS (FB0 d n') d.kb d.ka) /\ f'.bs.length <= f'.bC /\ P = sAB g d t q n n' fA fC fA' fC' O1 d1 O3 d3 f' [f,f'] [f',f,f'] (XA0 g d n fA fC) (FA0 d n) (XB0 g d n' fA' fC') (FB0 d n') []) h (h.own (.tail .head)).le (fun O dd w' L' h K hK => ?_) fun P w' hG h => ?_
 ·exact arrive1_ok hg hd e1 e2 e3 e4 h fun n' fA' fC' O1 d1 O3 d3 f' w'' g1 g2 g3 g4 h => ⟨_,rfl,hK _ w'' ⟨n',fA',fC',O1,d1,O3,d3,f',g1,g2,g3,g4,rfl⟩ h⟩
 ·obtain ⟨n',fA',fC',O1,d1,O3,d3,f',g1,g2,g3,g4,rfl⟩:=hG
  exact hq n' fA' fC' O1 d1 O3 d3 f' w' g1 g2 g3 g4 h
theorem step2_ok {g : Cfg} (hg : CfgOk g) {d : Dr} (hd : DrOk d) {t q : Nat} {n n' : Nms} {fA fA' : Option Addr} {fC fC' : Nat} {O1 O3 : Option Addr} {d1 d3 : Nat} {f : Fl22} {G F0 : List Fl22} (e1 : f.to = 0) (e2 : f.path = 0) (e3 : f.bs = encB (ansS (FB0 d n') d.kb d.ka)) (e4 : f.bs.length <= f.bC) (hfF : f ∈ F0) (hGF : ∀ z ∈ G,z ∈ F0) (hGl : G.length <= 1000)
  (h : St c w (sAB g d t q n n' fA fC fA' fC' O1 d1 O3 d3 f G F0 (XA0 g d n fA fC) (FA0 d n) (XB0 g d n' fA' fC') (FB0 d n') L)) {Q : Value -> World -> Prop}
  (hq : ∀ O1 d1 O3 d3 f' w',f'.to = 1 -> f'.path = 0 -> f'.bs = encB (wordS (XA1 g d n fA fC) (FAa d n) (dA g)) -> f'.bs.length <= f'.bC -> St c w' (sAB g d t q n n' fA fC fA' fC' O1 d1 O3 d3 f' (G ++ [f']) ([f'] ++ (G ++ [f'])) (XA1 g d n fA fC) (FA1 d n) (XB0 g d n' fA' fC') (FB0 d n') L) -> Q (.agg heard0.toArray) w') :
  CALL PG 7 [.pointer (some ⟨t,0,none⟩),.agg heard0.toArray,.agg #[.int .i64 0,.int .i64 0,.int .i64 0,.slice none 0 0]] w Q:=by
 refine do0_ok (T:=two g d (some ⟨n.x,0,none⟩) (some ⟨n'.x,0,none⟩) (some ⟨q,0,none⟩) O1 1 d1 O3 G.length d3) (f:=f) (P0:=own 79 3 O3 G.length d3 (G.flatMap flyc) :: bodF F0 :: blk q 73 (srcC d 0) :: stP g n (XA0 g d n fA fC) (FA0 d n) [] 0 fA fC 0 (stP g n' (XB0 g d n' fA' fC') (FB0 d n') [] 0 fA' fC' 0 []))
  (Good:=fun P => ∃ O1 d1 O3 d3 f',f'.to = 1 /\ f'.path = 0 /\ f'.bs = encB (wordS (XA1 g d n fA fC) (FAa d n) (dA g)) /\ f'.bs.length <= f'.bC /\ P = sAB g d t q n n' fA fC fA' fC' O1 d1 O3 d3 f' (G ++ [f']) ([f'] ++ (G ++ [f'])) (XA1 g d n fA fC) (FA1 d n) (XB0 g d n' fA' fC') (FB0 d n') []) h (h.own (.tail .head)).le (fun O dd w' L' h K hK => ?_) fun P w' hG h => ?_
 ·exact arrive2_ok hg hd e1 e2 e3 e4 hfF hGF hGl h fun O1 d1 O3 d3 f' w'' g1 g2 g3 g4 h => ⟨_,rfl,hK _ w'' ⟨O1,d1,O3,d3,f',g1,g2,g3,g4,rfl⟩ h⟩
 ·obtain ⟨O1,d1,O3,d3,f',g1,g2,g3,g4,rfl⟩:=hG
  exact hq O1 d1 O3 d3 f' w' g1 g2 g3 g4 h
theorem step3_ok {g : Cfg} (hg : CfgOk g) {d : Dr} (hd : DrOk d) {t q : Nat} {n n' : Nms} {fA fA' : Option Addr} {fC fC' : Nat} {O1 O3 : Option Addr} {d1 d3 : Nat} {f : Fl22} {G F0 : List Fl22} (e1 : f.to = 1) (e2 : f.path = 0) (e3 : f.bs = encB (wordS (XA1 g d n fA fC) (FAa d n) (dA g))) (e4 : f.bs.length <= f.bC) (hfF : f ∈ F0) (hGF : ∀ z ∈ G,z ∈ F0) (hGl : G.length <= 1000)
  (h : St c w (sAB g d t q n n' fA fC fA' fC' O1 d1 O3 d3 f G F0 (XA1 g d n fA fC) (FA1 d n) (XB0 g d n' fA' fC') (FB0 d n') L)) {Q : Value -> World -> Prop}
  (hq : ∀ O1 d1 O3 d3 f' w',St c w' (sAB g d t q n n' fA fC fA' fC' O1 d1 O3 d3 f' (G ++ [f']) ([f'] ++ (G ++ [f'])) (XA1 g d n fA fC) (FA1 d n) (XB3 g d n n' fA fC fA' fC') (FB3 g d n n' fA fC) L) -> Q (.agg heard0.toArray) w') :
  CALL PG 7 [.pointer (some ⟨t,0,none⟩),.agg heard0.toArray,.agg #[.int .i64 0,.int .i64 0,.int .i64 0,.slice none 0 0]] w Q:=by
 refine do0_ok (T:=two g d (some ⟨n.x,0,none⟩) (some ⟨n'.x,0,none⟩) (some ⟨q,0,none⟩) O1 1 d1 O3 G.length d3) (f:=f) (P0:=own 79 3 O3 G.length d3 (G.flatMap flyc) :: bodF F0 :: blk q 73 (srcC d 0) :: stP g n (XA1 g d n fA fC) (FA1 d n) [] 0 fA fC 0 (stP g n' (XB0 g d n' fA' fC') (FB0 d n') [] 0 fA' fC' 0 []))
  (Good:=fun P => ∃ O1 d1 O3 d3 f',P = sAB g d t q n n' fA fC fA' fC' O1 d1 O3 d3 f' (G ++ [f']) ([f'] ++ (G ++ [f'])) (XA1 g d n fA fC) (FA1 d n) (XB3 g d n n' fA fC fA' fC') (FB3 g d n n' fA fC) []) h (h.own (.tail .head)).le (fun O dd w' L' h K hK => ?_) fun P w' hG h => ?_
 ·exact arrive3_ok hg hd e1 e2 e3 e4 hfF hGF hGl h fun O1 d1 O3 d3 f' w'' h => ⟨_,rfl,hK _ w'' ⟨O1,d1,O3,d3,f',rfl⟩ h⟩
 ·obtain ⟨O1,d1,O3,d3,f',rfl⟩:=hG
  exact hq O1 d1 O3 d3 f' w' h
theorem cstate_ok {x : Nat} {X : Cn} {R : List SA} (h : St c w L) (hp : Pick (blk x 67 (cnc X)) L R) {Q : Value -> World -> Prop} (hk : Q (.int .i64 X.state) w) : CALL PG 6 [.pointer (some ⟨x,0,none⟩)] w Q:=by
 refine call6 ?_
 unfold N6
 exact nilc (h.rdI (B:=x) 25 (leti rfl hk) (hp:=hp))
end
end Go.Br
/- What the code of some functions says,as the core reads it; each reading is checked by the kernel. -/
set_option linter.unusedVariables false
set_option maxRecDepth 100000
namespace Go.Br
open Go Go.Proofs
def N10 (x : Option Addr) (w : World) (Q : QP) : Prop :=
 RUNA PG (Instr.alloc 24 true (.tuple #[])) w fun a2 w1 =>
 NILC x fun a4 =>
 RD PG (loadVar 24 (a4.add 9)) w1 fun v =>
 ∃ x6 : Int,∃ x6v1 : Int,∃ x6v2 : Int,∃ x6v3 : Int,∃ x6v4 : Int,∃ x6v5 : Int,∃ x6v6 : Int,∃ x6v7 : Int,∃ x6v8 : Int,∃ x6v9 : Int,∃ x6v10 : Int,∃ x6v11 : Int,∃ x6v12 : Int,∃ x6v13 : Int,∃ x6v14 : Int,v = (.agg #[(.int .i64 x6),(.int .i64 x6v1),(.int .i64 x6v2),(.int .i64 x6v3),(.int .i64 x6v4),(.int .i64 x6v5),(.int .i64 x6v6),(.int .i64 x6v7),(.int .i64 x6v8),(.int .i64 x6v9),(.int .i64 x6v10),(.int .i64 x6v11),(.int .i64 x6v12),(.int .i64 x6v13),(.int .i64 x6v14)]) /\
 (RUNU PG (storeVar 24 a2 (.agg #[(.int .i64 x6),(.int .i64 x6v1),(.int .i64 x6v2),(.int .i64 x6v3),(.int .i64 x6v4),(.int .i64 x6v5),(.int .i64 x6v6),(.int .i64 x6v7),(.int .i64 x6v8),(.int .i64 x6v9),(.int .i64 x6v10),(.int .i64 x6v11),(.int .i64 x6v12),(.int .i64 x6v13),(.int .i64 x6v14)])) w1 fun w2 =>
 RD PG (loadVar 24 a2) w2 fun v2 =>
 ∃ r : Int,∃ r1 : Int,∃ r2 : Int,∃ r3 : Int,∃ r4 : Int,∃ r5 : Int,∃ r6 : Int,∃ r7 : Int,∃ r8 : Int,∃ r9 : Int,∃ r10 : Int,∃ r11 : Int,∃ r12 : Int,∃ r13 : Int,∃ r14 : Int,v2 = (.agg #[(.int .i64 r),(.int .i64 r1),(.int .i64 r2),(.int .i64 r3),(.int .i64 r4),(.int .i64 r5),(.int .i64 r6),(.int .i64 r7),(.int .i64 r8),(.int .i64 r9),(.int .i64 r10),(.int .i64 r11),(.int .i64 r12),(.int .i64 r13),(.int .i64 r14)]) /\
 (Q (.agg #[(.int .i64 r),(.int .i64 r1),(.int .i64 r2),(.int .i64 r3),(.int .i64 r4),(.int .i64 r5),(.int .i64 r6),(.int .i64 r7),(.int .i64 r8),(.int .i64 r9),(.int .i64 r10),(.int .i64 r11),(.int .i64 r12),(.int .i64 r13),(.int .i64 r14)]) w2))
theorem call10 {x : Option Addr} {w : World} {Q : QP} (h_ : N10 x w Q) : CALL PG 10 [(.pointer x)] w Q:=calls_vq .nil tabOk Tryz.func10 (by kernel_rfl) h_
def N11 (x : Option Addr) (w : World) (Q : QP) : Prop :=
 NILC x fun a4 =>
 RDL PG (loadVar 59 (a4.add 33)) w fun x6 x6N x6C =>
 CALL PG 34 [(.slice x6 x6N x6C)] w fun v w1 =>
 ∃ (x7 : Option Addr) (x7N x7C : Nat),v = (.slice x7 x7N x7C) /\
 (Q (.slice x7 x7N x7C) w1)
theorem call11 {x : Option Addr} {w : World} {Q : QP} (h_ : N11 x w Q) : CALL PG 11 [(.pointer x)] w Q:=calls_vq .nil tabOk Tryz.func11 (by kernel_rfl) h_
def N34 (s : Option Addr) (sN sC : Nat) (w : World) (Q : QP) : Prop :=
 IFB (s.isNone)
 (Q (.slice none 0 0) w)
 (RUNL PG (Instr.buildSlice 59 0 #[]) w fun x5 x5N x5C w1 =>
 RUNL PG (Builtin.append_ #[59,59] 59 #[(.slice x5 x5N x5C),(.slice s sN sC)]) w1 fun x7 x7N x7C w2 =>
 Q (.slice x7 x7N x7C) w2)
theorem call34 {s : Option Addr} {sN sC : Nat} {w : World} {Q : QP} (h_ : N34 s sN sC w Q) : CALL PG 34 [(.slice s sN sC)] w Q:=calls_vq .nil tabOk Tryz.func34 (by kernel_rfl) h_
def N35  (w : World) (Q : QP) : Prop :=
 RUNA PG (Instr.alloc 24 true (.tuple #[])) w fun a0 w1 =>
 RD PG (Instr.build 24 #[(0,(.int .i64 2)),(1,(.int .i64 2)),(2,(.int .i64 4)),(3,(.int .i64 3)),(4,(.int .i64 64)),(5,(.int .i64 16)),(6,(.int .i64 4)),(7,(.int .i64 3)),(8,(.int .i64 8)),(9,(.int .i64 200)),(10,(.int .i64 20)),(11,(.int .i64 3)),(12,(.int .i64 1)),(13,(.int .i64 8)),(14,(.int .i64 1))]) w1 fun v =>
 ∃ x1 : Int,∃ x1v1 : Int,∃ x1v2 : Int,∃ x1v3 : Int,∃ x1v4 : Int,∃ x1v5 : Int,∃ x1v6 : Int,∃ x1v7 : Int,∃ x1v8 : Int,∃ x1v9 : Int,∃ x1v10 : Int,∃ x1v11 : Int,∃ x1v12 : Int,∃ x1v13 : Int,∃ x1v14 : Int,v = (.agg #[(.int .i64 x1),(.int .i64 x1v1),(.int .i64 x1v2),(.int .i64 x1v3),(.int .i64 x1v4),(.int .i64 x1v5),(.int .i64 x1v6),(.int .i64 x1v7),(.int .i64 x1v8),(.int .i64 x1v9),(.int .i64 x1v10),(.int .i64 x1v11),(.int .i64 x1v12),(.int .i64 x1v13),(.int .i64 x1v14)]) /\
 (RUNU PG (storeVar 24 a0 (.agg #[(.int .i64 x1),(.int .i64 x1v1),(.int .i64 x1v2),(.int .i64 x1v3),(.int .i64 x1v4),(.int .i64 x1v5),(.int .i64 x1v6),(.int .i64 x1v7),(.int .i64 x1v8),(.int .i64 x1v9),(.int .i64 x1v10),(.int .i64 x1v11),(.int .i64 x1v12),(.int .i64 x1v13),(.int .i64 x1v14)])) w1 fun w2 =>
 RD PG (loadVar 24 a0) w2 fun v2 =>
 ∃ r : Int,∃ r1 : Int,∃ r2 : Int,∃ r3 : Int,∃ r4 : Int,∃ r5 : Int,∃ r6 : Int,∃ r7 : Int,∃ r8 : Int,∃ r9 : Int,∃ r10 : Int,∃ r11 : Int,∃ r12 : Int,∃ r13 : Int,∃ r14 : Int,v2 = (.agg #[(.int .i64 r),(.int .i64 r1),(.int .i64 r2),(.int .i64 r3),(.int .i64 r4),(.int .i64 r5),(.int .i64 r6),(.int .i64 r7),(.int .i64 r8),(.int .i64 r9),(.int .i64 r10),(.int .i64 r11),(.int .i64 r12),(.int .i64 r13),(.int .i64 r14)]) /\
 (Q (.agg #[(.int .i64 r),(.int .i64 r1),(.int .i64 r2),(.int .i64 r3),(.int .i64 r4),(.int .i64 r5),(.int .i64 r6),(.int .i64 r7),(.int .i64 r8),(.int .i64 r9),(.int .i64 r10),(.int .i64 r11),(.int .i64 r12),(.int .i64 r13),(.int .i64 r14)]) w2))
theorem call35  {w : World} {Q : QP} (h_ : N35  w Q) : CALL PG 35 [] w Q:=calls_vq .nil tabOk Tryz.func35 (by kernel_rfl) h_
def N36 (x : Option Addr) (w : World) (Q : QP) : Prop :=
 NILC x fun a4 =>
 RDI PG (loadVar 48 (a4.add 24)) .i64 w fun x6 =>
 LETI x6 fun x2 =>
 Q (.int .i64 x2) w
theorem call36 {x : Option Addr} {w : World} {Q : QP} (h_ : N36 x w Q) : CALL PG 36 [(.pointer x)] w Q:=calls_vq .nil tabOk Tryz.func36 (by kernel_rfl) h_
end Go.Br
/- The handshake: what is seen of an end. -/
set_option linter.unusedVariables false
set_option linter.unusedSimpArgs false
set_option linter.unnecessarySimpa false
namespace Go.Br
open Go
instance biHandsFa : Zro PG 24 15 120 (.agg #[.int .i64 0,.int .i64 0,.int .i64 0,.int .i64 0,.int .i64 0,.int .i64 0,.int .i64 0,.int .i64 0,.int .i64 0,.int .i64 0,.int .i64 0,.int .i64 0,.int .i64 0,.int .i64 0,.int .i64 0]):=⟨tiOf (by kernel_rfl)⟩
instance biHandsFb (x0 : Int) (x1 : Int) (x2 : Int) (x3 : Int) (x4 : Int) (x5 : Int) (x6 : Int) (x7 : Int) (x8 : Int) (x9 : Int) (x10 : Int) (x11 : Int) (x12 : Int) (x13 : Int) (x14 : Int) : Bld PG (Instr.build 24 #[(0,.int .i64 x0),(1,.int .i64 x1),(2,.int .i64 x2),(3,.int .i64 x3),(4,.int .i64 x4),(5,.int .i64 x5),(6,.int .i64 x6),(7,.int .i64 x7),(8,.int .i64 x8),(9,.int .i64 x9),(10,.int .i64 x10),(11,.int .i64 x11),(12,.int .i64 x12),(13,.int .i64 x13),(14,.int .i64 x14)]) (.agg #[.int .i64 x0,.int .i64 x1,.int .i64 x2,.int .i64 x3,.int .i64 x4,.int .i64 x5,.int .i64 x6,.int .i64 x7,.int .i64 x8,.int .i64 x9,.int .i64 x10,.int .i64 x11,.int .i64 x12,.int .i64 x13,.int .i64 x14]):=⟨fun w => by kernel_rfl⟩
attribute [local irreducible] Addr.add RD RDS RUN RUNU NILC LETB CALL CALLX CALLV
def pv (n : Nat) : List Value:=[.pointer (some ⟨n,0,none⟩)]
theorem pv_length (n : Nat) : (pv n).length = 1:=rfl
theorem pv_flat (S : List Nat) : Flat (S.flatMap pv):=by
 intro v hv
 obtain ⟨n,_,h⟩:=List.mem_flatMap.1 hv
 rw [List.mem_singleton.1 h]
 rfl
theorem tifpC : TI PG 99 1 8 (.pointer none):=tiOf (by kernel_rfl)
theorem hufpC : PG.underlying 59 = some (.slice 99):=by kernel_rfl
theorem fpclone_ok {c : Ctx} {w : World} {L : List SA} (h : St c w L) {A : Option Addr} {k : Nat} {S : List Nat} (hr : RdIn L A (S.flatMap pv)) (hl : S.length <= 100000) {Q : Value -> World -> Prop}
  (hk : ∀ O d w',St c w' (own 99 1 O S.length d (S.flatMap pv) :: L) -> Q (.slice O S.length d) w') : CALL PG 34 [.slice A S.length k] w Q:=by
 refine call34 ?_
 unfold N34
 refine ifb (fun hn => ?_) fun hn => ?_
 ·have hA : A = none:=by simpa using hn
  subst hA
  have e:=(hr c w h).none
  have hS : S = []:=by
   have:=congrArg List.length e
   rw [flat_length pv_length,List.length_nil] at this
   exact List.length_eq_zero_iff.1 (by omega)
  subst hS
  exact hk none 0 _ (h.addOwnNil _ _)
 ·refine h.lit (n:=0) 99 1 [] fun q w' h => ?_
  refine h.append hufpC tifpC .head hr.more (m:=S.length) (flat_length pv_length S) (pv_flat S) (by omega) fun O d w' h => ?_
  simp only [Nat.zero_add,List.nil_append] at h ⊢
  exact hk O d _ h
def keysOf (X : Cn) : Ks:=⟨X.keysIDK0,X.keysIDK1,X.keysClientK0,X.keysClientK1,X.keysServerK0,X.keysServerK1,X.keysJoinK0,X.keysJoinK1,X.keysToken⟩
def cfgOf (X : Cn) : Cfg:=⟨X.setPorts,X.setHalf,X.setConns,X.setFlows,X.setBuffer,X.setChunks,X.setAddrs,X.setPaths,X.setMss,X.setSilence,X.setKeep,X.setBurst,X.setRate,X.setScore,X.setPolicy⟩
structure UpC (g : Cfg) (n : Nms) (fA : Option Addr) (fC : Nat) (ro l r : Int) (K : Ks) (X : Cn) : Prop where
 out : X.out = some ⟨n.o,0,none⟩
 inn : X.inn = some ⟨n.i,0,none⟩
 way : X.way = some ⟨n.y,0,none⟩
 st : X.state = 3
 role : X.role = ro
 keys : keysOf X = K
 loc : X.firstLocal = l
 rem : X.firstRemote = r
 fl : X.flows = fA
 flN : X.flowsN = 1
 flC : X.flowsC = fC
 cfg : cfgOf X = g
theorem up_coK {g : Cfg} {d : Dr} {n : Nms} {fA : Option Addr} {fC : Nat} (K : Ks) (k : Int) : UpC g n fA fC 1 1000 80 K (coK (XA0 g d n fA fC) K k):=⟨rfl,rfl,rfl,rfl,rfl,rfl,rfl,rfl,rfl,rfl,rfl,rfl⟩
theorem upA {g : Cfg} {d : Dr} {n : Nms} {fA : Option Addr} {fC : Nat} : UpC g n fA fC 1 1000 80 (sessK d.ka d.kb) (XA1 g d n fA fC):=up_coK _ _
theorem up_ansC {g : Cfg} {kb ka : Int} {n : Nms} {fA : Option Addr} {fC : Nat} (K : Ks) (e : Int) : UpC g n fA fC 2 80 1000 K { ansC g kb ka 0 80 1000 n fA fC none 0 0 K with state:=3,silence:=0,edge:=e }:=⟨rfl,rfl,rfl,rfl,rfl,rfl,rfl,rfl,rfl,rfl,rfl,rfl⟩
theorem upB {g : Cfg} {d : Dr} {n n' : Nms} {fA fA' : Option Addr} {fC fC' : Nat} : UpC g n' fA' fC' 2 80 1000 (sessK d.ka d.kb) (XB3 g d n n' fA fC fA' fC'):=up_ansC _ _
section
variable {c : Ctx} {w : World} {L R : List SA}
theorem crole_ok {x : Nat} {X : Cn} (h : St c w L) (hp : Pick (blk x 67 (cnc X)) L R) {Q : Value -> World -> Prop} (hk : Q (.int .i64 X.role) w) : CALL PG 36 [.pointer (some ⟨x,0,none⟩)] w Q:=by
 refine call36 ?_
 unfold N36
 exact nilc (h.rdI (B:=x) 24 (leti rfl hk) (hp:=hp))
theorem cconfig_ok {x : Nat} {X : Cn} (h : St c w (blk x 67 (cnc X) :: L)) {Q : Value -> World -> Prop} (hk : ∀ w',St c w' (blk x 67 (cnc X) :: L) -> Q (cfgv (cfgOf X)) w') : CALL PG 10 [.pointer (some ⟨x,0,none⟩)] w Q:=by
 refine call10 ?_
 unfold N10
 refine h.allocZ fun q w' h => nilc ?_
 refine h.rdGo (B:=x) 9 15 ?_
 (repeat apply exi)
 apply exr
 refine h.stG (B:=q) (fun w' h => ?_) (hl:=by rfl)
 refine h.rdG (B:=q) ?_
 (repeat apply exi)
 apply exr
 exact hk _ h.drop
theorem cflows_ok {x f : Nat} {X : Cn} {fA : Option Addr} {fC : Nat} (h : St c w (blk x 67 (cnc X) :: own 99 1 fA 1 fC [.pointer (some ⟨f,0,none⟩)] :: L)) (e1 : X.flows = fA) (e2 : X.flowsN = 1) {Q : Value -> World -> Prop}
  (hk : ∀ O d w',St c w' (own 99 1 O 1 d [.pointer (some ⟨f,0,none⟩)] :: blk x 67 (cnc X) :: own 99 1 fA 1 fC [.pointer (some ⟨f,0,none⟩)] :: L) -> Q (.slice O 1 d) w') : CALL PG 11 [.pointer (some ⟨x,0,none⟩)] w Q:=by
 refine call11 ?_
 unfold N11
 refine nilc (h.rdL (B:=x) 33 ?_)
 rw [e1,e2]
 refine fpclone_ok h (S:=[f]) (RdIn.own (.tail .head)) (by simp) fun O d w' h => ?_
 (repeat apply exi)
 apply exr
 exact hk O d w' h
theorem usual22_ok (h : St c w L) {Q : Value -> World -> Prop} (hk : ∀ w',St c w' L -> Q (cfgv ⟨2,2,4,3,64,16,4,3,8,200,20,3,1,8,1⟩) w') : CALL PG 35 [] w Q:=by
 refine call35 ?_
 unfold N35
 refine h.allocZ fun q w' h => ?_
 refine RD.bld ?_
 (repeat apply exi)
 apply exr
 refine h.stG (B:=q) (fun w' h => ?_) (hl:=by rfl)
 refine h.rdG (B:=q) ?_
 (repeat apply exi)
 apply exr
 exact hk _ h.drop
structure UpI (ro l r : Int) (K : Ks) (I : Inf) : Prop where
 st : I.state = 3
 role : I.role = ro
 i0 : I.idK0 = K.idK0
 i1 : I.idK1 = K.idK1
 loc : I.firstLocal = l
 rem : I.firstRemote = r
 fl : I.flows = 1
theorem upinfo_ok {g : Cfg} (hg : CfgOk g) {n : Nms} {X : Cn} {F : Fw} {fA : Option Addr} {fC : Nat} {ro l r : Int} {K : Ks} (u : UpC g n fA fC ro l r K X) {M : List SA} (h : St c w (M ++ stP g n X F [] 0 fA fC 0 L)) {Q : Value -> World -> Prop}
  (hk : ∀ I w',UpI ro l r K I -> St c w' (M ++ blk n.x 67 (cnc X) :: own 99 1 fA 1 fC [.pointer (some ⟨n.f,0,none⟩)] :: L) -> Q (infv I) w') : CALL PG 8 [.pointer (some ⟨n.x,0,none⟩)] w Q:=by
 have hb2 : g.buffer <= 4096:=hg.2.1.1.2
 have hl : (zb g).length = g.buffer.toNat:=List.length_replicate
 have h : St c w (stP g n X F [] 0 fA fC 0 (M ++ L)):=h.ent (ent_swapB (B:=stP g n X F [] 0 fA fC 0 []) M)
 have h:=h.sub (show Sub _ (rng n.r n.bb (zb g) 0 :: _) from (.cons (.tail (.tail (.tail (.tail (.tail (.tail (.tail (.tail (.tail .head))))))))) (.cons .head (.cons (.tail (.tail (.tail (.tail .head)))) (.cons (.tail (.tail (.tail (.tail .head)))) (.cons (.tail (.tail (.tail (.tail (.tail .head))))) (.cons (.tail (.tail (.tail (.tail (.tail .head))))) (.cons (.tail (.tail (.tail (.tail (.tail (.tail .head)))))) ((Sub.same _).more.more.more.more.more.more.more.more.more.more.more)))))))))
 obtain ⟨b1,a1,v1,l1,h⟩:=fromRng h
 have h:=h.sub (show Sub _ (rng n.r2 n.b2 (zb g) 0 :: _) from (.cons (.tail (.tail (.tail (.tail .head)))) (.cons .head (.cons (.tail .head) (.cons (.tail .head) (.cons (.tail .head) (.cons (.tail .head) (.cons (.tail .head) ((Sub.same _).more)))))))))
 obtain ⟨b2,a2,v2,l2,h⟩:=fromRng h
 have n1 : b1.length = g.buffer.toNat:=by rw [<- hl,v1,rot_length]
 have n2 : b2.length = g.buffer.toNat:=by rw [<- hl,v2,rot_length]
 let kb : Kb:=⟨n.o,n.r,n.i,n.r2,n.y,0,false,false,some ⟨n.bb,0,none⟩,b1.length,b1.length,a1,0,some ⟨n.s,0,none⟩,0,0,false,some ⟨n.b2,0,none⟩,b2.length,b2.length,a2,0,g.chunks,none,0,0⟩
 have ok : KbOk kb:=by
  refine ⟨⟨show (0 : Int) <= 0 by decide,show (0 : Int) <= 4611686018427387904 by decide⟩,⟨show (0 : Int) <= 0 by decide,show (0 : Int) <= 1000000 by decide⟩,⟨show (0 : Int) <= 0 by decide,show (0 : Int) <= 4611686018427387904 by decide⟩,⟨show (0 : Int) <= 0 by decide,show (0 : Int) <= 1000000 by decide⟩,?_,?_,?_⟩
  ·show b1.length <= _; omega
  ·show b2.length <= _; omega
  ·show 0 <= _; omega
 have hX : X.at kb = X:=by
  unfold Cn.at
  show { X with out:=some ⟨n.o,0,none⟩,inn:=some ⟨n.i,0,none⟩,way:=some ⟨n.y,0,none⟩ } = X
  rw [<- u.out,<- u.inn,<- u.way]
 have hB : blk n.x 67 (cnc (X.at kb)) = blk n.x 67 (cnc X):=by rw [hX]
 have h:=h.sub (show Sub _ (blk n.x 67 (cnc X) :: blk n.o 92 _ :: blk n.r 157 _ :: blk n.i 95 _ :: blk n.r2 157 _ :: blk n.y 155 _ :: own 99 1 fA 1 fC [.pointer (some ⟨n.f,0,none⟩)] :: (M ++ L)) from (.cons (.tail (.tail (.tail .head))) (.cons (.tail (.tail (.tail (.tail .head)))) (.cons (.tail (.tail .head)) (.cons (.tail (.tail .head)) (.cons .head (.cons (.tail .head) (.cons (.tail .head) ((Sub.same _).more)))))))))
 rw [<- hB] at h
 refine cinfo_ok (K:=kb) h ok fun w' h => ?_
 have h : St c w' (blk n.x 67 (cnc (X.at kb)) :: blk n.o 92 _ :: blk n.r 157 _ :: blk n.i 95 _ :: blk n.r2 157 _ :: blk n.y 155 _ :: own 99 1 fA 1 fC [.pointer (some ⟨n.f,0,none⟩)] :: (M ++ L)):=h
 rw [hB] at h
 have h:=h.sub (show Sub _ ([blk n.x 67 (cnc X),own 99 1 fA 1 fC [.pointer (some ⟨n.f,0,none⟩)]] ++ (M ++ L)) from (.cons .head (.cons (.tail (.tail (.tail (.tail (.tail .head))))) ((Sub.same _).more.more.more.more.more))))
 refine hk _ w' ⟨u.st,u.role,congrArg Ks.idK0 u.keys,congrArg Ks.idK1 u.keys,u.loc,u.rem,?_⟩ (h.ent (ent_swapB _))
 show (X.flowsN : Int) = 1
 rw [u.flN]; rfl
end
end Go.Br
