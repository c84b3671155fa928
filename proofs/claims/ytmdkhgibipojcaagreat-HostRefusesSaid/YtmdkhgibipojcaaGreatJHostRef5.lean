/- HostRef, HostRef2, HostRef3, HostRef4, HostRef5 -/
import Derived.Test.YtmdkhgibipojcaaGreatBrSeat
import Derived.Test.YtmdkhgibipojcaaGreatHostInfo
import Derived.Test.YtmdkhgibipojcaaGreatJArrEq
import Derived.Test.YtmdkhgibipojcaaGreatJArrEq
import Derived.Test.YtmdkhgibipojcaaGreatJOptRead
import Derived.Test.YtmdkhgibipojcaaGreatJSegRound
/- What the code of some functions says, as the core reads it; each reading is checked by the kernel. -/
set_option linter.unusedVariables false
set_option maxRecDepth 100000
namespace Go.Br
open Go Go.Proofs

/-- (*brougham/host.Host).on -/
def N23 (h : Option Addr) (e : Int) (e1 : Int) (e2 : Int) (w : World) (Q : Value → World → Prop) : Prop :=
 RUNA PG (Instr.box 80 (.agg #[(.int .i64 e), (.int .u16 e1), (.int .u16 e2)])) w fun a3 w1 =>
 CALL PG 40 [(.pointer h)] w1 fun v w2 =>
 ∃ (x15 : Option Addr) (x15N x15C : Nat), v = (.slice x15 x15N x15C) ∧
 (∃ I : Nat → Int → World → Prop,
 (∃ m, I m (0 : Int) w2) ∧
 (∀ m1 (x17 : Int) (w3 : World), I m1 x17 w3 → (IFB (decide (x17 < (x15N : Int)))
 (IDX x15 x15N x17 fun a19 =>
 RDI PG (loadVar 3 (Addr.add a19 (Int.toNat x17 * 1))) .i64 w3 fun x20 =>
 LETI x20 fun n =>
 NILC h fun a22 =>
 RD PG (loadVar 63 (Addr.add a22 29)) (w3.drew) fun v1 =>
 ∃ x24 : Value, v1 = x24 ∧
 (RDP PG (Instr.lookup 63 x24 (.int .i64 n) false) (w3.drew) fun x26 =>
 RD PG (loadVar 80 a3) (w3.drew) fun v2 =>
 ∃ x27 : Int, ∃ x27v1 : Int, ∃ x27v2 : Int, v2 = (.agg #[(.int .i64 x27), (.int .u16 x27v1), (.int .u16 x27v2)]) ∧
 (CALL PG 41 [(.pointer x26), (.agg #[(.int .i64 x27), (.int .u16 x27v1), (.int .u16 x27v2)])] (w3.drew) fun v3 w4 =>
 ∃ x28 : Option Addr, v3 = (.pointer x28) ∧
 (IFB (!x28.isNone)
 (NILC h fun a32 =>
 RD PG (loadVar 63 (Addr.add a32 29)) w4 fun v4 =>
 ∃ x34 : Value, v4 = x34 ∧
 (RDP PG (Instr.lookup 63 x34 (.int .i64 n) false) w4 fun x36 =>
 Q (.tuple #[(.pointer x36), (.pointer x28)]) w4))
 (∃ m2, m2 < m1 ∧ I m2 (IntKind.i64.wrap (x17 + (1 : Int))) w4)))))
 (NILC h fun a40 =>
 RDL PG (loadVar 64 (Addr.add a40 28)) w3 fun x42 x42N x42C =>
 ∃ I1 : Nat → Int → World → Prop,
 (∃ m3, I1 m3 (0 : Int) w3) ∧
 (∀ m4 (x44 : Int) (w5 : World), I1 m4 x44 w5 → (IFB (decide (x44 < (x42N : Int)))
 (IDX x42 x42N x44 fun a46 =>
 RDP PG (loadVar 68 (Addr.add a46 (Int.toNat x44 * 1))) w5 fun x47 =>
 NILC x47 fun a49 =>
 RDL PG (loadVar 70 (Addr.add a49 1)) w5 fun x51 x51N x51C =>
 ∃ I2 : Nat → Int → World → Prop,
 (∃ m5, I2 m5 (0 : Int) w5) ∧
 (∀ m6 (x53 : Int) (w6 : World), I2 m6 x53 w6 → (IFB (decide (x53 < (x51N : Int)))
 (IDX x51 x51N x53 fun a55 =>
 RDP PG (loadVar 81 (Addr.add a55 (Int.toNat x53 * 1))) w6 fun x56 =>
 RD PG (loadVar 80 a3) w6 fun v5 =>
 ∃ x58 : Int, ∃ x58v1 : Int, ∃ x58v2 : Int, v5 = (.agg #[(.int .i64 x58), (.int .u16 x58v1), (.int .u16 x58v2)]) ∧
 (CALL PG 41 [(.pointer x56), (.agg #[(.int .i64 x58), (.int .u16 x58v1), (.int .u16 x58v2)])] w6 fun v6 w7 =>
 ∃ x59 : Option Addr, v6 = (.pointer x59) ∧
 (IFB (!x59.isNone)
 (Q (.tuple #[(.pointer x56), (.pointer x59)]) w7)
 (∃ m7, m7 < m6 ∧ I2 m7 (IntKind.i64.wrap (x53 + (1 : Int))) w7))))
 (∃ m8, m8 < m4 ∧ I1 m8 (IntKind.i64.wrap (x44 + (1 : Int))) w6))))
 (Q (.tuple #[(.pointer none), (.pointer none)]) w5)))))))
theorem eq23 : ∀ (h : Option Addr) (e : Int) (e1 : Int) (e2 : Int) (w : World) (Q : Value → World → Prop), vcF PG TB Tryz.f23 (.s .nil (.s (.s .nil (.u (.loop [(17, 3)] .nil))) (.s (.s .nil (.u (.loop [(44, 3)] (.s .nil (.s .nil (.s (.u (.s .nil (.s .nil (.u (.loop [(53, 3)] .nil))))) .nil)))))) .nil))) [(.pointer h), (.agg #[(.int .i64 e), (.int .u16 e1), (.int .u16 e2)])] w Q = N23 h e e1 e2 w Q := by intros; kernel_rfl
theorem call23 {h : Option Addr} {e : Int} {e1 : Int} {e2 : Int} {w : World} {Q : Value → World → Prop} (hN : N23 h e e1 e2 w Q) : CALL PG 23 [(.pointer h), (.agg #[(.int .i64 e), (.int .u16 e1), (.int .u16 e2)])] w Q := calls_vc tabOk Tryz.func23 (by rw [eq23]; exact hN)

end Go.Br

/- Half-open connections of a host that listens at one port: what on, begin, Sizes do. -/
set_option linter.unusedVariables false
set_option linter.unusedSimpArgs false
set_option linter.unnecessarySimpa false
namespace Go.Br
open Go
attribute [local irreducible] Addr.add RD RDS RUN RUNU NILC LETB CALL CALLX CALLV

theorem tiConnp : TI PG 81 1 8 (.pointer none) := tiOf (by kernel_rfl)
theorem huConnps : PG.underlying 70 = some (.slice 81) := by kernel_rfl
/-- A half-open connection. -/
structure Hc where
  n : Nms
  fA : Option Addr
  fC : Nat
  key : Int
  cl : Int
  rem : Int
  first : Int
  seq : Int
abbrev hcX (g : Cfg) (y : Hc) : Cn := ansC g y.key y.cl 0 80 y.rem y.n y.fA y.fC none 0 0 (sessK y.cl y.key)
abbrev hcL (g : Cfg) (y : Hc) (L : List SA) : List SA := blk y.n.x 126 (cnc (hcX g y)) :: ansP g 0 80 y.rem y.first y.seq y.n y.fA y.fC L
def hcQ (g : Cfg) (y : Hc) : List SA := hcL g y []
def pv1 (x : Option Addr) : List Value := [.pointer x]
def hcA (Y : List Hc) : List (Option Addr) := Y.map fun y => some ⟨y.n.x, 0, none⟩
theorem pickH {A : SA} {L : List SA} : ∀ {M : List SA}, Pick A (M ++ A :: L) (M ++ L)
  | [] => .head
  | B :: M => .tail pickH
theorem ent_swapH : ∀ (A : List SA) {B C : List SA}, Ent (all (A ++ (B ++ C))) (all (B ++ (A ++ C)))
  | [], B, C => Ent.refl _
  | X :: A, B, C => ((Ent.refl X).sep (ent_swapH A)).trans (Pick.back pickH)
theorem hc_ent {g : Cfg} {Y : List Hc} {y : Hc} (hy : y ∈ Y) (X L : List SA) : ∃ M, Ent (all (X ++ (Y.flatMap (hcQ g) ++ L))) (all (hcL g y M)) ∧ Ent (all (hcL g y M)) (all (X ++ (Y.flatMap (hcQ g) ++ L))) := by
  obtain ⟨Y1, Y2, rfl⟩ := List.append_of_mem hy
  refine ⟨(X ++ Y1.flatMap (hcQ g)) ++ (Y2.flatMap (hcQ g) ++ L), ?_, ?_⟩
  · have e := ent_swapH (X ++ Y1.flatMap (hcQ g)) (B := hcQ g y) (C := Y2.flatMap (hcQ g) ++ L)
    have e1 : X ++ ((Y1 ++ y :: Y2).flatMap (hcQ g) ++ L) = (X ++ Y1.flatMap (hcQ g)) ++ (hcQ g y ++ (Y2.flatMap (hcQ g) ++ L)) := by simp
    rw [e1]
    exact e
  · have e := ent_swapH (hcQ g y) (B := X ++ Y1.flatMap (hcQ g)) (C := Y2.flatMap (hcQ g) ++ L)
    have e1 : X ++ ((Y1 ++ y :: Y2).flatMap (hcQ g) ++ L) = (X ++ Y1.flatMap (hcQ g)) ++ (hcQ g y ++ (Y2.flatMap (hcQ g) ++ L)) := by simp
    rw [e1]
    exact e
/-- A host that listens at a port, and its counts. -/
def hoR (g : Cfg) (k0 k1 sN unk ref beg : Int) (PA : Option Addr) (PN PC r : Nat) : Hst := { host0 g k0 k1 r with srcN := sN, kUnknown := unk, kRefused := ref, kBegun := beg, ports := PA, portsN := PN, portsC := PC }
abbrev prtH (A : Option Addr) (n d : Nat) : List Value := [.int .i64 80, .slice A n d, .slice none 0 0]
/-- The pieces of a host that listens at port 80, without connections, with half-open ones. -/
abbrev hsP (p r q : Nat) (H : Hst) (PA : Option Addr) (PC : Nat) (A : Option Addr) (d : Nat) (g : Cfg) (Y : List Hc) (L : List SA) : List SA :=
  blk p 66 (hst { H with conns := r, ports := PA, portsN := 1, portsC := PC }) :: mp r [] :: own 68 1 PA 1 PC (([some ⟨q, 0, none⟩] : List (Option Addr)).flatMap pv1) :: blk q 73 (prtH A Y.length d) :: own 81 1 A Y.length d ((hcA Y).flatMap pv1) :: (Y.flatMap (hcQ g) ++ L)
section
variable {c : Ctx} {w : World} {L R : List SA}
theorem St.takeH {g : Cfg} {Y : List Hc} {y : Hc} {X : List SA} (hy : y ∈ Y) (h : St c w (X ++ (Y.flatMap (hcQ g) ++ L))) : ∃ M, St c w (hcL g y M) ∧ ∀ w', St c w' (hcL g y M) → St c w' (X ++ (Y.flatMap (hcQ g) ++ L)) := by
  obtain ⟨M, h1, h2⟩ := hc_ent (g := g) hy X L
  exact ⟨M, h.ent h1, fun w' h => h.ent h2⟩
theorem St.takeH1 {g : Cfg} {Y : List Hc} {y : Hc} {Z : SA} {X : List SA} (hy : y ∈ Y) (h : St c w (Z :: (X ++ (Y.flatMap (hcQ g) ++ L)))) : ∃ M, St c w (Z :: hcL g y M) ∧ ∀ Z' w', St c w' (Z' :: hcL g y M) → St c w' (Z' :: (X ++ (Y.flatMap (hcQ g) ++ L))) := by
  obtain ⟨M, h1, h2⟩ := hc_ent (g := g) hy X L
  exact ⟨M, h.ent ((Ent.refl Z).sep h1), fun Z' w' h => h.ent ((Ent.refl Z').sep h2)⟩
/-- Nobody's path ends there. -/
theorem onH_ok {p r q PC d : Nat} {H : Hst} {PA A : Option Addr} {g : Cfg} {Y : List Hc} {e0 e1 e2 : Int} (h : St c w (hsP p r q H PA PC A d g Y L)) (hne : ∀ y ∈ Y, y.rem ≠ e2) (hY : Y.length ≤ 1000) {Q : Value → World → Prop}
    (hk : ∀ w', St c w' (hsP p r q H PA PC A d g Y L) → Q (.tuple #[.pointer none, .pointer none]) w') : CALL PG 23 [.pointer (some ⟨p, 0, none⟩), .agg #[.int .i64 e0, .int .u16 e1, .int .u16 e2]] w Q := by
  refine call23 ?_
  unfold N23
  refine h.box fun qe w' h => ?_
  refine handles_ok (H := { H with ports := PA, portsN := 1, portsC := PC }) (E := []) (h.sub (show Sub _ (blk p 66 (hst { H with conns := r, ports := PA, portsN := 1, portsC := PC }) :: mp r [] :: blk qe 80 [.int .i64 e0, .int .u16 e1, .int .u16 e2] :: own 68 1 PA 1 PC (([some ⟨q, 0, none⟩] : List (Option Addr)).flatMap pv1) :: blk q 73 (prtH A Y.length d) :: own 81 1 A Y.length d ((hcA Y).flatMap pv1) :: (Y.flatMap (hcQ g) ++ L)) from (.cons (.tail .head) (.cons (.tail .head) (.cons .head ((Sub.same _))))))) (by decide) fun O dd C w' hs hC h => ?_
  obtain rfl : C = [] := by simpa using hC
  (repeat (first | apply Exists.intro (α := Int) | apply Exists.intro (α := Bool) | apply Exists.intro (α := ByteArray) | (apply Exists.intro (α := Option Addr); apply Exists.intro (α := Nat); apply Exists.intro (α := Nat)) | apply Exists.intro (α := Option Addr) | apply Exists.intro (α := Value)))
  refine ⟨rfl, ?_⟩
  have h : St c w' (blk qe 80 [.int .i64 e0, .int .u16 e1, .int .u16 e2] :: hsP p r q H PA PC A d g Y L) := h.sub (.cons (.tail (.tail (.tail .head))) (.cons (.tail .head) (.cons (.tail .head) ((Sub.same _).more))))
  refine ⟨fun m x w => m = 0 ∧ x = 0 ∧ St c w (blk qe 80 [.int .i64 e0, .int .u16 e1, .int .u16 e2] :: hsP p r q H PA PC A d g Y L), ⟨0, rfl, rfl, h⟩, ?_⟩
  clear h
  rintro m x w' ⟨rfl, rfl, h⟩
  refine ifdf (by show ¬ ((0 : Int) < 0); decide) (nilc ?_)
  refine h.rdL (B := p) 28 ?_
  refine ⟨fun m x w => ((m = 1 ∧ x = 0) ∨ (m = 0 ∧ x = 1)) ∧ St c w (blk qe 80 [.int .i64 e0, .int .u16 e1, .int .u16 e2] :: hsP p r q H PA PC A d g Y L), ⟨1, .inl ⟨rfl, rfl⟩, h⟩, ?_⟩
  clear h
  rintro m x w' ⟨⟨rfl, rfl⟩ | ⟨rfl, rfl⟩, h⟩
  rotate_left
  · exact ifdf (by show ¬ ((1 : Int) < 1); decide) (hk _ h.drop)
  refine ifdt (by show (0 : Int) < 1; decide) ?_
  have hr : RdIn (blk qe 80 [.int .i64 e0, .int .u16 e1, .int .u16 e2] :: hsP p r q H PA PC A d g Y L) PA (([some ⟨q, 0, none⟩] : List (Option Addr)).flatMap pv1) := RdIn.own (.tail (.tail (.tail .head)))
  refine h.ix (z := 0) (i := 0) hr rfl (fun b hb => ?_) (by show 0 < 1; decide)
  subst hb
  refine h.rdWP (g := pv1) (Y := [some ⟨q, 0, none⟩]) (i := 0) hr rfl ?_
  refine nilc (h.rdL (B := q) 1 ?_)
  refine ⟨fun m x w => ∃ j : Nat, x = j ∧ m = Y.length - j ∧ j ≤ Y.length ∧ St c w (blk qe 80 [.int .i64 e0, .int .u16 e1, .int .u16 e2] :: hsP p r q H (some b) PC A d g Y L), ⟨_, 0, rfl, rfl, Nat.zero_le _, h⟩, ?_⟩
  clear h
  rintro m x w' ⟨j, rfl, rfl, hj, h⟩
  by_cases hlt : j < Y.length
  rotate_left
  · exact ifdf (by omega) ⟨0, by decide, .inr ⟨rfl, by rw [wrap_i64 (by decide) (by decide)]; rfl⟩, h⟩
  refine ifdt (by omega) ?_
  obtain ⟨y, hy⟩ : ∃ y, Y[j]? = some y := ⟨_, List.getElem?_eq_getElem hlt⟩
  have hr2 : RdIn (blk qe 80 [.int .i64 e0, .int .u16 e1, .int .u16 e2] :: hsP p r q H (some b) PC A d g Y L) A ((hcA Y).flatMap pv1) := RdIn.own (.tail (.tail (.tail (.tail (.tail .head)))))
  have hya : (hcA Y)[j]? = some (some ⟨y.n.x, 0, none⟩) := by simp [hcA, hy]
  refine h.ix (z := 0) (i := j) hr2 hya (fun b2 hb => ?_) (by omega)
  subst hb
  refine h.rdWP (g := pv1) (Y := hcA Y) (i := j) hr2 hya ?_
  refine h.rdG (B := qe) ?_
  (repeat (first | apply Exists.intro (α := Int) | apply Exists.intro (α := Bool) | apply Exists.intro (α := ByteArray) | (apply Exists.intro (α := Option Addr); apply Exists.intro (α := Nat); apply Exists.intro (α := Nat)) | apply Exists.intro (α := Option Addr) | apply Exists.intro (α := Value)))
  refine ⟨rfl, ?_⟩
  obtain ⟨M, h, back⟩ := St.takeH (X := [_, _, _, _, _, _]) (List.mem_of_getElem? hy) h
  refine on1_ok (X := hcX g y) (F := ansF 0 80 y.rem y.first y.seq y.n) (A := y.fA) (d := y.fC) (f := y.n.f) (h.sub (show Sub _ (blk y.n.x 126 (cnc { hcX g y with flows := y.fA, flowsN := 1, flowsC := y.fC }) :: own 82 1 y.fA 1 y.fC [.pointer (some ⟨y.n.f, 0, none⟩)] :: blk y.n.f 140 (fwc (ansF 0 80 y.rem y.first y.seq y.n)) :: _) from (.cons .head (.cons (.tail .head) (.cons .head ((Sub.same _))))))) fun w' h => ?_
  have h := back _ (h.sub (.cons .head (.cons (.tail .head) (.cons .head ((Sub.same _))))))
  (repeat (first | apply Exists.intro (α := Int) | apply Exists.intro (α := Bool) | apply Exists.intro (α := ByteArray) | (apply Exists.intro (α := Option Addr); apply Exists.intro (α := Nat); apply Exists.intro (α := Nat)) | apply Exists.intro (α := Option Addr) | apply Exists.intro (α := Value)))
  refine ⟨rfl, ?_⟩
  have hno : ¬ ((ansF 0 80 y.rem y.first y.seq y.n).path = e0 ∧ (ansF 0 80 y.rem y.first y.seq y.n).loc = e1 ∧ (ansF 0 80 y.rem y.first y.seq y.n).rem = e2) := fun ⟨_, _, e⟩ => hne y (List.mem_of_getElem? hy) e
  rw [if_neg hno]
  refine iff_ rfl ?_
  exact ⟨_, by omega, j + 1, by rw [wrap_i64 (by omega) (by omega)]; omega, rfl, by omega, h⟩
/-- A host without connections and ports. -/
theorem on0_ok {p r : Nat} {H : Hst} {e0 e1 e2 : Int} (h : St c w (blk p 66 (hst { H with conns := r, ports := none, portsN := 0, portsC := 0 }) :: mp r [] :: L)) {Q : Value → World → Prop}
    (hk : ∀ w', St c w' (blk p 66 (hst { H with conns := r, ports := none, portsN := 0, portsC := 0 }) :: mp r [] :: L) → Q (.tuple #[.pointer none, .pointer none]) w') : CALL PG 23 [.pointer (some ⟨p, 0, none⟩), .agg #[.int .i64 e0, .int .u16 e1, .int .u16 e2]] w Q := by
  refine call23 ?_
  unfold N23
  refine h.box fun qe w' h => ?_
  refine handles_ok (H := { H with ports := none, portsN := 0, portsC := 0 }) (E := []) (h.sub (show Sub _ (blk p 66 (hst { H with conns := r, ports := none, portsN := 0, portsC := 0 }) :: mp r [] :: blk qe 80 [.int .i64 e0, .int .u16 e1, .int .u16 e2] :: L) from (.cons (.tail .head) (.cons (.tail .head) (.cons .head ((Sub.same _))))))) (by decide) fun O dd C w' hs hC h => ?_
  obtain rfl : C = [] := by simpa using hC
  (repeat (first | apply Exists.intro (α := Int) | apply Exists.intro (α := Bool) | apply Exists.intro (α := ByteArray) | (apply Exists.intro (α := Option Addr); apply Exists.intro (α := Nat); apply Exists.intro (α := Nat)) | apply Exists.intro (α := Option Addr) | apply Exists.intro (α := Value)))
  refine ⟨rfl, ?_⟩
  have h : St c w' (blk p 66 (hst { H with conns := r, ports := none, portsN := 0, portsC := 0 }) :: mp r [] :: L) := h.sub (.cons (.tail .head) (.cons (.tail .head) ((Sub.same _).more.more)))
  refine ⟨fun m x w => m = 0 ∧ x = 0 ∧ St c w (blk p 66 (hst { H with conns := r, ports := none, portsN := 0, portsC := 0 }) :: mp r [] :: L), ⟨0, rfl, rfl, h⟩, ?_⟩
  clear h
  rintro m x w' ⟨rfl, rfl, h⟩
  refine ifdf (by show ¬ ((0 : Int) < 0); decide) (nilc ?_)
  refine h.rdL (B := p) 28 ?_
  refine ⟨fun m x w => m = 0 ∧ x = 0 ∧ St c w (blk p 66 (hst { H with conns := r, ports := none, portsN := 0, portsC := 0 }) :: mp r [] :: L), ⟨0, rfl, rfl, h⟩, ?_⟩
  clear h
  rintro m x w' ⟨rfl, rfl, h⟩
  exact ifdf (by show ¬ ((0 : Int) < 0); decide) (hk _ h)
/-- Who listens: nobody; the one port. -/
theorem lisN_ok {p : Nat} {H : Hst} {a : Int} (h : St c w (blk p 66 (hst { H with ports := none, portsN := 0, portsC := 0 }) :: L)) {Q : Value → World → Prop}
    (hk : ∀ w', St c w' (blk p 66 (hst { H with ports := none, portsN := 0, portsC := 0 }) :: L) → Q (.pointer none) w') : CALL PG 18 [.pointer (some ⟨p, 0, none⟩), .int .i64 a] w Q := by
  refine call18 ?_
  unfold N18
  refine nilc (h.rdL 28 ?_)
  refine ⟨fun m x w => x = 0 ∧ St c w (blk p 66 (hst { H with ports := none, portsN := 0, portsC := 0 }) :: L), ⟨0, rfl, h⟩, ?_⟩
  clear h
  rintro m _ w' ⟨rfl, h⟩
  exact ifdf (by show ¬ ((0 : Int) < 0); decide) (hk _ h)
theorem lisH_ok {p q PC n d : Nat} {H : Hst} {PA A : Option Addr} (h : St c w (blk p 66 (hst { H with ports := PA, portsN := 1, portsC := PC }) :: own 68 1 PA 1 PC (([some ⟨q, 0, none⟩] : List (Option Addr)).flatMap pv1) :: blk q 73 (prtH A n d) :: L)) {Q : Value → World → Prop}
    (hk : ∀ w', St c w' (blk p 66 (hst { H with ports := PA, portsN := 1, portsC := PC }) :: own 68 1 PA 1 PC (([some ⟨q, 0, none⟩] : List (Option Addr)).flatMap pv1) :: blk q 73 (prtH A n d) :: L) → Q (.pointer (some ⟨q, 0, none⟩)) w') : CALL PG 18 [.pointer (some ⟨p, 0, none⟩), .int .i64 80] w Q := by
  refine call18 ?_
  unfold N18
  refine nilc (h.rdL 28 ?_)
  refine ⟨fun m x w => x = 0 ∧ St c w (blk p 66 (hst { H with ports := PA, portsN := 1, portsC := PC }) :: own 68 1 PA 1 PC (([some ⟨q, 0, none⟩] : List (Option Addr)).flatMap pv1) :: blk q 73 (prtH A n d) :: L), ⟨0, rfl, h⟩, ?_⟩
  clear h
  rintro m _ w' ⟨rfl, h⟩
  refine ifdt (by show (0 : Int) < 1; decide) ?_
  have hr : RdIn (blk p 66 (hst { H with ports := PA, portsN := 1, portsC := PC }) :: own 68 1 PA 1 PC (([some ⟨q, 0, none⟩] : List (Option Addr)).flatMap pv1) :: blk q 73 (prtH A n d) :: L) PA (([some ⟨q, 0, none⟩] : List (Option Addr)).flatMap pv1) := RdIn.own (.tail .head)
  refine h.ix (z := 0) (i := 0) hr rfl (fun b hb => ?_) (by show 0 < 1; decide)
  subst hb
  refine h.rdWP (g := pv1) (Y := [some ⟨q, 0, none⟩]) (i := 0) hr rfl ?_
  refine nilc (h.rdI (B := q) 0 ?_)
  exact ift rfl (hk _ h)
end
end Go.Br

/- What the code of some functions says, as the core reads it; each reading is checked by the kernel. -/
set_option linter.unusedVariables false
set_option maxRecDepth 100000
namespace Go.Br
open Go Go.Proofs

/-- (*brougham/host.Host).Sizes -/
def N13 (h : Option Addr) (w : World) (Q : Value → World → Prop) : Prop :=
 RUNA PG (Instr.alloc 55 true (.tuple #[])) w fun a2 w1 =>
 ∃ S : World → Prop, S (w1.drew) ∧
 (NILC h fun a12 =>
 RDSL PG (loadVar 64 (Addr.add a12 28)) S fun x14 x14N x14C =>
 NILC h fun a17 =>
 RDS PG (loadVar 63 (Addr.add a17 29)) S fun v =>
 ∃ x19 : Value, v = x19 ∧
 (RDSI PG (Builtin.len_ #[63] 3 #[x19]) .i64 S fun x20 =>
 RDS PG (Instr.build 55 #[(0, (.int .i64 (x14N : Int))), (2, (.int .i64 x20))]) S fun v1 =>
 ∃ x21 : Int, ∃ x21v1 : Int, ∃ x21v2 : Int, ∃ x21v3 : Int, ∃ x21v4 : Int, ∃ x21v5 : Int, v1 = (.agg #[(.int .i64 x21), (.int .i64 x21v1), (.int .i64 x21v2), (.int .i64 x21v3), (.int .i64 x21v4), (.int .i64 x21v5)]) ∧
 (RUNA PG (Instr.alloc 55 true (.tuple #[])) (w1.drew) fun a3 w2 =>
 ∃ S1 : World → Prop, (∀ x, S1 x → S x) ∧ S1 w2 ∧
 (RUNU PG (storeVar 55 a3 (.agg #[(.int .i64 x21), (.int .i64 x21v1), (.int .i64 x21v2), (.int .i64 x21v3), (.int .i64 x21v4), (.int .i64 x21v5)])) w2 fun w3 =>
 NILC h fun a24 =>
 RD PG (loadVar 63 (Addr.add a24 29)) w3 fun v2 =>
 ∃ x26 : Value, v2 = x26 ∧
 (RUNA PG (Instr.range 63 x26) w3 fun a27 w4 =>
 ∃ I : Nat → World → Prop,
 (∃ m, I m w4) ∧
 (∀ m1  (w5 : World), I m1 w5 → (RUN PG (Instr.next (.pointer (some a27)) false 0) w5 fun v3 w6 =>
 ∃ more : Bool, ∃ xs : List Value, v3 = (.tuple ⟨(.bool more) :: xs⟩) ∧
 (IFB more
 (RD PG (Instr.entry (.pointer (some a27))) w6 fun v4 =>
 ∃ k x : Value, v4 = (.tuple #[k, x]) ∧
 (∃ val : Option Addr, x = (.pointer val) ∧
 (CALLV PG (.func (.func 32) #[] #[(.pointer (some a3))]) [(.pointer val)] w6 fun v5 w7 =>
 v5 = (.tuple #[]) ∧
 (∃ m2, m2 < m1 ∧ I m2 w7))))
 (NILC h fun a36 =>
 RDL PG (loadVar 64 (Addr.add a36 28)) w6 fun x38 x38N x38C =>
 ∃ I1 : Nat → Int → World → Prop,
 (∃ m3, I1 m3 (0 : Int) w6) ∧
 (∀ m4 (x40 : Int) (w8 : World), I1 m4 x40 w8 → (IFB (decide (x40 < (x38N : Int)))
 (IDX x38 x38N x40 fun a42 =>
 RDP PG (loadVar 68 (Addr.add a42 (Int.toNat x40 * 1))) w8 fun x43 =>
 RDI PG (loadVar 3 (Addr.add a3 1)) .i64 (w8.drew) fun x45 =>
 NILC x43 fun a47 =>
 RDL PG (loadVar 70 (Addr.add a47 1)) (w8.drew) fun x49 x49N x49C =>
 RUNU PG (storeVar 3 (Addr.add a3 1) (.int .i64 (IntKind.i64.wrap (x45 + (x49N : Int))))) (w8.drew) fun w9 =>
 NILC x43 fun a54 =>
 RDL PG (loadVar 70 (Addr.add a54 1)) w9 fun x56 x56N x56C =>
 ∃ I2 : Nat → Int → World → Prop,
 (∃ m5, I2 m5 (0 : Int) w9) ∧
 (∀ m6 (x58 : Int) (w10 : World), I2 m6 x58 w10 → (IFB (decide (x58 < (x56N : Int)))
 (IDX x56 x56N x58 fun a60 =>
 RDP PG (loadVar 81 (Addr.add a60 (Int.toNat x58 * 1))) w10 fun x61 =>
 CALLV PG (.func (.func 32) #[] #[(.pointer (some a3))]) [(.pointer x61)] w10 fun v6 w11 =>
 v6 = (.tuple #[]) ∧
 (∃ m7, m7 < m6 ∧ I2 m7 (IntKind.i64.wrap (x58 + (1 : Int))) w11))
 (∃ m8, m8 < m4 ∧ I1 m8 (IntKind.i64.wrap (x40 + (1 : Int))) w10))))
 (RD PG (loadVar 55 a3) w8 fun v7 =>
 ∃ x67 : Int, ∃ x67v1 : Int, ∃ x67v2 : Int, ∃ x67v3 : Int, ∃ x67v4 : Int, ∃ x67v5 : Int, v7 = (.agg #[(.int .i64 x67), (.int .i64 x67v1), (.int .i64 x67v2), (.int .i64 x67v3), (.int .i64 x67v4), (.int .i64 x67v5)]) ∧
 (RUNU PG (storeVar 55 a2 (.agg #[(.int .i64 x67), (.int .i64 x67v1), (.int .i64 x67v2), (.int .i64 x67v3), (.int .i64 x67v4), (.int .i64 x67v5)])) w8 fun w12 =>
 RD PG (loadVar 55 a2) w12 fun v9 =>
 ∃ r : Int, ∃ r1 : Int, ∃ r2 : Int, ∃ r3 : Int, ∃ r4 : Int, ∃ r5 : Int, v9 = (.agg #[(.int .i64 r), (.int .i64 r1), (.int .i64 r2), (.int .i64 r3), (.int .i64 r4), (.int .i64 r5)]) ∧
 (Q (.agg #[(.int .i64 r), (.int .i64 r1), (.int .i64 r2), (.int .i64 r3), (.int .i64 r4), (.int .i64 r5)]) w12))))))))))))))
theorem eq13 : ∀ (h : Option Addr) (w : World) (Q : Value → World → Prop), vcF PG TB Tryz.f13 (.s .nil (.s .nil (.s .nil (.s (.s .nil (.u (.loop [] .nil))) (.s (.s .nil (.u (.loop [(40, 3)] (.s .nil (.s .nil (.s (.u (.s .nil (.s .nil (.s .nil (.u (.loop [(58, 3)] .nil)))))) .nil)))))) .nil))))) [(.pointer h)] w Q = N13 h w Q := by intros; kernel_rfl
theorem call13 {h : Option Addr} {w : World} {Q : Value → World → Prop} (hN : N13 h w Q) : CALL PG 13 [(.pointer h)] w Q := calls_vc tabOk Tryz.func13 (by rw [eq13]; exact hN)

end Go.Br

/- How much a host with half-open connections keeps. -/
set_option linter.unusedVariables false
set_option linter.unusedSimpArgs false
set_option linter.unnecessarySimpa false
namespace Go.Br
open Go
instance biHostRef2a (x0 : Int) (x1 : Int) : Bld PG (Instr.build 55 #[(0, .int .i64 x0), (2, .int .i64 x1)]) (.agg #[.int .i64 x0, .int .i64 0, .int .i64 x1, .int .i64 0, .int .i64 0, .int .i64 0]) := ⟨fun w => by kernel_rfl⟩
instance biHostRef2b : Zro PG 55 6 48 (.agg #[.int .i64 0, .int .i64 0, .int .i64 0, .int .i64 0, .int .i64 0, .int .i64 0]) := ⟨tiOf (by kernel_rfl)⟩
attribute [local irreducible] Addr.add RD RDS RUN RUNU NILC LETB CALL CALLX CALLV

def kbH (g : Cfg) (n : Nms) : Kb := ⟨n.o, n.r, n.i, n.r2, n.y, 0, false, false, some ⟨n.bb, 0, none⟩, g.buffer.toNat, g.buffer.toNat, 0, 0, some ⟨n.s, 0, none⟩, 0, 0, false, some ⟨n.b2, 0, none⟩, g.buffer.toNat, g.buffer.toNat, 0, 0, g.chunks, none, 0, 0⟩
theorem kbH_ok {g : Cfg} (hg : CfgOk g) {n : Nms} : KbOk (kbH g n) := by
  have hb : g.buffer ≤ 4096 := hg.2.1.1.2
  refine ⟨⟨show (0 : Int) ≤ 0 by decide, show (0 : Int) ≤ 4611686018427387904 by decide⟩, ⟨show (0 : Int) ≤ 0 by decide, show (0 : Int) ≤ 1000000 by decide⟩, ⟨show (0 : Int) ≤ 0 by decide, show (0 : Int) ≤ 4611686018427387904 by decide⟩, ⟨show (0 : Int) ≤ 0 by decide, show (0 : Int) ≤ 1000000 by decide⟩, ?_, ?_, ?_⟩
  · show g.buffer.toNat ≤ _; omega
  · show g.buffer.toNat ≤ _; omega
  · show 0 ≤ _; omega
section
variable {c : Ctx} {w : World} {L R : List SA}
theorem St.mlenSH {P : Program} {t kt e ty : TypeId} {r : Nat} {E : List (Int × Value)} {K : Int → Prop} (hp : Pick (mp r E) L R) (hk : K (E.length : Int)) (ht : P.underlying t = some (.map kt e)) : RDSI P (Builtin.len_ #[t] ty #[.map (some r)]) .i64 (fun w => St c w L) K := by
  unfold RDSI
  refine RDS.of (v := .int .i64 (E.length : Int)) (fun w h => ?_) ⟨_, rfl, hk⟩
  obtain ⟨es, clock, h1, h2, h3⟩ := (h.mapO hp).1
  have he : es.size = E.length := by
    have := congrArg List.length h2
    simpa using this
  rw [← he]
  simp [Builtin.len_, run_und ht, run_getMap h1]
  rfl
theorem sizesH_ok {p r q PC d : Nat} {H : Hst} {PA A : Option Addr} {g : Cfg} {Y : List Hc} (h : St c w (hsP p r q H PA PC A d g Y L)) (hg : CfgOk g) (hY : Y.length ≤ 1000) {Q : Value → World → Prop}
    (hk : ∀ a b e f u w', St c w' (hsP p r q H PA PC A d g Y L) → Q (.agg (szc a Y.length b e f u).toArray) w') : CALL PG 13 [.pointer (some ⟨p, 0, none⟩)] w Q := by
  have hbuf : g.buffer ≤ 4096 := hg.2.1.1.2
  refine call13 ?_
  unfold N13
  refine h.allocZ fun z w' h => ?_
  have h := h.drew
  refine ⟨fun w => St c w [blk p 66 (hst { H with conns := r, ports := PA, portsN := 1, portsC := PC }), mp r []], h.sub (.cons (.tail .head) (.cons (.tail .head) (.nil))), nilc ?_⟩
  refine St.rdsL (B := p) 28 (nilc ?_)
  refine RDS.of (v := .map (some r)) (fun w h => ld 29 (h.blk .head) rfl (by kernel_rfl)) ⟨_, rfl, ?_⟩
  refine St.mlenSH (.tail .head) ?_ huConns
  refine RDS.bld ?_
  (repeat (first | apply Exists.intro (α := Int) | apply Exists.intro (α := Bool) | apply Exists.intro (α := ByteArray) | (apply Exists.intro (α := Option Addr); apply Exists.intro (α := Nat); apply Exists.intro (α := Nat)) | apply Exists.intro (α := Option Addr) | apply Exists.intro (α := Value)))
  refine ⟨rfl, ?_⟩
  refine h.allocZ fun z2 w' h => ?_
  refine ⟨_, fun _ h => h, h.sub (.cons (.tail (.tail .head)) (.cons (.tail (.tail .head)) (.nil))), ?_⟩
  refine h.stG (B := z2) fun w' h => nilc ?_
  have h : St c w' (blk z2 55 (szc 1 0 0 0 0 0) :: blk z 55 (szc 0 0 0 0 0 0) :: hsP p r q H PA PC A d g Y L) := h
  refine h.rdMp (B := p) 29 ⟨_, rfl, ?_⟩
  refine h.mrange (.tail (.tail (.tail .head))) (fun it w' h => ?_) huConns
  refine ⟨fun m w => ∃ cur, St c w (mpr r it [] [] cur :: blk z2 55 (szc 1 0 0 0 0 0) :: blk z 55 (szc 0 0 0 0 0 0) :: blk p 66 (hst { H with conns := r, ports := PA, portsN := 1, portsC := PC }) :: own 68 1 PA 1 PC (([some ⟨q, 0, none⟩] : List (Option Addr)).flatMap pv1) :: blk q 73 (prtH A Y.length d) :: own 81 1 A Y.length d ((hcA Y).flatMap pv1) :: (Y.flatMap (hcQ g) ++ L)), ⟨0, none, h⟩, ?_⟩
  clear h
  rintro m w' ⟨cur, h⟩
  refine h.mnext .head (fun w' hV0 h => ⟨false, [], rfl, iff_ rfl (nilc ?_)⟩) fun z V' w' hp h => by simp at hp
  have h := h.mend
  have h : St c w' (blk z2 55 (szc 1 0 0 0 0 0) :: blk z 55 (szc 0 0 0 0 0 0) :: hsP p r q H PA PC A d g Y L) := h.sub (.cons (.tail .head) (.cons (.tail .head) (.cons (.tail .head) (.cons .head ((Sub.same _))))))
  refine h.rdL (B := p) 28 ?_
  refine ⟨fun m x w => ((m = 1 ∧ x = 0 ∧ St c w (blk z2 55 (szc 1 0 0 0 0 0) :: blk z 55 (szc 0 0 0 0 0 0) :: hsP p r q H PA PC A d g Y L)) ∨ (m = 0 ∧ x = 1 ∧ ∃ e f u, St c w (blk z2 55 (szc 1 Y.length 0 e f u) :: blk z 55 (szc 0 0 0 0 0 0) :: hsP p r q H PA PC A d g Y L))), ⟨1, .inl ⟨rfl, rfl, h⟩⟩, ?_⟩
  clear h
  rintro m x w' (⟨rfl, rfl, h⟩ | ⟨rfl, rfl, e, f, u, h⟩)
  rotate_left
  · refine ifdf (by show ¬ ((1 : Int) < 1); decide) ?_
    refine h.rdG (B := z2) ?_
    (repeat (first | apply Exists.intro (α := Int) | apply Exists.intro (α := Bool) | apply Exists.intro (α := ByteArray) | (apply Exists.intro (α := Option Addr); apply Exists.intro (α := Nat); apply Exists.intro (α := Nat)) | apply Exists.intro (α := Option Addr) | apply Exists.intro (α := Value)))
    refine ⟨rfl, ?_⟩
    refine h.stG (B := z) fun w' h => ?_
    refine h.rdG (B := z) ?_
    (repeat (first | apply Exists.intro (α := Int) | apply Exists.intro (α := Bool) | apply Exists.intro (α := ByteArray) | (apply Exists.intro (α := Option Addr); apply Exists.intro (α := Nat); apply Exists.intro (α := Nat)) | apply Exists.intro (α := Option Addr) | apply Exists.intro (α := Value)))
    refine ⟨rfl, ?_⟩
    exact hk _ _ _ _ _ _ h.drop.drop
  refine ifdt (by show (0 : Int) < 1; decide) ?_
  have hr : RdIn (blk z2 55 (szc 1 0 0 0 0 0) :: blk z 55 (szc 0 0 0 0 0 0) :: hsP p r q H PA PC A d g Y L) PA (([some ⟨q, 0, none⟩] : List (Option Addr)).flatMap pv1) := RdIn.own (.tail (.tail (.tail (.tail .head))))
  refine h.ix (z := 0) (i := 0) hr rfl (fun b hb => ?_) (by show 0 < 1; decide)
  subst hb
  refine h.rdWP (g := pv1) (Y := [some ⟨q, 0, none⟩]) (i := 0) hr rfl ?_
  have h := h.drew
  refine h.rdI (B := z2) 1 (nilc (h.rdL (B := q) 1 ?_))
  rw [wrap_i64 (n := (0 : Int) + (Y.length : Int)) (by omega) (by omega), Int.zero_add]
  refine h.st (B := z2) 1 fun w' h => nilc ?_
  refine h.rdL (B := q) 1 ?_
  refine ⟨fun m x w => ∃ j : Nat, x = j ∧ m = Y.length - j ∧ j ≤ Y.length ∧ ∃ e f u : Int, (0 ≤ e ∧ e ≤ 10000 * j) ∧ (0 ≤ f ∧ f ≤ 10000 * j) ∧ (0 ≤ u ∧ u ≤ 10000 * j) ∧ St c w (blk z2 55 (szc 1 Y.length 0 e f u) :: blk z 55 (szc 0 0 0 0 0 0) :: hsP p r q H (some b) PC A d g Y L), ⟨_, 0, rfl, rfl, Nat.zero_le _, 0, 0, 0, by decide, by decide, by decide, h⟩, ?_⟩
  clear h
  rintro m x w' ⟨j, rfl, rfl, hj, e, f, u, he, hf, hu, h⟩
  by_cases hlt : j < Y.length
  rotate_left
  · exact ifdf (by omega) ⟨0, by decide, .inr ⟨rfl, by rw [wrap_i64 (by decide) (by decide)]; rfl, e, f, u, h⟩⟩
  refine ifdt (by omega) ?_
  obtain ⟨y, hy⟩ : ∃ y, Y[j]? = some y := ⟨_, List.getElem?_eq_getElem hlt⟩
  have hr2 : RdIn (blk z2 55 (szc 1 Y.length 0 e f u) :: blk z 55 (szc 0 0 0 0 0 0) :: hsP p r q H (some b) PC A d g Y L) A ((hcA Y).flatMap pv1) := RdIn.own (.tail (.tail (.tail (.tail (.tail (.tail .head))))))
  have hya : (hcA Y)[j]? = some (some ⟨y.n.x, 0, none⟩) := by simp [hcA, hy]
  refine h.ix (z := 0) (i := j) hr2 hya (fun b2 hb => ?_) (by omega)
  subst hb
  refine h.rdWP (g := pv1) (Y := hcA Y) (i := j) hr2 hya ?_
  obtain ⟨M, h, back⟩ := St.takeH1 (X := [_, _, _, _, _, _]) (List.mem_of_getElem? hy) h
  have hfl : (hcX g y).flowsN = 1 := rfl
  refine callvT tabOk (by kernel_rfl) (add_ok (X := hcX g y) (K := kbH g y.n) (h.sub (show Sub _ (blk z2 55 (szc 1 Y.length 0 e f u) :: coB y.n.x (hcX g y) (kbH g y.n) _) from (.cons .head (.cons .head (.cons (.tail (.tail (.tail (.tail (.tail (.tail (.tail (.tail (.tail (.tail (.tail (.tail .head)))))))))))) (.cons (.tail (.tail (.tail (.tail (.tail (.tail (.tail (.tail (.tail (.tail (.tail (.tail .head)))))))))))) (.cons (.tail (.tail (.tail (.tail (.tail (.tail (.tail (.tail .head)))))))) (.cons (.tail (.tail (.tail (.tail (.tail (.tail (.tail (.tail (.tail .head))))))))) (.cons (.tail (.tail (.tail (.tail (.tail (.tail (.tail .head))))))) (.cons .head (.cons .head (.cons .head (.cons .head (.cons .head (.cons .head (.cons .head (.cons .head (.cons .head (.cons .head (.cons .head ((Sub.same _)))))))))))))))))))))) (kbH_ok hg) (by omega) (by rw [hfl]; omega) fun w' h => ⟨rfl, ?_⟩)
  have h := back _ _ (h.sub (.cons .head (.cons .head (.cons (.tail (.tail (.tail (.tail (.tail .head))))) (.cons (.tail (.tail (.tail (.tail (.tail .head))))) (.cons (.tail (.tail (.tail (.tail (.tail .head))))) (.cons (.tail (.tail (.tail (.tail (.tail .head))))) (.cons (.tail (.tail (.tail (.tail (.tail .head))))) (.cons (.tail (.tail (.tail (.tail (.tail .head))))) (.cons (.tail (.tail (.tail (.tail (.tail .head))))) (.cons (.tail (.tail (.tail (.tail .head)))) (.cons (.tail (.tail .head)) (.cons (.tail (.tail (.tail .head))) (.cons (.tail (.tail .head)) (.cons (.tail (.tail .head)) (.cons .head (.cons .head (.cons .head (.cons .head ((Sub.same _)))))))))))))))))))))
  refine ⟨_, by omega, j + 1, by rw [wrap_i64 (by omega) (by omega)]; omega, rfl, by omega, _, _, _, ?_, ?_, ?_, h⟩
  · rw [hfl]; omega
  · show 0 ≤ f + ((0 : Nat) : Int) ∧ f + ((0 : Nat) : Int) ≤ _; omega
  · show 0 ≤ u + (((g.buffer.toNat : Nat) : Int) + ((g.buffer.toNat : Nat) : Int)) ∧ u + (((g.buffer.toNat : Nat) : Int) + ((g.buffer.toNat : Nat) : Int)) ≤ _
    omega
theorem sizes0_ok {p r : Nat} {H : Hst} (h : St c w (blk p 66 (hst { H with conns := r, ports := none, portsN := 0, portsC := 0 }) :: mp r [] :: L)) {Q : Value → World → Prop}
    (hk : ∀ a b e f u w', St c w' (blk p 66 (hst { H with conns := r, ports := none, portsN := 0, portsC := 0 }) :: mp r [] :: L) → Q (.agg (szc a 0 b e f u).toArray) w') : CALL PG 13 [.pointer (some ⟨p, 0, none⟩)] w Q := by
  refine call13 ?_
  unfold N13
  refine h.allocZ fun z w' h => ?_
  have h := h.drew
  refine ⟨fun w => St c w [blk p 66 (hst { H with conns := r, ports := none, portsN := 0, portsC := 0 }), mp r []], h.sub (.cons (.tail .head) (.cons (.tail .head) (.nil))), nilc ?_⟩
  refine St.rdsL (B := p) 28 (nilc ?_)
  refine RDS.of (v := .map (some r)) (fun w h => ld 29 (h.blk .head) rfl (by kernel_rfl)) ⟨_, rfl, ?_⟩
  refine St.mlenSH (.tail .head) ?_ huConns
  refine RDS.bld ?_
  (repeat (first | apply Exists.intro (α := Int) | apply Exists.intro (α := Bool) | apply Exists.intro (α := ByteArray) | (apply Exists.intro (α := Option Addr); apply Exists.intro (α := Nat); apply Exists.intro (α := Nat)) | apply Exists.intro (α := Option Addr) | apply Exists.intro (α := Value)))
  refine ⟨rfl, ?_⟩
  refine h.allocZ fun z2 w' h => ?_
  refine ⟨_, fun _ h => h, h.sub (.cons (.tail (.tail .head)) (.cons (.tail (.tail .head)) (.nil))), ?_⟩
  refine h.stG (B := z2) fun w' h => nilc ?_
  have h : St c w' (blk z2 55 (szc 0 0 0 0 0 0) :: blk z 55 (szc 0 0 0 0 0 0) :: blk p 66 (hst { H with conns := r, ports := none, portsN := 0, portsC := 0 }) :: mp r [] :: L) := h
  refine h.rdMp (B := p) 29 ⟨_, rfl, ?_⟩
  refine h.mrange (.tail (.tail (.tail .head))) (fun it w' h => ?_) huConns
  refine ⟨fun m w => ∃ cur, St c w (mpr r it [] [] cur :: blk z2 55 (szc 0 0 0 0 0 0) :: blk z 55 (szc 0 0 0 0 0 0) :: blk p 66 (hst { H with conns := r, ports := none, portsN := 0, portsC := 0 }) :: L), ⟨0, none, h⟩, ?_⟩
  clear h
  rintro m w' ⟨cur, h⟩
  refine h.mnext .head (fun w' hV0 h => ⟨false, [], rfl, iff_ rfl (nilc ?_)⟩) fun z V' w' hp h => by simp at hp
  have h := h.mend
  refine h.rdL (B := p) 28 ?_
  refine ⟨fun m x w => m = 0 ∧ x = 0 ∧ St c w (mp r [] :: blk z2 55 (szc 0 0 0 0 0 0) :: blk z 55 (szc 0 0 0 0 0 0) :: blk p 66 (hst { H with conns := r, ports := none, portsN := 0, portsC := 0 }) :: L), ⟨0, rfl, rfl, h⟩, ?_⟩
  clear h
  rintro m x w' ⟨rfl, rfl, h⟩
  refine ifdf (by show ¬ ((0 : Int) < 0); decide) ?_
  refine h.rdG (B := z2) ?_
  (repeat (first | apply Exists.intro (α := Int) | apply Exists.intro (α := Bool) | apply Exists.intro (α := ByteArray) | (apply Exists.intro (α := Option Addr); apply Exists.intro (α := Nat); apply Exists.intro (α := Nat)) | apply Exists.intro (α := Option Addr) | apply Exists.intro (α := Value)))
  refine ⟨rfl, ?_⟩
  refine h.stG (B := z) fun w' h => ?_
  refine h.rdG (B := z) ?_
  (repeat (first | apply Exists.intro (α := Int) | apply Exists.intro (α := Bool) | apply Exists.intro (α := ByteArray) | (apply Exists.intro (α := Option Addr); apply Exists.intro (α := Nat); apply Exists.intro (α := Nat)) | apply Exists.intro (α := Option Addr) | apply Exists.intro (α := Value)))
  refine ⟨rfl, ?_⟩
  exact hk _ _ _ _ _ _ (h.sub (.cons (.tail (.tail (.tail .head))) (.cons (.tail .head) ((Sub.same _).more.more))))
end
end Go.Br

/- What the code of some functions says, as the core reads it; each reading is checked by the kernel. -/
set_option linter.unusedVariables false
set_option maxRecDepth 100000
namespace Go.Br
open Go Go.Proofs

/-- (*brougham/host.Host).begin -/
def N29 (h : Option Addr) (atv : Int) (atv1 : Int) (atv2 : Int) (s : Int) (s1 : Int) (s2 : Int) (s3 : Int) (s4 : Int) (s5 : Option Addr) (sN sC : Nat) (s6 : Option Addr) (sN1 sC1 : Nat) (o : Int) (o1 : Option Addr) (oN oC : Nat) (w : World) (Q : Value → World → Prop) : Prop :=
 RUNA PG (Instr.box 80 (.agg #[(.int .i64 atv), (.int .u16 atv1), (.int .u16 atv2)])) w fun a5 w1 =>
 RUNA PG (Instr.box 44 (.agg #[(.int .u16 s), (.int .u16 s1), (.int .u32 s2), (.int .u32 s3), (.int .u8 s4), (.slice s5 sN sC), (.slice s6 sN1 sC1)])) w1 fun a6 w2 =>
 RUNA PG (Instr.box 41 (.agg #[(.int .u8 o), (.slice o1 oN oC)])) w2 fun a7 w3 =>
 RD PG (loadVar 41 a7) w3 fun v =>
 ∃ x15 : Int, ∃ (x15v1 : Option Addr) (x15N x15C : Nat), v = (.agg #[(.int .u8 x15), (.slice x15v1 x15N x15C)]) ∧
 (CALL PG 60 [(.agg #[(.int .u8 x15), (.slice x15v1 x15N x15C)])] w3 fun v1 w4 =>
 ∃ x16 : Int, ∃ x16v1 : Bool, ∃ x16v2 : Int, ∃ x16v3 : Bool, v1 = (.tuple #[(.agg #[(.int .u64 x16), (.bool x16v1), (.int .u64 x16v2)]), (.bool x16v3)]) ∧
 (RUNA PG (Instr.alloc 154 true (.tuple #[])) w4 fun a8 w5 =>
 RUNU PG (storeVar 154 a8 (.agg #[(.int .u64 x16), (.bool x16v1), (.int .u64 x16v2)])) w5 fun w6 =>
 LETB x16v3 fun okv =>
 RDI PG (loadVar 36 (Addr.add a5 1)) .u16 w6 fun x21 =>
 CALL PG 18 [(.pointer h), (.int .i64 (IntKind.i64.wrap x21))] w6 fun v2 w7 =>
 ∃ x23 : Option Addr, v2 = (.pointer x23) ∧
 (IFB (x23.isNone)
 (NILC h fun a35 =>
 RDI PG (loadVar 3 (Addr.add (Addr.add a35 0) 7)) .i64 w7 fun x38 =>
 NILC h fun a40 =>
 RUNU PG (storeVar 3 (Addr.add (Addr.add a40 0) 7) (.int .i64 (IntKind.i64.wrap (x38 + (1 : Int))))) w7 fun w8 =>
 Q (.tuple #[]) w8)
 (IFB (!okv)
 (NILC h fun a35v1 =>
 RDI PG (loadVar 3 (Addr.add (Addr.add a35v1 0) 7)) .i64 w7 fun x38v1 =>
 NILC h fun a40v1 =>
 RUNU PG (storeVar 3 (Addr.add (Addr.add a40v1 0) 7) (.int .i64 (IntKind.i64.wrap (x38v1 + (1 : Int))))) w7 fun w9 =>
 Q (.tuple #[]) w9)
 (RDB PG (loadVar 4 (Addr.add a8 1)) w7 fun x32 =>
 IFB x32
 (NILC h fun a35v2 =>
 RDI PG (loadVar 3 (Addr.add (Addr.add a35v2 0) 7)) .i64 w7 fun x38v2 =>
 NILC h fun a40v2 =>
 RUNU PG (storeVar 3 (Addr.add (Addr.add a40v2 0) 7) (.int .i64 (IntKind.i64.wrap (x38v2 + (1 : Int))))) w7 fun w10 =>
 Q (.tuple #[]) w10)
 (NILC x23 fun a44 =>
 RDL PG (loadVar 70 (Addr.add a44 1)) (w7.drew) fun x46 x46N x46C =>
 NILC h fun a49 =>
 RDI PG (loadVar 3 (Addr.add (Addr.add a49 10) 1)) .i64 (w7.drew) fun x52 =>
 IFB (decide ((x46N : Int) ≥ x52))
 (NILC h fun a68 =>
 RDI PG (loadVar 3 (Addr.add (Addr.add a68 0) 8)) .i64 (w7.drew) fun x71 =>
 NILC h fun a73 =>
 RUNU PG (storeVar 3 (Addr.add (Addr.add a73 0) 8) (.int .i64 (IntKind.i64.wrap (x71 + (1 : Int))))) (w7.drew) fun w11 =>
 Q (.tuple #[]) w11)
 (NILC h fun a56 =>
 RD PG (loadVar 63 (Addr.add a56 29)) (w7.drew) fun v3 =>
 ∃ x58 : Value, v3 = x58 ∧
 (RDI PG (Builtin.len_ #[63] 3 #[x58]) .i64 (w7.drew) fun x59 =>
 NILC h fun a61 =>
 RDI PG (loadVar 3 (Addr.add (Addr.add a61 10) 2)) .i64 (w7.drew) fun x64 =>
 IFB (decide (x59 ≥ x64))
 (NILC h fun a68v1 =>
 RDI PG (loadVar 3 (Addr.add (Addr.add a68v1 0) 8)) .i64 (w7.drew) fun x71v1 =>
 NILC h fun a73v1 =>
 RUNU PG (storeVar 3 (Addr.add (Addr.add a73v1 0) 8) (.int .i64 (IntKind.i64.wrap (x71v1 + (1 : Int))))) (w7.drew) fun w12 =>
 Q (.tuple #[]) w12)
 (NILC h fun a77 =>
 NILC h fun a81 =>
 CALL PG 61 [(.pointer (some (Addr.add a77 25)))] ((w7.drew).drew) fun v4 w13 =>
 ∃ x79 : Int, v4 = (.int .u64 x79) ∧
 (CALL PG 61 [(.pointer (some (Addr.add a81 25)))] w13 fun v5 w14 =>
 ∃ x83 : Int, v5 = (.int .u64 x83) ∧
 (LETI x79 fun key =>
 LETI x83 fun first =>
 NILC h fun a85 =>
 RD PG (loadVar 24 (Addr.add a85 10)) (w14.drew) fun v6 =>
 ∃ x87 : Int, ∃ x87v1 : Int, ∃ x87v2 : Int, ∃ x87v3 : Int, ∃ x87v4 : Int, ∃ x87v5 : Int, ∃ x87v6 : Int, ∃ x87v7 : Int, ∃ x87v8 : Int, ∃ x87v9 : Int, ∃ x87v10 : Int, ∃ x87v11 : Int, ∃ x87v12 : Int, ∃ x87v13 : Int, ∃ x87v14 : Int, v6 = (.agg #[(.int .i64 x87), (.int .i64 x87v1), (.int .i64 x87v2), (.int .i64 x87v3), (.int .i64 x87v4), (.int .i64 x87v5), (.int .i64 x87v6), (.int .i64 x87v7), (.int .i64 x87v8), (.int .i64 x87v9), (.int .i64 x87v10), (.int .i64 x87v11), (.int .i64 x87v12), (.int .i64 x87v13), (.int .i64 x87v14)]) ∧
 (RD PG (loadVar 80 a5) (w14.drew) fun v7 =>
 ∃ x89 : Int, ∃ x89v1 : Int, ∃ x89v2 : Int, v7 = (.agg #[(.int .i64 x89), (.int .u16 x89v1), (.int .u16 x89v2)]) ∧
 (RD PG (loadVar 44 a6) (w14.drew) fun v8 =>
 ∃ x92 : Int, ∃ x92v1 : Int, ∃ x92v2 : Int, ∃ x92v3 : Int, ∃ x92v4 : Int, ∃ (x92v5 : Option Addr) (x92N x92C : Nat), ∃ (x92v6 : Option Addr) (x92N1 x92C1 : Nat), v8 = (.agg #[(.int .u16 x92), (.int .u16 x92v1), (.int .u32 x92v2), (.int .u32 x92v3), (.int .u8 x92v4), (.slice x92v5 x92N x92C), (.slice x92v6 x92N1 x92C1)]) ∧
 (RDI PG (loadVar 25 (Addr.add a8 0)) .u64 (w14.drew) fun x94 =>
 CALL PG 62 [(.agg #[(.int .i64 x87), (.int .i64 x87v1), (.int .i64 x87v2), (.int .i64 x87v3), (.int .i64 x87v4), (.int .i64 x87v5), (.int .i64 x87v6), (.int .i64 x87v7), (.int .i64 x87v8), (.int .i64 x87v9), (.int .i64 x87v10), (.int .i64 x87v11), (.int .i64 x87v12), (.int .i64 x87v13), (.int .i64 x87v14)]), (.int .u64 key), (.agg #[(.int .i64 x89), (.int .u16 x89v1), (.int .u16 x89v2)]), (.int .u32 (IntKind.u32.wrap first)), (.agg #[(.int .u16 x92), (.int .u16 x92v1), (.int .u32 x92v2), (.int .u32 x92v3), (.int .u8 x92v4), (.slice x92v5 x92N x92C), (.slice x92v6 x92N1 x92C1)]), (.int .u64 x94)] (w14.drew) fun v9 w15 =>
 ∃ x95 : Option Addr, v9 = (.pointer x95) ∧
 (NILC x23 fun a98 =>
 RDL PG (loadVar 70 (Addr.add a98 1)) w15 fun x100 x100N x100C =>
 RUNL PG (Instr.buildSlice 70 1 #[(0, (.pointer x95))]) w15 fun x102 x102N x102C w16 =>
 RUNL PG (Builtin.append_ #[70, 70] 70 #[(.slice x100 x100N x100C), (.slice x102 x102N x102C)]) w16 fun x103 x103N x103C w17 =>
 NILC x23 fun a104 =>
 RUNU PG (storeVar 70 (Addr.add a104 1) (.slice x103 x103N x103C)) w17 fun w18 =>
 CALL PG 26 [(.pointer h), (.pointer x95)] w18 fun v10 w19 =>
 v10 = (.tuple #[]) ∧
 (NILC h fun a110 =>
 RDI PG (loadVar 3 (Addr.add (Addr.add a110 0) 9)) .i64 w19 fun x113 =>
 NILC h fun a115 =>
 RUNU PG (storeVar 3 (Addr.add (Addr.add a115 0) 9) (.int .i64 (IntKind.i64.wrap (x113 + (1 : Int))))) w19 fun w20 =>
 Q (.tuple #[]) w20))))))))))))))))
theorem eq29 : ∀ (h : Option Addr) (atv : Int) (atv1 : Int) (atv2 : Int) (s : Int) (s1 : Int) (s2 : Int) (s3 : Int) (s4 : Int) (s5 : Option Addr) (sN sC : Nat) (s6 : Option Addr) (sN1 sC1 : Nat) (o : Int) (o1 : Option Addr) (oN oC : Nat) (w : World) (Q : Value → World → Prop), vcF PG TB Tryz.f29 .nil [(.pointer h), (.agg #[(.int .i64 atv), (.int .u16 atv1), (.int .u16 atv2)]), (.agg #[(.int .u16 s), (.int .u16 s1), (.int .u32 s2), (.int .u32 s3), (.int .u8 s4), (.slice s5 sN sC), (.slice s6 sN1 sC1)]), (.agg #[(.int .u8 o), (.slice o1 oN oC)])] w Q = N29 h atv atv1 atv2 s s1 s2 s3 s4 s5 sN sC s6 sN1 sC1 o o1 oN oC w Q := by intros; kernel_rfl
theorem call29 {h : Option Addr} {atv : Int} {atv1 : Int} {atv2 : Int} {s : Int} {s1 : Int} {s2 : Int} {s3 : Int} {s4 : Int} {s5 : Option Addr} {sN sC : Nat} {s6 : Option Addr} {sN1 sC1 : Nat} {o : Int} {o1 : Option Addr} {oN oC : Nat} {w : World} {Q : Value → World → Prop} (hN : N29 h atv atv1 atv2 s s1 s2 s3 s4 s5 sN sC s6 sN1 sC1 o o1 oN oC w Q) : CALL PG 29 [(.pointer h), (.agg #[(.int .i64 atv), (.int .u16 atv1), (.int .u16 atv2)]), (.agg #[(.int .u16 s), (.int .u16 s1), (.int .u32 s2), (.int .u32 s3), (.int .u8 s4), (.slice s5 sN sC), (.slice s6 sN1 sC1)]), (.agg #[(.int .u8 o), (.slice o1 oN oC)])] w Q := calls_vc tabOk Tryz.func29 (by rw [eq29]; exact hN)

end Go.Br

/- Who asks a host for a connection: begin and Deliver. -/
set_option linter.unusedVariables false
set_option linter.unusedSimpArgs false
set_option linter.unnecessarySimpa false
namespace Go.Br
open Go
instance biHostRef3a : Zro PG 154 3 24 (.agg #[.int .u64 0, .bool false, .int .u64 0]) := ⟨tiOf (by kernel_rfl)⟩
attribute [local irreducible] Addr.add RD RDS RUN RUNU NILC LETB CALL CALLX CALLV

theorem ent_pre {A B : List SA} (e : Ent (all A) (all B)) : ∀ X : List SA, Ent (all (X ++ A)) (all (X ++ B))
  | [] => e
  | x :: X => (Ent.refl x).sep (ent_pre e X)
section
variable {c : Ctx} {w : World} {L R : List SA}
theorem inH {p r q PC d : Nat} {H : Hst} {PA A : Option Addr} {g : Cfg} {Y : List Hc} (X : List SA) (h : St c w (X ++ hsP p r q H PA PC A d g Y L)) : St c w (hsP p r q H PA PC A d g Y (X ++ L)) :=
  h.ent (ent_swapH X (B := [blk p 66 (hst { H with conns := r, ports := PA, portsN := 1, portsC := PC }), mp r [], own 68 1 PA 1 PC (([some ⟨q, 0, none⟩] : List (Option Addr)).flatMap pv1), blk q 73 (prtH A Y.length d), own 81 1 A Y.length d ((hcA Y).flatMap pv1)] ++ Y.flatMap (hcQ g)) (C := L))
theorem outH {p r q PC d : Nat} {H : Hst} {PA A : Option Addr} {g : Cfg} {Y : List Hc} (X : List SA) (h : St c w (hsP p r q H PA PC A d g Y (X ++ L))) : St c w (X ++ hsP p r q H PA PC A d g Y L) :=
  h.ent (ent_swapH ([blk p 66 (hst { H with conns := r, ports := PA, portsN := 1, portsC := PC }), mp r [], own 68 1 PA 1 PC (([some ⟨q, 0, none⟩] : List (Option Addr)).flatMap pv1), blk q 73 (prtH A Y.length d), own 81 1 A Y.length d ((hcA Y).flatMap pv1)] ++ Y.flatMap (hcQ g)) (B := X) (C := L))
/-- One listens at port 80. -/
theorem listen80_ok {g : Cfg} {k0 k1 : Int} {p r : Nat} (h : St c w (blk p 66 (hst (host0 g k0 k1 r)) :: L)) (hg : CfgOk g) {Q : Value → World → Prop}
    (h0 : g.ports ≤ 0 → ∀ w', St c w' (blk p 66 (hst (hoR g k0 k1 0 0 0 0 none 0 0 r)) :: L) → Q (.int .i64 203) w')
    (h1 : 0 < g.ports → ∀ A d q w', St c w' (blk p 66 (hst (hoR g k0 k1 0 0 0 0 A 1 d r)) :: own 68 1 A 1 d (([some ⟨q, 0, none⟩] : List (Option Addr)).flatMap pv1) :: blk q 73 (prtH none 0 0) :: L) → Q (.int .i64 0) w') : CALL PG 6 [.pointer (some ⟨p, 0, none⟩), .int .i64 80] w Q := by
  refine call6 ?_
  unfold N6
  refine good_ok ?_
  (repeat (first | apply Exists.intro (α := Int) | apply Exists.intro (α := Bool) | apply Exists.intro (α := ByteArray) | (apply Exists.intro (α := Option Addr); apply Exists.intro (α := Nat); apply Exists.intro (α := Nat)) | apply Exists.intro (α := Option Addr) | apply Exists.intro (α := Value)))
  refine ⟨rfl, ?_⟩
  refine letb rfl (iff_ rfl ?_)
  refine lisN_ok (H := host0 g k0 k1 r) h fun w' h => ?_
  (repeat (first | apply Exists.intro (α := Int) | apply Exists.intro (α := Bool) | apply Exists.intro (α := ByteArray) | (apply Exists.intro (α := Option Addr); apply Exists.intro (α := Nat); apply Exists.intro (α := Nat)) | apply Exists.intro (α := Option Addr) | apply Exists.intro (α := Value)))
  refine ⟨rfl, ?_⟩
  refine letb rfl (iff_ rfl ?_)
  have h := h.drew
  refine nilc (h.rdL 28 (nilc ?_))
  refine h.rdI2 10 0 ?_
  refine letb rfl (ifd (fun hc => ?_) fun hc => ?_)
  · have hc2 : (host0 g k0 k1 r).setPorts ≤ 0 := by simpa using hc
    exact h0 hc2 _ h
  refine nilc (h.rdL 28 ?_)
  refine RD.bld ?_
  (repeat (first | apply Exists.intro (α := Int) | apply Exists.intro (α := Bool) | apply Exists.intro (α := ByteArray) | (apply Exists.intro (α := Option Addr); apply Exists.intro (α := Nat); apply Exists.intro (α := Nat)) | apply Exists.intro (α := Option Addr) | apply Exists.intro (α := Value)))
  refine ⟨rfl, ?_⟩
  refine h.box fun q w' h => ?_
  have h := h.addOwnNil 68 1
  refine h.app1 huPorts tiPortp [.pointer (some ⟨q, 0, none⟩)] .head (by intro v hv; simp at hv; rw [hv]; rfl) (by show (0 + 1) * 8 ≤ 140737488355328; decide) fun A d w' h => ?_
  refine nilc ?_
  refine h.st 28 fun w' h => ?_
  have h : St c w' (blk p 66 (hst (hoR g k0 k1 0 0 0 0 A 1 d r)) :: own 68 1 A 1 d (([some ⟨q, 0, none⟩] : List (Option Addr)).flatMap pv1) :: blk q 73 (prtH none 0 0) :: L) := h
  have hc2 : 0 < (host0 g k0 k1 r).setPorts := by simpa using hc
  exact h1 hc2 _ _ _ _ h
/-- A connection is asked for by a key. -/
theorem beginH_ok {g : Cfg} {k0 k1 sN unk ref beg a : Int} {p r q PC d : Nat} {PA A : Option Addr} {Y : List Hc} {s : Sg} {o : Opx} (h : St c w (hsP p r q (hoR g k0 k1 sN unk ref beg PA 1 PC r) PA PC A d g Y L)) (hg : CfgOk g) (hs : SgIn L s) (ha : 0 ≤ a ∧ a < 65536) (hsN : 0 ≤ sN ∧ sN ≤ 100000) (hr : 0 ≤ ref ∧ ref ≤ 100000) (hb : 0 ≤ beg ∧ beg ≤ 100000) (hY : Y.length ≤ 1000)
    (ho : RdIn L o.body (bvs o.bodys)) (hC : o.bodys.length ≤ o.bodyC) (ok : o.kind = 1) (o8 : o.bodys.length = 8) {Q : Value → World → Prop}
    (hfull : ¬ ((Y.length : Int) < g.half ∧ 0 < g.conns) → ∀ w', St c w' (hsP p r q (hoR g k0 k1 sN unk (ref + 1) beg PA 1 PC r) PA PC A d g Y L) → Q (.tuple #[]) w')
    (hok : (Y.length : Int) < g.half → 0 < g.conns → ∀ y A' d' pA pC pk w', y.rem = a → St c w' (hsP p r q { hoR g k0 k1 (sN + 1 + 1) unk ref (beg + 1) PA 1 PC r with post := pA, postN := 1, postC := pC } PA PC A' d' g (Y ++ [y]) (own 202 2 pA 1 pC (([pk] : List Pkt).flatMap pkc) :: bodP [pk] :: L)) → Q (.tuple #[]) w') :
    CALL PG 29 [.pointer (some ⟨p, 0, none⟩), .agg #[.int .i64 0, .int .u16 80, .int .u16 a], sgv s, opxv o] w Q := by
  refine call29 ?_
  unfold N29
  refine h.box fun q5 w' h => ?_
  refine h.box (vs := [.int .u16 s.src, .int .u16 s.dst, .int .u32 s.seq, .int .u32 s.ack, .int .u8 s.flags, .slice s.oA s.os.length s.oC, .slice s.dA s.ds.length s.dC]) fun q6 w' h => ?_
  refine h.box (vs := opx o) fun q7 w' h => ?_
  refine h.rdG (B := q7) ?_
  (repeat (first | apply Exists.intro (α := Int) | apply Exists.intro (α := Bool) | apply Exists.intro (α := ByteArray) | (apply Exists.intro (α := Option Addr); apply Exists.intro (α := Nat); apply Exists.intro (α := Nat)) | apply Exists.intro (α := Option Addr) | apply Exists.intro (α := Value)))
  refine ⟨rfl, ?_⟩
  have rd : ∀ {X : List SA}, RdIn (X ++ L) o.body (bvs o.bodys) := fun {X} => by
    induction X with
    | nil => exact ho
    | cons x X ih => exact ih.more
  have hob : RdIn (blk q7 41 (opx o) :: blk q6 44 [.int .u16 s.src, .int .u16 s.dst, .int .u32 s.seq, .int .u32 s.ack, .int .u8 s.flags, .slice s.oA s.os.length s.oC, .slice s.dA s.ds.length s.dC] :: blk q5 80 [.int .i64 0, .int .u16 80, .int .u16 a] :: hsP p r q (hoR g k0 k1 sN unk ref beg PA 1 PC r) PA PC A d g Y L) o.body (bvs o.bodys) := by
    have := rd (X := [blk q7 41 (opx o), blk q6 44 [.int .u16 s.src, .int .u16 s.dst, .int .u32 s.seq, .int .u32 s.ack, .int .u8 s.flags, .slice s.oA s.os.length s.oC, .slice s.dA s.ds.length s.dC], blk q5 80 [.int .i64 0, .int .u16 80, .int .u16 a], blk p 66 (hst { hoR g k0 k1 sN unk ref beg PA 1 PC r with conns := r, ports := PA, portsN := 1, portsC := PC }), mp r [], own 68 1 PA 1 PC (([some ⟨q, 0, none⟩] : List (Option Addr)).flatMap pv1), blk q 73 (prtH A Y.length d), own 81 1 A Y.length d ((hcA Y).flatMap pv1)] ++ Y.flatMap (hcQ g))
    exact this
  refine pkey_ok h hob hC (by omega) (fun _ _ w' h => ?_) (fun _ e => by omega) (fun e => by omega)
  (repeat (first | apply Exists.intro (α := Int) | apply Exists.intro (α := Bool) | apply Exists.intro (α := ByteArray) | (apply Exists.intro (α := Option Addr); apply Exists.intro (α := Nat); apply Exists.intro (α := Nat)) | apply Exists.intro (α := Option Addr) | apply Exists.intro (α := Value)))
  refine ⟨rfl, ?_⟩
  refine h.allocZ fun q8 w' h => ?_
  refine h.stG (B := q8) fun w' h => ?_
  refine letb rfl ?_
  refine h.rdI (B := q5) 1 ?_
  rw [wrap_i64 (n := (80 : Int)) (by decide) (by decide)]
  refine lisH_ok (H := hoR g k0 k1 sN unk ref beg PA 1 PC r) (h.sub (show Sub _ (blk p 66 (hst { hoR g k0 k1 sN unk ref beg PA 1 PC r with ports := PA, portsN := 1, portsC := PC }) :: own 68 1 PA 1 PC (([some ⟨q, 0, none⟩] : List (Option Addr)).flatMap pv1) :: blk q 73 (prtH A Y.length d) :: _) from (.cons (.tail (.tail (.tail (.tail .head)))) (.cons (.tail (.tail (.tail (.tail (.tail .head))))) (.cons (.tail (.tail (.tail (.tail (.tail .head))))) (.cons .head (.cons .head (.cons .head (.cons .head (.cons .head (.cons .head ((Sub.same _))))))))))))) fun w' h => ?_
  have h := h.sub (show Sub _ (blk q8 154 _ :: blk q7 41 _ :: blk q6 44 _ :: blk q5 80 _ :: hsP p r q (hoR g k0 k1 sN unk ref beg PA 1 PC r) PA PC A d g Y L) from (.cons (.tail (.tail (.tail .head))) (.cons (.tail (.tail (.tail .head))) (.cons (.tail (.tail (.tail .head))) (.cons (.tail (.tail (.tail .head))) (.cons .head (.cons (.tail (.tail .head)) (.cons .head (.cons .head (.cons .head ((Sub.same _))))))))))))
  (repeat (first | apply Exists.intro (α := Int) | apply Exists.intro (α := Bool) | apply Exists.intro (α := ByteArray) | (apply Exists.intro (α := Option Addr); apply Exists.intro (α := Nat); apply Exists.intro (α := Nat)) | apply Exists.intro (α := Option Addr) | apply Exists.intro (α := Value)))
  refine ⟨rfl, ?_⟩
  refine iff_ rfl (iff_ rfl ?_)
  refine h.rdB (B := q8) 1 ?_
  refine iff_ rfl (nilc ?_)
  have h := h.drew
  refine h.rdL (B := q) 1 (nilc ?_)
  refine h.rdI2 (B := p) 10 1 ?_
  have refused : ¬ ((Y.length : Int) < g.half ∧ 0 < g.conns) → ∀ {w'}, St c w' (blk q8 154 [.int .u64 (beN o.bodys : Int), .bool false, .int .u64 0] :: blk q7 41 (opx o) :: blk q6 44 [.int .u16 s.src, .int .u16 s.dst, .int .u32 s.seq, .int .u32 s.ack, .int .u8 s.flags, .slice s.oA s.os.length s.oC, .slice s.dA s.ds.length s.dC] :: blk q5 80 [.int .i64 0, .int .u16 80, .int .u16 a] :: hsP p r q (hoR g k0 k1 sN unk ref beg PA 1 PC r) PA PC A d g Y L) →
      NILC (some ⟨p, 0, none⟩) fun a68 => RDI PG (loadVar 3 (Addr.add (Addr.add a68 0) 8)) .i64 w' fun x71 => NILC (some ⟨p, 0, none⟩) fun a73 => RUNU PG (storeVar 3 (Addr.add (Addr.add a73 0) 8) (.int .i64 (IntKind.i64.wrap (x71 + (1 : Int))))) w' fun w11 => Q (.tuple #[]) w11 := fun hn {w'} h => by
    refine nilc (h.rdI2 (B := p) 0 8 (nilc ?_))
    refine h.st2 (B := p) 0 8 fun w' h => ?_
    rw [show IntKind.i64.wrap ((hoR g k0 k1 sN unk ref beg PA 1 PC r).kRefused + 1) = ref + 1 from wrap_i64 (n := ref + 1) (by omega) (by omega)] at h
    exact hfull hn _ (h.sub (.cons .head ((Sub.same _).more.more.more.more)))
  refine ifd (fun e => refused (fun hc => ?_) h) fun e1 => ?_
  · have e : g.half ≤ (Y.length : Int) := e
    omega
  have e1 : ¬ (g.half ≤ (Y.length : Int)) := e1
  refine nilc (h.rdMp (B := p) 29 ⟨_, rfl, ?_⟩)
  refine h.mlen (.tail (.tail (.tail (.tail (.tail .head))))) ?_ huConns
  refine nilc (h.rdI2 (B := p) 10 2 ?_)
  refine ifd (fun e => refused (fun hc => ?_) h) fun e2 => ?_
  · have e : g.conns ≤ 0 := e
    omega
  have e2 : ¬ (g.conns ≤ 0) := e2
  have h := h.drew
  refine nilc (nilc ?_)
  have h := h.sub (show Sub _ (blk p 66 (hst (hoR g k0 k1 sN unk ref beg PA 1 PC r)) :: _) from (.cons (.tail (.tail (.tail (.tail .head)))) (.cons .head (.cons .head (.cons .head (.cons .head ((Sub.same _))))))))
  refine draw_ok h (show (0 : Int) ≤ sN by omega) (show sN < 1000000000 by omega) fun w' h => ?_
  (repeat (first | apply Exists.intro (α := Int) | apply Exists.intro (α := Bool) | apply Exists.intro (α := ByteArray) | (apply Exists.intro (α := Option Addr); apply Exists.intro (α := Nat); apply Exists.intro (α := Nat)) | apply Exists.intro (α := Option Addr) | apply Exists.intro (α := Value)))
  refine ⟨rfl, ?_⟩
  refine draw_ok h (show (0 : Int) ≤ sN + 1 by omega) (show sN + 1 < 1000000000 by omega) fun w' h => ?_
  (repeat (first | apply Exists.intro (α := Int) | apply Exists.intro (α := Bool) | apply Exists.intro (α := ByteArray) | (apply Exists.intro (α := Option Addr); apply Exists.intro (α := Nat); apply Exists.intro (α := Nat)) | apply Exists.intro (α := Option Addr) | apply Exists.intro (α := Value)))
  refine ⟨rfl, ?_⟩
  refine leti rfl (leti rfl (nilc ?_))
  have h := h.drew
  refine h.rdGo (B := p) 10 15 ?_
  (repeat (first | apply Exists.intro (α := Int) | apply Exists.intro (α := Bool) | apply Exists.intro (α := ByteArray) | (apply Exists.intro (α := Option Addr); apply Exists.intro (α := Nat); apply Exists.intro (α := Nat)) | apply Exists.intro (α := Option Addr) | apply Exists.intro (α := Value)))
  refine ⟨rfl, ?_⟩
  refine h.rdG (B := q5) ?_
  (repeat (first | apply Exists.intro (α := Int) | apply Exists.intro (α := Bool) | apply Exists.intro (α := ByteArray) | (apply Exists.intro (α := Option Addr); apply Exists.intro (α := Nat); apply Exists.intro (α := Nat)) | apply Exists.intro (α := Option Addr) | apply Exists.intro (α := Value)))
  refine ⟨rfl, ?_⟩
  refine h.rdG (B := q6) ?_
  (repeat (first | apply Exists.intro (α := Int) | apply Exists.intro (α := Bool) | apply Exists.intro (α := ByteArray) | (apply Exists.intro (α := Option Addr); apply Exists.intro (α := Nat); apply Exists.intro (α := Nat)) | apply Exists.intro (α := Option Addr) | apply Exists.intro (α := Value)))
  refine ⟨rfl, ?_⟩
  refine h.rdI (B := q8) 0 ?_
  refine answer_ok (g := g) (s := s) h hg (drawS_range _ _ _) (by decide) ha (by rw [wrapU32]; omega) fun n fA fC pA pC pk w' f1 f2 h => ?_
  (repeat (first | apply Exists.intro (α := Int) | apply Exists.intro (α := Bool) | apply Exists.intro (α := ByteArray) | (apply Exists.intro (α := Option Addr); apply Exists.intro (α := Nat); apply Exists.intro (α := Nat)) | apply Exists.intro (α := Option Addr) | apply Exists.intro (α := Value)))
  refine ⟨rfl, ?_⟩
  refine nilc (h.rdL (B := q) 1 ?_)
  refine h.app1 huConnps tiConnp [.pointer (some ⟨n.x, 0, none⟩)] (.tail (.tail (.tail (.tail (.tail (.tail (.tail (.tail (.tail (.tail (.tail (.tail (.tail (.tail (.tail (.tail (.tail (.tail (.tail (.tail (.tail (.tail (.tail (.tail (.tail (.tail (.tail .head))))))))))))))))))))))))))) (by intro v hv; simp at hv; rw [hv]; rfl) (by omega) fun A' d' w' h => nilc ?_
  refine h.st (B := q) 1 fun w' h => ?_
  have h := (h.addOwnNil 202 2).addBod0
  have h := h.sub (show Sub _ (blk p 66 (hst (hoR g k0 k1 (sN + 1 + 1) unk ref beg PA 1 PC r)) :: blk n.x 126 (cnc (ansC g (drawS k0 k1 sN) (beN o.bodys) 0 80 a n fA fC pA 1 pC (sessK (beN o.bodys) (drawS k0 k1 sN)))) :: own 202 2 none 0 0 (([] : List Pkt).flatMap pkc) :: bodP [] :: own 202 2 pA 1 pC (([pk] : List Pkt).flatMap pkc) :: bodP [pk] :: _) from (.cons (.tail (.tail (.tail (.tail (.tail (.tail (.tail (.tail (.tail (.tail (.tail (.tail (.tail (.tail (.tail (.tail (.tail (.tail (.tail (.tail (.tail (.tail (.tail .head))))))))))))))))))))))) (.cons (.tail (.tail (.tail (.tail .head)))) (.cons (.tail .head) (.cons .head (.cons (.tail (.tail .head)) (.cons (.tail (.tail .head)) (.cons (.tail (.tail (.tail (.tail (.tail (.tail (.tail (.tail (.tail (.tail (.tail (.tail (.tail (.tail (.tail (.tail (.tail (.tail (.tail (.tail (.tail (.tail .head)))))))))))))))))))))) (.cons (.tail (.tail (.tail (.tail (.tail (.tail (.tail (.tail (.tail (.tail (.tail (.tail (.tail (.tail (.tail (.tail (.tail (.tail (.tail (.tail (.tail (.tail .head)))))))))))))))))))))) (.cons .head (.cons .head (.cons .head (.cons .head (.cons .head (.cons .head (.cons .head (.cons .head (.cons .head (.cons .head (.cons .head (.cons .head (.cons .head (.cons .head (.cons .head (.cons .head (.cons .head (.cons .head ((Sub.same _).more.more.more.more))))))))))))))))))))))))))))
  refine gather_ok (H := hoR g k0 k1 (sN + 1 + 1) unk ref beg PA 1 PC r) h rfl (show 0 + 1 ≤ 1000000 by decide) fun O d2 w' h => ?_
  (repeat (first | apply Exists.intro (α := Int) | apply Exists.intro (α := Bool) | apply Exists.intro (α := ByteArray) | (apply Exists.intro (α := Option Addr); apply Exists.intro (α := Nat); apply Exists.intro (α := Nat)) | apply Exists.intro (α := Option Addr) | apply Exists.intro (α := Value)))
  refine ⟨rfl, ?_⟩
  refine nilc (h.rdI2 (B := p) 0 9 (nilc ?_))
  refine h.st2 (B := p) 0 9 fun w' h => ?_
  rw [show IntKind.i64.wrap ((hoR g k0 k1 (sN + 1 + 1) unk ref beg PA 1 PC r).kBegun + 1) = beg + 1 from wrap_i64 (n := beg + 1) (by omega) (by omega)] at h
  refine hok (by omega) (by omega) ⟨n, fA, fC, drawS k0 k1 sN, beN o.bodys, a, IntKind.u32.wrap (drawS k0 k1 (sN + 1)), s.seq⟩ A' d' O d2 pk w' rfl ?_
  have e1 : (hcA (Y ++ [⟨n, fA, fC, drawS k0 k1 sN, beN o.bodys, a, IntKind.u32.wrap (drawS k0 k1 (sN + 1)), s.seq⟩])).flatMap pv1 = (hcA Y).flatMap pv1 ++ [.pointer (some ⟨n.x, 0, none⟩)] := by simp [hcA, pv1]
  have h := h.sub (show Sub _ ([blk p 66 (hst { hoR g k0 k1 (sN + 1 + 1) unk ref (beg + 1) PA 1 PC r with post := O, postN := 1, postC := d2 }), mp r [], own 68 1 PA 1 PC (([some ⟨q, 0, none⟩] : List (Option Addr)).flatMap pv1), blk q 73 (prtH A' (Y.length + 1) d'), own 81 1 A' (Y.length + 1) d' ((hcA Y).flatMap pv1 ++ [.pointer (some ⟨n.x, 0, none⟩)])] ++ ((hcQ g ⟨n, fA, fC, drawS k0 k1 sN, beN o.bodys, a, IntKind.u32.wrap (drawS k0 k1 (sN + 1)), s.seq⟩ ++ [own 202 2 O 1 d2 (([pk] : List Pkt).flatMap pkc), bodP [pk]]) ++ (Y.flatMap (hcQ g) ++ L))) from (.cons .head (.cons (.tail (.tail (.tail .head))) (.cons (.tail (.tail (.tail .head))) (.cons (.tail (.tail (.tail .head))) (.cons (.tail (.tail (.tail .head))) (.cons .head (.cons (.tail (.tail .head)) (.cons (.tail (.tail .head)) (.cons (.tail (.tail .head)) (.cons (.tail (.tail .head)) (.cons (.tail (.tail .head)) (.cons (.tail (.tail .head)) (.cons (.tail (.tail .head)) (.cons (.tail (.tail .head)) (.cons (.tail (.tail .head)) (.cons (.tail (.tail .head)) (.cons (.tail (.tail .head)) (.cons (.tail (.tail .head)) (.cons (.tail (.tail .head)) (.cons (.tail (.tail .head)) (.cons (.tail (.tail .head)) (.cons (.tail (.tail .head)) (.cons .head (.cons .head ((Sub.same _)))))))))))))))))))))))))))
  have h := h.ent (ent_pre (ent_swapH (hcQ g ⟨n, fA, fC, drawS k0 k1 sN, beN o.bodys, a, IntKind.u32.wrap (drawS k0 k1 (sN + 1)), s.seq⟩ ++ [own 202 2 O 1 d2 (([pk] : List Pkt).flatMap pkc), bodP [pk]]) (B := Y.flatMap (hcQ g)) (C := L)) _)
  unfold hsP
  rw [e1, List.length_append, List.flatMap_append, List.append_assoc, List.flatMap_cons, List.flatMap_nil, List.append_nil]
  exact h
end
end Go.Br

/- Who asks a host for a connection: Deliver. -/
set_option linter.unusedVariables false
set_option linter.unusedSimpArgs false
set_option linter.unnecessarySimpa false
namespace Go.Br
open Go
attribute [local irreducible] Addr.add RD RDS RUN RUNU NILC LETB CALL CALLX CALLV

section
variable {c : Ctx} {w : World} {L R : List SA}
theorem rdH {X : List SA} {A : Option Addr} {cs : List Value} (h : RdIn L A cs) : RdIn (X ++ L) A cs := by
  induction X with
  | nil => exact h
  | cons x X ih => exact ih.more
theorem inHs {p r q PC d : Nat} {H : Hst} {PA A B : Option Addr} {g : Cfg} {Y : List Hc} {cs : List Value} (h : RdIn L B cs) : RdIn (hsP p r q H PA PC A d g Y L) B cs :=
  rdH (X := [blk p 66 (hst { H with conns := r, ports := PA, portsN := 1, portsC := PC }), mp r [], own 68 1 PA 1 PC (([some ⟨q, 0, none⟩] : List (Option Addr)).flatMap pv1), blk q 73 (prtH A Y.length d), own 81 1 A Y.length d ((hcA Y).flatMap pv1)] ++ Y.flatMap (hcQ g)) h
theorem begin0_ok {g : Cfg} {k0 k1 sN unk ref beg a : Int} {p r : Nat} {s : Sg} {o : Opx} (h : St c w (blk p 66 (hst (hoR g k0 k1 sN unk ref beg none 0 0 r)) :: L)) (hu : 0 ≤ unk ∧ unk ≤ 100000)
    (ho : RdIn L o.body (bvs o.bodys)) (hC : o.bodys.length ≤ o.bodyC) (ok : o.kind = 1) (o8 : o.bodys.length = 8) {Q : Value → World → Prop}
    (hk : ∀ w', St c w' (blk p 66 (hst (hoR g k0 k1 sN (unk + 1) ref beg none 0 0 r)) :: L) → Q (.tuple #[]) w') :
    CALL PG 29 [.pointer (some ⟨p, 0, none⟩), .agg #[.int .i64 0, .int .u16 80, .int .u16 a], sgv s, opxv o] w Q := by
  refine call29 ?_
  unfold N29
  refine h.box fun q5 w' h => ?_
  refine h.box (vs := [.int .u16 s.src, .int .u16 s.dst, .int .u32 s.seq, .int .u32 s.ack, .int .u8 s.flags, .slice s.oA s.os.length s.oC, .slice s.dA s.ds.length s.dC]) fun q6 w' h => ?_
  refine h.box (vs := opx o) fun q7 w' h => ?_
  refine h.rdG (B := q7) ?_
  (repeat (first | apply Exists.intro (α := Int) | apply Exists.intro (α := Bool) | apply Exists.intro (α := ByteArray) | (apply Exists.intro (α := Option Addr); apply Exists.intro (α := Nat); apply Exists.intro (α := Nat)) | apply Exists.intro (α := Option Addr) | apply Exists.intro (α := Value)))
  refine ⟨rfl, ?_⟩
  refine pkey_ok h ho.more.more.more.more hC (by omega) (fun _ _ w' h => ?_) (fun _ e => by omega) (fun e => by omega)
  (repeat (first | apply Exists.intro (α := Int) | apply Exists.intro (α := Bool) | apply Exists.intro (α := ByteArray) | (apply Exists.intro (α := Option Addr); apply Exists.intro (α := Nat); apply Exists.intro (α := Nat)) | apply Exists.intro (α := Option Addr) | apply Exists.intro (α := Value)))
  refine ⟨rfl, ?_⟩
  refine h.allocZ fun q8 w' h => ?_
  refine h.stG (B := q8) fun w' h => ?_
  refine letb rfl ?_
  refine h.rdI (B := q5) 1 ?_
  refine lisN_ok (H := hoR g k0 k1 sN unk ref beg none 0 0 r) (h.sub (show Sub _ (blk p 66 (hst { hoR g k0 k1 sN unk ref beg none 0 0 r with ports := none, portsN := 0, portsC := 0 }) :: _) from (.cons (.tail (.tail (.tail (.tail .head)))) (.cons .head (.cons .head (.cons .head (.cons .head ((Sub.same _))))))))) fun w' h => ?_
  (repeat (first | apply Exists.intro (α := Int) | apply Exists.intro (α := Bool) | apply Exists.intro (α := ByteArray) | (apply Exists.intro (α := Option Addr); apply Exists.intro (α := Nat); apply Exists.intro (α := Nat)) | apply Exists.intro (α := Option Addr) | apply Exists.intro (α := Value)))
  refine ⟨rfl, ?_⟩
  refine ift rfl (nilc ?_)
  refine h.rdI2 (B := p) 0 7 (nilc ?_)
  refine h.st2 (B := p) 0 7 fun w' h => ?_
  rw [show IntKind.i64.wrap ((hoR g k0 k1 sN unk ref beg none 0 0 r).kUnknown + 1) = unk + 1 from wrap_i64 (n := unk + 1) (by omega) (by omega)] at h
  exact hk _ (h.sub (.cons .head ((Sub.same _).more.more.more.more)))
/-- One asks, by a key, from a port from which nobody asked. -/
theorem deliverH_ok {g : Cfg} {k0 k1 sN unk ref beg a first : Int} {p r q PC d n k : Nat} {PA A O : Option Addr} {Y : List Hc} {ob : List UInt8} {bs : List UInt8} (h : St c w (hsP p r q (hoR g k0 k1 sN unk ref beg PA 1 PC r) PA PC A d g Y L)) (hg : CfgOk g) (hsN : 0 ≤ sN ∧ sN ≤ 100000) (hr : 0 ≤ ref ∧ ref ≤ 100000) (hb : 0 ≤ beg ∧ beg ≤ 100000) (hY : Y.length ≤ 1000)
    (hO : RdIn L O (bvs bs)) (hbs : bs = encB ⟨a, 80, first, 0, 1, [(1, ob)], []⟩) (hn : bs.length = n) (hC : n ≤ k) (hok : SgOk ⟨a, 80, first, 0, 1, [(1, ob)], []⟩) (o8 : ob.length = 8) (hbig : n ≤ 1000000) (hne : ∀ y ∈ Y, y.rem ≠ a) {Q : Value → World → Prop}
    (hfull : ¬ ((Y.length : Int) < g.half ∧ 0 < g.conns) → ∀ w', St c w' (hsP p r q (hoR g k0 k1 sN unk (ref + 1) beg PA 1 PC r) PA PC A d g Y L) → Q (.tuple #[]) w')
    (hroom : (Y.length : Int) < g.half → 0 < g.conns → ∀ y A' d' pA pC pk w', y.rem = a → St c w' (hsP p r q { hoR g k0 k1 (sN + 1 + 1) unk ref (beg + 1) PA 1 PC r with post := pA, postN := 1, postC := pC } PA PC A' d' g (Y ++ [y]) (own 202 2 pA 1 pC (([pk] : List Pkt).flatMap pkc) :: bodP [pk] :: L)) → Q (.tuple #[]) w') :
    CALL PG 9 [.pointer (some ⟨p, 0, none⟩), .int .i64 0, .slice O n k] w Q := by
  have hpth : 1 ≤ g.paths := hg.2.1.2.2.2.1.1
  refine call9 ?_
  unfold N9
  have he := parse_enc hok
  rw [← hbs] at he
  refine parseC_ok h (inHs hO) hn hC hbig (fun e e2 => by rw [he] at e2; cases e2) fun s hs cap w' h => ?_
  rw [he] at hs
  injection hs with hs
  have s1 : s.src = a := (congrArg SgP.src hs).symm
  have s2 : s.dst = 80 := (congrArg SgP.dst hs).symm
  have s3 : s.flags = 1 := (congrArg SgP.flags hs).symm
  have s4 : s.os.map opl = [(1, ob)] := (congrArg SgP.os hs).symm
  obtain ⟨o, so⟩ : ∃ o, s.os = [o] := by
    cases hc : s.os with
    | nil => rw [hc] at s4; cases s4
    | cons x l =>
      rw [hc] at s4
      cases l with
      | nil => exact ⟨x, rfl⟩
      | cons y l => simp at s4
  rw [so] at s4
  injection s4 with s4
  have o1 : o.kind = 1 := congrArg Prod.fst s4
  have o2 : o.bodys = ob := congrArg Prod.snd s4
  have hom : o ∈ s.os := by rw [so]; exact List.mem_singleton.2 rfl
  (repeat (first | apply Exists.intro (α := Int) | apply Exists.intro (α := Bool) | apply Exists.intro (α := ByteArray) | (apply Exists.intro (α := Option Addr); apply Exists.intro (α := Nat); apply Exists.intro (α := Nat)) | apply Exists.intro (α := Option Addr) | apply Exists.intro (α := Value)))
  refine ⟨rfl, ?_⟩
  refine h.allocZ fun q6 w' h => ?_
  refine h.stG (B := q6) (fun w' h => ?_) (hl := by rfl)
  refine leti rfl (ifnsame rfl ?_)
  refine h.rdI (B := q6) 1 (h.rdI (B := q6) 0 ?_)
  rw [s1, s2]
  refine RD.bld ?_
  (repeat (first | apply Exists.intro (α := Int) | apply Exists.intro (α := Bool) | apply Exists.intro (α := ByteArray) | (apply Exists.intro (α := Option Addr); apply Exists.intro (α := Nat); apply Exists.intro (α := Nat)) | apply Exists.intro (α := Option Addr) | apply Exists.intro (α := Value)))
  refine ⟨rfl, ?_⟩
  refine h.allocZ fun q8 w' h => ?_
  refine h.stG (B := q8) fun w' h => ?_
  refine h.rdG (B := q8) ?_
  (repeat (first | apply Exists.intro (α := Int) | apply Exists.intro (α := Bool) | apply Exists.intro (α := ByteArray) | (apply Exists.intro (α := Option Addr); apply Exists.intro (α := Nat); apply Exists.intro (α := Nat)) | apply Exists.intro (α := Option Addr) | apply Exists.intro (α := Value)))
  refine ⟨rfl, ?_⟩
  refine onH_ok (inH [_, _, _] h) hne hY fun w' h => ?_
  have h := outH [_, _, _] h
  simp only [List.cons_append, List.nil_append] at h
  (repeat (first | apply Exists.intro (α := Int) | apply Exists.intro (α := Bool) | apply Exists.intro (α := ByteArray) | (apply Exists.intro (α := Option Addr); apply Exists.intro (α := Nat); apply Exists.intro (α := Nat)) | apply Exists.intro (α := Option Addr) | apply Exists.intro (α := Value)))
  refine ⟨rfl, ?_⟩
  refine iff_ rfl (ifdf (by decide) (nilc ?_))
  refine h.rdI2 (B := p) 10 7 ?_
  refine ifdf (by show ¬ (g.paths ≤ 0); omega) ?_
  refine h.rdI (B := q6) 4 ?_
  refine ifnsame s3 ?_
  refine h.rdG (B := q6) ?_
  (repeat (first | apply Exists.intro (α := Int) | apply Exists.intro (α := Bool) | apply Exists.intro (α := ByteArray) | (apply Exists.intro (α := Option Addr); apply Exists.intro (α := Nat); apply Exists.intro (α := Nat)) | apply Exists.intro (α := Option Addr) | apply Exists.intro (α := Value)))
  refine ⟨rfl, ?_⟩
  refine one_ok (s := s) h (SgIn.here (.tail (.tail .head))) (by rw [so]; simp) (fun o' w' ho h => ?_) (fun hno => absurd (by rw [so]; simp [ofKind, o1]) hno)
  obtain rfl : o' = o := by
    rw [so] at ho
    simp [ofKind, o1] at ho
    exact ho.symm
  (repeat (first | apply Exists.intro (α := Int) | apply Exists.intro (α := Bool) | apply Exists.intro (α := ByteArray) | (apply Exists.intro (α := Option Addr); apply Exists.intro (α := Nat); apply Exists.intro (α := Nat)) | apply Exists.intro (α := Option Addr) | apply Exists.intro (α := Value)))
  refine ⟨rfl, ?_⟩
  refine h.allocZ fun q11 w' h => ?_
  refine h.stG (B := q11) fun w' h => ?_
  refine letb rfl (ift rfl ?_)
  refine h.rdG (B := q8) ?_
  (repeat (first | apply Exists.intro (α := Int) | apply Exists.intro (α := Bool) | apply Exists.intro (α := ByteArray) | (apply Exists.intro (α := Option Addr); apply Exists.intro (α := Nat); apply Exists.intro (α := Nat)) | apply Exists.intro (α := Option Addr) | apply Exists.intro (α := Value)))
  refine ⟨rfl, ?_⟩
  refine h.rdG (B := q6) ?_
  (repeat (first | apply Exists.intro (α := Int) | apply Exists.intro (α := Bool) | apply Exists.intro (α := ByteArray) | (apply Exists.intro (α := Option Addr); apply Exists.intro (α := Nat); apply Exists.intro (α := Nat)) | apply Exists.intro (α := Option Addr) | apply Exists.intro (α := Value)))
  refine ⟨rfl, ?_⟩
  refine h.rdG (B := q11) ?_
  (repeat (first | apply Exists.intro (α := Int) | apply Exists.intro (α := Bool) | apply Exists.intro (α := ByteArray) | (apply Exists.intro (α := Option Addr); apply Exists.intro (α := Nat); apply Exists.intro (α := Nat)) | apply Exists.intro (α := Option Addr) | apply Exists.intro (α := Value)))
  refine ⟨rfl, ?_⟩
  refine beginH_ok (s := s) (o := o') (inH [_, _, _, _] h) hg (SgIn.here (.tail (.tail (.tail .head)))) hok.src hsN hr hb hY (SgIn.opt (SgIn.here (.tail (.tail (.tail .head)))) hom) (cap o' hom) o1 (by rw [o2]; exact o8) (fun hf w' h => ⟨rfl, ?_⟩) fun f1 f2 y A' d' pA pC pk w' e h => ⟨rfl, ?_⟩
  · have h := outH [_, _, _, _] h
    exact hfull hf _ h.drop.drop.drop.drop
  · have h := outH [_, _, _, _, _, _] h
    have h := h.sub (show Sub _ ([own 202 2 pA 1 pC (([pk] : List Pkt).flatMap pkc), bodP [pk]] ++ hsP p r q { hoR g k0 k1 (sN + 1 + 1) unk ref (beg + 1) PA 1 PC r with post := pA, postN := 1, postC := pC } PA PC A' d' g (Y ++ [y]) L) from (.cons .head (.cons .head ((Sub.same _).more.more.more.more))))
    exact hroom f1 f2 y A' d' pA pC pk _ e (inH [_, _] h)
/-- One asks a host that listens nowhere. -/
theorem deliver0H_ok {g : Cfg} {k0 k1 sN unk ref beg a first : Int} {p r n k : Nat} {O : Option Addr} {ob : List UInt8} {bs : List UInt8} (h : St c w (blk p 66 (hst (hoR g k0 k1 sN unk ref beg none 0 0 r)) :: mp r [] :: L)) (hg : CfgOk g) (hu : 0 ≤ unk ∧ unk ≤ 100000)
    (hO : RdIn L O (bvs bs)) (hbs : bs = encB ⟨a, 80, first, 0, 1, [(1, ob)], []⟩) (hn : bs.length = n) (hC : n ≤ k) (hok : SgOk ⟨a, 80, first, 0, 1, [(1, ob)], []⟩) (o8 : ob.length = 8) (hbig : n ≤ 1000000) {Q : Value → World → Prop}
    (hk : ∀ w', St c w' (blk p 66 (hst (hoR g k0 k1 sN (unk + 1) ref beg none 0 0 r)) :: mp r [] :: L) → Q (.tuple #[]) w') :
    CALL PG 9 [.pointer (some ⟨p, 0, none⟩), .int .i64 0, .slice O n k] w Q := by
  have hpth : 1 ≤ g.paths := hg.2.1.2.2.2.1.1
  refine call9 ?_
  unfold N9
  have he := parse_enc hok
  rw [← hbs] at he
  refine parseC_ok h hO.more.more hn hC hbig (fun e e2 => by rw [he] at e2; cases e2) fun s hs cap w' h => ?_
  rw [he] at hs
  injection hs with hs
  have s1 : s.src = a := (congrArg SgP.src hs).symm
  have s2 : s.dst = 80 := (congrArg SgP.dst hs).symm
  have s3 : s.flags = 1 := (congrArg SgP.flags hs).symm
  have s4 : s.os.map opl = [(1, ob)] := (congrArg SgP.os hs).symm
  obtain ⟨o, so⟩ : ∃ o, s.os = [o] := by
    cases hc : s.os with
    | nil => rw [hc] at s4; cases s4
    | cons x l =>
      rw [hc] at s4
      cases l with
      | nil => exact ⟨x, rfl⟩
      | cons y l => simp at s4
  rw [so] at s4
  injection s4 with s4
  have o1 : o.kind = 1 := congrArg Prod.fst s4
  have o2 : o.bodys = ob := congrArg Prod.snd s4
  have hom : o ∈ s.os := by rw [so]; exact List.mem_singleton.2 rfl
  (repeat (first | apply Exists.intro (α := Int) | apply Exists.intro (α := Bool) | apply Exists.intro (α := ByteArray) | (apply Exists.intro (α := Option Addr); apply Exists.intro (α := Nat); apply Exists.intro (α := Nat)) | apply Exists.intro (α := Option Addr) | apply Exists.intro (α := Value)))
  refine ⟨rfl, ?_⟩
  refine h.allocZ fun q6 w' h => ?_
  refine h.stG (B := q6) (fun w' h => ?_) (hl := by rfl)
  refine leti rfl (ifnsame rfl ?_)
  refine h.rdI (B := q6) 1 (h.rdI (B := q6) 0 ?_)
  rw [s1, s2]
  refine RD.bld ?_
  (repeat (first | apply Exists.intro (α := Int) | apply Exists.intro (α := Bool) | apply Exists.intro (α := ByteArray) | (apply Exists.intro (α := Option Addr); apply Exists.intro (α := Nat); apply Exists.intro (α := Nat)) | apply Exists.intro (α := Option Addr) | apply Exists.intro (α := Value)))
  refine ⟨rfl, ?_⟩
  refine h.allocZ fun q8 w' h => ?_
  refine h.stG (B := q8) fun w' h => ?_
  refine h.rdG (B := q8) ?_
  (repeat (first | apply Exists.intro (α := Int) | apply Exists.intro (α := Bool) | apply Exists.intro (α := ByteArray) | (apply Exists.intro (α := Option Addr); apply Exists.intro (α := Nat); apply Exists.intro (α := Nat)) | apply Exists.intro (α := Option Addr) | apply Exists.intro (α := Value)))
  refine ⟨rfl, ?_⟩
  refine on0_ok (H := hoR g k0 k1 sN unk ref beg none 0 0 r) (h.sub (show Sub _ (blk p 66 (hst { hoR g k0 k1 sN unk ref beg none 0 0 r with conns := r, ports := none, portsN := 0, portsC := 0 }) :: mp r [] :: _) from (.cons (.tail (.tail (.tail .head))) (.cons (.tail (.tail (.tail .head))) (.cons .head (.cons .head (.cons .head ((Sub.same _))))))))) fun w' h => ?_
  (repeat (first | apply Exists.intro (α := Int) | apply Exists.intro (α := Bool) | apply Exists.intro (α := ByteArray) | (apply Exists.intro (α := Option Addr); apply Exists.intro (α := Nat); apply Exists.intro (α := Nat)) | apply Exists.intro (α := Option Addr) | apply Exists.intro (α := Value)))
  refine ⟨rfl, ?_⟩
  refine iff_ rfl (ifdf (by decide) (nilc ?_))
  refine h.rdI2 (B := p) 10 7 ?_
  refine ifdf (by show ¬ (g.paths ≤ 0); omega) ?_
  refine h.rdI (B := q6) 4 ?_
  refine ifnsame s3 ?_
  refine h.rdG (B := q6) ?_
  (repeat (first | apply Exists.intro (α := Int) | apply Exists.intro (α := Bool) | apply Exists.intro (α := ByteArray) | (apply Exists.intro (α := Option Addr); apply Exists.intro (α := Nat); apply Exists.intro (α := Nat)) | apply Exists.intro (α := Option Addr) | apply Exists.intro (α := Value)))
  refine ⟨rfl, ?_⟩
  refine one_ok (s := s) h (SgIn.here (.tail (.tail (.tail (.tail .head))))) (by rw [so]; simp) (fun o' w' ho h => ?_) (fun hno => absurd (by rw [so]; simp [ofKind, o1]) hno)
  obtain rfl : o' = o := by
    rw [so] at ho
    simp [ofKind, o1] at ho
    exact ho.symm
  (repeat (first | apply Exists.intro (α := Int) | apply Exists.intro (α := Bool) | apply Exists.intro (α := ByteArray) | (apply Exists.intro (α := Option Addr); apply Exists.intro (α := Nat); apply Exists.intro (α := Nat)) | apply Exists.intro (α := Option Addr) | apply Exists.intro (α := Value)))
  refine ⟨rfl, ?_⟩
  refine h.allocZ fun q11 w' h => ?_
  refine h.stG (B := q11) fun w' h => ?_
  refine letb rfl (ift rfl ?_)
  refine h.rdG (B := q8) ?_
  (repeat (first | apply Exists.intro (α := Int) | apply Exists.intro (α := Bool) | apply Exists.intro (α := ByteArray) | (apply Exists.intro (α := Option Addr); apply Exists.intro (α := Nat); apply Exists.intro (α := Nat)) | apply Exists.intro (α := Option Addr) | apply Exists.intro (α := Value)))
  refine ⟨rfl, ?_⟩
  refine h.rdG (B := q6) ?_
  (repeat (first | apply Exists.intro (α := Int) | apply Exists.intro (α := Bool) | apply Exists.intro (α := ByteArray) | (apply Exists.intro (α := Option Addr); apply Exists.intro (α := Nat); apply Exists.intro (α := Nat)) | apply Exists.intro (α := Option Addr) | apply Exists.intro (α := Value)))
  refine ⟨rfl, ?_⟩
  refine h.rdG (B := q11) ?_
  (repeat (first | apply Exists.intro (α := Int) | apply Exists.intro (α := Bool) | apply Exists.intro (α := ByteArray) | (apply Exists.intro (α := Option Addr); apply Exists.intro (α := Nat); apply Exists.intro (α := Nat)) | apply Exists.intro (α := Option Addr) | apply Exists.intro (α := Value)))
  refine ⟨rfl, ?_⟩
  refine begin0_ok (g := g) (k0 := k0) (k1 := k1) (sN := sN) (unk := unk) (ref := ref) (beg := beg) (r := r) (s := s) (o := o') (h.sub (show Sub _ (blk p 66 (hst (hoR g k0 k1 sN unk ref beg none 0 0 r)) :: _) from (.cons (.tail .head) (.cons (.tail .head) (.cons .head (.cons .head (.cons .head (.cons .head ((Sub.same _)))))))))) hu (SgIn.opt (SgIn.here (.tail (.tail (.tail (.tail .head))))) hom) (cap o' hom) o1 (by rw [o2]; exact o8) fun w' h => ⟨rfl, ?_⟩
  exact hk _ (h.sub (.cons .head (.cons .head ((Sub.same _).more.more.more.more))))
end
end Go.Br

/- What the code of some functions says, as the core reads it; each reading is checked by the kernel. -/
set_option linter.unusedVariables false
set_option maxRecDepth 100000
namespace Go.Br
open Go Go.Proofs

/-- brougham/broughamlaw23.seen -/
def N11 (c : Int) (c1 : Int) (c2 : Int) (c3 : Int) (c4 : Int) (c5 : Int) (c6 : Int) (c7 : Int) (c8 : Int) (c9 : Int) (w : World) (Q : Value → World → Prop) : Prop :=
 RUNA PG (Instr.box 52 (.agg #[(.int .i64 c), (.int .i64 c1), (.int .i64 c2), (.int .i64 c3), (.int .i64 c4), (.int .i64 c5), (.int .i64 c6), (.int .i64 c7), (.int .i64 c8), (.int .i64 c9)])) w fun a1 w1 =>
 RUNA PG (Instr.alloc 35 true (.tuple #[])) w1 fun a2 w2 =>
 RDI PG (loadVar 3 (Addr.add a1 0)) .i64 w2 fun x4 =>
 RDI PG (loadVar 3 (Addr.add a1 1)) .i64 w2 fun x6 =>
 RDI PG (loadVar 3 (Addr.add a1 2)) .i64 w2 fun x8 =>
 RDI PG (loadVar 3 (Addr.add a1 3)) .i64 w2 fun x10 =>
 RDI PG (loadVar 3 (Addr.add a1 4)) .i64 w2 fun x12 =>
 RDI PG (loadVar 3 (Addr.add a1 5)) .i64 w2 fun x14 =>
 RDI PG (loadVar 3 (Addr.add a1 6)) .i64 w2 fun x16 =>
 RDI PG (loadVar 3 (Addr.add a1 7)) .i64 w2 fun x18 =>
 RDI PG (loadVar 3 (Addr.add a1 8)) .i64 w2 fun x20 =>
 RDI PG (loadVar 3 (Addr.add a1 9)) .i64 w2 fun x22 =>
 RD PG (Instr.build 35 #[(0, (.int .i64 x4)), (1, (.int .i64 x6)), (2, (.int .i64 x8)), (3, (.int .i64 x10)), (4, (.int .i64 x12)), (5, (.int .i64 x14)), (6, (.int .i64 x16)), (7, (.int .i64 x18)), (8, (.int .i64 x20)), (9, (.int .i64 x22))]) w2 fun v =>
 ∃ x23 : Value, v = x23 ∧
 (RUNU PG (storeVar 35 a2 x23) w2 fun w3 =>
 RD PG (loadVar 35 a2) w3 fun v2 =>
 ∃ r : Value, v2 = r ∧
 (Q r w3))
theorem eq11 : ∀ (c : Int) (c1 : Int) (c2 : Int) (c3 : Int) (c4 : Int) (c5 : Int) (c6 : Int) (c7 : Int) (c8 : Int) (c9 : Int) (w : World) (Q : Value → World → Prop), vcF PG TB Tryz.f11 .nil [(.agg #[(.int .i64 c), (.int .i64 c1), (.int .i64 c2), (.int .i64 c3), (.int .i64 c4), (.int .i64 c5), (.int .i64 c6), (.int .i64 c7), (.int .i64 c8), (.int .i64 c9)])] w Q = N11 c c1 c2 c3 c4 c5 c6 c7 c8 c9 w Q := by intros; kernel_rfl
theorem call11 {c : Int} {c1 : Int} {c2 : Int} {c3 : Int} {c4 : Int} {c5 : Int} {c6 : Int} {c7 : Int} {c8 : Int} {c9 : Int} {w : World} {Q : Value → World → Prop} (hN : N11 c c1 c2 c3 c4 c5 c6 c7 c8 c9 w Q) : CALL PG 11 [(.agg #[(.int .i64 c), (.int .i64 c1), (.int .i64 c2), (.int .i64 c3), (.int .i64 c4), (.int .i64 c5), (.int .i64 c6), (.int .i64 c7), (.int .i64 c8), (.int .i64 c9)])] w Q := calls_vc tabOk Tryz.func11 (by rw [eq11]; exact hN)

end Go.Br

/- Who asks a host for a connection: one step of the law, whether it listens or not. -/
set_option linter.unusedVariables false
set_option linter.unusedSimpArgs false
set_option linter.unnecessarySimpa false
namespace Go.Br
open Go
instance biHostRef5a : Zro PG 35 10 80 (.agg #[.int .i64 0, .int .i64 0, .int .i64 0, .int .i64 0, .int .i64 0, .int .i64 0, .int .i64 0, .int .i64 0, .int .i64 0, .int .i64 0]) := ⟨tiOf (by kernel_rfl)⟩
attribute [local irreducible] Addr.add RD RDS RUN RUNU NILC LETB CALL CALLX CALLV

abbrev hsM (p r q : Nat) (H : Hst) (PA : Option Addr) (PC : Nat) (A : Option Addr) (d : Nat) (g : Cfg) (Y : List Hc) : List SA :=
  [blk p 66 (hst { H with conns := r, ports := PA, portsN := 1, portsC := PC }), mp r [], own 68 1 PA 1 PC (([some ⟨q, 0, none⟩] : List (Option Addr)).flatMap pv1), blk q 73 (prtH A Y.length d), own 81 1 A Y.length d ((hcA Y).flatMap pv1)] ++ Y.flatMap (hcQ g)
/-- The host, after so many have asked. -/
def HoSt (g : Cfg) (k0 k1 : Int) (p r : Nat) (lst : Bool) (j : Nat) (hf u f b : Int) (M : List SA) : Prop :=
  (lst = false ∧ hf = 0 ∧ u = j ∧ f = 0 ∧ b = 0 ∧ M = [blk p 66 (hst (hoR g k0 k1 0 u f b none 0 0 r)), mp r []]) ∨
  (lst = true ∧ ∃ q PA PC A d Y sN, hf = ((Y : List Hc).length : Int) ∧ u = 0 ∧ b = (Y.length : Int) ∧ f + b = j ∧ 0 ≤ f ∧ (0 ≤ sN ∧ sN ≤ 2 * (j : Int)) ∧ (∀ y ∈ Y, ∃ i : Nat, i < j ∧ y.rem = 2000 + (i : Int)) ∧ M = hsM p r q (hoR g k0 k1 sN u f b PA 1 PC r) PA PC A d g Y)
def cnts (u f b : Int) : List Value := [.int .i64 0, .int .i64 0, .int .i64 0, .int .i64 0, .int .i64 0, .int .i64 0, .int .i64 0, .int .i64 u, .int .i64 f, .int .i64 b]
section
variable {c : Ctx} {w : World} {L R : List SA} {g : Cfg} {k0 k1 : Int} {p r : Nat} {lst : Bool} {j : Nat} {hf u f b : Int} {M : List SA}
theorem seenA_ok (h : St c w (M ++ L)) (hs : HoSt g k0 k1 p r lst j hf u f b M) {Q : Value → World → Prop} (hk : ∀ w', St c w' (M ++ L) → Q (.agg (cnts u f b).toArray) w') : CALL PG 12 [.pointer (some ⟨p, 0, none⟩)] w Q := by
  rcases hs with ⟨rfl, rfl, rfl, rfl, rfl, rfl⟩ | ⟨rfl, q, PA, PC, A, d, Y, sN, rfl, rfl, rfl, h1, h2, h3, h4, rfl⟩
  · exact seen_ok h hk
  · exact seen_ok h hk
theorem sizesA_ok (h : St c w (M ++ L)) (hg : CfgOk g) (hj : j ≤ 1000) (hs : HoSt g k0 k1 p r lst j hf u f b M) {Q : Value → World → Prop} (hk : ∀ a b e f u w', St c w' (M ++ L) → Q (.agg (szc a hf b e f u).toArray) w') : CALL PG 13 [.pointer (some ⟨p, 0, none⟩)] w Q := by
  rcases hs with ⟨rfl, rfl, rfl, rfl, rfl, rfl⟩ | ⟨rfl, q, PA, PC, A, d, Y, sN, rfl, rfl, rfl, h1, h2, h3, h4, rfl⟩
  · exact sizes0_ok (H := hoR g k0 k1 0 j 0 0 none 0 0 r) h hk
  · exact sizesH_ok (H := hoR g k0 k1 sN 0 f Y.length PA 1 PC r) h hg (by omega) hk
/-- One asks; what went out is taken. -/
theorem dp_ok {O : Option Addr} {n k : Nat} {first : Int} {ob bs : List UInt8} (h : St c w (M ++ L)) (hs : HoSt g k0 k1 p r lst j hf u f b M) (hg : CfgOk g) (hj : j ≤ 1000)
    (hO : RdIn L O (bvs bs)) (hbs : bs = encB ⟨2000 + (j : Int), 80, first, 0, 1, [(1, ob)], []⟩) (hn : bs.length = n) (hC : n ≤ k) (hok : SgOk ⟨2000 + (j : Int), 80, first, 0, 1, [(1, ob)], []⟩) (o8 : ob.length = 8) (hbig : n ≤ 1000000) {Q : Value → World → Prop}
    (hk : ∀ w', (∀ {Q' : Value → World → Prop}, (∀ (A : Option Addr) (m d : Nat) (hf' u' f' b' : Int) (M' : List SA) (w'' : World), ((lst = false ∧ m = 0 ∧ hf' = hf ∧ u' = u + 1 ∧ f' = f ∧ b' = b) ∨ (lst = true ∧ (hf < g.half ∧ 0 < g.conns) ∧ m = 1 ∧ hf' = hf + 1 ∧ u' = u ∧ f' = f ∧ b' = b + 1) ∨ (lst = true ∧ ¬ (hf < g.half ∧ 0 < g.conns) ∧ m = 0 ∧ hf' = hf ∧ u' = u ∧ f' = f + 1 ∧ b' = b)) →
        HoSt g k0 k1 p r lst (j + 1) hf' u' f' b' M' → St c w'' (M' ++ L) → Q' (.slice A m d) w'') → CALL PG 10 [.pointer (some ⟨p, 0, none⟩)] w' Q') → Q (.tuple #[]) w') :
    CALL PG 9 [.pointer (some ⟨p, 0, none⟩), .int .i64 0, .slice O n k] w Q := by
  rcases hs with ⟨rfl, rfl, rfl, rfl, rfl, rfl⟩ | ⟨rfl, q, PA, PC, A, d, Y, sN, rfl, rfl, rfl, h1, h2, h3, h4, rfl⟩
  · refine deliver0H_ok (g := g) (k0 := k0) (k1 := k1) (sN := 0) (unk := j) (ref := 0) (beg := 0) h hg (by omega) hO hbs hn hC hok o8 hbig fun w' h => hk w' fun {Q'} hq => ?_
    refine hpost_ok (H := hoR g k0 k1 0 (j + 1) 0 0 none 0 0 r) h fun w'' h => ?_
    exact hq _ _ _ _ _ _ _ _ _ (.inl ⟨rfl, rfl, rfl, rfl, rfl, rfl⟩) (.inl ⟨rfl, rfl, by omega, rfl, rfl, rfl⟩) h
  · refine deliverH_ok (g := g) (k0 := k0) (k1 := k1) (sN := sN) (unk := 0) (ref := f) (beg := Y.length) h hg (by omega) (by omega) (by omega) (by omega) hO hbs hn hC hok o8 hbig (fun y hy e => ?_) (fun hfull w' h => hk w' fun {Q'} hq => ?_) fun f1 f2 y A' d' pA pC pk w' hy h => hk w' fun {Q'} hq => ?_
    · obtain ⟨i, h5, h6⟩ := h4 y hy
      omega
    · refine hpost_ok (H := hoR g k0 k1 sN 0 (f + 1) Y.length PA 1 PC r) h fun w'' h => ?_
      refine hq _ _ _ _ _ _ _ _ _ (.inr (.inr ⟨rfl, hfull, rfl, rfl, rfl, rfl, rfl⟩)) (.inr ⟨rfl, q, PA, PC, A, d, Y, sN, rfl, rfl, rfl, by omega, by omega, by omega, fun y hy => ?_, rfl⟩) h
      obtain ⟨i, h5, h6⟩ := h4 y hy
      exact ⟨i, by omega, h6⟩
    · refine hpost_ok (H := { hoR g k0 k1 (sN + 1 + 1) 0 f (Y.length + 1) PA 1 PC r with post := pA, postN := 1, postC := pC }) h fun w'' h => ?_
      have h : St c w'' (hsP p r q (hoR g k0 k1 (sN + 1 + 1) 0 f (Y.length + 1) PA 1 PC r) PA PC A' d' g (Y ++ [y]) ([own 202 2 pA 1 pC (([pk] : List Pkt).flatMap pkc), bodP [pk]] ++ L)) := h
      have h := outH _ h
      refine hq _ _ _ _ _ _ _ _ _ (.inr (.inl ⟨rfl, ⟨f1, f2⟩, rfl, rfl, rfl, rfl, rfl⟩)) (.inr ⟨rfl, q, PA, PC, A', d', Y ++ [y], sN + 1 + 1, by simp, rfl, by simp, by omega, by omega, by omega, fun z hz => ?_, rfl⟩) h.drop.drop
      rw [List.mem_append, List.mem_singleton] at hz
      rcases hz with hz | rfl
      · obtain ⟨i, h5, h6⟩ := h4 z hz
        exact ⟨i, by omega, h6⟩
      · exact ⟨j, by omega, hy⟩
theorem seen23_ok (h : St c w L) {Q : Value → World → Prop} (hk : ∀ w', St c w' L → Q (.agg (cnts u f b).toArray) w') : CALL PG 11 [.agg (cnts u f b).toArray] w Q := by
  refine call11 ?_
  unfold N11
  refine h.box (vs := cnts u f b) fun q1 w' h => ?_
  refine h.allocZ fun q2 w' h => ?_
  refine h.rdI (B := q1) 0 (h.rdI (B := q1) 1 (h.rdI (B := q1) 2 (h.rdI (B := q1) 3 (h.rdI (B := q1) 4 (h.rdI (B := q1) 5 (h.rdI (B := q1) 6 (h.rdI (B := q1) 7 (h.rdI (B := q1) 8 (h.rdI (B := q1) 9 ?_)))))))))
  have e : (Instr.build 35 #[(0, .int .i64 0), (1, .int .i64 0), (2, .int .i64 0), (3, .int .i64 0), (4, .int .i64 0), (5, .int .i64 0), (6, .int .i64 0), (7, .int .i64 u), (8, .int .i64 f), (9, .int .i64 b)]).run PG w' = .ok (.agg (cnts u f b).toArray) w' := by kernel_rfl
  refine RD.of e ⟨_, rfl, ?_⟩
  refine h.stG (B := q2) fun w' h => ?_
  refine h.rdG (B := q2) ⟨_, rfl, ?_⟩
  exact hk _ h.drop.drop
end
end Go.Br
