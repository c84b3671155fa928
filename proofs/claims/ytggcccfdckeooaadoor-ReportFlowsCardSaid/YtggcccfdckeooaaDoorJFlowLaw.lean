/- Flow, Flow2, NumText, FlowText, FlowText2, FlowLaw -/
import Derived.Test.YtggcccfdckeooaaDoorBrSeat
import Derived.Test.YtggcccfdckeooaaDoorJSegRef
import Derived.Test.YtggcccfdckeooaaDoorBrOwn
import Derived.Test.YtggcccfdckeooaaDoorJRepAlive
/- What the code of some functions says, as the core reads it; each reading is checked by the kernel. -/
set_option linter.unusedVariables false
set_option maxRecDepth 100000
namespace Go.Br
open Go Go.Proofs

/-- brougham/report.Flows -/
def N11 (l : Option Addr) (lN lC : Nat) (w : World) (Q : Value → World → Prop) : Prop :=
 ∃ I : Nat → Option Addr → Nat → Nat → Int → World → Prop,
 (∃ m, I m none 0 0 (0 : Int) w) ∧
 (∀ m1 (out : Option Addr) (outN outC : Nat) (x7 : Int) (w1 : World), I m1 out outN outC x7 w1 → (IFB (decide (x7 < (2 : Int)))
 (LETI x7 fun h =>
 ∃ I1 : Nat → Option Addr → Nat → Nat → Int → World → Prop,
 (∃ m2, I1 m2 out outN outC (0 : Int) w1) ∧
 (∀ m3 (out1 : Option Addr) (outN1 outC1 : Nat) (x10 : Int) (w2 : World), I1 m3 out1 outN1 outC1 x10 w2 → (IFB (decide (x10 < (128 : Int)))
 (LETI x10 fun p =>
 CALL PG 26 [(.slice l lN lC), (.int .i64 h), (.int .i64 p)] w2 fun v w3 =>
 ∃ x16 : Int, ∃ x16v1 : Int, ∃ x16v2 : Int, ∃ x16v3 : Int, ∃ x16v4 : Int, ∃ x16v5 : Int, v = (.agg #[(.int .i64 x16), (.int .i64 x16v1), (.int .i64 x16v2), (.int .i64 x16v3), (.int .i64 x16v4), (.int .i64 x16v5)]) ∧
 (RUNA PG (Instr.alloc 43 true (.tuple #[])) w3 fun a6 w4 =>
 RUNU PG (storeVar 43 a6 (.agg #[(.int .i64 x16), (.int .i64 x16v1), (.int .i64 x16v2), (.int .i64 x16v3), (.int .i64 x16v4), (.int .i64 x16v5)])) w4 fun w5 =>
 RDI PG (loadVar 3 (Addr.add a6 2)) .i64 w5 fun x18 =>
 IFB (decide (x18 > (0 : Int)))
 (RD PG (loadVar 43 a6) w5 fun v1 =>
 ∃ x21 : Int, ∃ x21v1 : Int, ∃ x21v2 : Int, ∃ x21v3 : Int, ∃ x21v4 : Int, ∃ x21v5 : Int, v1 = (.agg #[(.int .i64 x21), (.int .i64 x21v1), (.int .i64 x21v2), (.int .i64 x21v3), (.int .i64 x21v4), (.int .i64 x21v5)]) ∧
 (RUNL PG (Instr.buildSlice 36 1 #[(0, (.agg #[(.int .i64 x21), (.int .i64 x21v1), (.int .i64 x21v2), (.int .i64 x21v3), (.int .i64 x21v4), (.int .i64 x21v5)]))]) w5 fun x22 x22N x22C w6 =>
 RUNL PG (Builtin.append_ #[36, 36] 36 #[(.slice out1 outN1 outC1), (.slice x22 x22N x22C)]) w6 fun x23 x23N x23C w7 =>
 ∃ m4, m4 < m3 ∧ I1 m4 x23 x23N x23C (IntKind.i64.wrap (x10 + (1 : Int))) w7))
 (∃ m5, m5 < m3 ∧ I1 m5 out1 outN1 outC1 (IntKind.i64.wrap (x10 + (1 : Int))) w5)))
 (∃ m6, m6 < m1 ∧ I m6 out1 outN1 outC1 (IntKind.i64.wrap (x7 + (1 : Int))) w2))))
 (Q (.slice out outN outC) w1)))
theorem eq11 : ∀ (l : Option Addr) (lN lC : Nat) (w : World) (Q : Value → World → Prop), vcF PG TB Tryd.f11 (.s .nil (.s .nil (.s (.s .nil (.u (.loop [(3, 36), (7, 3)] (.s .nil (.s .nil (.s (.u (.s .nil (.s .nil (.u (.loop [(3, 36), (10, 3)] .nil))))) .nil)))))) .nil))) [(.slice l lN lC)] w Q = N11 l lN lC w Q := by intros; kernel_rfl
theorem call11 {l : Option Addr} {lN lC : Nat} {w : World} {Q : Value → World → Prop} (hN : N11 l lN lC w Q) : CALL PG 11 [(.slice l lN lC)] w Q := calls_vc tabOk Tryd.func11 (by rw [eq11]; exact hN)

/-- brougham/report.flow -/
def N26 (l : Option Addr) (lN lC : Nat) (h : Int) (p : Int) (w : World) (Q : Value → World → Prop) : Prop :=
 RUNA PG (Instr.alloc 43 true (.tuple #[])) w fun a6 w1 =>
 RD PG (Instr.build 43 #[(0, (.int .i64 h)), (1, (.int .i64 p))]) w1 fun v =>
 ∃ x15 : Int, ∃ x15v1 : Int, ∃ x15v2 : Int, ∃ x15v3 : Int, ∃ x15v4 : Int, ∃ x15v5 : Int, v = (.agg #[(.int .i64 x15), (.int .i64 x15v1), (.int .i64 x15v2), (.int .i64 x15v3), (.int .i64 x15v4), (.int .i64 x15v5)]) ∧
 (RUNA PG (Instr.alloc 43 true (.tuple #[])) w1 fun a7 w2 =>
 RUNU PG (storeVar 43 a7 (.agg #[(.int .i64 x15), (.int .i64 x15v1), (.int .i64 x15v2), (.int .i64 x15v3), (.int .i64 x15v4), (.int .i64 x15v5)])) w2 fun w3 =>
 ∃ I : Nat → Int → Int → World → Prop,
 (∃ m, I m (0 : Int) (0 : Int) w3) ∧
 (∀ m1 (first : Int) (x18 : Int) (w4 : World), I m1 first x18 w4 → (IFB (decide (x18 < (lN : Int)))
 (IDX l lN x18 fun a20 =>
 RD PG (loadVar 35 (Addr.add a20 (Int.toNat x18 * 4))) w4 fun v1 =>
 ∃ x21 : Int, ∃ x21v1 : Int, ∃ x21v2 : Int, ∃ (x21v3 : Option Addr) (x21N x21C : Nat), v1 = (.agg #[(.int .i64 x21), (.int .i64 x21v1), (.int .i64 x21v2), (.slice x21v3 x21N x21C)]) ∧
 (RUNA PG (Instr.alloc 35 true (.tuple #[])) w4 fun a10 w5 =>
 RUNU PG (storeVar 35 a10 (.agg #[(.int .i64 x21), (.int .i64 x21v1), (.int .i64 x21v2), (.slice x21v3 x21N x21C)])) w5 fun w6 =>
 RDI PG (loadVar 3 (Addr.add a10 1)) .i64 w6 fun x23 =>
 IFB (x23 != h)
 (∃ m2, m2 < m1 ∧ I m2 first (IntKind.i64.wrap (x18 + (1 : Int))) w6)
 (RDI PG (loadVar 3 (Addr.add a10 2)) .i64 w6 fun x28 =>
 IFB (x28 != p)
 (∃ m3, m3 < m1 ∧ I m3 first (IntKind.i64.wrap (x18 + (1 : Int))) w6)
 (∃ R : Int → World → Prop,
 (RDI PG (loadVar 3 (Addr.add a7 2)) .i64 w6 fun x33 =>
 IFB (x33 == (0 : Int))
 (RDI PG (loadVar 3 (Addr.add a10 0)) .i64 w6 fun x36 =>
 LETI x36 fun first1 =>
 R first1 w6)
 (R first w6)) ∧
 (∀ (first2 : Int) (w7 : World), R first2 w7 → (RDI PG (loadVar 3 (Addr.add a7 2)) .i64 w7 fun x38 =>
 RUNU PG (storeVar 3 (Addr.add a7 2) (.int .i64 (IntKind.i64.wrap (x38 + (1 : Int))))) w7 fun w8 =>
 RDI PG (loadVar 3 (Addr.add a10 0)) .i64 w8 fun x42 =>
 RUNU PG (storeVar 3 (Addr.add a7 4) (.int .i64 (IntKind.i64.wrap (x42 - first2)))) w8 fun w9 =>
 RDL PG (loadVar 33 (Addr.add a10 3)) w9 fun x48 x48N x48C =>
 CALL PG 39 [(.slice x48 x48N x48C)] w9 fun v2 w10 =>
 ∃ x49 : Int, ∃ x49v1 : Int, ∃ x49v2 : Int, ∃ x49v3 : Int, ∃ x49v4 : Int, ∃ (x49v5 : Option Addr) (x49N x49C : Nat), ∃ (x49v6 : Option Addr) (x49N1 x49C1 : Nat), ∃ x49v7 : Int, v2 = (.tuple #[(.agg #[(.int .u16 x49), (.int .u16 x49v1), (.int .u32 x49v2), (.int .u32 x49v3), (.int .u8 x49v4), (.slice x49v5 x49N x49C), (.slice x49v6 x49N1 x49C1)]), (.int .i64 x49v7)]) ∧
 (RUNA PG (Instr.alloc 66 true (.tuple #[])) w10 fun a11 w11 =>
 RUNU PG (storeVar 66 a11 (.agg #[(.int .u16 x49), (.int .u16 x49v1), (.int .u32 x49v2), (.int .u32 x49v3), (.int .u8 x49v4), (.slice x49v5 x49N x49C), (.slice x49v6 x49N1 x49C1)])) w11 fun w12 =>
 LETI x49v7 fun e =>
 IFB (e != (0 : Int))
 (RDI PG (loadVar 3 (Addr.add a7 5)) .i64 w12 fun x55 =>
 RUNU PG (storeVar 3 (Addr.add a7 5) (.int .i64 (IntKind.i64.wrap (x55 + (1 : Int))))) w12 fun w13 =>
 ∃ m4, m4 < m1 ∧ I m4 first2 (IntKind.i64.wrap (x18 + (1 : Int))) w13)
 (RDI PG (loadVar 3 (Addr.add a7 3)) .i64 w12 fun x59 =>
 RDL PG (loadVar 33 (Addr.add a11 6)) w12 fun x61 x61N x61C =>
 RUNU PG (storeVar 3 (Addr.add a7 3) (.int .i64 (IntKind.i64.wrap (x59 + (x61N : Int))))) w12 fun w14 =>
 ∃ m5, m5 < m1 ∧ I m5 first2 (IntKind.i64.wrap (x18 + (1 : Int))) w14))))))))
 (RD PG (loadVar 43 a7) w4 fun v3 =>
 ∃ x66 : Int, ∃ x66v1 : Int, ∃ x66v2 : Int, ∃ x66v3 : Int, ∃ x66v4 : Int, ∃ x66v5 : Int, v3 = (.agg #[(.int .i64 x66), (.int .i64 x66v1), (.int .i64 x66v2), (.int .i64 x66v3), (.int .i64 x66v4), (.int .i64 x66v5)]) ∧
 (RUNU PG (storeVar 43 a6 (.agg #[(.int .i64 x66), (.int .i64 x66v1), (.int .i64 x66v2), (.int .i64 x66v3), (.int .i64 x66v4), (.int .i64 x66v5)])) w4 fun w15 =>
 RD PG (loadVar 43 a6) w15 fun v5 =>
 ∃ r : Int, ∃ r1 : Int, ∃ r2 : Int, ∃ r3 : Int, ∃ r4 : Int, ∃ r5 : Int, v5 = (.agg #[(.int .i64 r), (.int .i64 r1), (.int .i64 r2), (.int .i64 r3), (.int .i64 r4), (.int .i64 r5)]) ∧
 (Q (.agg #[(.int .i64 r), (.int .i64 r1), (.int .i64 r2), (.int .i64 r3), (.int .i64 r4), (.int .i64 r5)]) w15))))))
theorem eq26 : ∀ (l : Option Addr) (lN lC : Nat) (h : Int) (p : Int) (w : World) (Q : Value → World → Prop), vcF PG TB Tryd.f26 (.s .nil (.s .nil (.s .nil (.s (.s .nil (.u (.loop [(8, 3), (18, 3)] (.s .nil (.s .nil (.s (.u (.s .nil (.s .nil (.cut [(8, 3)] .nil .nil)))) .nil)))))) .nil)))) [(.slice l lN lC), (.int .i64 h), (.int .i64 p)] w Q = N26 l lN lC h p w Q := by intros; kernel_rfl
theorem call26 {l : Option Addr} {lN lC : Nat} {h : Int} {p : Int} {w : World} {Q : Value → World → Prop} (hN : N26 l lN lC h p w Q) : CALL PG 26 [(.slice l lN lC), (.int .i64 h), (.int .i64 p)] w Q := calls_vc tabOk Tryd.func26 (by rw [eq26]; exact hN)

end Go.Br

/- What a capture says of each path to each host. -/
set_option linter.unusedVariables false
set_option linter.unusedSimpArgs false
set_option linter.unnecessarySimpa false
namespace Go.Br
open Go
instance biFlowa : Zro PG 43 6 48 (.agg #[.int .i64 0, .int .i64 0, .int .i64 0, .int .i64 0, .int .i64 0, .int .i64 0]) := ⟨tiOf (by kernel_rfl)⟩
instance biFlowb (x0 : Int) (x1 : Int) : Bld PG (Instr.build 43 #[(0, .int .i64 x0), (1, .int .i64 x1)]) (.agg #[.int .i64 x0, .int .i64 x1, .int .i64 0, .int .i64 0, .int .i64 0, .int .i64 0]) := ⟨fun w => by kernel_rfl⟩
instance biFlowc : Zro PG 35 4 48 (.agg #[.int .i64 0, .int .i64 0, .int .i64 0, .slice none 0 0]) := ⟨tiOf (by kernel_rfl)⟩
instance biFlowd : Zro PG 66 7 64 (.agg #[.int .u16 0, .int .u16 0, .int .u32 0, .int .u32 0, .int .u8 0, .slice none 0 0, .slice none 0 0]) := ⟨tiOf (by kernel_rfl)⟩
attribute [local irreducible] Addr.add RD RDS RUN RUNU NILC LETB CALL CALLX CALLV

structure Rec where
  tick : Int
  host : Int
  path : Int
  body : Option Addr
  bodyC : Nat
  bodys : List UInt8
def rcx (x : Rec) : List Value := [.int .i64 x.tick, .int .i64 x.host, .int .i64 x.path, .slice x.body x.bodys.length x.bodyC]
abbrev rcxv (x : Rec) : Value := .agg #[.int .i64 x.tick, .int .i64 x.host, .int .i64 x.path, .slice x.body x.bodys.length x.bodyC]
theorem rcx_length (x : Rec) : (rcx x).length = 4 := rfl
theorem rcx_flat1 (x : Rec) : Flat (rcx x) := by intro v hv; simp [rcx] at hv; rcases hv with rfl | rfl | rfl | rfl <;> rfl
theorem rcx_flat (L : List Rec) : Flat (L.flatMap rcx) := by
  intro v hv
  simp only [List.mem_flatMap] at hv
  obtain ⟨x, _, hx⟩ := hv
  exact rcx_flat1 x v hx
structure Fx where
  host : Int
  path : Int
  packets : Int
  data : Int
  ticks : Int
  bad : Int
def fx (x : Fx) : List Value := [.int .i64 x.host, .int .i64 x.path, .int .i64 x.packets, .int .i64 x.data, .int .i64 x.ticks, .int .i64 x.bad]
abbrev fxv (x : Fx) : Value := .agg #[.int .i64 x.host, .int .i64 x.path, .int .i64 x.packets, .int .i64 x.data, .int .i64 x.ticks, .int .i64 x.bad]
theorem fx_length (x : Fx) : (fx x).length = 6 := rfl
theorem fx_flat1 (x : Fx) : Flat (fx x) := by intro v hv; simp [fx] at hv; rcases hv with rfl | rfl | rfl | rfl | rfl | rfl <;> rfl
theorem fx_flat (L : List Fx) : Flat (L.flatMap fx) := by
  intro v hv
  simp only [List.mem_flatMap] at hv
  obtain ⟨x, _, hx⟩ := hv
  exact fx_flat1 x v hx
theorem tiFx : TI PG 43 6 48 (.agg #[.int .i64 0, .int .i64 0, .int .i64 0, .int .i64 0, .int .i64 0, .int .i64 0]) := tiOf (by kernel_rfl)
theorem tiFt : TI PG 44 6 48 (.agg #[.int .i64 0, .int .i64 0, .int .i64 0, .int .i64 0, .int .i64 0, .int .i64 0]) := tiOf (by kernel_rfl)
theorem huFx : PG.underlying 36 = some (.slice 43) := by kernel_rfl
theorem huFt : PG.underlying 38 = some (.slice 44) := by kernel_rfl
/-- A record of the document's: the bytes are a text. -/
def rcr (r : Rec) : List Value := [.int .i64 r.tick, .int .i64 r.host, .int .i64 r.path, .string (strOf r.bodys)]
structure Fls where
  packets : Int
  data : Int
  ticks : Int
  bad : Int
  first : Int
def flS (h p : Int) (s : Fls) (r : Rec) : Fls :=
  if r.host ≠ h ∨ r.path ≠ p then s
  else ⟨s.packets + 1, s.data + pdat r.bodys, r.tick - (if s.packets = 0 then r.tick else s.first), if perr r.bodys = 0 then s.bad else s.bad + 1, if s.packets = 0 then r.tick else s.first⟩
def flO (h p : Int) (l : List Rec) : Fls := l.foldl (flS h p) ⟨0, 0, 0, 0, 0⟩
theorem flO_take {h p : Int} {l : List Rec} {j : Nat} {r : Rec} (hr : l[j]? = some r) : flO h p (l.take (j + 1)) = flS h p (flO h p (l.take j)) r := by
  unfold flO
  rw [take_snoc' hr, List.foldl_append]
  rfl
structure RcB (l : List Rec) : Prop where
  many : l.length ≤ 100
  long : ∀ r ∈ l, r.bodys.length ≤ 2000
  cap : ∀ r ∈ l, r.bodys.length ≤ r.bodyC
  tick : ∀ r ∈ l, 0 ≤ r.tick ∧ r.tick < 2147483648
theorem pdat_le (bs : List UInt8) : pdat bs ≤ bs.length := by
  unfold pdat
  split
  · omega
  · rename_i s hs
    unfold parseS at hs
    split at hs
    · cases hs
    split at hs
    · cases hs
    split at hs
    · cases hs
    split at hs
    · cases hs
    injection hs with hs
    subst hs
    simp
theorem flO_bd {h p : Int} {l : List Rec} (hB : RcB l) : ∀ j, j ≤ l.length → 0 ≤ (flO h p (l.take j)).packets ∧ (flO h p (l.take j)).packets ≤ j ∧ 0 ≤ (flO h p (l.take j)).data ∧ (flO h p (l.take j)).data ≤ 2000 * j ∧ 0 ≤ (flO h p (l.take j)).bad ∧ (flO h p (l.take j)).bad ≤ j ∧
    0 ≤ (flO h p (l.take j)).first ∧ (flO h p (l.take j)).first < 2147483648 ∧ -2147483648 < (flO h p (l.take j)).ticks ∧ (flO h p (l.take j)).ticks < 2147483648
  | 0, _ => by simp [flO]
  | j + 1, hj => by
    have ih := flO_bd (h := h) (p := p) hB j (by omega)
    obtain ⟨r, hr⟩ := ex_get (L := l) (j := j) (by omega)
    have hm := List.mem_of_getElem? hr
    have h1 := hB.long r hm
    have h2 := hB.tick r hm
    have h3 := pdat_le r.bodys
    rw [flO_take hr]
    generalize flO h p (l.take j) = s at ih ⊢
    obtain ⟨i1, i2, i3, i4, i5, i6, i7, i8, i9, i10⟩ := ih
    unfold flS
    split
    · refine ⟨i1, ?_, i3, ?_, i5, ?_, i7, i8, i9, i10⟩ <;> omega
    · simp only
      refine ⟨by omega, by omega, by omega, by omega, ?_, ?_, ?_, ?_, ?_, ?_⟩ <;> split <;> omega
abbrev fcs (h p : Int) (s : Fls) : List Value := [.int .i64 h, .int .i64 p, .int .i64 s.packets, .int .i64 s.data, .int .i64 s.ticks, .int .i64 s.bad]
section
variable {c : Ctx} {w : World} {L R : List SA} {A B : Option Addr} {n C m d k : Nat}
theorem St.stringBytes {P : Program} {t s e : TypeId} {bs : List UInt8} {K : Option Addr → Nat → Nat → World → Prop} (h : St c w L) (hk : ∀ B d w', St c w' (Br.own e 1 (some ⟨B, 0, none⟩) bs.length d (bvs bs) :: L) → bs.length ≤ d → K (some ⟨B, 0, none⟩) bs.length d w')
    (hu : P.underlying t = some (.slice e) := by kernel_rfl) (hs : P.underlying s = some .string := by kernel_rfl) (he : P.underlying e = some (.int .u8) := by kernel_rfl) : RUNL P (convert s t (.string (strOf bs))) w K := by
  unfold RUNL
  exact (RUN.stringBytes (K := fun v w' => ∃ x N C, v = .slice x N C ∧ K x N C w') hu hs he fun w' B d kp hB ho => ⟨_, _, _, rfl, hk B d w' (h.new (F := [B]) (G := []) kp (own_p.2 ⟨rfl, rfl, ho⟩) (by simpa using hB) (by simp)) (by
    rcases ho with ⟨h1, _⟩ | ⟨B2, sp, h1, h2, h3, h4, h5⟩
    · cases h1
    · exact h5)⟩)
theorem parse_w (h : St c w L) {bs : List UInt8} (hr : RdIn L A (bvs bs)) (hn : bs.length = n) (hC : n ≤ C) (hb : n ≤ 1000000) {Q : Value → World → Prop}
    (hq : ∀ (a b x y z : Int) (s : Option Addr) (sn sd : Nat) (t : Option Addr) (tn td : Nat) w', St c w' L → tn = pdat bs → Q (.tuple #[.agg #[.int .u16 a, .int .u16 b, .int .u32 x, .int .u32 y, .int .u8 z, .slice s sn sd, .slice t tn td], .int .i64 (perr bs)]) w') :
    CALL PG 39 [.slice A n C] w Q := by
  refine parse_ok h hr hn hC hb (fun e he w' h => ?_) fun s hs w' h => ?_
  · have := perr_err he
    rw [← this.1]
    exact hq _ _ _ _ _ _ _ _ _ _ _ w' h this.2.symm
  · have := perr_ok hs
    rw [← this.1]
    exact hq _ _ _ _ _ _ _ _ _ _ _ w' h.drop this.2.symm
theorem flow_ok (h : St c w L) {l : List Rec} (hr : RdIn L A (l.flatMap rcx)) (hb : ∀ r ∈ l, RdIn L r.body (bvs r.bodys)) (hB : RcB l) {hh pp : Int} {Q : Value → World → Prop}
    (hk : ∀ w', St c w' L → Q (.agg (fcs hh pp (flO hh pp l)).toArray) w') : CALL PG 26 [.slice A l.length k, .int .i64 hh, .int .i64 pp] w Q := by
  have hl := hB.many
  refine call26 ?_
  unfold N26
  refine h.allocZ fun p w' h => ?_
  refine RD.bld ?_
  (repeat (first | apply Exists.intro (α := Int) | apply Exists.intro (α := Bool) | apply Exists.intro (α := ByteArray) | (apply Exists.intro (α := Option Addr); apply Exists.intro (α := Nat); apply Exists.intro (α := Nat)) | apply Exists.intro (α := Option Addr) | apply Exists.intro (α := Value)))
  refine ⟨rfl, ?_⟩
  refine h.allocZ fun p2 w' h => ?_
  refine h.stG fun w' h => ?_
  refine ⟨fun m f x w' => ∃ j : Nat, x = j ∧ m = l.length - j ∧ j ≤ l.length ∧ f = (flO hh pp (l.take j)).first ∧ St c w' (blk p2 43 (fcs hh pp (flO hh pp (l.take j))) :: blk p 43 (fcs 0 0 ⟨0, 0, 0, 0, 0⟩) :: L), ⟨_, 0, rfl, rfl, by omega, rfl, h⟩, ?_⟩
  clear h
  rintro m _ _ w' ⟨j, rfl, rfl, hj, rfl, h⟩
  refine ifd (fun hlt => ?_) fun hge => ?_
  rotate_left
  · have ej : l.take j = l := List.take_of_length_le (by omega)
    rw [ej] at h
    refine h.rdG ?_
    (repeat (first | apply Exists.intro (α := Int) | apply Exists.intro (α := Bool) | apply Exists.intro (α := ByteArray) | (apply Exists.intro (α := Option Addr); apply Exists.intro (α := Nat); apply Exists.intro (α := Nat)) | apply Exists.intro (α := Option Addr) | apply Exists.intro (α := Value)))
    refine ⟨rfl, ?_⟩
    refine h.stG fun w' h => ?_
    refine h.rdG ?_
    (repeat (first | apply Exists.intro (α := Int) | apply Exists.intro (α := Bool) | apply Exists.intro (α := ByteArray) | (apply Exists.intro (α := Option Addr); apply Exists.intro (α := Nat); apply Exists.intro (α := Nat)) | apply Exists.intro (α := Option Addr) | apply Exists.intro (α := Value)))
    refine ⟨rfl, ?_⟩
    exact hk _ h.drop.drop
  obtain ⟨r, hy⟩ := ex_get (L := l) (j := j) (by omega)
  have hm := List.mem_of_getElem? hy
  have bd := flO_bd (h := hh) (p := pp) hB j hj
  have bd2 := flO_bd (h := hh) (p := pp) hB (j + 1) (by omega)
  have eS := flO_take (h := hh) (p := pp) hy
  rw [eS] at bd2
  have hlong := hB.long r hm
  have hcap := hB.cap r hm
  have htick := hB.tick r hm
  have hpd := pdat_le r.bodys
  have nx : IntKind.i64.wrap ((j : Int) + 1) = ((j + 1 : Nat) : Int) := by rw [wrap_i64 (by omega) (by omega)]; omega
  generalize hs : flO hh pp (l.take j) = s at bd bd2 eS h
  refine h.ix (z := 3) hr.more.more hy (fun a ha => ?_) (by omega)
  have hr1 := hr
  rw [ha] at hr1
  refine h.rdEG hr1.more.more hy ?_
  (repeat (first | apply Exists.intro (α := Int) | apply Exists.intro (α := Bool) | apply Exists.intro (α := ByteArray) | (apply Exists.intro (α := Option Addr); apply Exists.intro (α := Nat); apply Exists.intro (α := Nat)) | apply Exists.intro (α := Option Addr) | apply Exists.intro (α := Value)))
  refine ⟨rfl, ?_⟩
  refine h.allocZ fun p3 w' h => ?_
  refine h.stG fun w' h => ?_
  have skip : ∀ w', flS hh pp s r = s → St c w' (blk p2 43 (fcs hh pp s) :: blk p 43 (fcs 0 0 ⟨0, 0, 0, 0, 0⟩) :: L) → ∃ m2, m2 < l.length - j ∧ ∃ j' : Nat, IntKind.i64.wrap ((j : Int) + 1) = j' ∧ m2 = l.length - j' ∧ j' ≤ l.length ∧ s.first = (flO hh pp (l.take j')).first ∧ St c w' (blk p2 43 (fcs hh pp (flO hh pp (l.take j'))) :: blk p 43 (fcs 0 0 ⟨0, 0, 0, 0, 0⟩) :: L) := fun w' he h =>
    ⟨_, by omega, j + 1, nx, rfl, by omega, by rw [eS, he], by rw [eS, he]; exact h⟩
  refine h.rdI 1 ?_
  refine ifn (fun e1 => skip _ (by unfold flS; rw [if_pos (.inl e1)]) h.drop) fun e1 => ?_
  refine h.rdI 2 ?_
  refine ifn (fun e2 => skip _ (by unfold flS; rw [if_pos (.inr e2)]) h.drop) fun e2 => ?_
  have eF : flS hh pp s r = ⟨s.packets + 1, s.data + pdat r.bodys, r.tick - (if s.packets = 0 then r.tick else s.first), if perr r.bodys = 0 then s.bad else s.bad + 1, if s.packets = 0 then r.tick else s.first⟩ := by
    unfold flS
    rw [if_neg (by rintro (h | h) <;> contradiction)]
  rw [eF] at eS bd2
  generalize hf : (if s.packets = 0 then r.tick else s.first) = f at eS bd2
  refine ⟨fun f' w' => f' = f ∧ St c w' (blk p3 35 (rcx r) :: blk p2 43 (fcs hh pp s) :: blk p 43 (fcs 0 0 ⟨0, 0, 0, 0, 0⟩) :: L), ?_, ?_⟩
  · refine h.rdI 2 ?_
    refine ifq (fun e => ?_) fun e => ?_
    · refine h.rdI 0 ?_
      exact leti rfl ⟨by rw [← hf, if_pos e], h⟩
    · exact ⟨by rw [← hf, if_neg e], h⟩
  clear h
  rintro f2 w' ⟨ef, h⟩
  subst ef
  simp only at bd2
  refine h.rdI 2 ?_
  refine h.st 2 fun w' h => ?_
  refine h.rdI 0 ?_
  refine h.st 4 fun w' h => ?_
  refine h.rdL 3 ?_
  rw [wrap_i64 (n := s.packets + 1) (by omega) (by omega), wrap_i64 (n := r.tick - f2) (by omega) (by omega)] at h
  refine parse_w h (hb r hm).more.more.more rfl hcap (by omega) fun a b x y z A1 n1 C1 A2 n2 C2 w' h e => ?_
  (repeat (first | apply Exists.intro (α := Int) | apply Exists.intro (α := Bool) | apply Exists.intro (α := ByteArray) | (apply Exists.intro (α := Option Addr); apply Exists.intro (α := Nat); apply Exists.intro (α := Nat)) | apply Exists.intro (α := Option Addr) | apply Exists.intro (α := Value)))
  refine ⟨rfl, ?_⟩
  refine h.allocZ fun p4 w' h => ?_
  refine h.stG fun w' h => ?_
  refine leti rfl ?_
  refine ifn (fun he => ?_) fun he => ?_
  · refine h.rdI (B := p2) 5 ?_
    refine h.st (B := p2) 5 fun w' h => ?_
    have hd0 : pdat r.bodys = 0 := by
      unfold perr at he
      unfold pdat
      split
      · rfl
      · rename_i s2 hs2
        rw [hs2] at he
        exact absurd rfl he
    rw [if_neg he, hd0] at eS bd2
    rw [wrap_i64 (n := s.bad + 1) (by omega) (by omega)] at h
    refine ⟨_, by omega, j + 1, nx, rfl, by omega, by rw [eS], ?_⟩
    rw [eS]
    simp only [Int.ofNat_zero, Int.add_zero]
    exact h.sub (.cons .head (.cons (.tail (.tail .head)) (Sub.same _).more.more))
  · refine h.rdI (B := p2) 3 ?_
    refine h.rdL (B := p4) 6 ?_
    refine h.st (B := p2) 3 fun w' h => ?_
    rw [if_pos he] at eS bd2
    rw [e, wrap_i64 (n := s.data + (pdat r.bodys : Int)) (by omega) (by omega)] at h
    refine ⟨_, by omega, j + 1, nx, rfl, by omega, by rw [eS], ?_⟩
    rw [eS]
    exact h.sub (.cons .head (.cons (.tail (.tail .head)) (Sub.same _).more.more))
/-- The flows of the first m pairs. -/
def fAt (l : List Rec) (i : Nat) : List Fx := let s := flO ((i / 128 : Nat) : Int) ((i % 128 : Nat) : Int) l; if 0 < s.packets then [⟨((i / 128 : Nat) : Int), ((i % 128 : Nat) : Int), s.packets, s.data, s.ticks, s.bad⟩] else []
def fTo (l : List Rec) (m : Nat) : List Fx := (List.range m).flatMap (fAt l)
theorem fTo_succ (l : List Rec) (m : Nat) : fTo l (m + 1) = fTo l m ++ fAt l m := by unfold fTo; rw [List.range_succ]; simp
theorem fTo_le (l : List Rec) : ∀ m, (fTo l m).length ≤ m
  | 0 => by simp [fTo]
  | m + 1 => by
    have := fTo_le l m
    rw [fTo_succ, List.length_append]
    have : (fAt l m).length ≤ 1 := by unfold fAt; simp only; split <;> simp
    omega
theorem fAt_yes {l : List Rec} {q p : Nat} (hp : p < 128) (h : 0 < (flO (q : Int) (p : Int) l).packets) : fAt l (128 * q + p) = [⟨(q : Int), (p : Int), (flO (q : Int) (p : Int) l).packets, (flO (q : Int) (p : Int) l).data, (flO (q : Int) (p : Int) l).ticks, (flO (q : Int) (p : Int) l).bad⟩] := by
  unfold fAt
  rw [show (128 * q + p) / 128 = q by omega, show (128 * q + p) % 128 = p by omega]
  simp only
  rw [if_pos h]
theorem fAt_no {l : List Rec} {q p : Nat} (hp : p < 128) (h : ¬ 0 < (flO (q : Int) (p : Int) l).packets) : fAt l (128 * q + p) = [] := by
  unfold fAt
  rw [show (128 * q + p) / 128 = q by omega, show (128 * q + p) % 128 = p by omega]
  simp only
  rw [if_neg h]
theorem flows_ok (h : St c w L) {l : List Rec} (hr : RdIn L A (l.flatMap rcx)) (hb : ∀ r ∈ l, RdIn L r.body (bvs r.bodys)) (hB : RcB l) {Q : Value → World → Prop}
    (hk : ∀ w' O d, St c w' (own 43 6 O (fTo l 256).length d ((fTo l 256).flatMap fx) :: L) → Q (.slice O (fTo l 256).length d) w') : CALL PG 11 [.slice A l.length k] w Q := by
  refine call11 ?_
  unfold N11
  have h := h.addOwnNil 43 6
  refine ⟨fun m O oN oC x w' => ∃ q : Nat, x = q ∧ m = 2 - q ∧ q ≤ 2 ∧ oN = (fTo l (128 * q)).length ∧ St c w' (own 43 6 O oN oC ((fTo l (128 * q)).flatMap fx) :: L), ⟨_, 0, rfl, rfl, by omega, rfl, h⟩, ?_⟩
  clear h
  rintro m O oN oC _ w' ⟨q, rfl, rfl, hq, rfl, h⟩
  refine ifd (fun hlt => leti rfl ?_) fun hge => ?_
  rotate_left
  · have e2 : q = 2 := by omega
    subst e2
    exact hk _ _ _ h
  refine ⟨fun m O oN oC x w' => ∃ p : Nat, x = p ∧ m = 128 - p ∧ p ≤ 128 ∧ oN = (fTo l (128 * q + p)).length ∧ St c w' (own 43 6 O oN oC ((fTo l (128 * q + p)).flatMap fx) :: L), ⟨_, 0, rfl, rfl, by omega, rfl, h⟩, ?_⟩
  clear h
  rintro m O oN oC _ w' ⟨p, rfl, rfl, hp, rfl, h⟩
  refine ifd (fun hlt2 => leti rfl ?_) fun hge2 => ?_
  rotate_left
  · have e2 : p = 128 := by omega
    subst e2
    exact ⟨_, by omega, q + 1, by rw [wrap_i64 (by omega) (by omega)]; omega, rfl, by omega, rfl, h⟩
  have nx : IntKind.i64.wrap ((p : Int) + 1) = ((p + 1 : Nat) : Int) := by rw [wrap_i64 (by omega) (by omega)]; omega
  refine flow_ok h hr.more (fun r hm => (hb r hm).more) hB fun w' h => ?_
  (repeat (first | apply Exists.intro (α := Int) | apply Exists.intro (α := Bool) | apply Exists.intro (α := ByteArray) | (apply Exists.intro (α := Option Addr); apply Exists.intro (α := Nat); apply Exists.intro (α := Nat)) | apply Exists.intro (α := Option Addr) | apply Exists.intro (α := Value)))
  refine ⟨rfl, ?_⟩
  refine h.allocZ fun p1 w' h => ?_
  refine h.stG fun w' h => ?_
  refine h.rdI 2 ?_
  have hlen := fTo_le l (128 * q + p)
  refine ifd (fun hpos => ?_) fun hz => ?_
  · have eA := fAt_yes (l := l) (q := q) (p := p) (by omega) hpos
    have eT := fTo_succ l (128 * q + p)
    rw [eA] at eT
    refine h.rdG ?_
    (repeat (first | apply Exists.intro (α := Int) | apply Exists.intro (α := Bool) | apply Exists.intro (α := ByteArray) | (apply Exists.intro (α := Option Addr); apply Exists.intro (α := Nat); apply Exists.intro (α := Nat)) | apply Exists.intro (α := Option Addr) | apply Exists.intro (α := Value)))
    refine ⟨rfl, ?_⟩
    refine h.app1 huFx tiFx (fcs (q : Int) (p : Int) (flO (q : Int) (p : Int) l)) (.tail .head) (by intro v hv; simp at hv; rcases hv with rfl | rfl | rfl | rfl | rfl | rfl <;> rfl) (by omega) fun O2 d2 w' h => ?_
    refine ⟨_, by omega, p + 1, nx, rfl, by omega, by rw [← Nat.add_assoc, eT]; simp, ?_⟩
    rw [← Nat.add_assoc, eT, List.flatMap_append]
    exact h.swap.drop
  · have eA := fAt_no (l := l) (q := q) (p := p) (by omega) hz
    have eT := fTo_succ l (128 * q + p)
    rw [eA, List.append_nil] at eT
    refine ⟨_, by omega, p + 1, nx, rfl, by omega, by rw [← Nat.add_assoc, eT], ?_⟩
    rw [← Nat.add_assoc, eT]
    exact h.drop
end
end Go.Br

/- What the code of some functions says, as the core reads it; each reading is checked by the kernel. -/
set_option linter.unusedVariables false
set_option maxRecDepth 100000
namespace Go.Br
open Go Go.Proofs

/-- brougham/broughamref37.Flows -/
def N12 (l : Option Addr) (lN lC : Nat) (w : World) (Q : Value → World → Prop) : Prop :=
 ∃ I : Nat → Option Addr → Nat → Nat → Int → World → Prop,
 (∃ m, I m none 0 0 (0 : Int) w) ∧
 (∀ m1 (out : Option Addr) (outN outC : Nat) (h : Int) (w1 : World), I m1 out outN outC h w1 → (IFB (decide (h < (2 : Int)))
 (∃ I1 : Nat → Option Addr → Nat → Nat → Int → World → Prop,
 (∃ m2, I1 m2 out outN outC (0 : Int) w1) ∧
 (∀ m3 (out1 : Option Addr) (outN1 outC1 : Nat) (p : Int) (w2 : World), I1 m3 out1 outN1 outC1 p w2 → (IFB (decide (p < (128 : Int)))
 (RD PG (Instr.build 44 #[(0, (.int .i64 h)), (1, (.int .i64 p))]) w2 fun v =>
 ∃ x21 : Int, ∃ x21v1 : Int, ∃ x21v2 : Int, ∃ x21v3 : Int, ∃ x21v4 : Int, ∃ x21v5 : Int, v = (.agg #[(.int .i64 x21), (.int .i64 x21v1), (.int .i64 x21v2), (.int .i64 x21v3), (.int .i64 x21v4), (.int .i64 x21v5)]) ∧
 (RUNA PG (Instr.alloc 44 true (.tuple #[])) w2 fun a6 w3 =>
 RUNU PG (storeVar 44 a6 (.agg #[(.int .i64 x21), (.int .i64 x21v1), (.int .i64 x21v2), (.int .i64 x21v3), (.int .i64 x21v4), (.int .i64 x21v5)])) w3 fun w4 =>
 ∃ I2 : Nat → Int → Int → World → Prop,
 (∃ m4, I2 m4 (0 : Int) (0 : Int) w4) ∧
 (∀ m5 (first : Int) (i : Int) (w5 : World), I2 m5 first i w5 → (IFB (decide (i < (lN : Int)))
 (IDX l lN i fun a30 =>
 RDI PG (loadVar 3 (Addr.add (Addr.add a30 (Int.toNat i * 4)) 1)) .i64 w5 fun x32 =>
 IFB (x32 != h)
 (LETI (IntKind.i64.wrap (i + (1 : Int))) fun i1 =>
 ∃ m6, m6 < m5 ∧ I2 m6 first i1 w5)
 (IDX l lN i fun a38 =>
 RDI PG (loadVar 3 (Addr.add (Addr.add a38 (Int.toNat i * 4)) 2)) .i64 w5 fun x40 =>
 IFB (x40 != p)
 (LETI (IntKind.i64.wrap (i + (1 : Int))) fun i2 =>
 ∃ m7, m7 < m5 ∧ I2 m7 first i2 w5)
 (∃ R : Int → World → Prop,
 (RDI PG (loadVar 3 (Addr.add a6 2)) .i64 w5 fun x45 =>
 IFB (x45 == (0 : Int))
 (IDX l lN i fun a49 =>
 RDI PG (loadVar 3 (Addr.add (Addr.add a49 (Int.toNat i * 4)) 0)) .i64 w5 fun x51 =>
 LETI x51 fun first1 =>
 R first1 w5)
 (R first w5)) ∧
 (∀ (first2 : Int) (w6 : World), R first2 w6 → (RDI PG (loadVar 3 (Addr.add a6 2)) .i64 w6 fun x53 =>
 RUNU PG (storeVar 3 (Addr.add a6 2) (.int .i64 (IntKind.i64.wrap (x53 + (1 : Int))))) w6 fun w7 =>
 IDX l lN i fun a58 =>
 RDI PG (loadVar 3 (Addr.add (Addr.add a58 (Int.toNat i * 4)) 0)) .i64 w7 fun x60 =>
 RUNU PG (storeVar 3 (Addr.add a6 4) (.int .i64 (IntKind.i64.wrap (x60 - first2)))) w7 fun w8 =>
 IDX l lN i fun a67 =>
 RDT PG (loadVar 9 (Addr.add (Addr.add a67 (Int.toNat i * 4)) 3)) w8 fun x69 =>
 RUNL PG (convert 9 33 (.string x69)) w8 fun x70 x70N x70C w9 =>
 CALL PG 27 [(.slice x70 x70N x70C)] w9 fun v1 w10 =>
 ∃ x71 : Int, ∃ x71v1 : Int, ∃ x71v2 : Int, ∃ x71v3 : Int, ∃ x71v4 : Int, ∃ (x71v5 : Option Addr) (x71N x71C : Nat), ∃ (x71v6 : Option Addr) (x71N1 x71C1 : Nat), ∃ x71v7 : Int, v1 = (.tuple #[(.agg #[(.int .u16 x71), (.int .u16 x71v1), (.int .u32 x71v2), (.int .u32 x71v3), (.int .u8 x71v4), (.slice x71v5 x71N x71C), (.slice x71v6 x71N1 x71C1)]), (.int .i64 x71v7)]) ∧
 (RUNA PG (Instr.alloc 66 true (.tuple #[])) w10 fun a9 w11 =>
 RUNU PG (storeVar 66 a9 (.agg #[(.int .u16 x71), (.int .u16 x71v1), (.int .u32 x71v2), (.int .u32 x71v3), (.int .u8 x71v4), (.slice x71v5 x71N x71C), (.slice x71v6 x71N1 x71C1)])) w11 fun w12 =>
 LETI x71v7 fun e =>
 IFB (e != (0 : Int))
 (RDI PG (loadVar 3 (Addr.add a6 5)) .i64 w12 fun x77 =>
 RUNU PG (storeVar 3 (Addr.add a6 5) (.int .i64 (IntKind.i64.wrap (x77 + (1 : Int))))) w12 fun w13 =>
 RDI PG (loadVar 3 (Addr.add a6 3)) .i64 w13 fun x81 =>
 RDL PG (loadVar 33 (Addr.add a9 6)) w13 fun x83 x83N x83C =>
 RUNU PG (storeVar 3 (Addr.add a6 3) (.int .i64 (IntKind.i64.wrap (x81 + (x83N : Int))))) w13 fun w14 =>
 LETI (IntKind.i64.wrap (i + (1 : Int))) fun i3 =>
 ∃ m8, m8 < m5 ∧ I2 m8 first2 i3 w14)
 (RDI PG (loadVar 3 (Addr.add a6 3)) .i64 w12 fun x81v1 =>
 RDL PG (loadVar 33 (Addr.add a9 6)) w12 fun x83v1 x83N1 x83C1 =>
 RUNU PG (storeVar 3 (Addr.add a6 3) (.int .i64 (IntKind.i64.wrap (x81v1 + (x83N1 : Int))))) w12 fun w15 =>
 LETI (IntKind.i64.wrap (i + (1 : Int))) fun i4 =>
 ∃ m9, m9 < m5 ∧ I2 m9 first2 i4 w15)))))))
 (RDI PG (loadVar 3 (Addr.add a6 2)) .i64 w5 fun x88 =>
 IFB (decide (x88 > (0 : Int)))
 (RD PG (loadVar 44 a6) w5 fun v2 =>
 ∃ x91 : Int, ∃ x91v1 : Int, ∃ x91v2 : Int, ∃ x91v3 : Int, ∃ x91v4 : Int, ∃ x91v5 : Int, v2 = (.agg #[(.int .i64 x91), (.int .i64 x91v1), (.int .i64 x91v2), (.int .i64 x91v3), (.int .i64 x91v4), (.int .i64 x91v5)]) ∧
 (RUNL PG (Instr.buildSlice 38 1 #[(0, (.agg #[(.int .i64 x91), (.int .i64 x91v1), (.int .i64 x91v2), (.int .i64 x91v3), (.int .i64 x91v4), (.int .i64 x91v5)]))]) w5 fun x92 x92N x92C w16 =>
 RUNL PG (Builtin.append_ #[38, 38] 38 #[(.slice out1 outN1 outC1), (.slice x92 x92N x92C)]) w16 fun x93 x93N x93C w17 =>
 LETI (IntKind.i64.wrap (p + (1 : Int))) fun p1 =>
 ∃ m10, m10 < m3 ∧ I1 m10 x93 x93N x93C p1 w17))
 (LETI (IntKind.i64.wrap (p + (1 : Int))) fun p2 =>
 ∃ m11, m11 < m3 ∧ I1 m11 out1 outN1 outC1 p2 w5))))))
 (LETI (IntKind.i64.wrap (h + (1 : Int))) fun h1 =>
 ∃ m12, m12 < m1 ∧ I m12 out1 outN1 outC1 h1 w2))))
 (Q (.slice out outN outC) w1)))
theorem eq12 : ∀ (l : Option Addr) (lN lC : Nat) (w : World) (Q : Value → World → Prop), vcF PG TB Tryd.f12 (.s .nil (.s .nil (.s (.s .nil (.u (.loop [(3, 38), (4, 3)] (.s .nil (.s (.u (.s .nil (.u (.loop [(3, 38), (5, 3)] (.s .nil (.s (.u (.s .nil (.s .nil (.s (.s .nil (.u (.loop [(7, 3), (8, 3)] (.s .nil (.s (.u (.s .nil (.cut [(7, 3)] .nil .nil))) .nil))))) .nil)))) .nil)))))) .nil))))) .nil))) [(.slice l lN lC)] w Q = N12 l lN lC w Q := by intros; kernel_rfl
theorem call12 {l : Option Addr} {lN lC : Nat} {w : World} {Q : Value → World → Prop} (hN : N12 l lN lC w Q) : CALL PG 12 [(.slice l lN lC)] w Q := calls_vc tabOk Tryd.func12 (by rw [eq12]; exact hN)

/-- brougham/broughamlaw37.plain -/
def N13 (l : Option Addr) (lN lC : Nat) (w : World) (Q : Value → World → Prop) : Prop :=
 ∃ I : Nat → Option Addr → Nat → Nat → Int → World → Prop,
 (∃ m, I m none 0 0 (0 : Int) w) ∧
 (∀ m1 (out : Option Addr) (outN outC : Nat) (i : Int) (w1 : World), I m1 out outN outC i w1 → (IFB (decide (i < (lN : Int)))
 (IDX l lN i fun a14 =>
 RDI PG (loadVar 3 (Addr.add (Addr.add a14 (Int.toNat i * 4)) 0)) .i64 (w1.drew) fun x16 =>
 IDX l lN i fun a19 =>
 RDI PG (loadVar 3 (Addr.add (Addr.add a19 (Int.toNat i * 4)) 1)) .i64 (w1.drew) fun x21 =>
 IDX l lN i fun a24 =>
 RDI PG (loadVar 3 (Addr.add (Addr.add a24 (Int.toNat i * 4)) 2)) .i64 (w1.drew) fun x26 =>
 IDX l lN i fun a29 =>
 RDL PG (loadVar 33 (Addr.add (Addr.add a29 (Int.toNat i * 4)) 3)) (w1.drew) fun x31 x31N x31C =>
 RDT PG (convert 33 9 (.slice x31 x31N x31C)) (w1.drew) fun x32 =>
 RD PG (Instr.build 61 #[(0, (.int .i64 x16)), (1, (.int .i64 x21)), (2, (.int .i64 x26)), (3, (.string x32))]) (w1.drew) fun v =>
 ∃ x33 : Int, ∃ x33v1 : Int, ∃ x33v2 : Int, ∃ x33v3 : ByteArray, v = (.agg #[(.int .i64 x33), (.int .i64 x33v1), (.int .i64 x33v2), (.string x33v3)]) ∧
 (RUNL PG (Instr.buildSlice 40 1 #[(0, (.agg #[(.int .i64 x33), (.int .i64 x33v1), (.int .i64 x33v2), (.string x33v3)]))]) (w1.drew) fun x34 x34N x34C w2 =>
 RUNL PG (Builtin.append_ #[40, 40] 40 #[(.slice out outN outC), (.slice x34 x34N x34C)]) w2 fun x35 x35N x35C w3 =>
 LETI (IntKind.i64.wrap (i + (1 : Int))) fun i1 =>
 ∃ m2, m2 < m1 ∧ I m2 x35 x35N x35C i1 w3))
 (Q (.slice out outN outC) w1)))
theorem eq13 : ∀ (l : Option Addr) (lN lC : Nat) (w : World) (Q : Value → World → Prop), vcF PG TB Tryd.f13 (.s .nil (.s .nil (.s (.s .nil (.u (.loop [(3, 40), (4, 3)] .nil))) .nil))) [(.slice l lN lC)] w Q = N13 l lN lC w Q := by intros; kernel_rfl
theorem call13 {l : Option Addr} {lN lC : Nat} {w : World} {Q : Value → World → Prop} (hN : N13 l lN lC w Q) : CALL PG 13 [(.slice l lN lC)] w Q := calls_vc tabOk Tryd.func13 (by rw [eq13]; exact hN)

end Go.Br

/- The document's flows; and records as the document's. -/
set_option linter.unusedVariables false
set_option linter.unusedSimpArgs false
set_option linter.unnecessarySimpa false
namespace Go.Br
open Go
instance biFlow2a (x0 : Int) (x1 : Int) : Bld PG (Instr.build 44 #[(0, .int .i64 x0), (1, .int .i64 x1)]) (.agg #[.int .i64 x0, .int .i64 x1, .int .i64 0, .int .i64 0, .int .i64 0, .int .i64 0]) := ⟨fun w => by kernel_rfl⟩
instance biFlow2b : Zro PG 44 6 48 (.agg #[.int .i64 0, .int .i64 0, .int .i64 0, .int .i64 0, .int .i64 0, .int .i64 0]) := ⟨tiOf (by kernel_rfl)⟩
instance biFlow2c : Zro PG 66 7 64 (.agg #[.int .u16 0, .int .u16 0, .int .u32 0, .int .u32 0, .int .u8 0, .slice none 0 0, .slice none 0 0]) := ⟨tiOf (by kernel_rfl)⟩
instance biFlow2d (x0 : Int) (x1 : Int) (x2 : Int) (x3 : ByteArray) : Bld PG (Instr.build 61 #[(0, .int .i64 x0), (1, .int .i64 x1), (2, .int .i64 x2), (3, .string x3)]) (.agg #[.int .i64 x0, .int .i64 x1, .int .i64 x2, .string x3]) := ⟨fun w => by kernel_rfl⟩
attribute [local irreducible] Addr.add RD RDS RUN RUNU NILC LETB CALL CALLX CALLV

theorem tiRT : TI PG 61 4 40 (.agg #[.int .i64 0, .int .i64 0, .int .i64 0, .string (ByteArray.mk #[])]) := tiOf (by kernel_rfl)
theorem huRT : PG.underlying 40 = some (.slice 61) := by kernel_rfl
theorem rcr_flat1 (r : Rec) : Flat (rcr r) := by intro v hv; simp [rcr] at hv; rcases hv with rfl | rfl | rfl | rfl <;> rfl
instance biRT (a b d : Int) (s : ByteArray) : Bld PG (Instr.build 61 #[(0, .int .i64 a), (1, .int .i64 b), (2, .int .i64 d), (3, .string s)]) (.agg #[.int .i64 a, .int .i64 b, .int .i64 d, .string s]) := ⟨fun w => by kernel_rfl⟩
section
variable {c : Ctx} {w : World} {L R : List SA} {A B : Option Addr} {n C m d k : Nat}
theorem plain_ok (h : St c w L) {l : List Rec} (hr : RdIn L A (l.flatMap rcx)) (hb : ∀ r ∈ l, RdIn L r.body (bvs r.bodys)) (hB : RcB l) {Q : Value → World → Prop}
    (hk : ∀ w' O d, St c w' (own 61 4 O l.length d (l.flatMap rcr) :: L) → Q (.slice O l.length d) w') : CALL PG 13 [.slice A l.length k] w Q := by
  have hl := hB.many
  refine call13 ?_
  unfold N13
  have h := h.addOwnNil 61 4
  refine ⟨fun m O oN oC x w' => ∃ j : Nat, x = j ∧ m = l.length - j ∧ j ≤ l.length ∧ oN = j ∧ St c w' (own 61 4 O oN oC ((l.take j).flatMap rcr) :: L), ⟨_, 0, rfl, rfl, by omega, rfl, h⟩, ?_⟩
  clear h
  rintro m O oN oC _ w' ⟨j, rfl, rfl, hj, hoN, h⟩
  refine ifd (fun hlt => ?_) fun hge => ?_
  rotate_left
  · have ej : j = l.length := by omega
    rw [ej] at hoN
    rw [ej, List.take_length] at h
    subst hoN
    exact hk _ _ _ h
  obtain ⟨r, hy⟩ := ex_get (L := l) (j := j) (by omega)
  have hm := List.mem_of_getElem? hy
  have hlong := hB.long r hm
  have h := h.drew
  refine h.ix (z := 3) hr.more hy (fun a ha => ?_) (by omega)
  have hr1 := hr
  rw [ha] at hr1
  refine h.rdEI 0 hr1.more hy ?_
  refine h.ix (z := 3) hr.more hy (fun a2 ha => ?_) (by omega)
  have hr2 := hr
  rw [ha] at hr2
  refine h.rdEI 1 hr2.more hy ?_
  refine h.ix (z := 3) hr.more hy (fun a3 ha => ?_) (by omega)
  have hr3 := hr
  rw [ha] at hr3
  refine h.rdEI 2 hr3.more hy ?_
  refine h.ix (z := 3) hr.more hy (fun a4 ha => ?_) (by omega)
  have hr4 := hr
  rw [ha] at hr4
  refine h.rdEL 3 hr4.more hy ?_
  refine h.bytesToString (e := 5) (hb r hm).more rfl ?_
  refine RD.bld ?_
  (repeat (first | apply Exists.intro (α := Int) | apply Exists.intro (α := Bool) | apply Exists.intro (α := ByteArray) | (apply Exists.intro (α := Option Addr); apply Exists.intro (α := Nat); apply Exists.intro (α := Nat)) | apply Exists.intro (α := Option Addr) | apply Exists.intro (α := Value)))
  refine ⟨rfl, ?_⟩
  refine h.app1 huRT tiRT (rcr r) .head (rcr_flat1 r) (by omega) fun O2 d2 w' h => ?_
  refine leti (y := ((j + 1 : Nat) : Int)) (by rw [wrap_i64 (by omega) (by omega)]; omega) ⟨_, ?_, j + 1, rfl, rfl, by omega, by omega, ?_⟩
  · omega
  · rw [take_snoc' hy, List.flatMap_append]
    simpa using h
theorem rflows_ok (h : St c w L) {l : List Rec} (hr : RdIn L A (l.flatMap rcr)) (hB : RcB l) {Q : Value → World → Prop}
    (hk : ∀ w' O d, St c w' (own 44 6 O (fTo l 256).length d ((fTo l 256).flatMap fx) :: L) → Q (.slice O (fTo l 256).length d) w') : CALL PG 12 [.slice A l.length k] w Q := by
  have hl := hB.many
  refine call12 ?_
  unfold N12
  have h := h.addOwnNil 44 6
  refine ⟨fun m O oN oC x w' => ∃ q : Nat, x = q ∧ m = 2 - q ∧ q ≤ 2 ∧ oN = (fTo l (128 * q)).length ∧ St c w' (own 44 6 O oN oC ((fTo l (128 * q)).flatMap fx) :: L), ⟨_, 0, rfl, rfl, by omega, rfl, h⟩, ?_⟩
  clear h
  rintro m O oN oC _ w' ⟨q, rfl, rfl, hq, rfl, h⟩
  refine ifd (fun hlt => ?_) fun hge => ?_
  rotate_left
  · have e2 : q = 2 := by omega
    subst e2
    exact hk _ _ _ h
  refine ⟨fun m O oN oC x w' => ∃ p : Nat, x = p ∧ m = 128 - p ∧ p ≤ 128 ∧ oN = (fTo l (128 * q + p)).length ∧ St c w' (own 44 6 O oN oC ((fTo l (128 * q + p)).flatMap fx) :: L), ⟨_, 0, rfl, rfl, by omega, rfl, h⟩, ?_⟩
  clear h
  rintro m O oN oC _ w' ⟨p, rfl, rfl, hp, rfl, h⟩
  refine ifd (fun hlt2 => ?_) fun hge2 => ?_
  rotate_left
  · have e2 : p = 128 := by omega
    subst e2
    exact leti (y := ((q + 1 : Nat) : Int)) (by rw [wrap_i64 (by omega) (by omega)]; omega) ⟨_, by omega, q + 1, rfl, rfl, by omega, rfl, h⟩
  have nxp : IntKind.i64.wrap ((p : Int) + 1) = ((p + 1 : Nat) : Int) := by rw [wrap_i64 (by omega) (by omega)]; omega
  have hlen := fTo_le l (128 * q + p)
  refine RD.bld ?_
  (repeat (first | apply Exists.intro (α := Int) | apply Exists.intro (α := Bool) | apply Exists.intro (α := ByteArray) | (apply Exists.intro (α := Option Addr); apply Exists.intro (α := Nat); apply Exists.intro (α := Nat)) | apply Exists.intro (α := Option Addr) | apply Exists.intro (α := Value)))
  refine ⟨rfl, ?_⟩
  refine h.allocZ fun p2 w' h => ?_
  refine h.stG fun w' h => ?_
  refine ⟨fun m f x w' => ∃ j : Nat, x = j ∧ m = l.length - j ∧ j ≤ l.length ∧ f = (flO (q : Int) (p : Int) (l.take j)).first ∧ St c w' (blk p2 44 (fcs (q : Int) (p : Int) (flO (q : Int) (p : Int) (l.take j))) :: own 44 6 O _ oC ((fTo l (128 * q + p)).flatMap fx) :: L), ⟨_, 0, rfl, rfl, by omega, rfl, h⟩, ?_⟩
  clear h
  rintro m _ _ w' ⟨j, rfl, rfl, hj, rfl, h⟩
  refine ifd (fun hlt3 => ?_) fun hge3 => ?_
  rotate_left
  · have ej : l.take j = l := List.take_of_length_le (by omega)
    rw [ej] at h
    refine h.rdI 2 ?_
    refine ifd (fun hpos => ?_) fun hz => ?_
    · have eA := fAt_yes (l := l) (q := q) (p := p) (by omega) hpos
      have eT := fTo_succ l (128 * q + p)
      rw [eA] at eT
      refine h.rdG ?_
      (repeat (first | apply Exists.intro (α := Int) | apply Exists.intro (α := Bool) | apply Exists.intro (α := ByteArray) | (apply Exists.intro (α := Option Addr); apply Exists.intro (α := Nat); apply Exists.intro (α := Nat)) | apply Exists.intro (α := Option Addr) | apply Exists.intro (α := Value)))
      refine ⟨rfl, ?_⟩
      refine h.app1 huFt tiFt (fcs (q : Int) (p : Int) (flO (q : Int) (p : Int) l)) (.tail .head) (by intro v hv; simp at hv; rcases hv with rfl | rfl | rfl | rfl | rfl | rfl <;> rfl) (by omega) fun O2 d2 w' h => ?_
      refine leti nxp ⟨_, by omega, p + 1, rfl, rfl, by omega, by rw [← Nat.add_assoc, eT]; simp, ?_⟩
      rw [← Nat.add_assoc, eT, List.flatMap_append]
      exact h.swap.drop
    · have eA := fAt_no (l := l) (q := q) (p := p) (by omega) hz
      have eT := fTo_succ l (128 * q + p)
      rw [eA, List.append_nil] at eT
      refine leti nxp ⟨_, by omega, p + 1, rfl, rfl, by omega, by rw [← Nat.add_assoc, eT], ?_⟩
      rw [← Nat.add_assoc, eT]
      exact h.drop
  obtain ⟨r, hy⟩ := ex_get (L := l) (j := j) (by omega)
  have hm := List.mem_of_getElem? hy
  have bd := flO_bd (h := (q : Int)) (p := (p : Int)) hB j hj
  have bd2 := flO_bd (h := (q : Int)) (p := (p : Int)) hB (j + 1) (by omega)
  have eS := flO_take (h := (q : Int)) (p := (p : Int)) hy
  rw [eS] at bd2
  have hlong := hB.long r hm
  have htick := hB.tick r hm
  have hpd := pdat_le r.bodys
  have nx : IntKind.i64.wrap ((j : Int) + 1) = ((j + 1 : Nat) : Int) := by rw [wrap_i64 (by omega) (by omega)]; omega
  generalize hs : flO (q : Int) (p : Int) (l.take j) = s at bd bd2 eS h
  have skip : ∀ w', flS (q : Int) (p : Int) s r = s → St c w' (blk p2 44 (fcs (q : Int) (p : Int) s) :: own 44 6 O (fTo l (128 * q + p)).length oC ((fTo l (128 * q + p)).flatMap fx) :: L) → ∃ m2, m2 < l.length - j ∧ ∃ j' : Nat, ((j + 1 : Nat) : Int) = j' ∧ m2 = l.length - j' ∧ j' ≤ l.length ∧ s.first = (flO (q : Int) (p : Int) (l.take j')).first ∧ St c w' (blk p2 44 (fcs (q : Int) (p : Int) (flO (q : Int) (p : Int) (l.take j'))) :: own 44 6 O (fTo l (128 * q + p)).length oC ((fTo l (128 * q + p)).flatMap fx) :: L) := fun w' he h =>
    ⟨_, by omega, j + 1, rfl, rfl, by omega, by rw [eS, he], by rw [eS, he]; exact h⟩
  refine h.ix (z := 3) hr.more.more hy (fun a ha => ?_) (by omega)
  have hr1 := hr
  rw [ha] at hr1
  refine h.rdEI 1 hr1.more.more hy ?_
  refine ifn (fun e1 => leti nx (skip _ (by unfold flS; rw [if_pos (.inl e1)]) h)) fun e1 => ?_
  refine h.ix (z := 3) hr.more.more hy (fun a2 ha2 => ?_) (by omega)
  have hr2 := hr
  rw [ha2] at hr2
  refine h.rdEI 2 hr2.more.more hy ?_
  refine ifn (fun e2 => leti nx (skip _ (by unfold flS; rw [if_pos (.inr e2)]) h)) fun e2 => ?_
  have eF : flS (q : Int) (p : Int) s r = ⟨s.packets + 1, s.data + pdat r.bodys, r.tick - (if s.packets = 0 then r.tick else s.first), if perr r.bodys = 0 then s.bad else s.bad + 1, if s.packets = 0 then r.tick else s.first⟩ := by
    unfold flS
    rw [if_neg (fun h9 => h9.elim (fun h9 => h9 e1) fun h9 => h9 e2)]
  rw [eF] at eS bd2
  generalize hf : (if s.packets = 0 then r.tick else s.first) = f at eS bd2
  refine ⟨fun f' w' => f' = f ∧ St c w' (blk p2 44 (fcs (q : Int) (p : Int) s) :: own 44 6 O (fTo l (128 * q + p)).length oC ((fTo l (128 * q + p)).flatMap fx) :: L), ?_, ?_⟩
  · refine h.rdI 2 ?_
    refine ifq (fun e => ?_) fun e => ?_
    · refine h.ix (z := 3) hr.more.more hy (fun a3 ha3 => ?_) (by omega)
      have hr3 := hr
      rw [ha3] at hr3
      refine h.rdEI 0 hr3.more.more hy ?_
      exact leti rfl ⟨by rw [← hf, if_pos e], h⟩
    · exact ⟨by rw [← hf, if_neg e], h⟩
  clear h
  rintro f2 w' ⟨ef, h⟩
  subst ef
  simp only at bd2
  refine h.rdI 2 ?_
  refine h.st 2 fun w' h => ?_
  refine h.ix (z := 3) hr.more.more hy (fun a4 ha4 => ?_) (by omega)
  have hr4 := hr
  rw [ha4] at hr4
  refine h.rdEI 0 hr4.more.more hy ?_
  refine h.st 4 fun w' h => ?_
  rw [wrap_i64 (n := s.packets + 1) (by omega) (by omega), wrap_i64 (n := r.tick - f2) (by omega) (by omega)] at h
  refine h.ix (z := 3) hr.more.more hy (fun a5 ha5 => ?_) (by omega)
  have hr5 := hr
  rw [ha5] at hr5
  refine h.rdET 3 hr5.more.more hy ?_
  refine h.stringBytes (e := 5) fun B1 d1 w' h hd1 => ?_
  refine rparse_ok h (RdIn.own .head) rfl hd1 (by omega) fun a b x y z A1 n1 C1 A2 n2 C2 w' h e => ?_
  (repeat (first | apply Exists.intro (α := Int) | apply Exists.intro (α := Bool) | apply Exists.intro (α := ByteArray) | (apply Exists.intro (α := Option Addr); apply Exists.intro (α := Nat); apply Exists.intro (α := Nat)) | apply Exists.intro (α := Option Addr) | apply Exists.intro (α := Value)))
  refine ⟨rfl, ?_⟩
  refine h.allocZ fun p4 w' h => ?_
  refine h.stG fun w' h => ?_
  refine leti rfl ?_
  refine ifn (fun he => ?_) fun he => ?_
  · refine h.rdI (B := p2) 5 ?_
    refine h.st (B := p2) 5 fun w' h => ?_
    refine h.rdI (B := p2) 3 ?_
    refine h.rdL (B := p4) 6 ?_
    refine h.st (B := p2) 3 fun w' h => ?_
    rw [if_neg he] at eS bd2
    simp only [List.set_cons_succ, List.set_cons_zero] at h
    rw [e, wrap_i64 (n := s.bad + 1) (by omega) (by omega), wrap_i64 (n := s.data + (pdat r.bodys : Int)) (by omega) (by omega)] at h
    refine leti nx ⟨_, by omega, j + 1, rfl, rfl, by omega, by rw [eS], ?_⟩
    rw [eS]
    exact h.sub (.cons .head (.cons (.tail (.tail .head)) (Sub.same _).more.more))
  · refine h.rdI (B := p2) 3 ?_
    refine h.rdL (B := p4) 6 ?_
    refine h.st (B := p2) 3 fun w' h => ?_
    rw [if_pos he] at eS bd2
    rw [e, wrap_i64 (n := s.data + (pdat r.bodys : Int)) (by omega) (by omega)] at h
    refine leti nx ⟨_, by omega, j + 1, rfl, rfl, by omega, by rw [eS], ?_⟩
    rw [eS]
    exact h.sub (.cons .head (.cons (.tail (.tail .head)) (Sub.same _).more.more))
end
end Go.Br

/- What the code of some functions says, as the core reads it; each reading is checked by the kernel. -/
set_option linter.unusedVariables false
set_option maxRecDepth 100000
namespace Go.Br
open Go Go.Proofs

/-- brougham/num.Text -/
def N19 (n : Int) (w : World) (Q : Value → World → Prop) : Prop :=
 RUNA PG (Instr.alloc 72 true (.tuple #[])) w fun a3 w1 =>
 LETI (maxN n (0 : Int)) fun n1 =>
 ∃ I : Nat → Int → Int → World → Prop,
 (∃ m, I m n1 (20 : Int) w1) ∧
 (∀ m1 (n2 : Int) (atv : Int) (w2 : World), I m1 n2 atv w2 → (LETI (IntKind.i64.wrap (atv - (1 : Int))) fun atv1 =>
 NEED ((10 : Int) ≠ 0)
 (NEED (0 ≤ atv1 ∧ atv1 < ((20 : Nat) : Int))
 (RUNU PG (storeVar 5 (Addr.add a3 (Int.toNat atv1 * 1)) (.int .u8 (IntKind.u8.wrap (IntKind.i64.wrap ((48 : Int) + (Int.tmod n2 (10 : Int))))))) w2 fun w3 =>
 IFB (decide (n2 < (10 : Int)))
 (RDL PG (Instr.sliceAt 72 (.pointer (some a3)) (some (.int .i64 atv1)) none none) w3 fun x20 x20N x20C =>
 RDT PG (convert 33 9 (.slice x20 x20N x20C)) w3 fun x21 =>
 LETS x21 fun x2 =>
 Q (.string x2) w3)
 (NEED ((10 : Int) ≠ 0)
 (LETI (IntKind.i64.wrap (Int.tdiv n2 (10 : Int))) fun n3 =>
 ∃ m2, m2 < m1 ∧ I m2 n3 atv1 w3))))))
theorem eq19 : ∀ (n : Int) (w : World) (Q : Value → World → Prop), vcF PG TB Tryd.f19 (.s .nil (.s .nil (.s .nil (.s .nil (.u (.loop [(0, 3), (4, 3)] .nil)))))) [(.int .i64 n)] w Q = N19 n w Q := by intros; kernel_rfl
theorem call19 {n : Int} {w : World} {Q : Value → World → Prop} (hN : N19 n w Q) : CALL PG 19 [(.int .i64 n)] w Q := calls_vc tabOk Tryd.func19 (by rw [eq19]; exact hN)

/-- brougham/broughamref01.Text -/
def N21 (n : Int) (w : World) (Q : Value → World → Prop) : Prop :=
 IFB (decide (n < (10 : Int)))
 (IFB (decide (n < (0 : Int)))
 (NEED (0 ≤ (0 : Int) ∧ (0 : Int) ≤ (IntKind.i64.wrap ((0 : Int) + (1 : Int))) ∧ (IntKind.i64.wrap ((0 : Int) + (1 : Int))) ≤ (ByteArray.mk #[48, 49, 50, 51, 52, 53, 54, 55, 56, 57]).size)
 (LETS (cutS (ByteArray.mk #[48, 49, 50, 51, 52, 53, 54, 55, 56, 57]) (0 : Int) (IntKind.i64.wrap ((0 : Int) + (1 : Int)))) fun x2 =>
 Q (.string x2) w))
 (NEED (0 ≤ n ∧ n ≤ (IntKind.i64.wrap (n + (1 : Int))) ∧ (IntKind.i64.wrap (n + (1 : Int))) ≤ (ByteArray.mk #[48, 49, 50, 51, 52, 53, 54, 55, 56, 57]).size)
 (LETS (cutS (ByteArray.mk #[48, 49, 50, 51, 52, 53, 54, 55, 56, 57]) n (IntKind.i64.wrap (n + (1 : Int)))) fun x2v1 =>
 Q (.string x2v1) w)))
 (∃ S : World → Prop, S (w.drew) ∧
 (NEED ((10 : Int) ≠ 0)
 (NEED ((10 : Int) ≠ 0)
 (NEED ((10 : Int) ≠ 0)
 (NEED (0 ≤ (Int.tmod n (10 : Int)) ∧ (Int.tmod n (10 : Int)) ≤ (IntKind.i64.wrap ((Int.tmod n (10 : Int)) + (1 : Int))) ∧ (IntKind.i64.wrap ((Int.tmod n (10 : Int)) + (1 : Int))) ≤ (ByteArray.mk #[48, 49, 50, 51, 52, 53, 54, 55, 56, 57]).size)
 (CALL PG 21 [(.int .i64 (IntKind.i64.wrap (Int.tdiv n (10 : Int))))] (w.drew) fun v w1 =>
 ∃ x13 : ByteArray, v = (.string x13) ∧
 (∃ S1 : World → Prop, (∀ x, S1 x → S x) ∧ S1 w1 ∧
 (NEED (((x13.size + (cutS (ByteArray.mk #[48, 49, 50, 51, 52, 53, 54, 55, 56, 57]) (Int.tmod n (10 : Int)) (IntKind.i64.wrap ((Int.tmod n (10 : Int)) + (1 : Int)))).size : Nat) : Int) ≤ IntKind.i64.max)
 (LETS (x13 ++ (cutS (ByteArray.mk #[48, 49, 50, 51, 52, 53, 54, 55, 56, 57]) (Int.tmod n (10 : Int)) (IntKind.i64.wrap ((Int.tmod n (10 : Int)) + (1 : Int))))) fun x2v2 =>
 Q (.string x2v2) w1)))))))))
theorem eq21 : ∀ (n : Int) (w : World) (Q : Value → World → Prop), vcF PG TB Tryd.f21 .nil [(.int .i64 n)] w Q = N21 n w Q := by intros; kernel_rfl
theorem call21 {n : Int} {w : World} {Q : Value → World → Prop} (hN : N21 n w Q) : CALL PG 21 [(.int .i64 n)] w Q := calls_vc tabOk Tryd.func21 (by rw [eq21]; exact hN)

end Go.Br

/- A count in digits: of the program and of the document. -/
set_option linter.unusedVariables false
set_option linter.unusedSimpArgs false
set_option linter.unnecessarySimpa false
namespace Go.Br
open Go
instance biNumTexta : Zro PG 72 20 20 (.agg #[.int .u8 0, .int .u8 0, .int .u8 0, .int .u8 0, .int .u8 0, .int .u8 0, .int .u8 0, .int .u8 0, .int .u8 0, .int .u8 0, .int .u8 0, .int .u8 0, .int .u8 0, .int .u8 0, .int .u8 0, .int .u8 0, .int .u8 0, .int .u8 0, .int .u8 0, .int .u8 0]) := ⟨tiOf (by kernel_rfl)⟩
attribute [local irreducible] Addr.add RD RDS RUN RUNU NILC LETB CALL CALLX CALLV

theorem tiA20 : TI PG 72 20 20 (.agg #[.int .u8 0, .int .u8 0, .int .u8 0, .int .u8 0, .int .u8 0, .int .u8 0, .int .u8 0, .int .u8 0, .int .u8 0, .int .u8 0, .int .u8 0, .int .u8 0, .int .u8 0, .int .u8 0, .int .u8 0, .int .u8 0, .int .u8 0, .int .u8 0, .int .u8 0, .int .u8 0]) := tiOf (by kernel_rfl)
theorem RDL.arrFrom {P : Program} {w : World} {t e : TypeId} {N B i : Nat} {K : Option Addr → Nat → Nat → Prop} (hi : i < N) (hk : K (some (Addr.add ⟨B, 0, none⟩ i)) (N - i) (N - i)) (hu : P.underlying t = some (.array N e) := by kernel_rfl) (hz : sizeAt P e = some 1 := by kernel_rfl) :
    RDL P (Instr.sliceAt t (.pointer (some ⟨B, 0, none⟩)) (some (.int .i64 (i : Int))) none none) w K := by
  unfold sizeAt at hz
  cases hi2 : P.info? e with
  | none => simp [hi2] at hz
  | some inf =>
    have hz2 : inf.size = 1 := by simpa [hi2] using hz
    have hb : (Instr.sliceBounds false N N (some (.int .i64 (i : Int))) none none).run P w = .ok (i, N, N) w := by
      unfold Instr.sliceBounds
      simp [sliceBound_ok (P := P) (k := .i64) (show 0 ≤ (i : Int) by omega) (show (i : Int) ≤ (N : Int) by omega)]
    unfold RDL
    refine RD.of (v := .slice (some (Addr.add ⟨B, 0, none⟩ i)) (N - i) (N - i)) ?_ ⟨_, _, _, rfl, hk⟩
    simp [Instr.sliceAt, Instr.sureAddr, run_und hu, hb, sizeOf, run_info hi2, hz2, show ¬ N = i by omega]
theorem RdIn.blkFrom {L : List SA} {B i : Nat} {T : TypeId} {X Y : List Value} (hi : X.length = i) : RdIn (Br.blk B T (X ++ Y) :: L) (some (Addr.add ⟨B, 0, none⟩ i)) Y := fun c w h j v hj => by
  refine ⟨_, rfl, ?_⟩
  have hb : Blk w B T (X ++ Y) := h.blk .head
  rw [add_lit, add_lit, hb.cell, List.getElem?_append_right (by omega)]
  rw [show 0 + i + j - X.length = j by omega]
  exact hj
theorem set_rep {a : Nat} {v z : Value} {Y : List Value} : (List.replicate (a + 1) z ++ Y).set a v = List.replicate a z ++ v :: Y := by
  rw [List.set_append_left _ _ (by simp), List.replicate_succ', List.set_append_right _ _ (by simp)]
  simp
theorem digs_len : ∀ n, (digs n).length ≤ n + 1 := fun n => by
  rcases Nat.lt_or_ge n 10 with h | h
  · rw [digs_lt h]; simp
  · have := digs_len (n / 10)
    rw [digs_ge h, List.length_append, List.length_singleton]
    omega
termination_by n => n
decreasing_by omega
theorem dig10 {d : Nat} (h : d < 10) : cutS (ByteArray.mk #[48, 49, 50, 51, 52, 53, 54, 55, 56, 57]) (d : Int) ((d : Int) + 1) = strOf [UInt8.ofNat (48 + d)] := by
  match d, h with
  | 0, _ => rfl
  | 1, _ => rfl
  | 2, _ => rfl
  | 3, _ => rfl
  | 4, _ => rfl
  | 5, _ => rfl
  | 6, _ => rfl
  | 7, _ => rfl
  | 8, _ => rfl
  | 9, _ => rfl
  | n + 10, h => omega
theorem dig8 {d : Nat} (h : d < 10) : Value.int .u8 (IntKind.u8.wrap (IntKind.i64.wrap (48 + (d : Int)))) = bv (UInt8.ofNat (48 + d)) := by
  match d, h with
  | 0, _ => rfl
  | 1, _ => rfl
  | 2, _ => rfl
  | 3, _ => rfl
  | 4, _ => rfl
  | 5, _ => rfl
  | 6, _ => rfl
  | 7, _ => rfl
  | 8, _ => rfl
  | 9, _ => rfl
  | n + 10, h => omega
section
variable {c : Ctx} {w : World} {L R : List SA} {A B : Option Addr} {n C m d k : Nat}
theorem text_ok (h : St c w L) {n : Int} (hn : n ≤ 1000000000000000000) {Q : Value → World → Prop} (hk : ∀ w', St c w' L → Q (.string (strOf (digsI n))) w') : CALL PG 19 [.int .i64 n] w Q := by
  refine call19 ?_
  unfold N19
  refine h.allocG tiA20 fun p w' h => ?_
  have e0 : maxN n 0 = (n.toNat : Int) := by unfold maxN; split <;> omega
  refine leti e0 ?_
  unfold digsI at hk
  have hn2 : n.toNat ≤ 1000000000000000000 := by omega
  generalize n.toNat = N at hk hn2
  have e20 : (10 : Nat) ^ 20 = 100000000000000000000 := by decide
  refine ⟨fun m x y w' => ∃ (r a : Nat) (D : List UInt8), x = r ∧ y = a ∧ a = m ∧ r ≤ N ∧ r < 10 ^ a ∧ (1 ≤ r ∨ a = 20) ∧ digs N = digs r ++ D ∧ D.length + a = 20 ∧ St c w' (blk p 72 (List.replicate a (Value.int .u8 0) ++ bvs D) :: L), ⟨_, N, 20, [], rfl, rfl, rfl, Nat.le_refl _, by omega, .inr rfl, by simp, rfl, h⟩, ?_⟩
  clear h
  rintro m _ _ w' ⟨r, a, D, rfl, rfl, ema, hrN, hr, ha, hd, hD, h⟩
  subst ema
  obtain ⟨a, rfl⟩ : ∃ b, a = b + 1 := by
    match a, ha, hr with
    | 0, ha, hr => exfalso; rw [Nat.pow_zero] at hr; omega
    | b + 1, _, _ => exact ⟨b, rfl⟩
  have hm : Int.tmod (r : Int) 10 = ((r % 10 : Nat) : Int) := by rw [Int.tmod_eq_emod_of_nonneg (by omega)]; omega
  have hq : Int.tdiv (r : Int) 10 = ((r / 10 : Nat) : Int) := by rw [Int.tdiv_eq_ediv_of_nonneg (by omega)]; omega
  refine leti (y := (a : Int)) (by rw [wrap_i64 (by omega) (by omega)]; omega) ⟨by decide, ⟨by omega, by omega⟩, ?_⟩
  rw [hm, hq, dig8 (Nat.mod_lt _ (by decide)), Int.toNat_natCast, Nat.mul_one]
  refine h.st a (hv := rfl) (ho := by simp; omega) fun w' h => ?_
  rw [set_rep] at h
  have h : St c w' (blk p 72 (List.replicate a (Value.int .u8 0) ++ bvs (UInt8.ofNat (48 + r % 10) :: D)) :: L) := h
  refine ifd (fun hlt => ?_) fun hge => ⟨by decide, ?_⟩
  · refine RDL.arrFrom (e := 5) (i := a) (N := 20) (by omega) ?_
    refine h.bytesToString (e := 5) (bs := UInt8.ofNat (48 + r % 10) :: D) (RdIn.blkFrom (by simp)) (by simp; omega) ?_
    refine lets rfl ?_
    rw [digs_lt (n := r) (by omega)] at hd
    rw [show r % 10 = r by omega]
    rw [hd] at hk
    exact hk _ h.drop
  · have h20 : (10 : Nat) ^ (a + 1) ≤ 10 ^ 20 := Nat.pow_le_pow_right (by decide) (by omega)
    refine leti (y := ((r / 10 : Nat) : Int)) (by rw [wrap_i64 (by omega) (by omega)]) ⟨_, ?_, r / 10, a, UInt8.ofNat (48 + r % 10) :: D, rfl, rfl, rfl, by omega, ?_, .inl (by omega), ?_, by simp; omega, h⟩
    · omega
    · rw [Nat.pow_succ] at hr
      omega
    · rw [hd, digs_ge (n := r) (by omega)]
      simp
theorem rtext_ok : ∀ {w : World} {L : List SA} (h : St c w L) {n : Int} (hn : n ≤ 1000000000000000000) {Q : Value → World → Prop} (hk : ∀ w', St c w' L → Q (.string (strOf (digsI n))) w'), CALL PG 21 [.int .i64 n] w Q := fun {w L} h {n} hn {Q} hk => by
  refine call21 ?_
  unfold N21
  have es : (ByteArray.mk #[48, 49, 50, 51, 52, 53, 54, 55, 56, 57]).size = 10 := rfl
  refine ifd (fun hlt => ?_) fun hge => ?_
  · refine ifd (fun hneg => ?_) fun hpos => ?_
    · refine ⟨⟨by decide, by decide, by decide⟩, lets rfl ?_⟩
      have e : digsI n = [48] := by unfold digsI; rw [show n.toNat = 0 by omega, digs_lt (by decide)]; rfl
      rw [e] at hk
      exact hk _ h
    · obtain ⟨d, rfl⟩ : ∃ d : Nat, n = d := ⟨n.toNat, by omega⟩
      rw [wrap_i64 (by omega) (by omega)]
      refine ⟨⟨by omega, by omega, by rw [es]; omega⟩, lets (dig10 (by omega)) ?_⟩
      have e : digsI (d : Int) = [UInt8.ofNat (48 + d)] := by unfold digsI; rw [Int.toNat_natCast, digs_lt (by omega)]
      rw [e] at hk
      exact hk _ h
  · obtain ⟨N, rfl⟩ : ∃ d : Nat, n = d := ⟨n.toNat, by omega⟩
    have hm : Int.tmod (N : Int) 10 = ((N % 10 : Nat) : Int) := by rw [Int.tmod_eq_emod_of_nonneg (by omega)]; omega
    have hq : Int.tdiv (N : Int) 10 = ((N / 10 : Nat) : Int) := by rw [Int.tdiv_eq_ediv_of_nonneg (by omega)]; omega
    rw [hm, hq, wrap_i64 (n := ((N % 10 : Nat) : Int) + 1) (by omega) (by omega), wrap_i64 (n := ((N / 10 : Nat) : Int)) (by omega) (by omega), dig10 (Nat.mod_lt _ (by decide))]
    refine ⟨fun _ => True, trivial, by decide, by decide, by decide, ⟨by omega, by omega, by rw [es]; omega⟩, ?_⟩
    refine rtext_ok h.drew (n := ((N / 10 : Nat) : Int)) (by omega) fun w' h => ?_
    (repeat (first | apply Exists.intro (α := Int) | apply Exists.intro (α := Bool) | apply Exists.intro (α := ByteArray) | (apply Exists.intro (α := Option Addr); apply Exists.intro (α := Nat); apply Exists.intro (α := Nat)) | apply Exists.intro (α := Option Addr) | apply Exists.intro (α := Value)))
    refine ⟨rfl, ?_⟩
    have hlen := digs_len (N / 10)
    have e : digsI (N : Int) = digsI ((N / 10 : Nat) : Int) ++ [UInt8.ofNat (48 + N % 10)] := by
      unfold digsI
      rw [Int.toNat_natCast, Int.toNat_natCast, digs_ge (by omega)]
    have e2 : digsI ((N / 10 : Nat) : Int) = digs (N / 10) := by unfold digsI; rw [Int.toNat_natCast]
    have e3 : IntKind.i64.max = 9223372036854775807 := by decide
    refine ⟨fun _ => True, fun _ h => h, trivial, ?_, lets rfl ?_⟩
    · rw [strOf_size, strOf_size, e3, e2, List.length_singleton]
      omega
    · rw [strOf_append, ← e]
      exact hk _ h
termination_by w L h n => n.toNat
decreasing_by omega
end
end Go.Br

/- What the code of some functions says, as the core reads it; each reading is checked by the kernel. -/
set_option linter.unusedVariables false
set_option maxRecDepth 100000
namespace Go.Br
open Go Go.Proofs

/-- brougham/report.Text -/
def N14 (l : Option Addr) (lN lC : Nat) (w : World) (Q : Value → World → Prop) : Prop :=
 RUNL PG (Instr.buildSlice 58 6 #[(0, (.string (ByteArray.mk #[104, 111, 115, 116]))), (1, (.string (ByteArray.mk #[112, 97, 116, 104]))), (2, (.string (ByteArray.mk #[112, 97, 99, 107, 101, 116, 115]))), (3, (.string (ByteArray.mk #[100, 97, 116, 97]))), (4, (.string (ByteArray.mk #[116, 105, 99, 107, 115]))), (5, (.string (ByteArray.mk #[110, 111, 110, 101])))]) w fun x9 x9N x9C w1 =>
 RUNL PG (Instr.buildSlice 69 1 #[(0, (.slice x9 x9N x9C))]) w1 fun x10 x10N x10C w2 =>
 CALL PG 11 [(.slice l lN lC)] w2 fun v w3 =>
 ∃ (x12 : Option Addr) (x12N x12C : Nat), v = (.slice x12 x12N x12C) ∧
 (∃ I : Nat → Option Addr → Nat → Nat → Int → World → Prop,
 (∃ m, I m x10 x10N x10C (0 : Int) w3) ∧
 (∀ m1 (rows : Option Addr) (rowsN rowsC : Nat) (x14 : Int) (w4 : World), I m1 rows rowsN rowsC x14 w4 → (IFB (decide (x14 < (x12N : Int)))
 (IDX x12 x12N x14 fun a16 =>
 RD PG (loadVar 43 (Addr.add a16 (Int.toNat x14 * 6))) w4 fun v1 =>
 ∃ x17 : Int, ∃ x17v1 : Int, ∃ x17v2 : Int, ∃ x17v3 : Int, ∃ x17v4 : Int, ∃ x17v5 : Int, v1 = (.agg #[(.int .i64 x17), (.int .i64 x17v1), (.int .i64 x17v2), (.int .i64 x17v3), (.int .i64 x17v4), (.int .i64 x17v5)]) ∧
 (RUNA PG (Instr.alloc 43 true (.tuple #[])) w4 fun a5 w5 =>
 RUNU PG (storeVar 43 a5 (.agg #[(.int .i64 x17), (.int .i64 x17v1), (.int .i64 x17v2), (.int .i64 x17v3), (.int .i64 x17v4), (.int .i64 x17v5)])) w5 fun w6 =>
 RDI PG (loadVar 3 (Addr.add a5 0)) .i64 w6 fun x19 =>
 RDI PG (loadVar 3 (Addr.add a5 1)) .i64 w6 fun x21 =>
 RDI PG (loadVar 3 (Addr.add a5 2)) .i64 w6 fun x23 =>
 RDI PG (loadVar 3 (Addr.add a5 3)) .i64 w6 fun x25 =>
 RDI PG (loadVar 3 (Addr.add a5 4)) .i64 w6 fun x27 =>
 RDI PG (loadVar 3 (Addr.add a5 5)) .i64 w6 fun x29 =>
 RUNL PG (Instr.buildSlice 22 6 #[(0, (.int .i64 x19)), (1, (.int .i64 x21)), (2, (.int .i64 x23)), (3, (.int .i64 x25)), (4, (.int .i64 x27)), (5, (.int .i64 x29))]) w6 fun x30 x30N x30C w7 =>
 ∃ I1 : Nat → Option Addr → Nat → Nat → Int → World → Prop,
 (∃ m2, I1 m2 none 0 0 (0 : Int) w7) ∧
 (∀ m3 (r : Option Addr) (rN rC : Nat) (x32 : Int) (w8 : World), I1 m3 r rN rC x32 w8 → (IFB (decide (x32 < (x30N : Int)))
 (IDX x30 x30N x32 fun a34 =>
 RDI PG (loadVar 3 (Addr.add a34 (Int.toNat x32 * 1))) .i64 w8 fun x35 =>
 LETI x35 fun n =>
 CALL PG 19 [(.int .i64 n)] w8 fun v2 w9 =>
 ∃ x38 : ByteArray, v2 = (.string x38) ∧
 (RUNL PG (Instr.buildSlice 58 1 #[(0, (.string x38))]) w9 fun x39 x39N x39C w10 =>
 RUNL PG (Builtin.append_ #[58, 58] 58 #[(.slice r rN rC), (.slice x39 x39N x39C)]) w10 fun x40 x40N x40C w11 =>
 ∃ m4, m4 < m3 ∧ I1 m4 x40 x40N x40C (IntKind.i64.wrap (x32 + (1 : Int))) w11))
 (RUNL PG (Instr.buildSlice 69 1 #[(0, (.slice r rN rC))]) w8 fun x44 x44N x44C w12 =>
 RUNL PG (Builtin.append_ #[69, 69] 69 #[(.slice rows rowsN rowsC), (.slice x44 x44N x44C)]) w12 fun x45 x45N x45C w13 =>
 ∃ m5, m5 < m1 ∧ I m5 x45 x45N x45C (IntKind.i64.wrap (x14 + (1 : Int))) w13)))))
 (CALL PG 25 [(.slice rows rowsN rowsC)] w4 fun v3 w14 =>
 ∃ x48 : ByteArray, v3 = (.string x48) ∧
 (LETS x48 fun x2 =>
 Q (.string x2) w14)))))
theorem eq14 : ∀ (l : Option Addr) (lN lC : Nat) (w : World) (Q : Value → World → Prop), vcF PG TB Tryd.f14 (.s .nil (.s .nil (.s (.s .nil (.u (.loop [(3, 69), (14, 3)] (.s .nil (.s .nil (.s (.u (.s .nil (.s .nil (.s (.s .nil (.u (.loop [(6, 58), (32, 3)] .nil))) .nil)))) .nil)))))) .nil))) [(.slice l lN lC)] w Q = N14 l lN lC w Q := by intros; kernel_rfl
theorem call14 {l : Option Addr} {lN lC : Nat} {w : World} {Q : Value → World → Prop} (hN : N14 l lN lC w Q) : CALL PG 14 [(.slice l lN lC)] w Q := calls_vc tabOk Tryd.func14 (by rw [eq14]; exact hN)

end Go.Br

/- The table of what a capture says: of the program and of the document. -/
set_option linter.unusedVariables false
set_option linter.unusedSimpArgs false
set_option linter.unnecessarySimpa false
namespace Go.Br
open Go
instance biFlowTexta : Zro PG 43 6 48 (.agg #[.int .i64 0, .int .i64 0, .int .i64 0, .int .i64 0, .int .i64 0, .int .i64 0]) := ⟨tiOf (by kernel_rfl)⟩
attribute [local irreducible] Addr.add RD RDS RUN RUNU NILC LETB CALL CALLX CALLV

theorem tiStr : TI PG 9 1 16 (.string (ByteArray.mk #[])) := tiOf (by kernel_rfl)
theorem tiStrs : TI PG 58 1 24 (.slice none 0 0) := tiOf (by kernel_rfl)
theorem huStrs : PG.underlying 58 = some (.slice 9) := by kernel_rfl
theorem huStrss : PG.underlying 69 = some (.slice 58) := by kernel_rfl
theorem tv_flat1 (s : ByteArray) : Flat (tv s) := by intro v hv; simp [tv] at hv; rw [hv]; rfl
theorem rwv_flat1 (x : Rw) : Flat (rwv x) := by intro v hv; simp [rwv] at hv; rw [hv]; rfl
def hdrS : List ByteArray := [ByteArray.mk #[104, 111, 115, 116], ByteArray.mk #[112, 97, 116, 104], ByteArray.mk #[112, 97, 99, 107, 101, 116, 115], ByteArray.mk #[100, 97, 116, 97], ByteArray.mk #[116, 105, 99, 107, 115], ByteArray.mk #[110, 111, 110, 101]]
def fxl (x : Fx) : List Int := [x.host, x.path, x.packets, x.data, x.ticks, x.bad]
def rowS (x : Fx) : List ByteArray := (fxl x).map fun n => strOf (digsI n)
def FxB (x : Fx) : Prop := ∀ n ∈ fxl x, n ≤ 2147483648
theorem digs_lt10 : ∀ (k n : Nat), n < 10 ^ (k + 1) → (digs n).length ≤ k + 1
  | 0, n, h => by rw [digs_lt (by simpa using h)]; simp
  | k + 1, n, h => by
    rcases Nat.lt_or_ge n 10 with h1 | h1
    · rw [digs_lt h1]; simp
    · rw [digs_ge h1, List.length_append, List.length_singleton]
      have := digs_lt10 k (n / 10) (by rw [Nat.pow_succ] at h; omega)
      omega
theorem digsI_size {n : Int} (h : n ≤ 2147483648) : (strOf (digsI n)).size ≤ 100 := by
  rw [strOf_size]
  have := digs_lt10 9 n.toNat (by have : (10 : Nat) ^ (9 + 1) = 10000000000 := by decide
                                  omega)
  unfold digsI
  omega
theorem fTo_bd {l : List Rec} (hB : RcB l) : ∀ m, m ≤ 256 → ∀ x ∈ fTo l m, FxB x
  | 0, _, x, hx => by simp [fTo] at hx
  | m + 1, hm, x, hx => by
    rw [fTo_succ, List.mem_append] at hx
    rcases hx with hx | hx
    · exact fTo_bd hB m (by omega) x hx
    · have bd := flO_bd (h := ((m / 128 : Nat) : Int)) (p := ((m % 128 : Nat) : Int)) hB l.length (Nat.le_refl _)
      rw [List.take_length] at bd
      have hl := hB.many
      unfold fAt at hx
      simp only at hx
      split at hx
      · rw [List.mem_singleton] at hx
        subst hx
        intro n hn
        simp only [fxl, List.mem_cons, List.not_mem_nil, or_false] at hn
        rcases hn with rfl | rfl | rfl | rfl | rfl | rfl <;> omega
      · cases hx
theorem wd_ext {X Y : List Rw} (h : X.map Rw.ss = Y.map Rw.ss) (i : Nat) : wd X i = wd Y i := by
  have e : ∀ (Z : List Rw) (n : Nat), Z.foldl (fun n x => max n (szA x i)) n = (Z.map Rw.ss).foldl (fun n s => max n (sAt s i).size) n := fun Z n => by rw [List.foldl_map]; rfl
  unfold wd
  rw [e, e, h]
theorem tabL_ext {X Y : List Rw} (h : X.map Rw.ss = Y.map Rw.ss) : tabL X = tabL Y := by
  have hw : wd X = wd Y := funext (wd_ext h)
  have hl : lineTo X = lineTo Y := by
    funext ss q
    unfold lineTo cellL
    rw [hw]
  have e : ∀ (Z : List Rw), tabL Z = ((Z.map Rw.ss).map fun s => trimR (lineTo Z s s.length) ++ [10]).flatten := fun Z => by
    unfold tabL tabTo
    rw [List.take_length, List.map_map]
    rfl
  rw [e, e, hl, h]
abbrev bodT (X : List Rw) : SA := Br.ro fun w => ∀ x ∈ X, Row w x.A (x.ss.flatMap tv)
theorem tabB_fl {X : List Rw} {F : List Fx} (hX : X.map Rw.ss = hdrS :: F.map rowS) (hF : F.length ≤ 256) (hb : ∀ x ∈ F, FxB x) : TabB X := by
  have hm : ∀ x ∈ X, x.ss = hdrS ∨ ∃ y ∈ F, x.ss = rowS y := fun x hx => by
    have : x.ss ∈ X.map Rw.ss := List.mem_map_of_mem hx
    rw [hX, List.mem_cons, List.mem_map] at this
    rcases this with h | ⟨y, hy, h⟩
    · exact .inl h
    · exact .inr ⟨y, hy, h.symm⟩
  have hs : ∀ x ∈ X, ∀ s ∈ x.ss, s.size ≤ 100 := fun x hx s hs => by
    rcases hm x hx with h | ⟨y, hy, h⟩
    · rw [h] at hs
      simp only [hdrS, List.mem_cons, List.not_mem_nil, or_false] at hs
      rcases hs with rfl | rfl | rfl | rfl | rfl | rfl <;> exact Nat.le_of_ble_eq_true rfl
    · rw [h] at hs
      unfold rowS at hs
      rw [List.mem_map] at hs
      obtain ⟨n, hn, rfl⟩ := hs
      exact digsI_size (hb y hy n hn)
  refine ⟨?_, fun x hx => ?_, fun x hx i => ?_⟩
  · have := congrArg List.length hX
    simp at this
    omega
  · rcases hm x hx with h | ⟨y, hy, h⟩ <;> rw [h] <;> exact Nat.le_of_ble_eq_true rfl
  · rcases Nat.lt_or_ge i x.ss.length with h | h
    · exact hs x hx _ (List.mem_of_getElem? (sAt_get h))
    · rw [szA_out h]; omega
section
variable {c : Ctx} {w : World} {L R : List SA} {A B : Option Addr} {n C m d k : Nat}
theorem St.addRow {X : List Rw} {x : Rw} (h : St c w (rows x.A (x.ss.flatMap tv) :: bodT X :: L)) : St c w (bodT (X ++ [x]) :: L) :=
  h.ro2.roW fun w ⟨h1, h2⟩ y hy => by
    rw [List.mem_append, List.mem_singleton] at hy
    rcases hy with hy | rfl
    · exact h2 y hy
    · exact h1
theorem ftext_ok (h : St c w L) {l : List Rec} (hr : RdIn L A (l.flatMap rcx)) (hb : ∀ r ∈ l, RdIn L r.body (bvs r.bodys)) (hB : RcB l) {Q : Value → World → Prop}
    (hk : ∀ w' X, X.map Rw.ss = hdrS :: (fTo l 256).map rowS → St c w' L → Q (.string (strOf (tabL X))) w') : CALL PG 14 [.slice A l.length k] w Q := by
  refine call14 ?_
  unfold N14
  refine h.lit (n := 6) 9 1 (hdrS.flatMap tv) fun p w' h => ?_
  refine h.lit (n := 1) 58 1 (([⟨some ⟨p, 0, none⟩, hdrS, 6⟩] : List Rw).flatMap rwv) fun p2 w' h => ?_
  have h : St c w' (own 58 1 (some ⟨p2, 0, none⟩) 1 1 (([⟨some ⟨p, 0, none⟩, hdrS, 6⟩] : List Rw).flatMap rwv) :: bodT [⟨some ⟨p, 0, none⟩, hdrS, 6⟩] :: L) := (h.swap.ownRows.roW fun w h1 x hx => by
    rw [List.mem_singleton] at hx
    subst hx
    exact h1).swap
  refine flows_ok h hr.more.more (fun r hm => (hb r hm).more.more) hB fun w' O d h => ?_
  have hF := fTo_le l 256
  have hFB := fTo_bd hB 256 (Nat.le_refl _)
  generalize fTo l 256 = F at h hF hFB hk
  (repeat (first | apply Exists.intro (α := Int) | apply Exists.intro (α := Bool) | apply Exists.intro (α := ByteArray) | (apply Exists.intro (α := Option Addr); apply Exists.intro (α := Nat); apply Exists.intro (α := Nat)) | apply Exists.intro (α := Option Addr) | apply Exists.intro (α := Value)))
  refine ⟨rfl, ?_⟩
  have h := h.sub (show Sub _ (own 58 1 (some ⟨p2, 0, none⟩) 1 1 (([⟨some ⟨p, 0, none⟩, hdrS, 6⟩] : List Rw).flatMap rwv) :: bodT [⟨some ⟨p, 0, none⟩, hdrS, 6⟩] :: own 43 6 O F.length d (F.flatMap fx) :: L) from .cons (.tail .head) (.cons (.tail .head) (.cons .head (Sub.same _))))
  refine ⟨fun m rO rN rC x w' => ∃ (j : Nat) (X : List Rw), x = j ∧ m = F.length - j ∧ j ≤ F.length ∧ X.length = rN ∧ rN = j + 1 ∧ X.map Rw.ss = hdrS :: (F.take j).map rowS ∧ St c w' (own 58 1 rO rN rC (X.flatMap rwv) :: bodT X :: own 43 6 O F.length d (F.flatMap fx) :: L), ⟨_, 0, _, rfl, rfl, by omega, rfl, rfl, rfl, h⟩, ?_⟩
  clear h
  rintro m rO rN rC _ w' ⟨j, X, rfl, rfl, hj, rfl, hjX, hX, h⟩
  refine ifd (fun hlt => ?_) fun hge => ?_
  rotate_left
  · have ej : F.take j = F := List.take_of_length_le (by omega)
    rw [ej] at hX
    refine table_ok h (RdIn.own .head) (fun x hx c w h => (h.ro (.tail .head)) x hx) (tabB_fl hX hF hFB) fun w' h => ?_
    (repeat (first | apply Exists.intro (α := Int) | apply Exists.intro (α := Bool) | apply Exists.intro (α := ByteArray) | (apply Exists.intro (α := Option Addr); apply Exists.intro (α := Nat); apply Exists.intro (α := Nat)) | apply Exists.intro (α := Option Addr) | apply Exists.intro (α := Value)))
    refine ⟨rfl, ?_⟩
    exact lets rfl (hk _ X hX h.drop.drop.drop)
  obtain ⟨x, hy⟩ := ex_get (L := F) (j := j) (by omega)
  have hxB := hFB x (List.mem_of_getElem? hy)
  have nx : IntKind.i64.wrap ((j : Int) + 1) = ((j + 1 : Nat) : Int) := by rw [wrap_i64 (by omega) (by omega)]; omega
  refine h.ix (z := 5) (RdIn.own (.tail (.tail .head))) hy (fun a ha => ?_) (by omega)
  subst ha
  refine h.rdEG (RdIn.own (.tail (.tail .head))) hy ?_
  (repeat (first | apply Exists.intro (α := Int) | apply Exists.intro (α := Bool) | apply Exists.intro (α := ByteArray) | (apply Exists.intro (α := Option Addr); apply Exists.intro (α := Nat); apply Exists.intro (α := Nat)) | apply Exists.intro (α := Option Addr) | apply Exists.intro (α := Value)))
  refine ⟨rfl, ?_⟩
  refine h.allocZ fun p3 w' h => ?_
  refine h.stG fun w' h => ?_
  refine h.rdI 0 (h.rdI 1 (h.rdI 2 (h.rdI 3 (h.rdI 4 (h.rdI 5 ?_)))))
  refine h.lit (n := 6) 3 1 ((fxl x).flatMap iv) fun p4 w' h => ?_
  have h := h.addOwnNil 9 1
  have h := h.sub (show Sub _ (own 9 1 none 0 0 [] :: own 3 1 (some ⟨p4, 0, none⟩) 6 6 ((fxl x).flatMap iv) :: own 58 1 rO X.length rC (X.flatMap rwv) :: bodT X :: own 43 6 (some a) F.length d (F.flatMap fx) :: L) from .cons .head (.cons .head (.cons (.tail .head) (.cons (.tail .head) (.cons (.tail .head) (Sub.same _).more)))))
  refine ⟨fun m sO sN sC y w' => ∃ q : Nat, y = q ∧ m = 6 - q ∧ q ≤ 6 ∧ sN = q ∧ St c w' (own 9 1 sO sN sC (((rowS x).take q).flatMap tv) :: own 3 1 (some ⟨p4, 0, none⟩) 6 6 ((fxl x).flatMap iv) :: own 58 1 rO X.length rC (X.flatMap rwv) :: bodT X :: own 43 6 (some a) F.length d (F.flatMap fx) :: L), ⟨_, 0, rfl, rfl, by omega, rfl, h⟩, ?_⟩
  clear h
  rintro m sO sN sC _ w' ⟨q, rfl, rfl, hq, hsN, h⟩
  refine ifd (fun hlt2 => ?_) fun hge2 => ?_
  · refine h.rowR (n := 6) (D := fxl x) (RdIn.own (.tail .head)) rfl (by omega) ?_
    refine leti rfl ?_
    have hg := at0_get (D := fxl x) (i := q) (show q < (fxl x).length by show q < 6; omega)
    refine text_ok h (by have := hxB _ (List.mem_of_getElem? hg); omega) fun w' h => ?_
    (repeat (first | apply Exists.intro (α := Int) | apply Exists.intro (α := Bool) | apply Exists.intro (α := ByteArray) | (apply Exists.intro (α := Option Addr); apply Exists.intro (α := Nat); apply Exists.intro (α := Nat)) | apply Exists.intro (α := Option Addr) | apply Exists.intro (α := Value)))
    refine ⟨rfl, ?_⟩
    refine h.app1 huStrs tiStr (tv (strOf (digsI (at0 (fxl x) q)))) .head (tv_flat1 _) (by omega) fun O2 d2 w' h => ?_
    refine ⟨_, by omega, q + 1, by rw [wrap_i64 (by omega) (by omega)]; omega, rfl, by omega, by omega, ?_⟩
    have eg : (rowS x)[q]? = some (strOf (digsI (at0 (fxl x) q))) := by unfold rowS; rw [List.getElem?_map, hg]; rfl
    rw [take_snoc' eg, List.flatMap_append]
    simpa using h
  have eq : q = 6 := by omega
  subst eq
  subst hsN
  have h : St c w' (own 9 1 sO 6 sC ((rowS x).flatMap tv) :: own 3 1 (some ⟨p4, 0, none⟩) 6 6 ((fxl x).flatMap iv) :: own 58 1 rO X.length rC (X.flatMap rwv) :: bodT X :: own 43 6 (some a) F.length d (F.flatMap fx) :: L) := h
  refine h.app1 huStrss tiStrs (rwv ⟨sO, rowS x, sC⟩) (.tail (.tail .head)) (rwv_flat1 _) (by omega) fun O2 d2 w' h => ?_
  refine ⟨_, by omega, j + 1, X ++ [⟨sO, rowS x, sC⟩], nx, rfl, by omega, by simp, by omega, by rw [List.map_append, hX, take_snoc' hy]; simp, ?_⟩
  rw [List.flatMap_append]
  have h := h.sub (show Sub _ (own 9 1 sO 6 sC ((rowS x).flatMap tv) :: bodT X :: own 58 1 O2 (X.length + 1) d2 (X.flatMap rwv ++ rwv ⟨sO, rowS x, sC⟩) :: own 43 6 (some a) F.length d (F.flatMap fx) :: L) from .cons (.tail .head) (.cons (.tail (.tail .head)) (.cons .head (.cons (.tail .head) (Sub.same _).more))))
  have h := (St.addRow (x := ⟨sO, rowS x, sC⟩) h.ownRows).swap
  simpa using h
end
end Go.Br

/- What the code of some functions says, as the core reads it; each reading is checked by the kernel. -/
set_option linter.unusedVariables false
set_option maxRecDepth 100000
namespace Go.Br
open Go Go.Proofs

/-- brougham/broughamref37.Text -/
def N15 (l : Option Addr) (lN lC : Nat) (w : World) (Q : Value → World → Prop) : Prop :=
 RUNL PG (Instr.buildSlice 58 6 #[(0, (.string (ByteArray.mk #[104, 111, 115, 116]))), (1, (.string (ByteArray.mk #[112, 97, 116, 104]))), (2, (.string (ByteArray.mk #[112, 97, 99, 107, 101, 116, 115]))), (3, (.string (ByteArray.mk #[100, 97, 116, 97]))), (4, (.string (ByteArray.mk #[116, 105, 99, 107, 115]))), (5, (.string (ByteArray.mk #[110, 111, 110, 101])))]) w fun x7 x7N x7C w1 =>
 RUNL PG (Instr.buildSlice 69 1 #[(0, (.slice x7 x7N x7C))]) w1 fun x8 x8N x8C w2 =>
 CALL PG 12 [(.slice l lN lC)] w2 fun v w3 =>
 ∃ (x10 : Option Addr) (x10N x10C : Nat), v = (.slice x10 x10N x10C) ∧
 (∃ I : Nat → Option Addr → Nat → Nat → Int → World → Prop,
 (∃ m, I m x8 x8N x8C (0 : Int) w3) ∧
 (∀ m1 (rows : Option Addr) (rowsN rowsC : Nat) (i : Int) (w4 : World), I m1 rows rowsN rowsC i w4 → (IFB (decide (i < (x10N : Int)))
 (IDX x10 x10N i fun a19 =>
 RD PG (loadVar 44 (Addr.add a19 (Int.toNat i * 6))) w4 fun v1 =>
 ∃ x20 : Int, ∃ x20v1 : Int, ∃ x20v2 : Int, ∃ x20v3 : Int, ∃ x20v4 : Int, ∃ x20v5 : Int, v1 = (.agg #[(.int .i64 x20), (.int .i64 x20v1), (.int .i64 x20v2), (.int .i64 x20v3), (.int .i64 x20v4), (.int .i64 x20v5)]) ∧
 (RUNA PG (Instr.alloc 44 true (.tuple #[])) w4 fun a6 w5 =>
 RUNU PG (storeVar 44 a6 (.agg #[(.int .i64 x20), (.int .i64 x20v1), (.int .i64 x20v2), (.int .i64 x20v3), (.int .i64 x20v4), (.int .i64 x20v5)])) w5 fun w6 =>
 ∃ S : World → Prop, S (w6.drew) ∧
 (RDSI PG (loadVar 3 (Addr.add a6 0)) .i64 S fun x23 =>
 RDSI PG (loadVar 3 (Addr.add a6 1)) .i64 S fun x26 =>
 RDSI PG (loadVar 3 (Addr.add a6 2)) .i64 S fun x29 =>
 RDSI PG (loadVar 3 (Addr.add a6 3)) .i64 S fun x32 =>
 RDSI PG (loadVar 3 (Addr.add a6 4)) .i64 S fun x35 =>
 RDSI PG (loadVar 3 (Addr.add a6 5)) .i64 S fun x38 =>
 CALL PG 21 [(.int .i64 x23)] (w6.drew) fun v2 w7 =>
 ∃ x24 : ByteArray, v2 = (.string x24) ∧
 (∃ S1 : World → Prop, (∀ x, S1 x → S x) ∧ S1 w7 ∧
 (CALL PG 21 [(.int .i64 x26)] w7 fun v3 w8 =>
 ∃ x27 : ByteArray, v3 = (.string x27) ∧
 (∃ S2 : World → Prop, (∀ x, S2 x → S1 x) ∧ S2 w8 ∧
 (CALL PG 21 [(.int .i64 x29)] w8 fun v4 w9 =>
 ∃ x30 : ByteArray, v4 = (.string x30) ∧
 (∃ S3 : World → Prop, (∀ x, S3 x → S2 x) ∧ S3 w9 ∧
 (CALL PG 21 [(.int .i64 x32)] w9 fun v5 w10 =>
 ∃ x33 : ByteArray, v5 = (.string x33) ∧
 (∃ S4 : World → Prop, (∀ x, S4 x → S3 x) ∧ S4 w10 ∧
 (CALL PG 21 [(.int .i64 x35)] w10 fun v6 w11 =>
 ∃ x36 : ByteArray, v6 = (.string x36) ∧
 (∃ S5 : World → Prop, (∀ x, S5 x → S4 x) ∧ S5 w11 ∧
 (CALL PG 21 [(.int .i64 x38)] w11 fun v7 w12 =>
 ∃ x39 : ByteArray, v7 = (.string x39) ∧
 (RUNL PG (Instr.buildSlice 58 6 #[(0, (.string x24)), (1, (.string x27)), (2, (.string x30)), (3, (.string x33)), (4, (.string x36)), (5, (.string x39))]) w12 fun x40 x40N x40C w13 =>
 RUNL PG (Instr.buildSlice 69 1 #[(0, (.slice x40 x40N x40C))]) w13 fun x41 x41N x41C w14 =>
 RUNL PG (Builtin.append_ #[69, 69] 69 #[(.slice rows rowsN rowsC), (.slice x41 x41N x41C)]) w14 fun x42 x42N x42C w15 =>
 LETI (IntKind.i64.wrap (i + (1 : Int))) fun i1 =>
 ∃ m2, m2 < m1 ∧ I m2 x42 x42N x42C i1 w15))))))))))))))
 (CALL PG 28 [(.slice rows rowsN rowsC)] w4 fun v8 w16 =>
 ∃ x44 : ByteArray, v8 = (.string x44) ∧
 (LETS x44 fun x2 =>
 Q (.string x2) w16)))))
theorem eq15 : ∀ (l : Option Addr) (lN lC : Nat) (w : World) (Q : Value → World → Prop), vcF PG TB Tryd.f15 (.s .nil (.s .nil (.s .nil (.s (.s .nil (.u (.loop [(3, 69), (5, 3)] .nil))) .nil)))) [(.slice l lN lC)] w Q = N15 l lN lC w Q := by intros; kernel_rfl
theorem call15 {l : Option Addr} {lN lC : Nat} {w : World} {Q : Value → World → Prop} (hN : N15 l lN lC w Q) : CALL PG 15 [(.slice l lN lC)] w Q := calls_vc tabOk Tryd.func15 (by rw [eq15]; exact hN)

end Go.Br

/- The table of what a capture says: of the document. -/
set_option linter.unusedVariables false
set_option linter.unusedSimpArgs false
set_option linter.unnecessarySimpa false
namespace Go.Br
open Go
instance biFlowText2a : Zro PG 44 6 48 (.agg #[.int .i64 0, .int .i64 0, .int .i64 0, .int .i64 0, .int .i64 0, .int .i64 0]) := ⟨tiOf (by kernel_rfl)⟩
attribute [local irreducible] Addr.add RD RDS RUN RUNU NILC LETB CALL CALLX CALLV

section
variable {c : Ctx} {w : World} {L R : List SA} {A B : Option Addr} {n C m d k : Nat}
theorem rftext_ok (h : St c w L) {l : List Rec} (hr : RdIn L A (l.flatMap rcr)) (hB : RcB l) {Q : Value → World → Prop}
    (hk : ∀ w' X, X.map Rw.ss = hdrS :: (fTo l 256).map rowS → St c w' L → Q (.string (strOf (tabL X))) w') : CALL PG 15 [.slice A l.length k] w Q := by
  refine call15 ?_
  unfold N15
  refine h.lit (n := 6) 9 1 (hdrS.flatMap tv) fun p w' h => ?_
  refine h.lit (n := 1) 58 1 (([⟨some ⟨p, 0, none⟩, hdrS, 6⟩] : List Rw).flatMap rwv) fun p2 w' h => ?_
  have h : St c w' (own 58 1 (some ⟨p2, 0, none⟩) 1 1 (([⟨some ⟨p, 0, none⟩, hdrS, 6⟩] : List Rw).flatMap rwv) :: bodT [⟨some ⟨p, 0, none⟩, hdrS, 6⟩] :: L) := (h.swap.ownRows.roW fun w h1 x hx => by
    rw [List.mem_singleton] at hx
    subst hx
    exact h1).swap
  refine rflows_ok h hr.more.more hB fun w' O d h => ?_
  have hF := fTo_le l 256
  have hFB := fTo_bd hB 256 (Nat.le_refl _)
  generalize fTo l 256 = F at h hF hFB hk
  (repeat (first | apply Exists.intro (α := Int) | apply Exists.intro (α := Bool) | apply Exists.intro (α := ByteArray) | (apply Exists.intro (α := Option Addr); apply Exists.intro (α := Nat); apply Exists.intro (α := Nat)) | apply Exists.intro (α := Option Addr) | apply Exists.intro (α := Value)))
  refine ⟨rfl, ?_⟩
  have h := h.sub (show Sub _ (own 58 1 (some ⟨p2, 0, none⟩) 1 1 (([⟨some ⟨p, 0, none⟩, hdrS, 6⟩] : List Rw).flatMap rwv) :: bodT [⟨some ⟨p, 0, none⟩, hdrS, 6⟩] :: own 44 6 O F.length d (F.flatMap fx) :: L) from .cons (.tail .head) (.cons (.tail .head) (.cons .head (Sub.same _))))
  refine ⟨fun m rO rN rC x w' => ∃ (j : Nat) (X : List Rw), x = j ∧ m = F.length - j ∧ j ≤ F.length ∧ X.length = rN ∧ rN = j + 1 ∧ X.map Rw.ss = hdrS :: (F.take j).map rowS ∧ St c w' (own 58 1 rO rN rC (X.flatMap rwv) :: bodT X :: own 44 6 O F.length d (F.flatMap fx) :: L), ⟨_, 0, _, rfl, rfl, by omega, rfl, rfl, rfl, h⟩, ?_⟩
  clear h
  rintro m rO rN rC _ w' ⟨j, X, rfl, rfl, hj, rfl, hjX, hX, h⟩
  refine ifd (fun hlt => ?_) fun hge => ?_
  rotate_left
  · have ej : F.take j = F := List.take_of_length_le (by omega)
    rw [ej] at hX
    refine rtable_ok h (RdIn.own .head) (fun x hx c w h => (h.ro (.tail .head)) x hx) (tabB_fl hX hF hFB) fun w' h => ?_
    (repeat (first | apply Exists.intro (α := Int) | apply Exists.intro (α := Bool) | apply Exists.intro (α := ByteArray) | (apply Exists.intro (α := Option Addr); apply Exists.intro (α := Nat); apply Exists.intro (α := Nat)) | apply Exists.intro (α := Option Addr) | apply Exists.intro (α := Value)))
    refine ⟨rfl, ?_⟩
    exact lets rfl (hk _ X hX h.drop.drop.drop)
  obtain ⟨x, hy⟩ := ex_get (L := F) (j := j) (by omega)
  have hxB := hFB x (List.mem_of_getElem? hy)
  refine h.ix (z := 5) (RdIn.own (.tail (.tail .head))) hy (fun a ha => ?_) (by omega)
  subst ha
  refine h.rdEG (RdIn.own (.tail (.tail .head))) hy ?_
  (repeat (first | apply Exists.intro (α := Int) | apply Exists.intro (α := Bool) | apply Exists.intro (α := ByteArray) | (apply Exists.intro (α := Option Addr); apply Exists.intro (α := Nat); apply Exists.intro (α := Nat)) | apply Exists.intro (α := Option Addr) | apply Exists.intro (α := Value)))
  refine ⟨rfl, ?_⟩
  refine h.allocZ fun p3 w' h => ?_
  refine h.stG fun w' h => ?_
  have h := h.drew
  refine ⟨fun w => St c w [blk p3 44 (fx x)], h.sub (.cons .head .nil), ?_⟩
  refine St.rdsI 0 (St.rdsI 1 (St.rdsI 2 (St.rdsI 3 (St.rdsI 4 (St.rdsI 5 ?_)))))
  have b0 := hxB x.host (by simp [fxl])
  have b1 := hxB x.path (by simp [fxl])
  have b2 := hxB x.packets (by simp [fxl])
  have b3 := hxB x.data (by simp [fxl])
  have b4 := hxB x.ticks (by simp [fxl])
  have b5 := hxB x.bad (by simp [fxl])
  refine rtext_ok h (by omega) fun w' h => ?_
  (repeat (first | apply Exists.intro (α := Int) | apply Exists.intro (α := Bool) | apply Exists.intro (α := ByteArray) | (apply Exists.intro (α := Option Addr); apply Exists.intro (α := Nat); apply Exists.intro (α := Nat)) | apply Exists.intro (α := Option Addr) | apply Exists.intro (α := Value)))
  refine ⟨rfl, ?_⟩
  refine ⟨_, fun _ h => h, h.sub (.cons .head .nil), ?_⟩
  refine rtext_ok h (by omega) fun w' h => ?_
  (repeat (first | apply Exists.intro (α := Int) | apply Exists.intro (α := Bool) | apply Exists.intro (α := ByteArray) | (apply Exists.intro (α := Option Addr); apply Exists.intro (α := Nat); apply Exists.intro (α := Nat)) | apply Exists.intro (α := Option Addr) | apply Exists.intro (α := Value)))
  refine ⟨rfl, ?_⟩
  refine ⟨_, fun _ h => h, h.sub (.cons .head .nil), ?_⟩
  refine rtext_ok h (by omega) fun w' h => ?_
  (repeat (first | apply Exists.intro (α := Int) | apply Exists.intro (α := Bool) | apply Exists.intro (α := ByteArray) | (apply Exists.intro (α := Option Addr); apply Exists.intro (α := Nat); apply Exists.intro (α := Nat)) | apply Exists.intro (α := Option Addr) | apply Exists.intro (α := Value)))
  refine ⟨rfl, ?_⟩
  refine ⟨_, fun _ h => h, h.sub (.cons .head .nil), ?_⟩
  refine rtext_ok h (by omega) fun w' h => ?_
  (repeat (first | apply Exists.intro (α := Int) | apply Exists.intro (α := Bool) | apply Exists.intro (α := ByteArray) | (apply Exists.intro (α := Option Addr); apply Exists.intro (α := Nat); apply Exists.intro (α := Nat)) | apply Exists.intro (α := Option Addr) | apply Exists.intro (α := Value)))
  refine ⟨rfl, ?_⟩
  refine ⟨_, fun _ h => h, h.sub (.cons .head .nil), ?_⟩
  refine rtext_ok h (by omega) fun w' h => ?_
  (repeat (first | apply Exists.intro (α := Int) | apply Exists.intro (α := Bool) | apply Exists.intro (α := ByteArray) | (apply Exists.intro (α := Option Addr); apply Exists.intro (α := Nat); apply Exists.intro (α := Nat)) | apply Exists.intro (α := Option Addr) | apply Exists.intro (α := Value)))
  refine ⟨rfl, ?_⟩
  refine ⟨_, fun _ h => h, h.sub (.cons .head .nil), ?_⟩
  refine rtext_ok h (by omega) fun w' h => ?_
  (repeat (first | apply Exists.intro (α := Int) | apply Exists.intro (α := Bool) | apply Exists.intro (α := ByteArray) | (apply Exists.intro (α := Option Addr); apply Exists.intro (α := Nat); apply Exists.intro (α := Nat)) | apply Exists.intro (α := Option Addr) | apply Exists.intro (α := Value)))
  refine ⟨rfl, ?_⟩
  refine h.lit (n := 6) 9 1 ((rowS x).flatMap tv) fun p4 w' h => ?_
  refine h.app1 huStrss tiStrs (rwv ⟨some ⟨p4, 0, none⟩, rowS x, 6⟩) (.tail (.tail .head)) (rwv_flat1 _) (by omega) fun O2 d2 w' h => ?_
  refine leti (y := ((j + 1 : Nat) : Int)) (by rw [wrap_i64 (by omega) (by omega)]; omega) ⟨_, ?_, j + 1, X ++ [⟨some ⟨p4, 0, none⟩, rowS x, 6⟩], rfl, rfl, by omega, by simp, by omega, by rw [List.map_append, hX, take_snoc' hy]; simp, ?_⟩
  · omega
  rw [List.flatMap_append]
  have h := h.sub (show Sub _ (own 9 1 (some ⟨p4, 0, none⟩) 6 6 ((rowS x).flatMap tv) :: bodT X :: own 58 1 O2 (X.length + 1) d2 (X.flatMap rwv ++ rwv ⟨some ⟨p4, 0, none⟩, rowS x, 6⟩) :: own 44 6 (some a) F.length d (F.flatMap fx) :: L) from .cons (.tail .head) (.cons (.tail (.tail .head)) (.cons .head (.cons (.tail .head) (Sub.same _).more))))
  have h := (St.addRow (x := ⟨some ⟨p4, 0, none⟩, rowS x, 6⟩) h.ownRows).swap
  simpa using h
end
end Go.Br

/- What the code of some functions says, as the core reads it; each reading is checked by the kernel. -/
set_option linter.unusedVariables false
set_option maxRecDepth 100000
namespace Go.Br
open Go Go.Proofs

/-- brougham/broughamlaw37.ReportFlows -/
def N4 (l : Option Addr) (lN lC : Nat) (w : World) (Q : Value → World → Prop) : Prop :=
 IFB (decide ((lN : Int) > (100 : Int)))
 (Q (.bool true) w)
 (∃ I : Nat → Int → World → Prop,
 (∃ m, I m (0 : Int) w) ∧
 (∀ m1 (i : Int) (w1 : World), I m1 i w1 → (IFB (decide (i < (lN : Int)))
 (IDX l lN i fun a19 =>
 RDL PG (loadVar 33 (Addr.add (Addr.add a19 (Int.toNat i * 4)) 3)) w1 fun x21 x21N x21C =>
 IFB (decide ((x21N : Int) > (2000 : Int)))
 (Q (.bool true) w1)
 (IDX l lN i fun a27 =>
 RDI PG (loadVar 3 (Addr.add (Addr.add a27 (Int.toNat i * 4)) 0)) .i64 w1 fun x29 =>
 IFB (decide (x29 < (0 : Int)))
 (Q (.bool true) w1)
 (IDX l lN i fun a35 =>
 RDI PG (loadVar 3 (Addr.add (Addr.add a35 (Int.toNat i * 4)) 0)) .i64 w1 fun x37 =>
 IFB (decide (x37 ≥ (2147483648 : Int)))
 (Q (.bool true) w1)
 (LETI (IntKind.i64.wrap (i + (1 : Int))) fun i1 =>
 ∃ m2, m2 < m1 ∧ I m2 i1 w1))))
 (CALL PG 11 [(.slice l lN lC)] w1 fun v w2 =>
 ∃ (x41 : Option Addr) (x41N x41C : Nat), v = (.slice x41 x41N x41C) ∧
 (CALL PG 13 [(.slice l lN lC)] w2 fun v1 w3 =>
 ∃ (x43 : Option Addr) (x43N x43C : Nat), v1 = (.slice x43 x43N x43C) ∧
 (CALL PG 12 [(.slice x43 x43N x43C)] w3 fun v2 w4 =>
 ∃ (x44 : Option Addr) (x44N x44C : Nat), v2 = (.slice x44 x44N x44C) ∧
 (IFB ((x41N : Int) != (x44N : Int))
 (Q (.bool false) w4)
 (∃ I1 : Nat → Int → World → Prop,
 (∃ m3, I1 m3 (0 : Int) w4) ∧
 (∀ m4 (i2 : Int) (w5 : World), I1 m4 i2 w5 → (IFB (decide (i2 < (x41N : Int)))
 (IDX x41 x41N i2 fun a58 =>
 RD PG (loadVar 43 (Addr.add a58 (Int.toNat i2 * 6))) w5 fun v3 =>
 ∃ x59 : Int, ∃ x59v1 : Int, ∃ x59v2 : Int, ∃ x59v3 : Int, ∃ x59v4 : Int, ∃ x59v5 : Int, v3 = (.agg #[(.int .i64 x59), (.int .i64 x59v1), (.int .i64 x59v2), (.int .i64 x59v3), (.int .i64 x59v4), (.int .i64 x59v5)]) ∧
 (RUNA PG (Instr.alloc 43 true (.tuple #[])) w5 fun a7 w6 =>
 RUNU PG (storeVar 43 a7 (.agg #[(.int .i64 x59), (.int .i64 x59v1), (.int .i64 x59v2), (.int .i64 x59v3), (.int .i64 x59v4), (.int .i64 x59v5)])) w6 fun w7 =>
 RDI PG (loadVar 3 (Addr.add a7 0)) .i64 (w7.drew) fun x61 =>
 RDI PG (loadVar 3 (Addr.add a7 1)) .i64 (w7.drew) fun x63 =>
 RDI PG (loadVar 3 (Addr.add a7 2)) .i64 (w7.drew) fun x65 =>
 RDI PG (loadVar 3 (Addr.add a7 3)) .i64 (w7.drew) fun x67 =>
 RDI PG (loadVar 3 (Addr.add a7 4)) .i64 (w7.drew) fun x69 =>
 RDI PG (loadVar 3 (Addr.add a7 5)) .i64 (w7.drew) fun x71 =>
 RD PG (Instr.build 44 #[(0, (.int .i64 x61)), (1, (.int .i64 x63)), (2, (.int .i64 x65)), (3, (.int .i64 x67)), (4, (.int .i64 x69)), (5, (.int .i64 x71))]) (w7.drew) fun v4 =>
 ∃ x72 : Int, ∃ x72v1 : Int, ∃ x72v2 : Int, ∃ x72v3 : Int, ∃ x72v4 : Int, ∃ x72v5 : Int, v4 = (.agg #[(.int .i64 x72), (.int .i64 x72v1), (.int .i64 x72v2), (.int .i64 x72v3), (.int .i64 x72v4), (.int .i64 x72v5)]) ∧
 (IDX x44 x44N i2 fun a75 =>
 RD PG (loadVar 44 (Addr.add a75 (Int.toNat i2 * 6))) (w7.drew) fun v5 =>
 ∃ x76 : Int, ∃ x76v1 : Int, ∃ x76v2 : Int, ∃ x76v3 : Int, ∃ x76v4 : Int, ∃ x76v5 : Int, v5 = (.agg #[(.int .i64 x76), (.int .i64 x76v1), (.int .i64 x76v2), (.int .i64 x76v3), (.int .i64 x76v4), (.int .i64 x76v5)]) ∧
 (RDB PG (do eqGuard .neq 44 (.tmp 72) (.tmp 76) (.agg #[(.int .i64 x72), (.int .i64 x72v1), (.int .i64 x72v2), (.int .i64 x72v3), (.int .i64 x72v4), (.int .i64 x72v5)]) (.agg #[(.int .i64 x76), (.int .i64 x76v1), (.int .i64 x76v2), (.int .i64 x76v3), (.int .i64 x76v4), (.int .i64 x76v5)]); binOp .neq 44 (.agg #[(.int .i64 x72), (.int .i64 x72v1), (.int .i64 x72v2), (.int .i64 x72v3), (.int .i64 x72v4), (.int .i64 x72v5)]) (.agg #[(.int .i64 x76), (.int .i64 x76v1), (.int .i64 x76v2), (.int .i64 x76v3), (.int .i64 x76v4), (.int .i64 x76v5)])) (w7.drew) fun x77 =>
 IFB x77
 (Q (.bool false) (w7.drew))
 (LETI (IntKind.i64.wrap (i2 + (1 : Int))) fun i3 =>
 ∃ m5, m5 < m4 ∧ I1 m5 i3 (w7.drew))))))
 (CALL PG 14 [(.slice l lN lC)] w5 fun v6 w8 =>
 ∃ x79 : ByteArray, v6 = (.string x79) ∧
 (CALL PG 13 [(.slice l lN lC)] w8 fun v7 w9 =>
 ∃ (x81 : Option Addr) (x81N x81C : Nat), v7 = (.slice x81 x81N x81C) ∧
 (CALL PG 15 [(.slice x81 x81N x81C)] w9 fun v8 w10 =>
 ∃ x82 : ByteArray, v8 = (.string x82) ∧
 (IFB (x79.toList == x82.toList)
 (CALL PG 10 [] w10 fun v9 w11 =>
 ∃ x85 : Bool, v9 = (.bool x85) ∧
 (LETB x85 fun x2 =>
 Q (.bool x2) w11))
 (LETB false fun x2v1 =>
 Q (.bool x2v1) w10)))))))))))))))
theorem eq4 : ∀ (l : Option Addr) (lN lC : Nat) (w : World) (Q : Value → World → Prop), vcF PG TB Tryd.f4 (.s .nil (.s .nil (.s (.s .nil (.u (.loop [(3, 3)] .nil))) (.s .nil (.s .nil (.s .nil (.s (.s .nil (.u (.loop [(6, 3)] .nil))) .nil))))))) [(.slice l lN lC)] w Q = N4 l lN lC w Q := by intros; kernel_rfl
theorem call4 {l : Option Addr} {lN lC : Nat} {w : World} {Q : Value → World → Prop} (hN : N4 l lN lC w Q) : CALL PG 4 [(.slice l lN lC)] w Q := calls_vc tabOk Tryd.func4 (by rw [eq4]; exact hN)

end Go.Br

/- The law of what a capture says. -/
set_option linter.unusedVariables false
set_option linter.unusedSimpArgs false
set_option linter.unnecessarySimpa false
namespace Go.Br
open Go
instance biFlowLawa (x0 : Int) (x1 : Int) (x2 : Int) (x3 : Int) (x4 : Int) (x5 : Int) : Bld PG (Instr.build 44 #[(0, .int .i64 x0), (1, .int .i64 x1), (2, .int .i64 x2), (3, .int .i64 x3), (4, .int .i64 x4), (5, .int .i64 x5)]) (.agg #[.int .i64 x0, .int .i64 x1, .int .i64 x2, .int .i64 x3, .int .i64 x4, .int .i64 x5]) := ⟨fun w => by kernel_rfl⟩
instance biFlowLawb : Zro PG 43 6 48 (.agg #[.int .i64 0, .int .i64 0, .int .i64 0, .int .i64 0, .int .i64 0, .int .i64 0]) := ⟨tiOf (by kernel_rfl)⟩
attribute [local irreducible] Addr.add RD RDS RUN RUNU NILC LETB CALL CALLX CALLV

section
variable {c : Ctx} {w : World} {L R : List SA} {A B : Option Addr} {n C m d k : Nat}
theorem rflaw_ok (h : St c w L) {l : List Rec} (hr : RdIn L A (l.flatMap rcx)) (hb : ∀ r ∈ l, RdIn L r.body (bvs r.bodys)) (hc : ∀ r ∈ l, r.bodys.length ≤ r.bodyC) {Q : Value → World → Prop} (hk : ∀ w', St c w' L → Q (.bool true) w') : CALL PG 4 [.slice A l.length k] w Q := by
  refine call4 ?_
  unfold N4
  refine ifd (fun _ => hk _ h) fun hX => ?_
  refine ⟨fun m x w' => ∃ j : Nat, x = j ∧ m = l.length - j ∧ j ≤ l.length ∧ (∀ r ∈ l.take j, r.bodys.length ≤ 2000 ∧ 0 ≤ r.tick ∧ r.tick < 2147483648) ∧ St c w' L, ⟨_, 0, rfl, rfl, by omega, fun y hy => by simp at hy, h⟩, ?_⟩
  clear h
  rintro m _ w' ⟨j, rfl, rfl, hj, hy0, h⟩
  refine ifd (fun hlt => ?_) fun hge => ?_
  · obtain ⟨r, hy⟩ := ex_get (L := l) (j := j) (by omega)
    refine h.ix (z := 3) hr hy (fun a ha => ?_) (by omega)
    have hr1 := hr
    rw [ha] at hr1
    refine h.rdEL 3 hr1 hy ?_
    refine ifd (fun _ => hk _ h) fun h1 => ?_
    refine h.ix (z := 3) hr hy (fun a2 ha2 => ?_) (by omega)
    have hr2 := hr
    rw [ha2] at hr2
    refine h.rdEI 0 hr2 hy ?_
    refine ifd (fun _ => hk _ h) fun h2 => ?_
    refine h.ix (z := 3) hr hy (fun a3 ha3 => ?_) (by omega)
    have hr3 := hr
    rw [ha3] at hr3
    refine h.rdEI 0 hr3 hy ?_
    refine ifd (fun _ => hk _ h) fun h3 => ?_
    refine leti (y := ((j + 1 : Nat) : Int)) (by rw [wrap_i64 (by omega) (by omega)]; omega) ⟨_, by omega, j + 1, rfl, rfl, by omega, fun z hz => ?_, h⟩
    rw [take_snoc' hy, List.mem_append, List.mem_singleton] at hz
    rcases hz with hz | rfl
    · exact hy0 z hz
    · omega
  have ej : j = l.length := by omega
  rw [ej, List.take_length] at hy0
  have hB : RcB l := ⟨by omega, fun r hm => (hy0 r hm).1, hc, fun r hm => (hy0 r hm).2⟩
  clear hge hj hy0
  refine flows_ok h hr hb hB fun w' O1 d1 h => ?_
  (repeat (first | apply Exists.intro (α := Int) | apply Exists.intro (α := Bool) | apply Exists.intro (α := ByteArray) | (apply Exists.intro (α := Option Addr); apply Exists.intro (α := Nat); apply Exists.intro (α := Nat)) | apply Exists.intro (α := Option Addr) | apply Exists.intro (α := Value)))
  refine ⟨rfl, ?_⟩
  refine plain_ok h hr.more (fun r hm => (hb r hm).more) hB fun w' O2 d2 h => ?_
  (repeat (first | apply Exists.intro (α := Int) | apply Exists.intro (α := Bool) | apply Exists.intro (α := ByteArray) | (apply Exists.intro (α := Option Addr); apply Exists.intro (α := Nat); apply Exists.intro (α := Nat)) | apply Exists.intro (α := Option Addr) | apply Exists.intro (α := Value)))
  refine ⟨rfl, ?_⟩
  refine rflows_ok h (RdIn.own .head) hB fun w' O3 d3 h => ?_
  (repeat (first | apply Exists.intro (α := Int) | apply Exists.intro (α := Bool) | apply Exists.intro (α := ByteArray) | (apply Exists.intro (α := Option Addr); apply Exists.intro (α := Nat); apply Exists.intro (α := Nat)) | apply Exists.intro (α := Option Addr) | apply Exists.intro (α := Value)))
  refine ⟨rfl, ?_⟩
  have hFl := fTo_le l 256
  generalize hF : fTo l 256 = F at h hFl
  refine ifnsame rfl ?_
  refine ⟨fun m x w' => ∃ j : Nat, x = j ∧ m = F.length - j ∧ j ≤ F.length ∧ St c w' (own 44 6 O3 F.length d3 (F.flatMap fx) :: own 43 6 O1 F.length d1 (F.flatMap fx) :: L), ⟨_, 0, rfl, rfl, by omega, h.sub (.cons .head (.cons (.tail .head) (Sub.same _).more))⟩, ?_⟩
  clear h
  rintro m _ w' ⟨j, rfl, rfl, hj, h⟩
  refine ifd (fun hlt => ?_) fun hge => ?_
  · obtain ⟨x, hy⟩ := ex_get (L := F) (j := j) (by omega)
    refine h.ix (z := 5) (RdIn.own (.tail .head)) hy (fun a ha => ?_) (by omega)
    subst ha
    refine h.rdEG (RdIn.own (.tail .head)) hy ?_
    (repeat (first | apply Exists.intro (α := Int) | apply Exists.intro (α := Bool) | apply Exists.intro (α := ByteArray) | (apply Exists.intro (α := Option Addr); apply Exists.intro (α := Nat); apply Exists.intro (α := Nat)) | apply Exists.intro (α := Option Addr) | apply Exists.intro (α := Value)))
    refine ⟨rfl, ?_⟩
    refine h.allocZ fun p w' h => ?_
    refine h.stG fun w' h => ?_
    have h := h.drew
    refine h.rdI 0 (h.rdI 1 (h.rdI 2 (h.rdI 3 (h.rdI 4 (h.rdI 5 ?_)))))
    refine RD.bld ?_
    (repeat (first | apply Exists.intro (α := Int) | apply Exists.intro (α := Bool) | apply Exists.intro (α := ByteArray) | (apply Exists.intro (α := Option Addr); apply Exists.intro (α := Nat); apply Exists.intro (α := Nat)) | apply Exists.intro (α := Option Addr) | apply Exists.intro (α := Value)))
    refine ⟨rfl, ?_⟩
    refine h.ix (z := 5) (RdIn.own (.tail .head)) hy (fun a2 ha2 => ?_) (by omega)
    subst ha2
    refine h.rdEG (RdIn.own (.tail .head)) hy ?_
    (repeat (first | apply Exists.intro (α := Int) | apply Exists.intro (α := Bool) | apply Exists.intro (α := ByteArray) | (apply Exists.intro (α := Option Addr); apply Exists.intro (α := Nat); apply Exists.intro (α := Nat)) | apply Exists.intro (α := Option Addr) | apply Exists.intro (α := Value)))
    refine ⟨rfl, ?_⟩
    refine neqSame (xs := fx x) ?_
    refine iff_ rfl ?_
    refine leti (y := ((j + 1 : Nat) : Int)) (by rw [wrap_i64 (by omega) (by omega)]; omega) ⟨_, by omega, j + 1, rfl, rfl, by omega, h.drop⟩
  refine ftext_ok h hr.more.more (fun r hm => (hb r hm).more.more) hB fun w' X hX h => ?_
  (repeat (first | apply Exists.intro (α := Int) | apply Exists.intro (α := Bool) | apply Exists.intro (α := ByteArray) | (apply Exists.intro (α := Option Addr); apply Exists.intro (α := Nat); apply Exists.intro (α := Nat)) | apply Exists.intro (α := Option Addr) | apply Exists.intro (α := Value)))
  refine ⟨rfl, ?_⟩
  refine plain_ok h hr.more.more (fun r hm => (hb r hm).more.more) hB fun w' O4 d4 h => ?_
  (repeat (first | apply Exists.intro (α := Int) | apply Exists.intro (α := Bool) | apply Exists.intro (α := ByteArray) | (apply Exists.intro (α := Option Addr); apply Exists.intro (α := Nat); apply Exists.intro (α := Nat)) | apply Exists.intro (α := Option Addr) | apply Exists.intro (α := Value)))
  refine ⟨rfl, ?_⟩
  refine rftext_ok h (RdIn.own .head) hB fun w' Y hY h => ?_
  (repeat (first | apply Exists.intro (α := Int) | apply Exists.intro (α := Bool) | apply Exists.intro (α := ByteArray) | (apply Exists.intro (α := Option Addr); apply Exists.intro (α := Nat); apply Exists.intro (α := Nat)) | apply Exists.intro (α := Option Addr) | apply Exists.intro (α := Value)))
  refine ⟨rfl, ?_⟩
  refine ift (strOf_eq (tabL_ext (hX.trans hY.symm))) ?_
  refine alive37_ok h fun w' h => ?_
  (repeat (first | apply Exists.intro (α := Int) | apply Exists.intro (α := Bool) | apply Exists.intro (α := ByteArray) | (apply Exists.intro (α := Option Addr); apply Exists.intro (α := Nat); apply Exists.intro (α := Nat)) | apply Exists.intro (α := Option Addr) | apply Exists.intro (α := Value)))
  refine ⟨rfl, ?_⟩
  exact letb rfl (hk _ h.drop.drop.drop)
end
end Go.Br
