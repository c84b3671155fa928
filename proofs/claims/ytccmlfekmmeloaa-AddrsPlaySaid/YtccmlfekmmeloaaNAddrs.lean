/- What the code of some functions says, as the core reads it; each reading is checked by the kernel. -/
import Derived.Test.YtccmlfekmmeloaaBrSeat
set_option linter.unusedVariables false
set_option maxRecDepth 100000
namespace Go.Br
open Go Go.Proofs

/-- brougham/addrs.New -/
def N12 (most : Int) (paths : Int) (w : World) (Q : Value → World → Prop) : Prop :=
 CALL PG 63 [(.int .i64 (64 : Int)), (.int .i64 (1 : Int))] w fun v w1 =>
 ∃ x5 : Option Addr, v = (.pointer x5) ∧
 (RD PG (Instr.build 30 #[(0, (.pointer x5)), (1, (.int .i64 (minN (maxN most (0 : Int)) (8 : Int)))), (2, (.int .i64 (minN (maxN paths (1 : Int)) (4 : Int))))]) w1 fun v1 =>
 ∃ x12 : Option Addr, ∃ x12v1 : Int, ∃ x12v2 : Int, ∃ (x12v3 : Option Addr) (x12N x12C : Nat), v1 = (.agg #[(.pointer x12), (.int .i64 x12v1), (.int .i64 x12v2), (.slice x12v3 x12N x12C)]) ∧
 (RUNA PG (Instr.box 30 (.agg #[(.pointer x12), (.int .i64 x12v1), (.int .i64 x12v2), (.slice x12v3 x12N x12C)])) w1 fun a13 w2 =>
 Q (.pointer (some a13)) w2))
theorem eq12 : ∀ (most : Int) (paths : Int) (w : World) (Q : Value → World → Prop), vcF PG TB Try.f12 .nil [(.int .i64 most), (.int .i64 paths)] w Q = N12 most paths w Q := by intros; kernel_rfl
theorem call12 {most : Int} {paths : Int} {w : World} {Q : Value → World → Prop} (hN : N12 most paths w Q) : CALL PG 12 [(.int .i64 most), (.int .i64 paths)] w Q := calls_vc tabOk Try.func12 (by rw [eq12]; exact hN)

/-- (*brougham/addrs.Table).Add -/
def N13 (t : Option Addr) (a : Int) (a1 : Int) (w : World) (Q : Value → World → Prop) : Prop :=
 RUNA PG (Instr.box 24 (.agg #[(.int .i64 a), (.int .i64 a1)])) w fun a3 w1 =>
 RDI PG (loadVar 3 (Addr.add a3 0)) .i64 (w1.drew) fun x7 =>
 IFB (decide (x7 < (0 : Int)))
 (Q (.bool false) (w1.drew))
 (RDI PG (loadVar 3 (Addr.add a3 0)) .i64 (w1.drew) fun x11 =>
 IFB (decide (x11 > (255 : Int)))
 (Q (.bool false) (w1.drew))
 (RDI PG (loadVar 3 (Addr.add a3 1)) .i64 (w1.drew) fun x16 =>
 IFB (decide (x16 < (0 : Int)))
 (Q (.bool false) (w1.drew))
 (RDI PG (loadVar 3 (Addr.add a3 1)) .i64 (w1.drew) fun x21 =>
 NILC t fun a23 =>
 RDI PG (loadVar 3 (Addr.add a23 2)) .i64 (w1.drew) fun x25 =>
 IFB (decide (x21 ≥ x25))
 (Q (.bool false) (w1.drew))
 (NILC t fun a30 =>
 RDL PG (loadVar 28 (Addr.add a30 3)) (w1.drew) fun x32 x32N x32C =>
 RD PG (loadVar 24 a3) (w1.drew) fun v =>
 ∃ x33 : Int, ∃ x33v1 : Int, v = (.agg #[(.int .i64 x33), (.int .i64 x33v1)]) ∧
 (CALL PG 64 [(.slice x32 x32N x32C), (.agg #[(.int .i64 x33), (.int .i64 x33v1)])] (w1.drew) fun v1 w2 =>
 ∃ x34 : Bool, v1 = (.bool x34) ∧
 (IFB x34
 (Q (.bool false) w2)
 (NILC t fun a37 =>
 RDL PG (loadVar 28 (Addr.add a37 3)) w2 fun x39 x39N x39C =>
 CALL PG 65 [(.slice x39 x39N x39C), (.func (.func 66) #[] #[(.pointer (some a3))])] w2 fun v2 w3 =>
 ∃ x41 : Int, v2 = (.int .i64 x41) ∧
 (LETI x41 fun i =>
 ∃ R : World → Prop,
 (IFB (decide (i < (0 : Int)))
 (NILC t fun a46 =>
 RDL PG (loadVar 28 (Addr.add a46 3)) (w3.drew) fun x48 x48N x48C =>
 NILC t fun a51 =>
 RDI PG (loadVar 3 (Addr.add a51 1)) .i64 (w3.drew) fun x53 =>
 IFB (decide ((x48N : Int) ≥ x53))
 (Q (.bool false) (w3.drew))
 (CALL PG 67 [(.pointer t)] (w3.drew) fun v3 w4 =>
 ∃ x58 : Bool, v3 = (.bool x58) ∧
 (IFB (!x58)
 (Q (.bool false) w4)
 (R w4))))
 (CALL PG 67 [(.pointer t)] (w3.drew) fun v4 w5 =>
 ∃ x58v1 : Bool, v4 = (.bool x58v1) ∧
 (IFB (!x58v1)
 (Q (.bool false) w5)
 (R w5)))) ∧
 (∀  (w6 : World), R w6 → (IFB (decide (i ≥ (0 : Int)))
 (NILC t fun a64 =>
 RDL PG (loadVar 28 (Addr.add a64 3)) (w6.drew) fun x66 x66N x66C =>
 RD PG (loadVar 24 a3) (w6.drew) fun v5 =>
 ∃ x68 : Int, ∃ x68v1 : Int, v5 = (.agg #[(.int .i64 x68), (.int .i64 x68v1)]) ∧
 (IDX x66 x66N i fun a69 =>
 RUNU PG (storeVar 24 (Addr.add a69 (Int.toNat i * 2)) (.agg #[(.int .i64 x68), (.int .i64 x68v1)])) (w6.drew) fun w7 =>
 Q (.bool true) w7))
 (∃ S : World → Prop, S (w6.drew) ∧
 (NILC t fun a72 =>
 RDSL PG (loadVar 28 (Addr.add a72 3)) S fun x74 x74N x74C =>
 RDS PG (loadVar 24 a3) S fun v6 =>
 ∃ x75 : Int, ∃ x75v1 : Int, v6 = (.agg #[(.int .i64 x75), (.int .i64 x75v1)]) ∧
 (RUNL PG (Instr.buildSlice 28 1 #[(0, (.agg #[(.int .i64 x75), (.int .i64 x75v1)]))]) (w6.drew) fun x76 x76N x76C w8 =>
 ∃ S1 : World → Prop, (∀ x, S1 x → S x) ∧ S1 w8 ∧
 (RUNL PG (Builtin.append_ #[28, 28] 28 #[(.slice x74 x74N x74C), (.slice x76 x76N x76C)]) w8 fun x77 x77N x77C w9 =>
 NILC t fun a78 =>
 RUNU PG (storeVar 28 (Addr.add a78 3) (.slice x77 x77N x77C)) w9 fun w10 =>
 Q (.bool true) w10))))))))))))))
theorem eq13 : ∀ (t : Option Addr) (a : Int) (a1 : Int) (w : World) (Q : Value → World → Prop), vcF PG TB Try.f13 (.s .nil (.s .nil (.s .nil (.cut [] .nil .nil)))) [(.pointer t), (.agg #[(.int .i64 a), (.int .i64 a1)])] w Q = N13 t a a1 w Q := by intros; kernel_rfl
theorem call13 {t : Option Addr} {a : Int} {a1 : Int} {w : World} {Q : Value → World → Prop} (hN : N13 t a a1 w Q) : CALL PG 13 [(.pointer t), (.agg #[(.int .i64 a), (.int .i64 a1)])] w Q := calls_vc tabOk Try.func13 (by rw [eq13]; exact hN)

/-- (*brougham/bucket.Bucket).Tick -/
def N14 (b : Option Addr) (n : Int) (w : World) (Q : Value → World → Prop) : Prop :=
 LETI (minN (maxN n (0 : Int)) (4096 : Int)) fun n1 =>
 NILC b fun a9 =>
 RDI PG (loadVar 3 (Addr.add a9 2)) .i64 (w.drew) fun x11 =>
 NILC b fun a14 =>
 RDI PG (loadVar 3 (Addr.add a14 1)) .i64 (w.drew) fun x16 =>
 NILC b fun a20 =>
 RDI PG (loadVar 3 (Addr.add a20 0)) .i64 (w.drew) fun x22 =>
 NILC b fun a24 =>
 RUNU PG (storeVar 3 (Addr.add a24 2) (.int .i64 (minN (IntKind.i64.wrap (x11 + (IntKind.i64.wrap (n1 * x16)))) x22))) (w.drew) fun w1 =>
 Q (.tuple #[]) w1
theorem eq14 : ∀ (b : Option Addr) (n : Int) (w : World) (Q : Value → World → Prop), vcF PG TB Try.f14 .nil [(.pointer b), (.int .i64 n)] w Q = N14 b n w Q := by intros; kernel_rfl
theorem call14 {b : Option Addr} {n : Int} {w : World} {Q : Value → World → Prop} (hN : N14 b n w Q) : CALL PG 14 [(.pointer b), (.int .i64 n)] w Q := calls_vc tabOk Try.func14 (by rw [eq14]; exact hN)

/-- (*brougham/addrs.Table).List -/
def N15 (t : Option Addr) (w : World) (Q : Value → World → Prop) : Prop :=
 NILC t fun a4 =>
 RDL PG (loadVar 28 (Addr.add a4 3)) w fun x6 x6N x6C =>
 CALL PG 68 [(.slice x6 x6N x6C)] w fun v w1 =>
 ∃ (x7 : Option Addr) (x7N x7C : Nat), v = (.slice x7 x7N x7C) ∧
 (Q (.slice x7 x7N x7C) w1)
theorem eq15 : ∀ (t : Option Addr) (w : World) (Q : Value → World → Prop), vcF PG TB Try.f15 .nil [(.pointer t)] w Q = N15 t w Q := by intros; kernel_rfl
theorem call15 {t : Option Addr} {w : World} {Q : Value → World → Prop} (hN : N15 t w Q) : CALL PG 15 [(.pointer t)] w Q := calls_vc tabOk Try.func15 (by rw [eq15]; exact hN)

/-- (*brougham/addrs.Table).Gone -/
def N16 (t : Option Addr) (id : Int) (w : World) (Q : Value → World → Prop) : Prop :=
 RUNA PG (Instr.box 3 (.int .i64 id)) w fun a3 w1 =>
 NILC t fun a7 =>
 RDL PG (loadVar 28 (Addr.add a7 3)) w1 fun x9 x9N x9C =>
 CALL PG 65 [(.slice x9 x9N x9C), (.func (.func 69) #[] #[(.pointer (some a3))])] w1 fun v w2 =>
 ∃ x11 : Int, v = (.int .i64 x11) ∧
 (LETI x11 fun i =>
 IFB (decide (i < (0 : Int)))
 (Q (.bool false) w2)
 (NILC t fun a16 =>
 RDL PG (loadVar 28 (Addr.add a16 3)) w2 fun x18 x18N x18C =>
 CALL PG 70 [(.slice x18 x18N x18C), (.int .i64 i), (.int .i64 (IntKind.i64.wrap (i + (1 : Int))))] w2 fun v1 w3 =>
 ∃ (x22 : Option Addr) (x22N x22C : Nat), v1 = (.slice x22 x22N x22C) ∧
 (NILC t fun a23 =>
 RUNU PG (storeVar 28 (Addr.add a23 3) (.slice x22 x22N x22C)) w3 fun w4 =>
 Q (.bool true) w4)))
theorem eq16 : ∀ (t : Option Addr) (id : Int) (w : World) (Q : Value → World → Prop), vcF PG TB Try.f16 .nil [(.pointer t), (.int .i64 id)] w Q = N16 t id w Q := by intros; kernel_rfl
theorem call16 {t : Option Addr} {id : Int} {w : World} {Q : Value → World → Prop} (hN : N16 t id w Q) : CALL PG 16 [(.pointer t), (.int .i64 id)] w Q := calls_vc tabOk Try.func16 (by rw [eq16]; exact hN)

/-- (*brougham/bucket.Bucket).Left -/
def N60 (b : Option Addr) (w : World) (Q : Value → World → Prop) : Prop :=
 NILC b fun a4 =>
 RDI PG (loadVar 3 (Addr.add a4 2)) .i64 w fun x6 =>
 LETI x6 fun x2 =>
 Q (.int .i64 x2) w
theorem eq60 : ∀ (b : Option Addr) (w : World) (Q : Value → World → Prop), vcF PG TB Try.f60 .nil [(.pointer b)] w Q = N60 b w Q := by intros; kernel_rfl
theorem call60 {b : Option Addr} {w : World} {Q : Value → World → Prop} (hN : N60 b w Q) : CALL PG 60 [(.pointer b)] w Q := calls_vc tabOk Try.func60 (by rw [eq60]; exact hN)

/-- brougham/bucket.New -/
def N63 (burst : Int) (rate : Int) (w : World) (Q : Value → World → Prop) : Prop :=
 LETI (minN (maxN burst (0 : Int)) (4096 : Int)) fun burst1 =>
 LETI (minN (maxN rate (0 : Int)) (4096 : Int)) fun rate1 =>
 RD PG (Instr.build 127 #[(0, (.int .i64 burst1)), (1, (.int .i64 rate1)), (2, (.int .i64 burst1))]) w fun v =>
 ∃ x14 : Int, ∃ x14v1 : Int, ∃ x14v2 : Int, v = (.agg #[(.int .i64 x14), (.int .i64 x14v1), (.int .i64 x14v2)]) ∧
 (RUNA PG (Instr.box 127 (.agg #[(.int .i64 x14), (.int .i64 x14v1), (.int .i64 x14v2)])) w fun a15 w1 =>
 Q (.pointer (some a15)) w1)
theorem eq63 : ∀ (burst : Int) (rate : Int) (w : World) (Q : Value → World → Prop), vcF PG TB Try.f63 .nil [(.int .i64 burst), (.int .i64 rate)] w Q = N63 burst rate w Q := by intros; kernel_rfl
theorem call63 {burst : Int} {rate : Int} {w : World} {Q : Value → World → Prop} (hN : N63 burst rate w Q) : CALL PG 63 [(.int .i64 burst), (.int .i64 rate)] w Q := calls_vc tabOk Try.func63 (by rw [eq63]; exact hN)

/-- slices.Contains[[]brougham/addrs.Addr,brougham/addrs.Addr] -/
def N64 (s : Option Addr) (sN sC : Nat) (v : Int) (v1 : Int) (w : World) (Q : Value → World → Prop) : Prop :=
 RUNA PG (Instr.box 24 (.agg #[(.int .i64 v), (.int .i64 v1)])) w fun a3 w1 =>
 RD PG (loadVar 24 a3) w1 fun v2 =>
 ∃ x6 : Int, ∃ x6v1 : Int, v2 = (.agg #[(.int .i64 x6), (.int .i64 x6v1)]) ∧
 (CALL PG 106 [(.slice s sN sC), (.agg #[(.int .i64 x6), (.int .i64 x6v1)])] w1 fun v3 w2 =>
 ∃ x7 : Int, v3 = (.int .i64 x7) ∧
 (LETB (decide (x7 ≥ (0 : Int))) fun x4 =>
 Q (.bool x4) w2))
theorem eq64 : ∀ (s : Option Addr) (sN sC : Nat) (v : Int) (v1 : Int) (w : World) (Q : Value → World → Prop), vcF PG TB Try.f64 .nil [(.slice s sN sC), (.agg #[(.int .i64 v), (.int .i64 v1)])] w Q = N64 s sN sC v v1 w Q := by intros; kernel_rfl
theorem call64 {s : Option Addr} {sN sC : Nat} {v : Int} {v1 : Int} {w : World} {Q : Value → World → Prop} (hN : N64 s sN sC v v1 w Q) : CALL PG 64 [(.slice s sN sC), (.agg #[(.int .i64 v), (.int .i64 v1)])] w Q := calls_vc tabOk Try.func64 (by rw [eq64]; exact hN)

/-- slices.IndexFunc[[]brougham/addrs.Addr,brougham/addrs.Addr] -/
def N65 (s : Option Addr) (sN sC : Nat) (f : Value) (w : World) (Q : Value → World → Prop) : Prop :=
 ∃ I : Nat → Int → World → Prop,
 (∃ m, I m (0 : Int) w) ∧
 (∀ m1 (x8 : Int) (w1 : World), I m1 x8 w1 → (IFB (decide (x8 < (sN : Int)))
 (LETI x8 fun i =>
 IDX s sN i fun a14 =>
 RD PG (loadVar 24 (Addr.add a14 (Int.toNat i * 2))) w1 fun v =>
 ∃ x15 : Int, ∃ x15v1 : Int, v = (.agg #[(.int .i64 x15), (.int .i64 x15v1)]) ∧
 (CALLV PG f [(.agg #[(.int .i64 x15), (.int .i64 x15v1)])] w1 fun v1 w2 =>
 ∃ x16 : Bool, v1 = (.bool x16) ∧
 (IFB x16
 (LETI i fun x4 =>
 Q (.int .i64 x4) w2)
 (∃ m2, m2 < m1 ∧ I m2 (IntKind.i64.wrap (x8 + (1 : Int))) w2))))
 (Q (.int .i64 (-1 : Int)) w1)))
theorem eq65 : ∀ (s : Option Addr) (sN sC : Nat) (f : Value) (w : World) (Q : Value → World → Prop), vcF PG TB Try.f65 (.s .nil (.s (.s .nil (.u (.loop [(8, 3)] .nil))) .nil)) [(.slice s sN sC), f] w Q = N65 s sN sC f w Q := by intros; kernel_rfl
theorem call65 {s : Option Addr} {sN sC : Nat} {f : Value} {w : World} {Q : Value → World → Prop} (hN : N65 s sN sC f w Q) : CALL PG 65 [(.slice s sN sC), f] w Q := calls_vc tabOk Try.func65 (by rw [eq65]; exact hN)

/-- (*brougham/addrs.Table).Add$1 -/
def N66 (x : Int) (x1 : Int) (x1v1 : Addr) (w : World) (Q : Value → World → Prop) : Prop :=
 RUNA PG (Instr.box 24 (.agg #[(.int .i64 x), (.int .i64 x1)])) w fun a2 w1 =>
 RDI PG (loadVar 3 (Addr.add a2 0)) .i64 w1 fun x5 =>
 RDI PG (loadVar 3 (Addr.add x1v1 0)) .i64 w1 fun x7 =>
 LETB (x5 == x7) fun x3 =>
 Q (.bool x3) w1
theorem eq66 : ∀ (x : Int) (x1 : Int) (x1v1 : Addr) (w : World) (Q : Value → World → Prop), vcF PG TB Try.f66 .nil [(.agg #[(.int .i64 x), (.int .i64 x1)]), (.pointer (some x1v1))] w Q = N66 x x1 x1v1 w Q := by intros; kernel_rfl
theorem call66 {x : Int} {x1 : Int} {x1v1 : Addr} {w : World} {Q : Value → World → Prop} (hN : N66 x x1 x1v1 w Q) : CALL PG 66 [(.agg #[(.int .i64 x), (.int .i64 x1)]), (.pointer (some x1v1))] w Q := calls_vc tabOk Try.func66 (by rw [eq66]; exact hN)

/-- (*brougham/addrs.Table).hear -/
def N67 (t : Option Addr) (w : World) (Q : Value → World → Prop) : Prop :=
 NILC t fun a4 =>
 RDP PG (loadVar 27 (Addr.add a4 0)) w fun x6 =>
 CALL PG 60 [(.pointer x6)] w fun v w1 =>
 ∃ x7 : Int, v = (.int .i64 x7) ∧
 (IFB (decide (x7 < (16 : Int)))
 (Q (.bool false) w1)
 (∃ I : Nat → Int → World → Prop,
 (∃ m, I m (0 : Int) w1) ∧
 (∀ m1 (x9 : Int) (w2 : World), I m1 x9 w2 → (IFB (decide (x9 < (16 : Int)))
 (NILC t fun a12 =>
 RDP PG (loadVar 27 (Addr.add a12 0)) w2 fun x14 =>
 CALL PG 107 [(.pointer x14)] w2 fun v1 w3 =>
 ∃ x15 : Bool, v1 = (.bool x15) ∧
 (∃ m2, m2 < m1 ∧ I m2 (IntKind.i64.wrap (x9 + (1 : Int))) w3))
 (Q (.bool true) w2)))))
theorem eq67 : ∀ (t : Option Addr) (w : World) (Q : Value → World → Prop), vcF PG TB Try.f67 (.s .nil (.s .nil (.s (.s .nil (.u (.loop [(9, 3)] .nil))) .nil))) [(.pointer t)] w Q = N67 t w Q := by intros; kernel_rfl
theorem call67 {t : Option Addr} {w : World} {Q : Value → World → Prop} (hN : N67 t w Q) : CALL PG 67 [(.pointer t)] w Q := calls_vc tabOk Try.func67 (by rw [eq67]; exact hN)

/-- slices.Clone[[]brougham/addrs.Addr,brougham/addrs.Addr] -/
def N68 (s : Option Addr) (sN sC : Nat) (w : World) (Q : Value → World → Prop) : Prop :=
 IFB (s.isNone)
 (Q (.slice none 0 0) w)
 (RUNL PG (Instr.buildSlice 28 0 #[]) w fun x5 x5N x5C w1 =>
 RUNL PG (Builtin.append_ #[28, 28] 28 #[(.slice x5 x5N x5C), (.slice s sN sC)]) w1 fun x7 x7N x7C w2 =>
 Q (.slice x7 x7N x7C) w2)
theorem eq68 : ∀ (s : Option Addr) (sN sC : Nat) (w : World) (Q : Value → World → Prop), vcF PG TB Try.f68 .nil [(.slice s sN sC)] w Q = N68 s sN sC w Q := by intros; kernel_rfl
theorem call68 {s : Option Addr} {sN sC : Nat} {w : World} {Q : Value → World → Prop} (hN : N68 s sN sC w Q) : CALL PG 68 [(.slice s sN sC)] w Q := calls_vc tabOk Try.func68 (by rw [eq68]; exact hN)

/-- (*brougham/addrs.Table).Gone$1 -/
def N69 (x : Int) (x1 : Int) (x1v1 : Addr) (w : World) (Q : Value → World → Prop) : Prop :=
 RUNA PG (Instr.box 24 (.agg #[(.int .i64 x), (.int .i64 x1)])) w fun a2 w1 =>
 RDI PG (loadVar 3 (Addr.add a2 0)) .i64 w1 fun x5 =>
 RDI PG (loadVar 3 x1v1) .i64 w1 fun x6 =>
 LETB (x5 == x6) fun x3 =>
 Q (.bool x3) w1
theorem eq69 : ∀ (x : Int) (x1 : Int) (x1v1 : Addr) (w : World) (Q : Value → World → Prop), vcF PG TB Try.f69 .nil [(.agg #[(.int .i64 x), (.int .i64 x1)]), (.pointer (some x1v1))] w Q = N69 x x1 x1v1 w Q := by intros; kernel_rfl
theorem call69 {x : Int} {x1 : Int} {x1v1 : Addr} {w : World} {Q : Value → World → Prop} (hN : N69 x x1 x1v1 w Q) : CALL PG 69 [(.agg #[(.int .i64 x), (.int .i64 x1)]), (.pointer (some x1v1))] w Q := calls_vc tabOk Try.func69 (by rw [eq69]; exact hN)

/-- slices.Delete[[]brougham/addrs.Addr,brougham/addrs.Addr] -/
def N70 (s : Option Addr) (sN sC : Nat) (i : Int) (j : Int) (w : World) (Q : Value → World → Prop) : Prop :=
 RDL PG (Instr.sliceAt 28 (.slice s sN sC) (some (.int .i64 i)) (some (.int .i64 j)) (some (.int .i64 (sN : Int)))) w fun x13 x13N x13C =>
 IFB (i == j)
 (Q (.slice s sN sC) w)
 (LETI (sN : Int) fun oldlen =>
 NEED (0 ≤ (0 : Int) ∧ (0 : Int) ≤ i ∧ i ≤ ((sC : Nat) : Int))
 (NEED (0 ≤ j ∧ j ≤ ((sN : Nat) : Int) ∧ ((sN : Nat) : Int) ≤ ((sC : Nat) : Int))
 (RUNL PG (Builtin.append_ #[28, 28] 28 #[(.slice (cutA s sC 2 (0 : Int)) (Int.toNat i - Int.toNat (0 : Int)) (sC - Int.toNat (0 : Int))), (.slice (cutA s sC 2 j) (Int.toNat ((sN : Nat) : Int) - Int.toNat j) (sC - Int.toNat j))]) (w.drew) fun x26 x26N x26C w1 =>
 NEED (0 ≤ (x26N : Int) ∧ (x26N : Int) ≤ oldlen ∧ oldlen ≤ ((x26C : Nat) : Int))
 (RUN PG (Builtin.clear_ #[28] 0 #[(.slice (cutA x26 x26C 2 (x26N : Int)) (Int.toNat oldlen - Int.toNat (x26N : Int)) (x26C - Int.toNat (x26N : Int)))]) w1 fun v w2 =>
 v = (.tuple #[]) ∧
 (Q (.slice x26 x26N x26C) w2)))))
theorem eq70 : ∀ (s : Option Addr) (sN sC : Nat) (i : Int) (j : Int) (w : World) (Q : Value → World → Prop), vcF PG TB Try.f70 .nil [(.slice s sN sC), (.int .i64 i), (.int .i64 j)] w Q = N70 s sN sC i j w Q := by intros; kernel_rfl
theorem call70 {s : Option Addr} {sN sC : Nat} {i : Int} {j : Int} {w : World} {Q : Value → World → Prop} (hN : N70 s sN sC i j w Q) : CALL PG 70 [(.slice s sN sC), (.int .i64 i), (.int .i64 j)] w Q := calls_vc tabOk Try.func70 (by rw [eq70]; exact hN)

/-- slices.Index[[]brougham/addrs.Addr,brougham/addrs.Addr] -/
def N106 (s : Option Addr) (sN sC : Nat) (v : Int) (v1 : Int) (w : World) (Q : Value → World → Prop) : Prop :=
 RUNA PG (Instr.box 24 (.agg #[(.int .i64 v), (.int .i64 v1)])) w fun a3 w1 =>
 ∃ I : Nat → Int → World → Prop,
 (∃ m, I m (0 : Int) w1) ∧
 (∀ m1 (x8 : Int) (w2 : World), I m1 x8 w2 → (IFB (decide (x8 < (sN : Int)))
 (LETI x8 fun i =>
 RD PG (loadVar 24 a3) (w2.drew) fun v2 =>
 ∃ x11 : Int, ∃ x11v1 : Int, v2 = (.agg #[(.int .i64 x11), (.int .i64 x11v1)]) ∧
 (IDX s sN i fun a14 =>
 RD PG (loadVar 24 (Addr.add a14 (Int.toNat i * 2))) (w2.drew) fun v3 =>
 ∃ x15 : Int, ∃ x15v1 : Int, v3 = (.agg #[(.int .i64 x15), (.int .i64 x15v1)]) ∧
 (RDB PG (do eqGuard .eql 24 (.tmp 11) (.tmp 15) (.agg #[(.int .i64 x11), (.int .i64 x11v1)]) (.agg #[(.int .i64 x15), (.int .i64 x15v1)]); binOp .eql 24 (.agg #[(.int .i64 x11), (.int .i64 x11v1)]) (.agg #[(.int .i64 x15), (.int .i64 x15v1)])) (w2.drew) fun x16 =>
 IFB x16
 (LETI i fun x4 =>
 Q (.int .i64 x4) (w2.drew))
 (∃ m2, m2 < m1 ∧ I m2 (IntKind.i64.wrap (x8 + (1 : Int))) (w2.drew)))))
 (Q (.int .i64 (-1 : Int)) w2)))
theorem eq106 : ∀ (s : Option Addr) (sN sC : Nat) (v : Int) (v1 : Int) (w : World) (Q : Value → World → Prop), vcF PG TB Try.f106 (.s .nil (.s (.s .nil (.u (.loop [(8, 3)] .nil))) .nil)) [(.slice s sN sC), (.agg #[(.int .i64 v), (.int .i64 v1)])] w Q = N106 s sN sC v v1 w Q := by intros; kernel_rfl
theorem call106 {s : Option Addr} {sN sC : Nat} {v : Int} {v1 : Int} {w : World} {Q : Value → World → Prop} (hN : N106 s sN sC v v1 w Q) : CALL PG 106 [(.slice s sN sC), (.agg #[(.int .i64 v), (.int .i64 v1)])] w Q := calls_vc tabOk Try.func106 (by rw [eq106]; exact hN)

/-- (*brougham/bucket.Bucket).Take -/
def N107 (b : Option Addr) (w : World) (Q : Value → World → Prop) : Prop :=
 NILC b fun a4 =>
 RDI PG (loadVar 3 (Addr.add a4 2)) .i64 w fun x6 =>
 IFB (x6 == (0 : Int))
 (Q (.bool false) w)
 (NILC b fun a9 =>
 RDI PG (loadVar 3 (Addr.add a9 2)) .i64 w fun x11 =>
 NILC b fun a13 =>
 RUNU PG (storeVar 3 (Addr.add a13 2) (.int .i64 (IntKind.i64.wrap (x11 - (1 : Int))))) w fun w1 =>
 Q (.bool true) w1)
theorem eq107 : ∀ (b : Option Addr) (w : World) (Q : Value → World → Prop), vcF PG TB Try.f107 .nil [(.pointer b)] w Q = N107 b w Q := by intros; kernel_rfl
theorem call107 {b : Option Addr} {w : World} {Q : Value → World → Prop} (hN : N107 b w Q) : CALL PG 107 [(.pointer b)] w Q := calls_vc tabOk Try.func107 (by rw [eq107]; exact hN)

end Go.Br
