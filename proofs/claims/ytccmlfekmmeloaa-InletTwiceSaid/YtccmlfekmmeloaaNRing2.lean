/- What the code of some functions says, as the core reads it; each reading is checked by the kernel. -/
import Derived.Test.YtccmlfekmmeloaaBrSeat
set_option linter.unusedVariables false
set_option maxRecDepth 100000
namespace Go.Br
open Go Go.Proofs

/-- brougham/ring.New -/
def N80 (sizev : Int) (w : World) (Q : Value → World → Prop) : Prop :=
 IFB (decide (sizev < (1 : Int)))
 (Q (.tuple #[(.pointer none), (.int .i64 (50 : Int))]) w)
 (IFB (decide (sizev > (65536 : Int)))
 (Q (.tuple #[(.pointer none), (.int .i64 (50 : Int))]) w)
 (RUN PG (Instr.makeSlice 58 (.int .i64 sizev) (.int .i64 sizev)) w fun v w1 =>
 ∃ (x11 : Option Addr) (x11N x11C : Nat), v = (.slice x11 x11N x11C) ∧
 (RD PG (Instr.build 215 #[(0, (.slice x11 x11N x11C))]) w1 fun v1 =>
 ∃ (x12 : Option Addr) (x12N x12C : Nat), ∃ x12v1 : Int, ∃ x12v2 : Int, v1 = (.agg #[(.slice x12 x12N x12C), (.int .i64 x12v1), (.int .i64 x12v2)]) ∧
 (RUN PG (Instr.box 215 (.agg #[(.slice x12 x12N x12C), (.int .i64 x12v1), (.int .i64 x12v2)])) w1 fun v2 w2 =>
 ∃ a13 : Addr, v2 = (.pointer (some a13)) ∧
 (Q (.tuple #[(.pointer (some a13)), (.int .i64 (0 : Int))]) w2)))))
theorem eq80 : ∀ (sizev : Int) (w : World) (Q : Value → World → Prop), vcF PG TB Try.f80 .nil [(.int .i64 sizev)] w Q = N80 sizev w Q := by intros; kernel_rfl
theorem call80 {sizev : Int} {w : World} {Q : Value → World → Prop} (hN : N80 sizev w Q) : CALL PG 80 [(.int .i64 sizev)] w Q := calls_vc tabOk Try.func80 (by rw [eq80]; exact hN)

/-- (*brougham/ring.Ring).Set -/
def N85 (r : Option Addr) (fromv : Int) (p : Option Addr) (pN pC : Nat) (w : World) (Q : Value → World → Prop) : Prop :=
 IFB (decide (fromv < (0 : Int)))
 (Q (.bool false) w)
 (NILC r fun a14 =>
 RD PG (loadVar 58 (Addr.add a14 0)) w fun v =>
 ∃ (x16 : Option Addr) (x16N x16C : Nat), v = (.slice x16 x16N x16C) ∧
 (IFB (decide (fromv > (x16N : Int)))
 (Q (.bool false) w)
 (NILC r fun a24 =>
 RD PG (loadVar 58 (Addr.add a24 0)) w fun v1 =>
 ∃ (x26 : Option Addr) (x26N x26C : Nat), v1 = (.slice x26 x26N x26C) ∧
 (IFB (decide ((pN : Int) > (IntKind.i64.wrap ((x26N : Int) - fromv))))
 (Q (.bool false) w)
 (∃ I : Nat → Int → World → Prop,
 (∃ m, I m (0 : Int) w) ∧
 (∀ m1 (x34 : Int) (w1 : World), I m1 x34 w1 → (IFB (decide (x34 < (pN : Int)))
 (IDX p pN x34 fun a37 =>
 RD PG (loadVar 5 (Addr.add a37 (Int.toNat x34 * 1))) w1 fun v2 =>
 ∃ x38 : Int, v2 = (.int .u8 x38) ∧
 (LETI x34 fun i =>
 LETI x38 fun c =>
 ∃ S : World → Prop, S (w1.drew) ∧
 (NILC r fun a40 =>
 RDS PG (loadVar 58 (Addr.add a40 0)) S fun v3 =>
 ∃ (x42 : Option Addr) (x42N x42C : Nat), v3 = (.slice x42 x42N x42C) ∧
 (CALL PG 120 [(.pointer r), (.int .i64 (IntKind.i64.wrap (fromv + i)))] (w1.drew) fun v4 w2 =>
 ∃ x47 : Int, v4 = (.int .i64 x47) ∧
 (∃ S1 : World → Prop, (∀ x, S1 x → S x) ∧ S1 w2 ∧
 (IDX x42 x42N x47 fun a49 =>
 RUNU PG (storeVar 5 (Addr.add a49 (Int.toNat x47 * 1)) (.int .u8 c)) w2 fun w3 =>
 ∃ m2, m2 < m1 ∧ I m2 (IntKind.i64.wrap (x34 + (1 : Int))) w3))))))
 (Q (.bool true) w1))))))))
theorem eq85 : ∀ (r : Option Addr) (fromv : Int) (p : Option Addr) (pN pC : Nat) (w : World) (Q : Value → World → Prop), vcF PG TB Try.f85 (.s .nil (.s .nil (.s (.s .nil (.u (.loop [(34, 3)] .nil))) .nil))) [(.pointer r), (.int .i64 fromv), (.slice p pN pC)] w Q = N85 r fromv p pN pC w Q := by intros; kernel_rfl
theorem call85 {r : Option Addr} {fromv : Int} {p : Option Addr} {pN pC : Nat} {w : World} {Q : Value → World → Prop} (hN : N85 r fromv p pN pC w Q) : CALL PG 85 [(.pointer r), (.int .i64 fromv), (.slice p pN pC)] w Q := calls_vc tabOk Try.func85 (by rw [eq85]; exact hN)

/-- (*brougham/ring.Ring).Grow -/
def N86 (r : Option Addr) (many : Int) (w : World) (Q : Value → World → Prop) : Prop :=
 IFB (decide (many < (0 : Int)))
 (Q (.bool false) w)
 (CALL PG 121 [(.pointer r)] w fun v w1 =>
 ∃ x10 : Int, v = (.int .i64 x10) ∧
 (IFB (decide (many > x10))
 (Q (.bool false) w1)
 (NILC r fun a14 =>
 RD PG (loadVar 3 (Addr.add a14 2)) w1 fun v1 =>
 ∃ x16 : Int, v1 = (.int .i64 x16) ∧
 (NILC r fun a19 =>
 RUNU PG (storeVar 3 (Addr.add a19 2) (.int .i64 (IntKind.i64.wrap (x16 + many)))) w1 fun w2 =>
 Q (.bool true) w2))))
theorem eq86 : ∀ (r : Option Addr) (many : Int) (w : World) (Q : Value → World → Prop), vcF PG TB Try.f86 .nil [(.pointer r), (.int .i64 many)] w Q = N86 r many w Q := by intros; kernel_rfl
theorem call86 {r : Option Addr} {many : Int} {w : World} {Q : Value → World → Prop} (hN : N86 r many w Q) : CALL PG 86 [(.pointer r), (.int .i64 many)] w Q := calls_vc tabOk Try.func86 (by rw [eq86]; exact hN)

/-- (*brougham/ring.Ring).Read -/
def N89 (r : Option Addr) (many : Int) (w : World) (Q : Value → World → Prop) : Prop :=
 CALL PG 123 [(.pointer r), (.int .i64 (0 : Int)), (.int .i64 many)] w fun v w1 =>
 ∃ (x8 : Option Addr) (x8N x8C : Nat), v = (.slice x8 x8N x8C) ∧
 (CALL PG 124 [(.pointer r), (.int .i64 (x8N : Int))] w1 fun v1 w2 =>
 ∃ x12 : Int, v1 = (.int .i64 x12) ∧
 (Q (.slice x8 x8N x8C) w2))
theorem eq89 : ∀ (r : Option Addr) (many : Int) (w : World) (Q : Value → World → Prop), vcF PG TB Try.f89 .nil [(.pointer r), (.int .i64 many)] w Q = N89 r many w Q := by intros; kernel_rfl
theorem call89 {r : Option Addr} {many : Int} {w : World} {Q : Value → World → Prop} (hN : N89 r many w Q) : CALL PG 89 [(.pointer r), (.int .i64 many)] w Q := calls_vc tabOk Try.func89 (by rw [eq89]; exact hN)

/-- (*brougham/ring.Ring).Len -/
def N90 (r : Option Addr) (w : World) (Q : Value → World → Prop) : Prop :=
 NILC r fun a4 =>
 RD PG (loadVar 3 (Addr.add a4 2)) w fun v =>
 ∃ x6 : Int, v = (.int .i64 x6) ∧
 (LETI x6 fun x2 =>
 Q (.int .i64 x2) w)
theorem eq90 : ∀ (r : Option Addr) (w : World) (Q : Value → World → Prop), vcF PG TB Try.f90 .nil [(.pointer r)] w Q = N90 r w Q := by intros; kernel_rfl
theorem call90 {r : Option Addr} {w : World} {Q : Value → World → Prop} (hN : N90 r w Q) : CALL PG 90 [(.pointer r)] w Q := calls_vc tabOk Try.func90 (by rw [eq90]; exact hN)

/-- (*brougham/ring.Ring).place -/
def N120 (r : Option Addr) (i : Int) (w : World) (Q : Value → World → Prop) : Prop :=
 NILC r fun a6 =>
 RD PG (loadVar 3 (Addr.add a6 1)) (w.drew) fun v =>
 ∃ x8 : Int, v = (.int .i64 x8) ∧
 (NILC r fun a12 =>
 RD PG (loadVar 58 (Addr.add a12 0)) (w.drew) fun v1 =>
 ∃ (x14 : Option Addr) (x14N x14C : Nat), v1 = (.slice x14 x14N x14C) ∧
 (NEED ((x14N : Int) ≠ 0)
 (LETI (Int.tmod (IntKind.i64.wrap (x8 + i)) (x14N : Int)) fun x4 =>
 Q (.int .i64 x4) (w.drew))))
theorem eq120 : ∀ (r : Option Addr) (i : Int) (w : World) (Q : Value → World → Prop), vcF PG TB Try.f120 .nil [(.pointer r), (.int .i64 i)] w Q = N120 r i w Q := by intros; kernel_rfl
theorem call120 {r : Option Addr} {i : Int} {w : World} {Q : Value → World → Prop} (hN : N120 r i w Q) : CALL PG 120 [(.pointer r), (.int .i64 i)] w Q := calls_vc tabOk Try.func120 (by rw [eq120]; exact hN)

/-- (*brougham/ring.Ring).Free -/
def N121 (r : Option Addr) (w : World) (Q : Value → World → Prop) : Prop :=
 NILC r fun a4 =>
 RD PG (loadVar 58 (Addr.add a4 0)) (w.drew) fun v =>
 ∃ (x6 : Option Addr) (x6N x6C : Nat), v = (.slice x6 x6N x6C) ∧
 (NILC r fun a9 =>
 RD PG (loadVar 3 (Addr.add a9 2)) (w.drew) fun v1 =>
 ∃ x11 : Int, v1 = (.int .i64 x11) ∧
 (LETI (IntKind.i64.wrap ((x6N : Int) - x11)) fun x2 =>
 Q (.int .i64 x2) (w.drew)))
theorem eq121 : ∀ (r : Option Addr) (w : World) (Q : Value → World → Prop), vcF PG TB Try.f121 .nil [(.pointer r)] w Q = N121 r w Q := by intros; kernel_rfl
theorem call121 {r : Option Addr} {w : World} {Q : Value → World → Prop} (hN : N121 r w Q) : CALL PG 121 [(.pointer r)] w Q := calls_vc tabOk Try.func121 (by rw [eq121]; exact hN)

/-- (*brougham/ring.Ring).Peek -/
def N123 (r : Option Addr) (fromv : Int) (many : Int) (w : World) (Q : Value → World → Prop) : Prop :=
 IFB (decide (fromv < (0 : Int)))
 (Q (.slice none 0 0) w)
 (NILC r fun a14 =>
 RD PG (loadVar 3 (Addr.add a14 2)) w fun v =>
 ∃ x16 : Int, v = (.int .i64 x16) ∧
 (IFB (decide (fromv ≥ x16))
 (Q (.slice none 0 0) w)
 (IFB (decide (many < (1 : Int)))
 (Q (.slice none 0 0) w)
 (NILC r fun a25 =>
 RD PG (loadVar 3 (Addr.add a25 2)) w fun v1 =>
 ∃ x27 : Int, v1 = (.int .i64 x27) ∧
 (LETI (minN many (IntKind.i64.wrap (x27 - fromv))) fun many1 =>
 RUN PG (Instr.makeSlice 58 (.int .i64 (0 : Int)) (.int .i64 many1)) w fun v2 w1 =>
 ∃ (x32 : Option Addr) (x32N x32C : Nat), v2 = (.slice x32 x32N x32C) ∧
 (CALL PG 120 [(.pointer r), (.int .i64 fromv)] w1 fun v3 w2 =>
 ∃ x35 : Int, v3 = (.int .i64 x35) ∧
 (LETI x35 fun a =>
 NILC r fun a38 =>
 RD PG (loadVar 58 (Addr.add a38 0)) (w2.drew) fun v4 =>
 ∃ (x40 : Option Addr) (x40N x40C : Nat), v4 = (.slice x40 x40N x40C) ∧
 (NILC r fun a46 =>
 RD PG (loadVar 58 (Addr.add a46 0)) (w2.drew) fun v5 =>
 ∃ (x48 : Option Addr) (x48N x48C : Nat), v5 = (.slice x48 x48N x48C) ∧
 (NEED (0 ≤ a ∧ a ≤ (minN (IntKind.i64.wrap (a + many1)) (x48N : Int)) ∧ (minN (IntKind.i64.wrap (a + many1)) (x48N : Int)) ≤ ((x40C : Nat) : Int))
 (RUN PG (Builtin.append_ #[58, 58] 58 #[(.slice x32 x32N x32C), (.slice (cutA x40 x40C 1 a) (Int.toNat (minN (IntKind.i64.wrap (a + many1)) (x48N : Int)) - Int.toNat a) (x40C - Int.toNat a))]) (w2.drew) fun v6 w3 =>
 ∃ (x52 : Option Addr) (x52N x52C : Nat), v6 = (.slice x52 x52N x52C) ∧
 (NILC r fun a55 =>
 RD PG (loadVar 58 (Addr.add a55 0)) w3 fun v7 =>
 ∃ (x57 : Option Addr) (x57N x57C : Nat), v7 = (.slice x57 x57N x57C) ∧
 (NEED (0 ≤ (0 : Int) ∧ (0 : Int) ≤ (IntKind.i64.wrap (many1 - (x52N : Int))) ∧ (IntKind.i64.wrap (many1 - (x52N : Int))) ≤ ((x57C : Nat) : Int))
 (RUN PG (Builtin.append_ #[58, 58] 58 #[(.slice x52 x52N x52C), (.slice (cutA x57 x57C 1 (0 : Int)) (Int.toNat (IntKind.i64.wrap (many1 - (x52N : Int))) - Int.toNat (0 : Int)) (x57C - Int.toNat (0 : Int)))]) w3 fun v8 w4 =>
 ∃ (x63 : Option Addr) (x63N x63C : Nat), v8 = (.slice x63 x63N x63C) ∧
 (Q (.slice x63 x63N x63C) w4))))))))))))))
theorem eq123 : ∀ (r : Option Addr) (fromv : Int) (many : Int) (w : World) (Q : Value → World → Prop), vcF PG TB Try.f123 .nil [(.pointer r), (.int .i64 fromv), (.int .i64 many)] w Q = N123 r fromv many w Q := by intros; kernel_rfl
theorem call123 {r : Option Addr} {fromv : Int} {many : Int} {w : World} {Q : Value → World → Prop} (hN : N123 r fromv many w Q) : CALL PG 123 [(.pointer r), (.int .i64 fromv), (.int .i64 many)] w Q := calls_vc tabOk Try.func123 (by rw [eq123]; exact hN)

/-- (*brougham/ring.Ring).Skip -/
def N124 (r : Option Addr) (many : Int) (w : World) (Q : Value → World → Prop) : Prop :=
 NILC r fun a9 =>
 RD PG (loadVar 3 (Addr.add a9 2)) w fun v =>
 ∃ x11 : Int, v = (.int .i64 x11) ∧
 (LETI (minN (maxN many (0 : Int)) x11) fun many1 =>
 NILC r fun a14 =>
 RD PG (loadVar 58 (Addr.add a14 0)) (w.drew) fun v1 =>
 ∃ (x16 : Option Addr) (x16N x16C : Nat), v1 = (.slice x16 x16N x16C) ∧
 (NILC r fun a18 =>
 RD PG (loadVar 3 (Addr.add a18 1)) (w.drew) fun v2 =>
 ∃ x20 : Int, v2 = (.int .i64 x20) ∧
 (NILC r fun a22 =>
 RD PG (loadVar 3 (Addr.add a22 1)) (w.drew) fun v3 =>
 ∃ x24 : Int, v3 = (.int .i64 x24) ∧
 (NILC r fun a28 =>
 RD PG (loadVar 58 (Addr.add a28 0)) (w.drew) fun v4 =>
 ∃ (x30 : Option Addr) (x30N x30C : Nat), v4 = (.slice x30 x30N x30C) ∧
 (NEED (0 ≤ x20 ∧ x20 ≤ (minN (IntKind.i64.wrap (x24 + many1)) (x30N : Int)) ∧ (minN (IntKind.i64.wrap (x24 + many1)) (x30N : Int)) ≤ ((x16C : Nat) : Int))
 (RUN PG (Builtin.clear_ #[58] 0 #[(.slice (cutA x16 x16C 1 x20) (Int.toNat (minN (IntKind.i64.wrap (x24 + many1)) (x30N : Int)) - Int.toNat x20) (x16C - Int.toNat x20))]) (w.drew) fun v5 w1 =>
 v5 = (.tuple #[]) ∧
 (NILC r fun a36 =>
 RD PG (loadVar 58 (Addr.add a36 0)) w1 fun v6 =>
 ∃ (x38 : Option Addr) (x38N x38C : Nat), v6 = (.slice x38 x38N x38C) ∧
 (NEED (0 ≤ (0 : Int) ∧ (0 : Int) ≤ (IntKind.i64.wrap (many1 - (((Int.toNat (minN (IntKind.i64.wrap (x24 + many1)) (x30N : Int)) - Int.toNat x20) : Nat) : Int))) ∧ (IntKind.i64.wrap (many1 - (((Int.toNat (minN (IntKind.i64.wrap (x24 + many1)) (x30N : Int)) - Int.toNat x20) : Nat) : Int))) ≤ ((x38C : Nat) : Int))
 (RUN PG (Builtin.clear_ #[58] 0 #[(.slice (cutA x38 x38C 1 (0 : Int)) (Int.toNat (IntKind.i64.wrap (many1 - (((Int.toNat (minN (IntKind.i64.wrap (x24 + many1)) (x30N : Int)) - Int.toNat x20) : Nat) : Int))) - Int.toNat (0 : Int)) (x38C - Int.toNat (0 : Int)))]) w1 fun v7 w2 =>
 v7 = (.tuple #[]) ∧
 (CALL PG 120 [(.pointer r), (.int .i64 many1)] w2 fun v8 w3 =>
 ∃ x47 : Int, v8 = (.int .i64 x47) ∧
 (NILC r fun a48 =>
 RUNU PG (storeVar 3 (Addr.add a48 1) (.int .i64 x47)) w3 fun w4 =>
 NILC r fun a51 =>
 RD PG (loadVar 3 (Addr.add a51 2)) w4 fun v9 =>
 ∃ x53 : Int, v9 = (.int .i64 x53) ∧
 (NILC r fun a56 =>
 RUNU PG (storeVar 3 (Addr.add a56 2) (.int .i64 (IntKind.i64.wrap (x53 - many1)))) w4 fun w5 =>
 LETI many1 fun x4 =>
 Q (.int .i64 x4) w5))))))))))))
theorem eq124 : ∀ (r : Option Addr) (many : Int) (w : World) (Q : Value → World → Prop), vcF PG TB Try.f124 .nil [(.pointer r), (.int .i64 many)] w Q = N124 r many w Q := by intros; kernel_rfl
theorem call124 {r : Option Addr} {many : Int} {w : World} {Q : Value → World → Prop} (hN : N124 r many w Q) : CALL PG 124 [(.pointer r), (.int .i64 many)] w Q := calls_vc tabOk Try.func124 (by rw [eq124]; exact hN)

end Go.Br
