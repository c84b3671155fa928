/- What the code of some functions says, as the core reads it; each reading is checked by the kernel. -/
import Derived.Test.YtegocoicdcpgaaaBrSeat
set_option linter.unusedVariables false
set_option maxRecDepth 100000
namespace Go.Br
open Go Go.Proofs

/-- brougham/broughamlaw44.HistRows -/
def N5 (n : Int) (row : Int) (w : World) (Q : Value → World → Prop) : Prop :=
 CALL PG 25 [(.int .i64 n)] w fun v w1 =>
 ∃ x7 : Int, v = (.int .i64 x7) ∧
 (LETI x7 fun r =>
 CALL PG 26 [(.int .i64 n)] w1 fun v1 w2 =>
 ∃ x10 : Int, v1 = (.int .i64 x10) ∧
 (IFB (r != x10)
 (Q (.bool false) w2)
 (CALL PG 27 [(.int .i64 row)] w2 fun v2 w3 =>
 ∃ x14 : Int, v2 = (.int .i64 x14) ∧
 (CALL PG 28 [(.int .i64 row)] w3 fun v3 w4 =>
 ∃ x16 : Int, v3 = (.int .i64 x16) ∧
 (IFB (x14 != x16)
 (Q (.bool false) w4)
 (IFB (decide (r < (0 : Int)))
 (Q (.bool false) w4)
 (IFB (decide (r ≥ (120 : Int)))
 (Q (.bool false) w4)
 (IFB (decide (n < (0 : Int)))
 (CALL PG 29 [] w4 fun v4 w5 =>
 ∃ x33 : Bool, v4 = (.bool x33) ∧
 (LETB x33 fun x4 =>
 Q (.bool x4) w5))
 (IFB (decide (n ≥ (2147483648 : Int)))
 (CALL PG 29 [] w4 fun v5 w6 =>
 ∃ x33v1 : Bool, v5 = (.bool x33v1) ∧
 (LETB x33v1 fun x4v1 =>
 Q (.bool x4v1) w6))
 (CALL PG 27 [(.int .i64 r)] w4 fun v6 w7 =>
 ∃ x35 : Int, v6 = (.int .i64 x35) ∧
 (IFB (decide (x35 ≤ n))
 (CALL PG 27 [(.int .i64 (IntKind.i64.wrap (r + (1 : Int))))] w7 fun v7 w8 =>
 ∃ x41 : Int, v7 = (.int .i64 x41) ∧
 (IFB (decide (x41 > n))
 (CALL PG 27 [(.int .i64 r)] w8 fun v8 w9 =>
 ∃ x47 : Int, v8 = (.int .i64 x47) ∧
 (CALL PG 25 [(.int .i64 x47)] w9 fun v9 w10 =>
 ∃ x48 : Int, v9 = (.int .i64 x48) ∧
 (IFB (x48 == r)
 (CALL PG 29 [] w10 fun v10 w11 =>
 ∃ x53 : Bool, v10 = (.bool x53) ∧
 (LETB x53 fun x4v2 =>
 Q (.bool x4v2) w11))
 (LETB false fun x4v3 =>
 Q (.bool x4v3) w10))))
 (LETB false fun x4v4 =>
 Q (.bool x4v4) w8)))
 (LETB false fun x4v5 =>
 Q (.bool x4v5) w7))))))))))))
theorem eq5 : ∀ (n : Int) (row : Int) (w : World) (Q : Value → World → Prop), vcF PG TB Try.f5 .nil [(.int .i64 n), (.int .i64 row)] w Q = N5 n row w Q := by intros; kernel_rfl
theorem call5 {n : Int} {row : Int} {w : World} {Q : Value → World → Prop} (hN : N5 n row w Q) : CALL PG 5 [(.int .i64 n), (.int .i64 row)] w Q := calls_vc tabOk Try.func5 (by rw [eq5]; exact hN)

/-- brougham/broughamlaw44.alive -/
def N29  (w : World) (Q : Value → World → Prop) : Prop :=
 RD PG (Instr.build 56 #[]) w fun v =>
 ∃ x2 : Value, v = x2 ∧
 (RUN PG (Instr.alloc 56 true (.tuple #[])) w fun v1 w1 =>
 ∃ a1 : Addr, v1 = (.pointer (some a1)) ∧
 (RUNU PG (storeVar 56 a1 x2) w1 fun w2 =>
 CALL PG 37 [(.pointer (some a1)), (.int .i64 (5 : Int)), (.int .i64 (2 : Int))] w2 fun v2 w3 =>
 v2 = (.tuple #[]) ∧
 (CALL PG 25 [(.int .i64 (5 : Int))] w3 fun v3 w4 =>
 ∃ x4 : Int, v3 = (.int .i64 x4) ∧
 (IFB (x4 == (5 : Int))
 (CALL PG 25 [(.int .i64 (9 : Int))] w4 fun v4 w5 =>
 ∃ x7 : Int, v4 = (.int .i64 x7) ∧
 (IFB (x7 == (8 : Int))
 (CALL PG 27 [(.int .i64 (8 : Int))] w5 fun v5 w6 =>
 ∃ x11 : Int, v5 = (.int .i64 x11) ∧
 (IFB (x11 == (8 : Int))
 (CALL PG 89 [(.pointer (some a1))] w6 fun v6 w7 =>
 ∃ x15 : Int, v6 = (.int .i64 x15) ∧
 (IFB (x15 == (2 : Int))
 (CALL PG 90 [(.pointer (some a1))] w7 fun v7 w8 =>
 ∃ x19 : Int, v7 = (.int .i64 x19) ∧
 (IFB (x19 == (5 : Int))
 (LETB true fun x0 =>
 Q (.bool x0) w8)
 (LETB false fun x0v1 =>
 Q (.bool x0v1) w8)))
 (LETB false fun x0v2 =>
 Q (.bool x0v2) w7)))
 (LETB false fun x0v3 =>
 Q (.bool x0v3) w6)))
 (LETB false fun x0v4 =>
 Q (.bool x0v4) w5)))
 (LETB false fun x0v5 =>
 Q (.bool x0v5) w4)))))
theorem eq29 : ∀  (w : World) (Q : Value → World → Prop), vcF PG TB Try.f29 .nil [] w Q = N29  w Q := by intros; kernel_rfl
theorem call29  {w : World} {Q : Value → World → Prop} (hN : N29  w Q) : CALL PG 29 [] w Q := calls_vc tabOk Try.func29 (by rw [eq29]; exact hN)

/-- (*brougham/hist.Hist).Add -/
def N37 (h : Option Addr) (n : Int) (often : Int) (w : World) (Q : Value → World → Prop) : Prop :=
 LETI (minN (maxN often (0 : Int)) (1048576 : Int)) fun often1 =>
 ∃ S : World → Prop, S (w.drew) ∧
 (NILC h fun a12 =>
 NILC h fun a18 =>
 CALL PG 25 [(.int .i64 n)] (w.drew) fun v w1 =>
 ∃ x11 : Int, v = (.int .i64 x11) ∧
 (∃ S1 : World → Prop, (∀ x, S1 x → S x) ∧ S1 w1 ∧
 (NEED (0 ≤ x11 ∧ x11 < ((120 : Nat) : Int))
 (RDS PG (loadVar 3 (Addr.add (Addr.add a12 0) (Int.toNat x11 * 1))) S1 fun v1 =>
 ∃ x15 : Int, v1 = (.int .i64 x15) ∧
 (NEED (0 ≤ x11 ∧ x11 < ((120 : Nat) : Int))
 (RUNU PG (storeVar 3 (Addr.add (Addr.add a18 0) (Int.toNat x11 * 1)) (.int .i64 (IntKind.i64.wrap (x15 + often1)))) w1 fun w2 =>
 NILC h fun a22 =>
 RD PG (loadVar 3 (Addr.add a22 120)) w2 fun v2 =>
 ∃ x24 : Int, v2 = (.int .i64 x24) ∧
 (NILC h fun a27 =>
 RUNU PG (storeVar 3 (Addr.add a27 120) (.int .i64 (IntKind.i64.wrap (x24 + often1)))) w2 fun w3 =>
 NILC h fun a30 =>
 RD PG (loadVar 3 (Addr.add a30 121)) w3 fun v3 =>
 ∃ x32 : Int, v3 = (.int .i64 x32) ∧
 (NILC h fun a39 =>
 RUNU PG (storeVar 3 (Addr.add a39 121) (.int .i64 (IntKind.i64.wrap (x32 + (IntKind.i64.wrap (often1 * (minN (maxN n (0 : Int)) (2147483647 : Int)))))))) w3 fun w4 =>
 Q (.tuple #[]) w4))))))))
theorem eq37 : ∀ (h : Option Addr) (n : Int) (often : Int) (w : World) (Q : Value → World → Prop), vcF PG TB Try.f37 .nil [(.pointer h), (.int .i64 n), (.int .i64 often)] w Q = N37 h n often w Q := by intros; kernel_rfl
theorem call37 {h : Option Addr} {n : Int} {often : Int} {w : World} {Q : Value → World → Prop} (hN : N37 h n often w Q) : CALL PG 37 [(.pointer h), (.int .i64 n), (.int .i64 often)] w Q := calls_vc tabOk Try.func37 (by rw [eq37]; exact hN)

/-- (*brougham/hist.Hist).Many -/
def N89 (h : Option Addr) (w : World) (Q : Value → World → Prop) : Prop :=
 NILC h fun a4 =>
 RD PG (loadVar 3 (Addr.add a4 120)) w fun v =>
 ∃ x6 : Int, v = (.int .i64 x6) ∧
 (LETI x6 fun x2 =>
 Q (.int .i64 x2) w)
theorem eq89 : ∀ (h : Option Addr) (w : World) (Q : Value → World → Prop), vcF PG TB Try.f89 .nil [(.pointer h)] w Q = N89 h w Q := by intros; kernel_rfl
theorem call89 {h : Option Addr} {w : World} {Q : Value → World → Prop} (hN : N89 h w Q) : CALL PG 89 [(.pointer h)] w Q := calls_vc tabOk Try.func89 (by rw [eq89]; exact hN)

/-- (*brougham/hist.Hist).Mean -/
def N90 (h : Option Addr) (w : World) (Q : Value → World → Prop) : Prop :=
 NILC h fun a4 =>
 RD PG (loadVar 3 (Addr.add a4 120)) w fun v =>
 ∃ x6 : Int, v = (.int .i64 x6) ∧
 (IFB (x6 == (0 : Int))
 (Q (.int .i64 (0 : Int)) w)
 (NILC h fun a9 =>
 RD PG (loadVar 3 (Addr.add a9 121)) (w.drew) fun v1 =>
 ∃ x11 : Int, v1 = (.int .i64 x11) ∧
 (NILC h fun a13 =>
 RD PG (loadVar 3 (Addr.add a13 120)) (w.drew) fun v2 =>
 ∃ x15 : Int, v2 = (.int .i64 x15) ∧
 (NEED (x15 ≠ 0)
 (LETI (IntKind.i64.wrap (Int.tdiv x11 x15)) fun x2 =>
 Q (.int .i64 x2) (w.drew))))))
theorem eq90 : ∀ (h : Option Addr) (w : World) (Q : Value → World → Prop), vcF PG TB Try.f90 .nil [(.pointer h)] w Q = N90 h w Q := by intros; kernel_rfl
theorem call90 {h : Option Addr} {w : World} {Q : Value → World → Prop} (hN : N90 h w Q) : CALL PG 90 [(.pointer h)] w Q := calls_vc tabOk Try.func90 (by rw [eq90]; exact hN)

end Go.Br
