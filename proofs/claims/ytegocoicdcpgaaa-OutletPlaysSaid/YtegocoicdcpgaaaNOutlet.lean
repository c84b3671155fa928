/- What the code of some functions says, as the core reads it; each reading is checked by the kernel. -/
import Derived.Test.YtegocoicdcpgaaaBrSeat
set_option linter.unusedVariables false
set_option maxRecDepth 100000
namespace Go.Br
open Go Go.Proofs

/-- brougham/outlet.New -/
def N40 (sizev : Int) (w : World) (Q : Value → World → Prop) : Prop :=
 CALL PG 15 [(.int .i64 sizev)] w fun v w1 =>
 ∃ x8 : Option Addr, ∃ x8v1 : Int, v = (.tuple #[(.pointer x8), (.int .i64 x8v1)]) ∧
 (LETI x8v1 fun e =>
 IFB (e != (0 : Int))
 (LETI e fun x3 =>
 Q (.tuple #[(.pointer none), (.int .i64 x3)]) w1)
 (RD PG (Instr.build 68 #[(0, (.pointer x8))]) w1 fun v1 =>
 ∃ x15 : Option Addr, ∃ x15v1 : Int, ∃ x15v2 : Bool, ∃ x15v3 : Bool, v1 = (.agg #[(.pointer x15), (.int .u64 x15v1), (.bool x15v2), (.bool x15v3)]) ∧
 (RUN PG (Instr.box 68 (.agg #[(.pointer x15), (.int .u64 x15v1), (.bool x15v2), (.bool x15v3)])) w1 fun v2 w2 =>
 ∃ a16 : Addr, v2 = (.pointer (some a16)) ∧
 (Q (.tuple #[(.pointer (some a16)), (.int .i64 (0 : Int))]) w2))))
theorem eq40 : ∀ (sizev : Int) (w : World) (Q : Value → World → Prop), vcF PG TB Try.f40 .nil [(.int .i64 sizev)] w Q = N40 sizev w Q := by intros; kernel_rfl
theorem call40 {sizev : Int} {w : World} {Q : Value → World → Prop} (hN : N40 sizev w Q) : CALL PG 40 [(.int .i64 sizev)] w Q := calls_vc tabOk Try.func40 (by rw [eq40]; exact hN)

/-- (*brougham/outlet.Outlet).Put -/
def N41 (o : Option Addr) (b : Option Addr) (bN bC : Nat) (w : World) (Q : Value → World → Prop) : Prop :=
 NILC o fun a9 =>
 RD PG (loadVar 4 (Addr.add a9 2)) w fun v =>
 ∃ x11 : Bool, v = (.bool x11) ∧
 (IFB x11
 (Q (.tuple #[(.int .i64 (0 : Int)), (.int .i64 (212 : Int))]) w)
 (IFB ((bN : Int) == (0 : Int))
 (Q (.tuple #[(.int .i64 (0 : Int)), (.int .i64 (0 : Int))]) w)
 (CALL PG 45 [(.pointer o)] w fun v1 w1 =>
 ∃ x16 : Int, v1 = (.int .u64 x16) ∧
 (LETI (IntKind.u64.wrap ((4611686018427387904 : Int) - x16)) fun left =>
 IFB (left == (0 : Int))
 (Q (.tuple #[(.int .i64 (0 : Int)), (.int .i64 (215 : Int))]) w1)
 (NILC o fun a21 =>
 RD PG (loadVar 24 (Addr.add a21 0)) (w1.drew) fun v2 =>
 ∃ x23 : Option Addr, v2 = (.pointer x23) ∧
 (NEED (0 ≤ (0 : Int) ∧ (0 : Int) ≤ (minN (IntKind.u64.wrap (bN : Int)) left) ∧ (minN (IntKind.u64.wrap (bN : Int)) left) ≤ ((bC : Nat) : Int))
 (CALL PG 16 [(.pointer x23), (.slice (cutA b bC 1 (0 : Int)) (Int.toNat (minN (IntKind.u64.wrap (bN : Int)) left) - Int.toNat (0 : Int)) (bC - Int.toNat (0 : Int)))] (w1.drew) fun v3 w2 =>
 ∃ x31 : Int, v3 = (.int .i64 x31) ∧
 (LETI x31 fun n =>
 IFB (n == (0 : Int))
 (Q (.tuple #[(.int .i64 (0 : Int)), (.int .i64 (210 : Int))]) w2)
 (LETI n fun x4 =>
 Q (.tuple #[(.int .i64 x4), (.int .i64 (0 : Int))]) w2)))))))))
theorem eq41 : ∀ (o : Option Addr) (b : Option Addr) (bN bC : Nat) (w : World) (Q : Value → World → Prop), vcF PG TB Try.f41 .nil [(.pointer o), (.slice b bN bC)] w Q = N41 o b bN bC w Q := by intros; kernel_rfl
theorem call41 {o : Option Addr} {b : Option Addr} {bN bC : Nat} {w : World} {Q : Value → World → Prop} (hN : N41 o b bN bC w Q) : CALL PG 41 [(.pointer o), (.slice b bN bC)] w Q := calls_vc tabOk Try.func41 (by rw [eq41]; exact hN)

/-- (*brougham/outlet.Outlet).Bytes -/
def N42 (o : Option Addr) (fromv : Int) (many : Int) (w : World) (Q : Value → World → Prop) : Prop :=
 ∃ S : World → Prop, S (w.drew) ∧
 (NILC o fun a9 =>
 RDS PG (loadVar 40 (Addr.add a9 1)) S fun v =>
 ∃ x11 : Int, v = (.int .u64 x11) ∧
 (IFB (decide (fromv < x11))
 (Q (.slice none 0 0) (w.drew))
 (NILC o fun a16 =>
 RDS PG (loadVar 40 (Addr.add a16 1)) S fun v1 =>
 ∃ x18 : Int, v1 = (.int .u64 x18) ∧
 (NILC o fun a21 =>
 RDS PG (loadVar 24 (Addr.add a21 0)) S fun v2 =>
 ∃ x23 : Option Addr, v2 = (.pointer x23) ∧
 (CALL PG 19 [(.pointer x23)] (w.drew) fun v3 w1 =>
 ∃ x24 : Int, v3 = (.int .i64 x24) ∧
 (∃ S1 : World → Prop, (∀ x, S1 x → S x) ∧ S1 w1 ∧
 (IFB (decide ((IntKind.u64.wrap (fromv - x18)) > (IntKind.u64.wrap x24)))
 (Q (.slice none 0 0) w1)
 (NILC o fun a29 =>
 RD PG (loadVar 24 (Addr.add a29 0)) (w1.drew) fun v4 =>
 ∃ x31 : Option Addr, v4 = (.pointer x31) ∧
 (NILC o fun a34 =>
 RD PG (loadVar 40 (Addr.add a34 1)) (w1.drew) fun v5 =>
 ∃ x36 : Int, v5 = (.int .u64 x36) ∧
 (CALL PG 23 [(.pointer x31), (.int .i64 (IntKind.i64.wrap (IntKind.u64.wrap (fromv - x36)))), (.int .i64 many)] (w1.drew) fun v6 w2 =>
 ∃ (x40 : Option Addr) (x40N x40C : Nat), v6 = (.slice x40 x40N x40C) ∧
 (Q (.slice x40 x40N x40C) w2)))))))))))
theorem eq42 : ∀ (o : Option Addr) (fromv : Int) (many : Int) (w : World) (Q : Value → World → Prop), vcF PG TB Try.f42 .nil [(.pointer o), (.int .u64 fromv), (.int .i64 many)] w Q = N42 o fromv many w Q := by intros; kernel_rfl
theorem call42 {o : Option Addr} {fromv : Int} {many : Int} {w : World} {Q : Value → World → Prop} (hN : N42 o fromv many w Q) : CALL PG 42 [(.pointer o), (.int .u64 fromv), (.int .i64 many)] w Q := calls_vc tabOk Try.func42 (by rw [eq42]; exact hN)

/-- (*brougham/outlet.Outlet).Base -/
def N43 (o : Option Addr) (w : World) (Q : Value → World → Prop) : Prop :=
 NILC o fun a4 =>
 RD PG (loadVar 40 (Addr.add a4 1)) w fun v =>
 ∃ x6 : Int, v = (.int .u64 x6) ∧
 (LETI x6 fun x2 =>
 Q (.int .u64 x2) w)
theorem eq43 : ∀ (o : Option Addr) (w : World) (Q : Value → World → Prop), vcF PG TB Try.f43 .nil [(.pointer o)] w Q = N43 o w Q := by intros; kernel_rfl
theorem call43 {o : Option Addr} {w : World} {Q : Value → World → Prop} (hN : N43 o w Q) : CALL PG 43 [(.pointer o)] w Q := calls_vc tabOk Try.func43 (by rw [eq43]; exact hN)

/-- (*brougham/outlet.Outlet).Acked -/
def N44 (o : Option Addr) (tov : Int) (w : World) (Q : Value → World → Prop) : Prop :=
 NILC o fun a7 =>
 RD PG (loadVar 40 (Addr.add a7 1)) w fun v =>
 ∃ x9 : Int, v = (.int .u64 x9) ∧
 (IFB (decide (tov ≤ x9))
 (Q (.bool false) w)
 (CALL PG 48 [(.pointer o)] w fun v1 w1 =>
 ∃ x14 : Int, v1 = (.int .u64 x14) ∧
 (IFB (decide (tov > x14))
 (Q (.bool false) w1)
 (NILC o fun a19 =>
 RD PG (loadVar 4 (Addr.add a19 3)) w1 fun v2 =>
 ∃ x21 : Bool, v2 = (.bool x21) ∧
 (IFB x21
 (Q (.bool false) w1)
 (∃ R : Int → World → Prop,
 (CALL PG 48 [(.pointer o)] w1 fun v3 w2 =>
 ∃ x25 : Int, v3 = (.int .u64 x25) ∧
 (IFB (tov == x25)
 (NILC o fun a29 =>
 RD PG (loadVar 4 (Addr.add a29 2)) w2 fun v4 =>
 ∃ x31 : Bool, v4 = (.bool x31) ∧
 (IFB x31
 (NILC o fun a34 =>
 RUNU PG (storeVar 4 (Addr.add a34 3) (.bool true)) w2 fun w3 =>
 LETI (IntKind.u64.wrap (tov - (1 : Int))) fun tov1 =>
 R tov1 w3)
 (R tov w2)))
 (R tov w2))) ∧
 (∀ (tov2 : Int) (w4 : World), R tov2 w4 → (NILC o fun a39 =>
 RD PG (loadVar 24 (Addr.add a39 0)) (w4.drew) fun v5 =>
 ∃ x41 : Option Addr, v5 = (.pointer x41) ∧
 (NILC o fun a44 =>
 RD PG (loadVar 40 (Addr.add a44 1)) (w4.drew) fun v6 =>
 ∃ x46 : Int, v6 = (.int .u64 x46) ∧
 (CALL PG 21 [(.pointer x41), (.int .i64 (IntKind.i64.wrap (IntKind.u64.wrap (tov2 - x46))))] (w4.drew) fun v7 w5 =>
 ∃ x49 : Int, v7 = (.int .i64 x49) ∧
 (NILC o fun a52 =>
 RUNU PG (storeVar 40 (Addr.add a52 1) (.int .u64 tov2)) w5 fun w6 =>
 Q (.bool true) w6)))))))))))
theorem eq44 : ∀ (o : Option Addr) (tov : Int) (w : World) (Q : Value → World → Prop), vcF PG TB Try.f44 (.s .nil (.s .nil (.cut [(1, 40)] .nil .nil))) [(.pointer o), (.int .u64 tov)] w Q = N44 o tov w Q := by intros; kernel_rfl
theorem call44 {o : Option Addr} {tov : Int} {w : World} {Q : Value → World → Prop} (hN : N44 o tov w Q) : CALL PG 44 [(.pointer o), (.int .u64 tov)] w Q := calls_vc tabOk Try.func44 (by rw [eq44]; exact hN)

/-- (*brougham/outlet.Outlet).End -/
def N45 (o : Option Addr) (w : World) (Q : Value → World → Prop) : Prop :=
 ∃ S : World → Prop, S (w.drew) ∧
 (NILC o fun a4 =>
 RDS PG (loadVar 40 (Addr.add a4 1)) S fun v =>
 ∃ x6 : Int, v = (.int .u64 x6) ∧
 (NILC o fun a8 =>
 RDS PG (loadVar 24 (Addr.add a8 0)) S fun v1 =>
 ∃ x10 : Option Addr, v1 = (.pointer x10) ∧
 (CALL PG 19 [(.pointer x10)] (w.drew) fun v2 w1 =>
 ∃ x11 : Int, v2 = (.int .i64 x11) ∧
 (∃ S1 : World → Prop, (∀ x, S1 x → S x) ∧ S1 w1 ∧
 (LETI (IntKind.u64.wrap (x6 + (IntKind.u64.wrap x11))) fun x2 =>
 Q (.int .u64 x2) w1)))))
theorem eq45 : ∀ (o : Option Addr) (w : World) (Q : Value → World → Prop), vcF PG TB Try.f45 .nil [(.pointer o)] w Q = N45 o w Q := by intros; kernel_rfl
theorem call45 {o : Option Addr} {w : World} {Q : Value → World → Prop} (hN : N45 o w Q) : CALL PG 45 [(.pointer o)] w Q := calls_vc tabOk Try.func45 (by rw [eq45]; exact hN)

/-- (*brougham/outlet.Outlet).Close -/
def N47 (o : Option Addr) (w : World) (Q : Value → World → Prop) : Prop :=
 NILC o fun a3 =>
 RUNU PG (storeVar 4 (Addr.add a3 2) (.bool true)) w fun w1 =>
 Q (.tuple #[]) w1
theorem eq47 : ∀ (o : Option Addr) (w : World) (Q : Value → World → Prop), vcF PG TB Try.f47 .nil [(.pointer o)] w Q = N47 o w Q := by intros; kernel_rfl
theorem call47 {o : Option Addr} {w : World} {Q : Value → World → Prop} (hN : N47 o w Q) : CALL PG 47 [(.pointer o)] w Q := calls_vc tabOk Try.func47 (by rw [eq47]; exact hN)

/-- (*brougham/outlet.Outlet).Top -/
def N48 (o : Option Addr) (w : World) (Q : Value → World → Prop) : Prop :=
 NILC o fun a4 =>
 RD PG (loadVar 4 (Addr.add a4 2)) w fun v =>
 ∃ x6 : Bool, v = (.bool x6) ∧
 (IFB x6
 (CALL PG 45 [(.pointer o)] w fun v1 w1 =>
 ∃ x8 : Int, v1 = (.int .u64 x8) ∧
 (LETI (IntKind.u64.wrap (x8 + (1 : Int))) fun x2 =>
 Q (.int .u64 x2) w1))
 (CALL PG 45 [(.pointer o)] w fun v2 w2 =>
 ∃ x11 : Int, v2 = (.int .u64 x11) ∧
 (LETI x11 fun x2v1 =>
 Q (.int .u64 x2v1) w2)))
theorem eq48 : ∀ (o : Option Addr) (w : World) (Q : Value → World → Prop), vcF PG TB Try.f48 .nil [(.pointer o)] w Q = N48 o w Q := by intros; kernel_rfl
theorem call48 {o : Option Addr} {w : World} {Q : Value → World → Prop} (hN : N48 o w Q) : CALL PG 48 [(.pointer o)] w Q := calls_vc tabOk Try.func48 (by rw [eq48]; exact hN)

/-- (*brougham/outlet.Outlet).Done -/
def N49 (o : Option Addr) (w : World) (Q : Value → World → Prop) : Prop :=
 NILC o fun a4 =>
 RD PG (loadVar 4 (Addr.add a4 3)) w fun v =>
 ∃ x6 : Bool, v = (.bool x6) ∧
 (LETB x6 fun x2 =>
 Q (.bool x2) w)
theorem eq49 : ∀ (o : Option Addr) (w : World) (Q : Value → World → Prop), vcF PG TB Try.f49 .nil [(.pointer o)] w Q = N49 o w Q := by intros; kernel_rfl
theorem call49 {o : Option Addr} {w : World} {Q : Value → World → Prop} (hN : N49 o w Q) : CALL PG 49 [(.pointer o)] w Q := calls_vc tabOk Try.func49 (by rw [eq49]; exact hN)

/-- (*brougham/outlet.Outlet).Closed -/
def N62 (o : Option Addr) (w : World) (Q : Value → World → Prop) : Prop :=
 NILC o fun a4 =>
 RD PG (loadVar 4 (Addr.add a4 2)) w fun v =>
 ∃ x6 : Bool, v = (.bool x6) ∧
 (LETB x6 fun x2 =>
 Q (.bool x2) w)
theorem eq62 : ∀ (o : Option Addr) (w : World) (Q : Value → World → Prop), vcF PG TB Try.f62 .nil [(.pointer o)] w Q = N62 o w Q := by intros; kernel_rfl
theorem call62 {o : Option Addr} {w : World} {Q : Value → World → Prop} (hN : N62 o w Q) : CALL PG 62 [(.pointer o)] w Q := calls_vc tabOk Try.func62 (by rw [eq62]; exact hN)

end Go.Br
