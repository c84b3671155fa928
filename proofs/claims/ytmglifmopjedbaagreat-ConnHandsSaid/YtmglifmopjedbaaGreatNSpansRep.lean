/- What the code of some functions says, as the core reads it; each reading is checked by the kernel. -/
import Derived.Test.YtmglifmopjedbaaGreatBrSeat
set_option linter.unusedVariables false
set_option maxRecDepth 100000
namespace Go.Br
open Go Go.Proofs
def N242 (s : Option Addr) (sN sC : Nat) (i : Int) (j : Int) (v : Option Addr) (vN vC : Nat) (w : World) (Q : QP) : Prop :=
 NEED (0 <= i /\ i <= j /\ j <= ((sC : Nat) : Int))
 (IFB (i == j)
 (CALL PG 270 [(.slice s sN sC),(.int .i64 i),(.slice v vN vC)] w fun v1 w1 =>
 ∃ (x25 : Option Addr) (x25N x25C : Nat),v1 = (.slice x25 x25N x25C) /\
 (Q (.slice x25 x25N x25C) w1))
 (IFB (j == (sN : Int))
 (NEED (0 <= (0 : Int) /\ (0 : Int) <= i /\ i <= ((sC : Nat) : Int))
 (RUNL PG (Builtin.append_ #[260,260] 260 #[(.slice (cutA s sC 2 0) (Int.toNat i - Int.toNat 0) (sC - Int.toNat 0)),(.slice v vN vC)]) w fun x34 x34N x34C w2 =>
 IFB (decide ((x34N : Int) < (sN : Int)))
 (NEED (0 <= (x34N : Int) /\ (x34N : Int) <= ((sN : Nat) : Int) /\ ((sN : Nat) : Int) <= ((sC : Nat) : Int))
 (RUN PG (Builtin.clear_ #[260] 0 #[(.slice (cutA s sC 2 (x34N : Int)) (Int.toNat ((sN : Nat) : Int) - Int.toNat (x34N : Int)) (sC - Int.toNat (x34N : Int)))]) w2 fun v2 w3 =>
 v2 = (.tuple #[]) /\
 (Q (.slice x34 x34N x34C) w3)))
 (Q (.slice x34 x34N x34C) w2)))
 (NEED (0 <= (0 : Int) /\ (0 : Int) <= i /\ i <= ((sC : Nat) : Int))
 (NEED (0 <= j /\ j <= ((sN : Nat) : Int) /\ ((sN : Nat) : Int) <= ((sC : Nat) : Int))
 (LETI (IntKind.i64.wrap ((IntKind.i64.wrap ((((Int.toNat i - Int.toNat 0) : Nat) : Int) + (vN : Int))) + (((Int.toNat ((sN : Nat) : Int) - Int.toNat j) : Nat) : Int))) fun tot =>
 IFB (decide (tot > (sC : Int)))
 (NEED (0 <= (0 : Int) /\ (0 : Int) <= i /\ i <= ((sC : Nat) : Int))
 (RUNL PG (Builtin.append_ #[260,3] 260 #[(.slice (cutA s sC 2 0) (Int.toNat i - Int.toNat 0) (sC - Int.toNat 0)),(.int .i64 (IntKind.i64.wrap (tot - i)))]) (w.drew) fun x67 x67N x67C w4 =>
 NEED (0 <= i /\ i <= ((x67N : Nat) : Int) /\ ((x67N : Nat) : Int) <= ((x67C : Nat) : Int))
 (RUNI PG (Builtin.copy_ #[260,260] 3 #[(.slice (cutA x67 x67C 2 i) (Int.toNat ((x67N : Nat) : Int) - Int.toNat i) (x67C - Int.toNat i)),(.slice v vN vC)]) .i64 w4 fun x72 w5 =>
 NEED (0 <= (IntKind.i64.wrap (i + (vN : Int))) /\ (IntKind.i64.wrap (i + (vN : Int))) <= ((x67N : Nat) : Int) /\ ((x67N : Nat) : Int) <= ((x67C : Nat) : Int))
 (NEED (0 <= j /\ j <= ((sN : Nat) : Int) /\ ((sN : Nat) : Int) <= ((sC : Nat) : Int))
 (RUNI PG (Builtin.copy_ #[260,260] 3 #[(.slice (cutA x67 x67C 2 (IntKind.i64.wrap (i + (vN : Int)))) (Int.toNat ((x67N : Nat) : Int) - Int.toNat (IntKind.i64.wrap (i + (vN : Int)))) (x67C - Int.toNat (IntKind.i64.wrap (i + (vN : Int))))),(.slice (cutA s sC 2 j) (Int.toNat ((sN : Nat) : Int) - Int.toNat j) (sC - Int.toNat j))]) .i64 (w5.drew) fun x82 w6 =>
 Q (.slice x67 x67N x67C) w6)))))
 (NEED (0 <= (0 : Int) /\ (0 : Int) <= tot /\ tot <= ((sC : Nat) : Int))
 (IFB (decide ((IntKind.i64.wrap (i + (vN : Int))) <= j))
 (NEED (0 <= i /\ i <= (((Int.toNat tot - Int.toNat (0 : Int)) : Nat) : Int) /\ (((Int.toNat tot - Int.toNat (0 : Int)) : Nat) : Int) <= (((sC - Int.toNat (0 : Int)) : Nat) : Int))
 (RUNI PG (Builtin.copy_ #[260,260] 3 #[(.slice (cutA (cutA s sC 2 0) (sC - Int.toNat 0) 2 i) (Int.toNat (((Int.toNat tot - Int.toNat 0) : Nat) : Int) - Int.toNat i) ((sC - Int.toNat 0) - Int.toNat i)),(.slice v vN vC)]) .i64 (w.drew) fun x97 w7 =>
 NEED (0 <= (IntKind.i64.wrap (i + (vN : Int))) /\ (IntKind.i64.wrap (i + (vN : Int))) <= (((Int.toNat tot - Int.toNat (0 : Int)) : Nat) : Int) /\ (((Int.toNat tot - Int.toNat (0 : Int)) : Nat) : Int) <= (((sC - Int.toNat (0 : Int)) : Nat) : Int))
 (NEED (0 <= j /\ j <= ((sN : Nat) : Int) /\ ((sN : Nat) : Int) <= ((sC : Nat) : Int))
 (RUNI PG (Builtin.copy_ #[260,260] 3 #[(.slice (cutA (cutA s sC 2 0) (sC - Int.toNat 0) 2 (IntKind.i64.wrap (i + (vN : Int)))) (Int.toNat (((Int.toNat tot - Int.toNat 0) : Nat) : Int) - Int.toNat (IntKind.i64.wrap (i + (vN : Int)))) ((sC - Int.toNat 0) - Int.toNat (IntKind.i64.wrap (i + (vN : Int))))),(.slice (cutA s sC 2 j) (Int.toNat ((sN : Nat) : Int) - Int.toNat j) (sC - Int.toNat j))]) .i64 (w7.drew) fun x107 w8 =>
 NEED (0 <= tot /\ tot <= ((sN : Nat) : Int) /\ ((sN : Nat) : Int) <= ((sC : Nat) : Int))
 (RUN PG (Builtin.clear_ #[260] 0 #[(.slice (cutA s sC 2 tot) (Int.toNat ((sN : Nat) : Int) - Int.toNat tot) (sC - Int.toNat tot))]) w8 fun v3 w9 =>
 v3 = (.tuple #[]) /\
 (Q (.slice (cutA s sC 2 0) (Int.toNat tot - Int.toNat 0) (sC - Int.toNat 0)) w9))))))
 (NEED (0 <= (IntKind.i64.wrap (i + (vN : Int))) /\ (IntKind.i64.wrap (i + (vN : Int))) <= (((Int.toNat tot - Int.toNat (0 : Int)) : Nat) : Int) /\ (((Int.toNat tot - Int.toNat (0 : Int)) : Nat) : Int) <= (((sC - Int.toNat (0 : Int)) : Nat) : Int))
 (CALLX PG 271 [(.slice (cutA (cutA s sC 2 0) (sC - Int.toNat 0) 2 (IntKind.i64.wrap (i + (vN : Int)))) (Int.toNat (((Int.toNat tot - Int.toNat 0) : Nat) : Int) - Int.toNat (IntKind.i64.wrap (i + (vN : Int)))) ((sC - Int.toNat 0) - Int.toNat (IntKind.i64.wrap (i + (vN : Int))))),(.slice v vN vC)] (w.drew) fun v4 w10 =>
 ∃ x119 : Bool,v4 = (.bool x119) /\
 (IFB (!x119)
 (NEED (0 <= (IntKind.i64.wrap (i + (vN : Int))) /\ (IntKind.i64.wrap (i + (vN : Int))) <= (((Int.toNat tot - Int.toNat (0 : Int)) : Nat) : Int) /\ (((Int.toNat tot - Int.toNat (0 : Int)) : Nat) : Int) <= (((sC - Int.toNat (0 : Int)) : Nat) : Int))
 (NEED (0 <= j /\ j <= ((sN : Nat) : Int) /\ ((sN : Nat) : Int) <= ((sC : Nat) : Int))
 (RUNI PG (Builtin.copy_ #[260,260] 3 #[(.slice (cutA (cutA s sC 2 0) (sC - Int.toNat 0) 2 (IntKind.i64.wrap (i + (vN : Int)))) (Int.toNat (((Int.toNat tot - Int.toNat 0) : Nat) : Int) - Int.toNat (IntKind.i64.wrap (i + (vN : Int)))) ((sC - Int.toNat 0) - Int.toNat (IntKind.i64.wrap (i + (vN : Int))))),(.slice (cutA s sC 2 j) (Int.toNat ((sN : Nat) : Int) - Int.toNat j) (sC - Int.toNat j))]) .i64 (w10.drew) fun x130 w11 =>
 NEED (0 <= i /\ i <= (((Int.toNat tot - Int.toNat (0 : Int)) : Nat) : Int) /\ (((Int.toNat tot - Int.toNat (0 : Int)) : Nat) : Int) <= (((sC - Int.toNat (0 : Int)) : Nat) : Int))
 (RUNI PG (Builtin.copy_ #[260,260] 3 #[(.slice (cutA (cutA s sC 2 0) (sC - Int.toNat 0) 2 i) (Int.toNat (((Int.toNat tot - Int.toNat 0) : Nat) : Int) - Int.toNat i) ((sC - Int.toNat 0) - Int.toNat i)),(.slice v vN vC)]) .i64 w11 fun x135 w12 =>
 Q (.slice (cutA s sC 2 0) (Int.toNat tot - Int.toNat 0) (sC - Int.toNat 0)) w12))))
 (LETI (IntKind.i64.wrap ((vN : Int) - (IntKind.i64.wrap (j - i)))) fun y =>
 NEED (0 <= i /\ i <= j /\ j <= (((sC - Int.toNat (0 : Int)) : Nat) : Int))
 (CALLX PG 271 [(.slice (cutA (cutA s sC 2 0) (sC - Int.toNat 0) 2 i) (Int.toNat j - Int.toNat i) ((sC - Int.toNat 0) - Int.toNat i)),(.slice v vN vC)] w10 fun v5 w13 =>
 ∃ x148 : Bool,v5 = (.bool x148) /\
 (IFB (!x148)
 (NEED (0 <= i /\ i <= j /\ j <= (((sC - Int.toNat (0 : Int)) : Nat) : Int))
 (NEED (0 <= y /\ y <= ((vN : Nat) : Int) /\ ((vN : Nat) : Int) <= ((vC : Nat) : Int))
 (RUNI PG (Builtin.copy_ #[260,260] 3 #[(.slice (cutA (cutA s sC 2 0) (sC - Int.toNat 0) 2 i) (Int.toNat j - Int.toNat i) ((sC - Int.toNat 0) - Int.toNat i)),(.slice (cutA v vC 2 y) (Int.toNat ((vN : Nat) : Int) - Int.toNat y) (vC - Int.toNat y))]) .i64 (w13.drew) fun x157 w14 =>
 NEED (0 <= (sN : Int) /\ (sN : Int) <= (((Int.toNat tot - Int.toNat (0 : Int)) : Nat) : Int) /\ (((Int.toNat tot - Int.toNat (0 : Int)) : Nat) : Int) <= (((sC - Int.toNat (0 : Int)) : Nat) : Int))
 (NEED (0 <= (0 : Int) /\ (0 : Int) <= y /\ y <= ((vC : Nat) : Int))
 (RUNI PG (Builtin.copy_ #[260,260] 3 #[(.slice (cutA (cutA s sC 2 0) (sC - Int.toNat 0) 2 (sN : Int)) (Int.toNat (((Int.toNat tot - Int.toNat 0) : Nat) : Int) - Int.toNat (sN : Int)) ((sC - Int.toNat 0) - Int.toNat (sN : Int))),(.slice (cutA v vC 2 0) (Int.toNat y - Int.toNat 0) (vC - Int.toNat 0))]) .i64 (w14.drew) fun x165 w15 =>
 NEED (0 <= i /\ i <= (((Int.toNat tot - Int.toNat (0 : Int)) : Nat) : Int) /\ (((Int.toNat tot - Int.toNat (0 : Int)) : Nat) : Int) <= (((sC - Int.toNat (0 : Int)) : Nat) : Int))
 (CALL PG 272 [(.slice (cutA (cutA s sC 2 0) (sC - Int.toNat 0) 2 i) (Int.toNat (((Int.toNat tot - Int.toNat 0) : Nat) : Int) - Int.toNat i) ((sC - Int.toNat 0) - Int.toNat i)),(.int .i64 y)] w15 fun v6 w16 =>
 v6 = (.tuple #[]) /\
 (Q (.slice (cutA s sC 2 0) (Int.toNat tot - Int.toNat 0) (sC - Int.toNat 0)) w16)))))))
 (NEED (0 <= (sN : Int) /\ (sN : Int) <= (((Int.toNat tot - Int.toNat (0 : Int)) : Nat) : Int) /\ (((Int.toNat tot - Int.toNat (0 : Int)) : Nat) : Int) <= (((sC - Int.toNat (0 : Int)) : Nat) : Int))
 (CALLX PG 271 [(.slice (cutA (cutA s sC 2 0) (sC - Int.toNat 0) 2 (sN : Int)) (Int.toNat (((Int.toNat tot - Int.toNat 0) : Nat) : Int) - Int.toNat (sN : Int)) ((sC - Int.toNat 0) - Int.toNat (sN : Int))),(.slice v vN vC)] w13 fun v7 w17 =>
 ∃ x177 : Bool,v7 = (.bool x177) /\
 (IFB (!x177)
 (NEED (0 <= (sN : Int) /\ (sN : Int) <= (((Int.toNat tot - Int.toNat (0 : Int)) : Nat) : Int) /\ (((Int.toNat tot - Int.toNat (0 : Int)) : Nat) : Int) <= (((sC - Int.toNat (0 : Int)) : Nat) : Int))
 (NEED (0 <= (0 : Int) /\ (0 : Int) <= y /\ y <= ((vC : Nat) : Int))
 (RUNI PG (Builtin.copy_ #[260,260] 3 #[(.slice (cutA (cutA s sC 2 0) (sC - Int.toNat 0) 2 (sN : Int)) (Int.toNat (((Int.toNat tot - Int.toNat 0) : Nat) : Int) - Int.toNat (sN : Int)) ((sC - Int.toNat 0) - Int.toNat (sN : Int))),(.slice (cutA v vC 2 0) (Int.toNat y - Int.toNat 0) (vC - Int.toNat 0))]) .i64 (w17.drew) fun x186 w18 =>
 NEED (0 <= i /\ i <= j /\ j <= (((sC - Int.toNat (0 : Int)) : Nat) : Int))
 (NEED (0 <= y /\ y <= ((vN : Nat) : Int) /\ ((vN : Nat) : Int) <= ((vC : Nat) : Int))
 (RUNI PG (Builtin.copy_ #[260,260] 3 #[(.slice (cutA (cutA s sC 2 0) (sC - Int.toNat 0) 2 i) (Int.toNat j - Int.toNat i) ((sC - Int.toNat 0) - Int.toNat i)),(.slice (cutA v vC 2 y) (Int.toNat ((vN : Nat) : Int) - Int.toNat y) (vC - Int.toNat y))]) .i64 (w18.drew) fun x194 w19 =>
 NEED (0 <= i /\ i <= (((Int.toNat tot - Int.toNat (0 : Int)) : Nat) : Int) /\ (((Int.toNat tot - Int.toNat (0 : Int)) : Nat) : Int) <= (((sC - Int.toNat (0 : Int)) : Nat) : Int))
 (CALL PG 272 [(.slice (cutA (cutA s sC 2 0) (sC - Int.toNat 0) 2 i) (Int.toNat (((Int.toNat tot - Int.toNat 0) : Nat) : Int) - Int.toNat i) ((sC - Int.toNat 0) - Int.toNat i)),(.int .i64 y)] w19 fun v8 w20 =>
 v8 = (.tuple #[]) /\
 (Q (.slice (cutA s sC 2 0) (Int.toNat tot - Int.toNat 0) (sC - Int.toNat 0)) w20)))))))
 (NEED (0 <= j /\ j <= ((sN : Nat) : Int) /\ ((sN : Nat) : Int) <= ((sC : Nat) : Int))
 (CALL PG 273 [(.slice v vN vC),(.slice (cutA s sC 2 j) (Int.toNat ((sN : Nat) : Int) - Int.toNat j) (sC - Int.toNat j))] w17 fun v9 w21 =>
 ∃ x205 : Int,v9 = (.int .i64 x205) /\
 (LETI x205 fun k =>
 NEED (0 <= i /\ i <= (((Int.toNat tot - Int.toNat (0 : Int)) : Nat) : Int) /\ (((Int.toNat tot - Int.toNat (0 : Int)) : Nat) : Int) <= (((sC - Int.toNat (0 : Int)) : Nat) : Int))
 (RUNI PG (Builtin.copy_ #[260,260] 3 #[(.slice (cutA (cutA s sC 2 0) (sC - Int.toNat 0) 2 i) (Int.toNat (((Int.toNat tot - Int.toNat 0) : Nat) : Int) - Int.toNat i) ((sC - Int.toNat 0) - Int.toNat i)),(.slice v vN vC)]) .i64 w21 fun x210 w22 =>
 NEED (0 <= (IntKind.i64.wrap (i + (vN : Int))) /\ (IntKind.i64.wrap (i + (vN : Int))) <= (((Int.toNat tot - Int.toNat (0 : Int)) : Nat) : Int) /\ (((Int.toNat tot - Int.toNat (0 : Int)) : Nat) : Int) <= (((sC - Int.toNat (0 : Int)) : Nat) : Int))
 (NEED (0 <= (IntKind.i64.wrap (i + k)) /\ (IntKind.i64.wrap (i + k)) <= (((Int.toNat tot - Int.toNat (0 : Int)) : Nat) : Int) /\ (((Int.toNat tot - Int.toNat (0 : Int)) : Nat) : Int) <= (((sC - Int.toNat (0 : Int)) : Nat) : Int))
 (RUNI PG (Builtin.copy_ #[260,260] 3 #[(.slice (cutA (cutA s sC 2 0) (sC - Int.toNat 0) 2 (IntKind.i64.wrap (i + (vN : Int)))) (Int.toNat (((Int.toNat tot - Int.toNat 0) : Nat) : Int) - Int.toNat (IntKind.i64.wrap (i + (vN : Int)))) ((sC - Int.toNat 0) - Int.toNat (IntKind.i64.wrap (i + (vN : Int))))),(.slice (cutA (cutA s sC 2 0) (sC - Int.toNat 0) 2 (IntKind.i64.wrap (i + k))) (Int.toNat (((Int.toNat tot - Int.toNat 0) : Nat) : Int) - Int.toNat (IntKind.i64.wrap (i + k))) ((sC - Int.toNat 0) - Int.toNat (IntKind.i64.wrap (i + k))))]) .i64 (w22.drew) fun x222 w23 =>
 Q (.slice (cutA s sC 2 0) (Int.toNat tot - Int.toNat 0) (sC - Int.toNat 0)) w23))))))))))))))))))))))
theorem call242 {s : Option Addr} {sN sC : Nat} {i : Int} {j : Int} {v : Option Addr} {vN vC : Nat} {w : World} {Q : QP} (h_ : N242 s sN sC i j v vN vC w Q) : CALL PG 242 [(.slice s sN sC),(.int .i64 i),(.int .i64 j),(.slice v vN vC)] w Q:=calls_vq .nil tabOk Tryz.func242 (by kernel_rfl) h_
def N270 (s : Option Addr) (sN sC : Nat) (i : Int) (v : Option Addr) (vN vC : Nat) (w : World) (Q : QP) : Prop :=
 NEED (0 <= i /\ i <= ((sN : Nat) : Int) /\ ((sN : Nat) : Int) <= ((sC : Nat) : Int))
 (LETI (vN : Int) fun m =>
 IFB (m == 0)
 (Q (.slice s sN sC) w)
 (LETI (sN : Int) fun n =>
 IFB (i == n)
 (RUNL PG (Builtin.append_ #[260,260] 260 #[(.slice s sN sC),(.slice v vN vC)]) w fun x25 x25N x25C w1 =>
 Q (.slice x25 x25N x25C) w1)
 (IFB (decide ((IntKind.i64.wrap (n + m)) > (sC : Int)))
 (NEED (0 <= (0 : Int) /\ (0 : Int) <= i /\ i <= ((sC : Nat) : Int))
 (RUNL PG (Builtin.append_ #[260,3] 260 #[(.slice (cutA s sC 2 0) (Int.toNat i - Int.toNat 0) (sC - Int.toNat 0)),(.int .i64 (IntKind.i64.wrap ((IntKind.i64.wrap (n + m)) - i)))]) w fun x40 x40N x40C w2 =>
 NEED (0 <= i /\ i <= ((x40N : Nat) : Int) /\ ((x40N : Nat) : Int) <= ((x40C : Nat) : Int))
 (RUNI PG (Builtin.copy_ #[260,260] 3 #[(.slice (cutA x40 x40C 2 i) (Int.toNat ((x40N : Nat) : Int) - Int.toNat i) (x40C - Int.toNat i)),(.slice v vN vC)]) .i64 w2 fun x45 w3 =>
 NEED (0 <= (IntKind.i64.wrap (i + m)) /\ (IntKind.i64.wrap (i + m)) <= ((x40N : Nat) : Int) /\ ((x40N : Nat) : Int) <= ((x40C : Nat) : Int))
 (NEED (0 <= i /\ i <= ((sN : Nat) : Int) /\ ((sN : Nat) : Int) <= ((sC : Nat) : Int))
 (RUNI PG (Builtin.copy_ #[260,260] 3 #[(.slice (cutA x40 x40C 2 (IntKind.i64.wrap (i + m))) (Int.toNat ((x40N : Nat) : Int) - Int.toNat (IntKind.i64.wrap (i + m))) (x40C - Int.toNat (IntKind.i64.wrap (i + m)))),(.slice (cutA s sC 2 i) (Int.toNat ((sN : Nat) : Int) - Int.toNat i) (sC - Int.toNat i))]) .i64 (w3.drew) fun x54 w4 =>
 Q (.slice x40 x40N x40C) w4)))))
 (NEED (0 <= (0 : Int) /\ (0 : Int) <= (IntKind.i64.wrap (n + m)) /\ (IntKind.i64.wrap (n + m)) <= ((sC : Nat) : Int))
 (NEED (0 <= (IntKind.i64.wrap (i + m)) /\ (IntKind.i64.wrap (i + m)) <= (((Int.toNat (IntKind.i64.wrap (n + m)) - Int.toNat (0 : Int)) : Nat) : Int) /\ (((Int.toNat (IntKind.i64.wrap (n + m)) - Int.toNat (0 : Int)) : Nat) : Int) <= (((sC - Int.toNat (0 : Int)) : Nat) : Int))
 (CALLX PG 271 [(.slice v vN vC),(.slice (cutA (cutA s sC 2 0) (sC - Int.toNat 0) 2 (IntKind.i64.wrap (i + m))) (Int.toNat (((Int.toNat (IntKind.i64.wrap (n + m)) - Int.toNat 0) : Nat) : Int) - Int.toNat (IntKind.i64.wrap (i + m))) ((sC - Int.toNat 0) - Int.toNat (IntKind.i64.wrap (i + m))))] w fun v1 w5 =>
 ∃ x67 : Bool,v1 = (.bool x67) /\
 (IFB (!x67)
 (NEED (0 <= (IntKind.i64.wrap (i + m)) /\ (IntKind.i64.wrap (i + m)) <= (((Int.toNat (IntKind.i64.wrap (n + m)) - Int.toNat (0 : Int)) : Nat) : Int) /\ (((Int.toNat (IntKind.i64.wrap (n + m)) - Int.toNat (0 : Int)) : Nat) : Int) <= (((sC - Int.toNat (0 : Int)) : Nat) : Int))
 (NEED (0 <= i /\ i <= (((Int.toNat (IntKind.i64.wrap (n + m)) - Int.toNat (0 : Int)) : Nat) : Int) /\ (((Int.toNat (IntKind.i64.wrap (n + m)) - Int.toNat (0 : Int)) : Nat) : Int) <= (((sC - Int.toNat (0 : Int)) : Nat) : Int))
 (RUNI PG (Builtin.copy_ #[260,260] 3 #[(.slice (cutA (cutA s sC 2 0) (sC - Int.toNat 0) 2 (IntKind.i64.wrap (i + m))) (Int.toNat (((Int.toNat (IntKind.i64.wrap (n + m)) - Int.toNat 0) : Nat) : Int) - Int.toNat (IntKind.i64.wrap (i + m))) ((sC - Int.toNat 0) - Int.toNat (IntKind.i64.wrap (i + m)))),(.slice (cutA (cutA s sC 2 0) (sC - Int.toNat 0) 2 i) (Int.toNat (((Int.toNat (IntKind.i64.wrap (n + m)) - Int.toNat 0) : Nat) : Int) - Int.toNat i) ((sC - Int.toNat 0) - Int.toNat i))]) .i64 (w5.drew) fun x77 w6 =>
 NEED (0 <= i /\ i <= (((Int.toNat (IntKind.i64.wrap (n + m)) - Int.toNat (0 : Int)) : Nat) : Int) /\ (((Int.toNat (IntKind.i64.wrap (n + m)) - Int.toNat (0 : Int)) : Nat) : Int) <= (((sC - Int.toNat (0 : Int)) : Nat) : Int))
 (RUNI PG (Builtin.copy_ #[260,260] 3 #[(.slice (cutA (cutA s sC 2 0) (sC - Int.toNat 0) 2 i) (Int.toNat (((Int.toNat (IntKind.i64.wrap (n + m)) - Int.toNat 0) : Nat) : Int) - Int.toNat i) ((sC - Int.toNat 0) - Int.toNat i)),(.slice v vN vC)]) .i64 w6 fun x82 w7 =>
 Q (.slice (cutA s sC 2 0) (Int.toNat (IntKind.i64.wrap (n + m)) - Int.toNat 0) (sC - Int.toNat 0)) w7))))
 (NEED (0 <= n /\ n <= (((Int.toNat (IntKind.i64.wrap (n + m)) - Int.toNat (0 : Int)) : Nat) : Int) /\ (((Int.toNat (IntKind.i64.wrap (n + m)) - Int.toNat (0 : Int)) : Nat) : Int) <= (((sC - Int.toNat (0 : Int)) : Nat) : Int))
 (RUNI PG (Builtin.copy_ #[260,260] 3 #[(.slice (cutA (cutA s sC 2 0) (sC - Int.toNat 0) 2 n) (Int.toNat (((Int.toNat (IntKind.i64.wrap (n + m)) - Int.toNat 0) : Nat) : Int) - Int.toNat n) ((sC - Int.toNat 0) - Int.toNat n)),(.slice v vN vC)]) .i64 w5 fun x88 w8 =>
 NEED (0 <= i /\ i <= (((Int.toNat (IntKind.i64.wrap (n + m)) - Int.toNat (0 : Int)) : Nat) : Int) /\ (((Int.toNat (IntKind.i64.wrap (n + m)) - Int.toNat (0 : Int)) : Nat) : Int) <= (((sC - Int.toNat (0 : Int)) : Nat) : Int))
 (CALL PG 272 [(.slice (cutA (cutA s sC 2 0) (sC - Int.toNat 0) 2 i) (Int.toNat (((Int.toNat (IntKind.i64.wrap (n + m)) - Int.toNat 0) : Nat) : Int) - Int.toNat i) ((sC - Int.toNat 0) - Int.toNat i)),(.int .i64 m)] w8 fun v2 w9 =>
 v2 = (.tuple #[]) /\
 (Q (.slice (cutA s sC 2 0) (Int.toNat (IntKind.i64.wrap (n + m)) - Int.toNat 0) (sC - Int.toNat 0)) w9)))))))))))
theorem call270 {s : Option Addr} {sN sC : Nat} {i : Int} {v : Option Addr} {vN vC : Nat} {w : World} {Q : QP} (h_ : N270 s sN sC i v vN vC w Q) : CALL PG 270 [(.slice s sN sC),(.int .i64 i),(.slice v vN vC)] w Q:=calls_vq .nil tabOk Tryz.func270 (by kernel_rfl) h_
end Go.Br
