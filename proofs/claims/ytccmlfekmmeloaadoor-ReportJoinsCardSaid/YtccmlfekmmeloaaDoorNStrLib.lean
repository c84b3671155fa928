/- What the code of some functions says, as the core reads it; each reading is checked by the kernel. -/
import Derived.Test.YtccmlfekmmeloaaDoorBrSeat
set_option linter.unusedVariables false
set_option maxRecDepth 100000
namespace Go.Br
open Go Go.Proofs

/-- strings.Repeat -/
def N19 (s : ByteArray) (count : Int) (w : World) (Q : Value → World → Prop) : Prop :=
 LETB (count == (0 : Int)) fun x12 =>
 IFB x12
 (Q (.string (ByteArray.mk #[])) w)
 (LETB (count == (1 : Int)) fun x14 =>
 IFB x14
 (LETS s fun x4 =>
 Q (.string x4) w)
 (∃ R : World → Prop,
 (IFB (decide (count < (0 : Int)))
 (RD PG (Instr.makeInterface 9 (.string (ByteArray.mk #[115, 116, 114, 105, 110, 103, 115, 58, 32, 110, 101, 103, 97, 116, 105, 118, 101, 32, 82, 101, 112, 101, 97, 116, 32, 99, 111, 117, 110, 116]))) w fun v =>
 ∃ x19 : Value, v = x19 ∧
 (False))
 (R w)) ∧
 (∀  (w1 : World), R w1 → (CALL PG 24 [(.int .u64 (IntKind.u64.wrap ((s.size : Nat) : Int))), (.int .u64 (IntKind.u64.wrap count))] w1 fun v1 w2 =>
 ∃ x26 : Int, ∃ x26v1 : Int, v1 = (.tuple #[(.int .u64 x26), (.int .u64 x26v1)]) ∧
 (LETI x26 fun hi =>
 LETI x26v1 fun lo =>
 ∃ R1 : World → Prop,
 (IFB (decide (hi > (0 : Int)))
 (RD PG (Instr.makeInterface 9 (.string (ByteArray.mk #[115, 116, 114, 105, 110, 103, 115, 58, 32, 82, 101, 112, 101, 97, 116, 32, 111, 117, 116, 112, 117, 116, 32, 108, 101, 110, 103, 116, 104, 32, 111, 118, 101, 114, 102, 108, 111, 119]))) w2 fun v2 =>
 ∃ x35 : Value, v2 = x35 ∧
 (False))
 (IFB (decide (lo > (9223372036854775807 : Int)))
 (RD PG (Instr.makeInterface 9 (.string (ByteArray.mk #[115, 116, 114, 105, 110, 103, 115, 58, 32, 82, 101, 112, 101, 97, 116, 32, 111, 117, 116, 112, 117, 116, 32, 108, 101, 110, 103, 116, 104, 32, 111, 118, 101, 114, 102, 108, 111, 119]))) w2 fun v3 =>
 ∃ x35v1 : Value, v3 = x35v1 ∧
 (False))
 (R1 w2))) ∧
 (∀  (w3 : World), R1 w3 → (LETI (IntKind.i64.wrap lo) fun n =>
 IFB (((s.size : Nat) : Int) == (0 : Int))
 (Q (.string (ByteArray.mk #[])) w3)
 (∃ R2 : World → Prop,
 (NEED (0 ≤ (0 : Int) ∧ (0 : Int) < s.size)
 (∃ R3 : Bool → World → Prop,
 (LETB ((sbyte s (0 : Int)) == (32 : Int)) fun x43 =>
 IFB x43
 (R3 true w3)
 (LETB ((sbyte s (0 : Int)) == (45 : Int)) fun x43v1 =>
 IFB x43v1
 (R3 true w3)
 (LETB ((sbyte s (0 : Int)) == (48 : Int)) fun x43v2 =>
 IFB x43v2
 (R3 true w3)
 (LETB ((sbyte s (0 : Int)) == (61 : Int)) fun x43v3 =>
 IFB x43v3
 (R3 true w3)
 (LETB ((sbyte s (0 : Int)) == (9 : Int)) fun x43v4 =>
 R3 x43v4 w3))))) ∧
 (∀ (x43v5 : Bool) (w4 : World), R3 x43v5 w4 → (IFB x43v5
 (∃ R4 : Bool → World → Prop,
 (IFB (decide (n ≤ (128 : Int)))
 (CALL PG 25 [(.string (ByteArray.mk #[32, 32, 32, 32, 32, 32, 32, 32, 32, 32, 32, 32, 32, 32, 32, 32, 32, 32, 32, 32, 32, 32, 32, 32, 32, 32, 32, 32, 32, 32, 32, 32, 32, 32, 32, 32, 32, 32, 32, 32, 32, 32, 32, 32, 32, 32, 32, 32, 32, 32, 32, 32, 32, 32, 32, 32, 32, 32, 32, 32, 32, 32, 32, 32, 32, 32, 32, 32, 32, 32, 32, 32, 32, 32, 32, 32, 32, 32, 32, 32, 32, 32, 32, 32, 32, 32, 32, 32, 32, 32, 32, 32, 32, 32, 32, 32, 32, 32, 32, 32, 32, 32, 32, 32, 32, 32, 32, 32, 32, 32, 32, 32, 32, 32, 32, 32, 32, 32, 32, 32, 32, 32, 32, 32, 32, 32, 32, 32])), (.string s)] w4 fun v4 w5 =>
 ∃ x54 : Bool, v4 = (.bool x54) ∧
 (LETB x54 fun x49 =>
 R4 x49 w5))
 (LETB false fun x49v1 =>
 R4 x49v1 w4)) ∧
 (∀ (x49v2 : Bool) (w6 : World), R4 x49v2 w6 → (IFB x49v2
 (NEED (0 ≤ (0 : Int) ∧ (0 : Int) ≤ n ∧ n ≤ (ByteArray.mk #[32, 32, 32, 32, 32, 32, 32, 32, 32, 32, 32, 32, 32, 32, 32, 32, 32, 32, 32, 32, 32, 32, 32, 32, 32, 32, 32, 32, 32, 32, 32, 32, 32, 32, 32, 32, 32, 32, 32, 32, 32, 32, 32, 32, 32, 32, 32, 32, 32, 32, 32, 32, 32, 32, 32, 32, 32, 32, 32, 32, 32, 32, 32, 32, 32, 32, 32, 32, 32, 32, 32, 32, 32, 32, 32, 32, 32, 32, 32, 32, 32, 32, 32, 32, 32, 32, 32, 32, 32, 32, 32, 32, 32, 32, 32, 32, 32, 32, 32, 32, 32, 32, 32, 32, 32, 32, 32, 32, 32, 32, 32, 32, 32, 32, 32, 32, 32, 32, 32, 32, 32, 32, 32, 32, 32, 32, 32, 32]).size)
 (LETS (cutS (ByteArray.mk #[32, 32, 32, 32, 32, 32, 32, 32, 32, 32, 32, 32, 32, 32, 32, 32, 32, 32, 32, 32, 32, 32, 32, 32, 32, 32, 32, 32, 32, 32, 32, 32, 32, 32, 32, 32, 32, 32, 32, 32, 32, 32, 32, 32, 32, 32, 32, 32, 32, 32, 32, 32, 32, 32, 32, 32, 32, 32, 32, 32, 32, 32, 32, 32, 32, 32, 32, 32, 32, 32, 32, 32, 32, 32, 32, 32, 32, 32, 32, 32, 32, 32, 32, 32, 32, 32, 32, 32, 32, 32, 32, 32, 32, 32, 32, 32, 32, 32, 32, 32, 32, 32, 32, 32, 32, 32, 32, 32, 32, 32, 32, 32, 32, 32, 32, 32, 32, 32, 32, 32, 32, 32, 32, 32, 32, 32, 32, 32]) (0 : Int) n) fun x4v1 =>
 Q (.string x4v1) w6))
 (∃ R5 : Bool → World → Prop,
 (IFB (decide (n ≤ (128 : Int)))
 (CALL PG 25 [(.string (ByteArray.mk #[45, 45, 45, 45, 45, 45, 45, 45, 45, 45, 45, 45, 45, 45, 45, 45, 45, 45, 45, 45, 45, 45, 45, 45, 45, 45, 45, 45, 45, 45, 45, 45, 45, 45, 45, 45, 45, 45, 45, 45, 45, 45, 45, 45, 45, 45, 45, 45, 45, 45, 45, 45, 45, 45, 45, 45, 45, 45, 45, 45, 45, 45, 45, 45, 45, 45, 45, 45, 45, 45, 45, 45, 45, 45, 45, 45, 45, 45, 45, 45, 45, 45, 45, 45, 45, 45, 45, 45, 45, 45, 45, 45, 45, 45, 45, 45, 45, 45, 45, 45, 45, 45, 45, 45, 45, 45, 45, 45, 45, 45, 45, 45, 45, 45, 45, 45, 45, 45, 45, 45, 45, 45, 45, 45, 45, 45, 45, 45])), (.string s)] w6 fun v5 w7 =>
 ∃ x63 : Bool, v5 = (.bool x63) ∧
 (LETB x63 fun x58 =>
 R5 x58 w7))
 (LETB false fun x58v1 =>
 R5 x58v1 w6)) ∧
 (∀ (x58v2 : Bool) (w8 : World), R5 x58v2 w8 → (IFB x58v2
 (NEED (0 ≤ (0 : Int) ∧ (0 : Int) ≤ n ∧ n ≤ (ByteArray.mk #[45, 45, 45, 45, 45, 45, 45, 45, 45, 45, 45, 45, 45, 45, 45, 45, 45, 45, 45, 45, 45, 45, 45, 45, 45, 45, 45, 45, 45, 45, 45, 45, 45, 45, 45, 45, 45, 45, 45, 45, 45, 45, 45, 45, 45, 45, 45, 45, 45, 45, 45, 45, 45, 45, 45, 45, 45, 45, 45, 45, 45, 45, 45, 45, 45, 45, 45, 45, 45, 45, 45, 45, 45, 45, 45, 45, 45, 45, 45, 45, 45, 45, 45, 45, 45, 45, 45, 45, 45, 45, 45, 45, 45, 45, 45, 45, 45, 45, 45, 45, 45, 45, 45, 45, 45, 45, 45, 45, 45, 45, 45, 45, 45, 45, 45, 45, 45, 45, 45, 45, 45, 45, 45, 45, 45, 45, 45, 45]).size)
 (LETS (cutS (ByteArray.mk #[45, 45, 45, 45, 45, 45, 45, 45, 45, 45, 45, 45, 45, 45, 45, 45, 45, 45, 45, 45, 45, 45, 45, 45, 45, 45, 45, 45, 45, 45, 45, 45, 45, 45, 45, 45, 45, 45, 45, 45, 45, 45, 45, 45, 45, 45, 45, 45, 45, 45, 45, 45, 45, 45, 45, 45, 45, 45, 45, 45, 45, 45, 45, 45, 45, 45, 45, 45, 45, 45, 45, 45, 45, 45, 45, 45, 45, 45, 45, 45, 45, 45, 45, 45, 45, 45, 45, 45, 45, 45, 45, 45, 45, 45, 45, 45, 45, 45, 45, 45, 45, 45, 45, 45, 45, 45, 45, 45, 45, 45, 45, 45, 45, 45, 45, 45, 45, 45, 45, 45, 45, 45, 45, 45, 45, 45, 45, 45]) (0 : Int) n) fun x4v2 =>
 Q (.string x4v2) w8))
 (∃ R6 : Bool → World → Prop,
 (IFB (decide (n ≤ (64 : Int)))
 (CALL PG 25 [(.string (ByteArray.mk #[48, 48, 48, 48, 48, 48, 48, 48, 48, 48, 48, 48, 48, 48, 48, 48, 48, 48, 48, 48, 48, 48, 48, 48, 48, 48, 48, 48, 48, 48, 48, 48, 48, 48, 48, 48, 48, 48, 48, 48, 48, 48, 48, 48, 48, 48, 48, 48, 48, 48, 48, 48, 48, 48, 48, 48, 48, 48, 48, 48, 48, 48, 48, 48])), (.string s)] w8 fun v6 w9 =>
 ∃ x72 : Bool, v6 = (.bool x72) ∧
 (LETB x72 fun x67 =>
 R6 x67 w9))
 (LETB false fun x67v1 =>
 R6 x67v1 w8)) ∧
 (∀ (x67v2 : Bool) (w10 : World), R6 x67v2 w10 → (IFB x67v2
 (NEED (0 ≤ (0 : Int) ∧ (0 : Int) ≤ n ∧ n ≤ (ByteArray.mk #[48, 48, 48, 48, 48, 48, 48, 48, 48, 48, 48, 48, 48, 48, 48, 48, 48, 48, 48, 48, 48, 48, 48, 48, 48, 48, 48, 48, 48, 48, 48, 48, 48, 48, 48, 48, 48, 48, 48, 48, 48, 48, 48, 48, 48, 48, 48, 48, 48, 48, 48, 48, 48, 48, 48, 48, 48, 48, 48, 48, 48, 48, 48, 48]).size)
 (LETS (cutS (ByteArray.mk #[48, 48, 48, 48, 48, 48, 48, 48, 48, 48, 48, 48, 48, 48, 48, 48, 48, 48, 48, 48, 48, 48, 48, 48, 48, 48, 48, 48, 48, 48, 48, 48, 48, 48, 48, 48, 48, 48, 48, 48, 48, 48, 48, 48, 48, 48, 48, 48, 48, 48, 48, 48, 48, 48, 48, 48, 48, 48, 48, 48, 48, 48, 48, 48]) (0 : Int) n) fun x4v3 =>
 Q (.string x4v3) w10))
 (∃ R7 : Bool → World → Prop,
 (IFB (decide (n ≤ (128 : Int)))
 (CALL PG 25 [(.string (ByteArray.mk #[61, 61, 61, 61, 61, 61, 61, 61, 61, 61, 61, 61, 61, 61, 61, 61, 61, 61, 61, 61, 61, 61, 61, 61, 61, 61, 61, 61, 61, 61, 61, 61, 61, 61, 61, 61, 61, 61, 61, 61, 61, 61, 61, 61, 61, 61, 61, 61, 61, 61, 61, 61, 61, 61, 61, 61, 61, 61, 61, 61, 61, 61, 61, 61, 61, 61, 61, 61, 61, 61, 61, 61, 61, 61, 61, 61, 61, 61, 61, 61, 61, 61, 61, 61, 61, 61, 61, 61, 61, 61, 61, 61, 61, 61, 61, 61, 61, 61, 61, 61, 61, 61, 61, 61, 61, 61, 61, 61, 61, 61, 61, 61, 61, 61, 61, 61, 61, 61, 61, 61, 61, 61, 61, 61, 61, 61, 61, 61])), (.string s)] w10 fun v7 w11 =>
 ∃ x81 : Bool, v7 = (.bool x81) ∧
 (LETB x81 fun x76 =>
 R7 x76 w11))
 (LETB false fun x76v1 =>
 R7 x76v1 w10)) ∧
 (∀ (x76v2 : Bool) (w12 : World), R7 x76v2 w12 → (IFB x76v2
 (NEED (0 ≤ (0 : Int) ∧ (0 : Int) ≤ n ∧ n ≤ (ByteArray.mk #[61, 61, 61, 61, 61, 61, 61, 61, 61, 61, 61, 61, 61, 61, 61, 61, 61, 61, 61, 61, 61, 61, 61, 61, 61, 61, 61, 61, 61, 61, 61, 61, 61, 61, 61, 61, 61, 61, 61, 61, 61, 61, 61, 61, 61, 61, 61, 61, 61, 61, 61, 61, 61, 61, 61, 61, 61, 61, 61, 61, 61, 61, 61, 61, 61, 61, 61, 61, 61, 61, 61, 61, 61, 61, 61, 61, 61, 61, 61, 61, 61, 61, 61, 61, 61, 61, 61, 61, 61, 61, 61, 61, 61, 61, 61, 61, 61, 61, 61, 61, 61, 61, 61, 61, 61, 61, 61, 61, 61, 61, 61, 61, 61, 61, 61, 61, 61, 61, 61, 61, 61, 61, 61, 61, 61, 61, 61, 61]).size)
 (LETS (cutS (ByteArray.mk #[61, 61, 61, 61, 61, 61, 61, 61, 61, 61, 61, 61, 61, 61, 61, 61, 61, 61, 61, 61, 61, 61, 61, 61, 61, 61, 61, 61, 61, 61, 61, 61, 61, 61, 61, 61, 61, 61, 61, 61, 61, 61, 61, 61, 61, 61, 61, 61, 61, 61, 61, 61, 61, 61, 61, 61, 61, 61, 61, 61, 61, 61, 61, 61, 61, 61, 61, 61, 61, 61, 61, 61, 61, 61, 61, 61, 61, 61, 61, 61, 61, 61, 61, 61, 61, 61, 61, 61, 61, 61, 61, 61, 61, 61, 61, 61, 61, 61, 61, 61, 61, 61, 61, 61, 61, 61, 61, 61, 61, 61, 61, 61, 61, 61, 61, 61, 61, 61, 61, 61, 61, 61, 61, 61, 61, 61, 61, 61]) (0 : Int) n) fun x4v4 =>
 Q (.string x4v4) w12))
 (IFB (decide (n ≤ (64 : Int)))
 (CALL PG 25 [(.string (ByteArray.mk #[9, 9, 9, 9, 9, 9, 9, 9, 9, 9, 9, 9, 9, 9, 9, 9, 9, 9, 9, 9, 9, 9, 9, 9, 9, 9, 9, 9, 9, 9, 9, 9, 9, 9, 9, 9, 9, 9, 9, 9, 9, 9, 9, 9, 9, 9, 9, 9, 9, 9, 9, 9, 9, 9, 9, 9, 9, 9, 9, 9, 9, 9, 9, 9])), (.string s)] w12 fun v8 w13 =>
 ∃ x90 : Bool, v8 = (.bool x90) ∧
 (LETB x90 fun x85 =>
 IFB x85
 (NEED (0 ≤ (0 : Int) ∧ (0 : Int) ≤ n ∧ n ≤ (ByteArray.mk #[9, 9, 9, 9, 9, 9, 9, 9, 9, 9, 9, 9, 9, 9, 9, 9, 9, 9, 9, 9, 9, 9, 9, 9, 9, 9, 9, 9, 9, 9, 9, 9, 9, 9, 9, 9, 9, 9, 9, 9, 9, 9, 9, 9, 9, 9, 9, 9, 9, 9, 9, 9, 9, 9, 9, 9, 9, 9, 9, 9, 9, 9, 9, 9]).size)
 (LETS (cutS (ByteArray.mk #[9, 9, 9, 9, 9, 9, 9, 9, 9, 9, 9, 9, 9, 9, 9, 9, 9, 9, 9, 9, 9, 9, 9, 9, 9, 9, 9, 9, 9, 9, 9, 9, 9, 9, 9, 9, 9, 9, 9, 9, 9, 9, 9, 9, 9, 9, 9, 9, 9, 9, 9, 9, 9, 9, 9, 9, 9, 9, 9, 9, 9, 9, 9, 9]) (0 : Int) n) fun x4v5 =>
 Q (.string x4v5) w13))
 (R2 w13)))
 (LETB false fun x85v1 =>
 IFB x85v1
 (NEED (0 ≤ (0 : Int) ∧ (0 : Int) ≤ n ∧ n ≤ (ByteArray.mk #[9, 9, 9, 9, 9, 9, 9, 9, 9, 9, 9, 9, 9, 9, 9, 9, 9, 9, 9, 9, 9, 9, 9, 9, 9, 9, 9, 9, 9, 9, 9, 9, 9, 9, 9, 9, 9, 9, 9, 9, 9, 9, 9, 9, 9, 9, 9, 9, 9, 9, 9, 9, 9, 9, 9, 9, 9, 9, 9, 9, 9, 9, 9, 9]).size)
 (LETS (cutS (ByteArray.mk #[9, 9, 9, 9, 9, 9, 9, 9, 9, 9, 9, 9, 9, 9, 9, 9, 9, 9, 9, 9, 9, 9, 9, 9, 9, 9, 9, 9, 9, 9, 9, 9, 9, 9, 9, 9, 9, 9, 9, 9, 9, 9, 9, 9, 9, 9, 9, 9, 9, 9, 9, 9, 9, 9, 9, 9, 9, 9, 9, 9, 9, 9, 9, 9]) (0 : Int) n) fun x4v6 =>
 Q (.string x4v6) w12))
 (R2 w12)))))))))))))))
 (R2 w4))))) ∧
 (∀  (w14 : World), R2 w14 → (LETI n fun chunkMax =>
 ∃ R8 : Int → World → Prop,
 (IFB (decide (n > (8192 : Int)))
 (NEED (((s.size : Nat) : Int) ≠ 0)
 (LETI (IntKind.i64.wrap ((IntKind.i64.wrap (Int.tdiv (8192 : Int) ((s.size : Nat) : Int))) * ((s.size : Nat) : Int))) fun chunkMax1 =>
 IFB (chunkMax1 == (0 : Int))
 (LETI ((s.size : Nat) : Int) fun chunkMax2 =>
 R8 chunkMax2 w14)
 (R8 chunkMax1 w14)))
 (R8 chunkMax w14)) ∧
 (∀ (chunkMax3 : Int) (w15 : World), R8 chunkMax3 w15 → (RUNA PG (Instr.alloc 54 true (.tuple #[])) w15 fun a9 w16 =>
 CALL PG 26 [(.pointer (some a9)), (.int .i64 n)] w16 fun v9 w17 =>
 v9 = (.tuple #[]) ∧
 (CALL PG 27 [(.pointer (some a9)), (.string s)] w17 fun v10 w18 =>
 ∃ x110 : Int, ∃ x110v1 : Value, v10 = (.tuple #[(.int .i64 x110), x110v1]) ∧
 (∃ I : Nat → World → Prop,
 (∃ m, I m w18) ∧
 (∀ m1  (w19 : World), I m1 w19 → (CALL PG 28 [(.pointer (some a9))] w19 fun v11 w20 =>
 ∃ x111 : Int, v11 = (.int .i64 x111) ∧
 (IFB (decide (x111 < n))
 (CALL PG 28 [(.pointer (some a9))] w20 fun v12 w21 =>
 ∃ x115 : Int, v12 = (.int .i64 x115) ∧
 (CALL PG 28 [(.pointer (some a9))] w21 fun v13 w22 =>
 ∃ x117 : Int, v13 = (.int .i64 x117) ∧
 (RDI PG (Builtin.min_ #[3, 3, 3] 3 #[(.int .i64 (IntKind.i64.wrap (n - x115))), (.int .i64 x117), (.int .i64 chunkMax3)]) .i64 w22 fun x119 =>
 LETI x119 fun chunk =>
 CALL PG 29 [(.pointer (some a9))] w22 fun v14 w23 =>
 ∃ x120 : ByteArray, v14 = (.string x120) ∧
 (NEED (0 ≤ (0 : Int) ∧ (0 : Int) ≤ chunk ∧ chunk ≤ x120.size)
 (CALL PG 27 [(.pointer (some a9)), (.string (cutS x120 (0 : Int) chunk))] w23 fun v15 w24 =>
 ∃ x123 : Int, ∃ x123v1 : Value, v15 = (.tuple #[(.int .i64 x123), x123v1]) ∧
 (∃ m2, m2 < m1 ∧ I m2 w24))))))
 (CALL PG 29 [(.pointer (some a9))] w20 fun v16 w25 =>
 ∃ x124 : ByteArray, v16 = (.string x124) ∧
 (LETS x124 fun x4v7 =>
 Q (.string x4v7) w25)))))))))))))))))))
theorem eq19 : ∀ (s : ByteArray) (count : Int) (w : World) (Q : Value → World → Prop), vcF PG TB Tryd.f19 (.s .nil (.s .nil (.cut [] .nil (.s .nil (.cut [] .nil (.s .nil (.s .nil (.cut [] (.s .nil (.u (.cut [(43, 4)] .nil (.c (.u (.cut [(49, 4)] .nil (.c .nil (.cut [(58, 4)] .nil (.c .nil (.cut [(67, 4)] .nil (.c .nil (.cut [(76, 4)] .nil .nil)))))))) .nil)))) (.s .nil (.cut [(8, 3)] .nil (.s .nil (.s .nil (.s .nil (.s (.u (.loop [] .nil)) .nil)))))))))))))) [(.string s), (.int .i64 count)] w Q = N19 s count w Q := by intros; kernel_rfl
theorem call19 {s : ByteArray} {count : Int} {w : World} {Q : Value → World → Prop} (hN : N19 s count w Q) : CALL PG 19 [(.string s), (.int .i64 count)] w Q := calls_vc tabOk Tryd.func19 (by rw [eq19]; exact hN)

/-- strings.TrimRight -/
def N20 (s : ByteArray) (cutset : ByteArray) (w : World) (Q : Value → World → Prop) : Prop :=
 IFB (s.toList == (ByteArray.mk #[]).toList)
 (LETS s fun x4 =>
 Q (.string x4) w)
 (IFB (cutset.toList == (ByteArray.mk #[]).toList)
 (LETS s fun x4v1 =>
 Q (.string x4v1) w)
 (∃ R : World → Prop,
 (IFB (((cutset.size : Nat) : Int) == (1 : Int))
 (NEED (0 ≤ (0 : Int) ∧ (0 : Int) < cutset.size)
 (IFB (decide ((sbyte cutset (0 : Int)) < (128 : Int)))
 (NEED (0 ≤ (0 : Int) ∧ (0 : Int) < cutset.size)
 (CALL PG 30 [(.string s), (.int .u8 (sbyte cutset (0 : Int)))] w fun v w1 =>
 ∃ x25 : ByteArray, v = (.string x25) ∧
 (LETS x25 fun x4v2 =>
 Q (.string x4v2) w1)))
 (R w)))
 (R w)) ∧
 (∀  (w2 : World), R w2 → (CALL PG 31 [(.string cutset)] w2 fun v1 w3 =>
 ∃ x28 : Value, ∃ x28v1 : Bool, v1 = (.tuple #[x28, (.bool x28v1)]) ∧
 (RUNA PG (Instr.alloc 63 true (.tuple #[])) w3 fun a5 w4 =>
 RUNU PG (storeVar 63 a5 x28) w4 fun w5 =>
 LETB x28v1 fun okv =>
 IFB okv
 (CALL PG 32 [(.string s), (.pointer (some a5))] w5 fun v2 w6 =>
 ∃ x33 : ByteArray, v2 = (.string x33) ∧
 (LETS x33 fun x4v3 =>
 Q (.string x4v3) w6))
 (CALL PG 33 [(.string s), (.string cutset)] w5 fun v3 w7 =>
 ∃ x36 : ByteArray, v3 = (.string x36) ∧
 (LETS x36 fun x4v4 =>
 Q (.string x4v4) w7)))))))
theorem eq20 : ∀ (s : ByteArray) (cutset : ByteArray) (w : World) (Q : Value → World → Prop), vcF PG TB Tryd.f20 (.s .nil (.s .nil (.cut [] .nil .nil))) [(.string s), (.string cutset)] w Q = N20 s cutset w Q := by intros; kernel_rfl
theorem call20 {s : ByteArray} {cutset : ByteArray} {w : World} {Q : Value → World → Prop} (hN : N20 s cutset w Q) : CALL PG 20 [(.string s), (.string cutset)] w Q := calls_vc tabOk Tryd.func20 (by rw [eq20]; exact hN)

/-- math/bits.Mul -/
def N24 (x : Int) (y : Int) (w : World) (Q : Value → World → Prop) : Prop :=
 CALL PG 46 [(.int .u64 x), (.int .u64 y)] w fun v w1 =>
 ∃ x25 : Int, ∃ x25v1 : Int, v = (.tuple #[(.int .u64 x25), (.int .u64 x25v1)]) ∧
 (LETI x25 fun h =>
 LETI x25v1 fun l =>
 LETI h fun hi =>
 LETI l fun lo =>
 Q (.tuple #[(.int .u64 hi), (.int .u64 lo)]) w1)
theorem eq24 : ∀ (x : Int) (y : Int) (w : World) (Q : Value → World → Prop), vcF PG TB Tryd.f24 .nil [(.int .u64 x), (.int .u64 y)] w Q = N24 x y w Q := by intros; kernel_rfl
theorem call24 {x : Int} {y : Int} {w : World} {Q : Value → World → Prop} (hN : N24 x y w Q) : CALL PG 24 [(.int .u64 x), (.int .u64 y)] w Q := calls_vc tabOk Tryd.func24 (by rw [eq24]; exact hN)

/-- strings.HasPrefix -/
def N25 (s : ByteArray) (prefixv : ByteArray) (w : World) (Q : Value → World → Prop) : Prop :=
 CALL PG 47 [(.string s), (.string prefixv)] w fun v w1 =>
 ∃ x7 : Bool, v = (.bool x7) ∧
 (LETB x7 fun x4 =>
 Q (.bool x4) w1)
theorem eq25 : ∀ (s : ByteArray) (prefixv : ByteArray) (w : World) (Q : Value → World → Prop), vcF PG TB Tryd.f25 .nil [(.string s), (.string prefixv)] w Q = N25 s prefixv w Q := by intros; kernel_rfl
theorem call25 {s : ByteArray} {prefixv : ByteArray} {w : World} {Q : Value → World → Prop} (hN : N25 s prefixv w Q) : CALL PG 25 [(.string s), (.string prefixv)] w Q := calls_vc tabOk Tryd.func25 (by rw [eq25]; exact hN)

/-- strings.trimRightByte -/
def N30 (s : ByteArray) (c : Int) (w : World) (Q : Value → World → Prop) : Prop :=
 ∃ I : Nat → ByteArray → World → Prop,
 (∃ m, I m s w) ∧
 (∀ m1 (s1 : ByteArray) (w1 : World), I m1 s1 w1 → (IFB (decide (((s1.size : Nat) : Int) > (0 : Int)))
 (NEED (0 ≤ (IntKind.i64.wrap (((s1.size : Nat) : Int) - (1 : Int))) ∧ (IntKind.i64.wrap (((s1.size : Nat) : Int) - (1 : Int))) < s1.size)
 (IFB ((sbyte s1 (IntKind.i64.wrap (((s1.size : Nat) : Int) - (1 : Int)))) == c)
 (NEED (0 ≤ (0 : Int) ∧ (0 : Int) ≤ (IntKind.i64.wrap (((s1.size : Nat) : Int) - (1 : Int))) ∧ (IntKind.i64.wrap (((s1.size : Nat) : Int) - (1 : Int))) ≤ s1.size)
 (LETS (cutS s1 (0 : Int) (IntKind.i64.wrap (((s1.size : Nat) : Int) - (1 : Int)))) fun s2 =>
 ∃ m2, m2 < m1 ∧ I m2 s2 w1))
 (LETS s1 fun x4 =>
 Q (.string x4) w1)))
 (LETS s1 fun x4v1 =>
 Q (.string x4v1) w1)))
theorem eq30 : ∀ (s : ByteArray) (c : Int) (w : World) (Q : Value → World → Prop), vcF PG TB Tryd.f30 (.s .nil (.s (.u (.loop [(0, 9)] .nil)) .nil)) [(.string s), (.int .u8 c)] w Q = N30 s c w Q := by intros; kernel_rfl
theorem call30 {s : ByteArray} {c : Int} {w : World} {Q : Value → World → Prop} (hN : N30 s c w Q) : CALL PG 30 [(.string s), (.int .u8 c)] w Q := calls_vc tabOk Tryd.func30 (by rw [eq30]; exact hN)

/-- math/bits.Mul64 -/
def N46 (x : Int) (y : Int) (w : World) (Q : Value → World → Prop) : Prop :=
 LETI (IntKind.u64.wrap (BitVec.ofInt (IntKind.u64.bits) x &&& BitVec.ofInt (IntKind.u64.bits) (4294967295 : Int)).toNat) fun x0 =>
 NEED (0 ≤ (32 : Int))
 (LETI (shrN .u64 x (32 : Int)) fun x1 =>
 LETI (IntKind.u64.wrap (BitVec.ofInt (IntKind.u64.bits) y &&& BitVec.ofInt (IntKind.u64.bits) (4294967295 : Int)).toNat) fun y0 =>
 NEED (0 ≤ (32 : Int))
 (LETI (shrN .u64 y (32 : Int)) fun y1 =>
 LETI (IntKind.u64.wrap (x0 * y0)) fun w0 =>
 NEED (0 ≤ (32 : Int))
 (LETI (IntKind.u64.wrap ((IntKind.u64.wrap (x1 * y0)) + (shrN .u64 w0 (32 : Int)))) fun t =>
 LETI (IntKind.u64.wrap (BitVec.ofInt (IntKind.u64.bits) t &&& BitVec.ofInt (IntKind.u64.bits) (4294967295 : Int)).toNat) fun w1 =>
 NEED (0 ≤ (32 : Int))
 (LETI (shrN .u64 t (32 : Int)) fun w2 =>
 LETI (IntKind.u64.wrap (w1 + (IntKind.u64.wrap (x0 * y1)))) fun w1v1 =>
 NEED (0 ≤ (32 : Int))
 (LETI (IntKind.u64.wrap ((IntKind.u64.wrap ((IntKind.u64.wrap (x1 * y1)) + w2)) + (shrN .u64 w1v1 (32 : Int)))) fun hi =>
 LETI (IntKind.u64.wrap (x * y)) fun lo =>
 Q (.tuple #[(.int .u64 hi), (.int .u64 lo)]) w)))))
theorem eq46 : ∀ (x : Int) (y : Int) (w : World) (Q : Value → World → Prop), vcF PG TB Tryd.f46 .nil [(.int .u64 x), (.int .u64 y)] w Q = N46 x y w Q := by intros; kernel_rfl
theorem call46 {x : Int} {y : Int} {w : World} {Q : Value → World → Prop} (hN : N46 x y w Q) : CALL PG 46 [(.int .u64 x), (.int .u64 y)] w Q := calls_vc tabOk Tryd.func46 (by rw [eq46]; exact hN)

/-- internal/stringslite.HasPrefix -/
def N47 (s : ByteArray) (prefixv : ByteArray) (w : World) (Q : Value → World → Prop) : Prop :=
 IFB (decide (((s.size : Nat) : Int) ≥ ((prefixv.size : Nat) : Int)))
 (NEED (0 ≤ (0 : Int) ∧ (0 : Int) ≤ ((prefixv.size : Nat) : Int) ∧ ((prefixv.size : Nat) : Int) ≤ s.size)
 (LETB ((cutS s (0 : Int) ((prefixv.size : Nat) : Int)).toList == prefixv.toList) fun x4 =>
 Q (.bool x4) w))
 (LETB false fun x4v1 =>
 Q (.bool x4v1) w)
theorem eq47 : ∀ (s : ByteArray) (prefixv : ByteArray) (w : World) (Q : Value → World → Prop), vcF PG TB Tryd.f47 .nil [(.string s), (.string prefixv)] w Q = N47 s prefixv w Q := by intros; kernel_rfl
theorem call47 {s : ByteArray} {prefixv : ByteArray} {w : World} {Q : Value → World → Prop} (hN : N47 s prefixv w Q) : CALL PG 47 [(.string s), (.string prefixv)] w Q := calls_vc tabOk Tryd.func47 (by rw [eq47]; exact hN)

end Go.Br
