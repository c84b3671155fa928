/- Bytes as numbers, options, a segment; a count in digits: plain. -/
import Derived.Test.YtnmhgjfllknbpaaBrList
set_option linter.unusedVariables false
set_option linter.unusedSimpArgs false
set_option linter.unnecessarySimpa false
namespace Go.Br
open Go
attribute [local irreducible] Addr.add RD RDS RUN RUNU NILC LETB CALL CALLX CALLV

/-- The number that some bytes are, the highest ahead. -/
def beN (l : List UInt8) : Nat := l.foldl (fun n b => n * 256 + b.toNat) 0
theorem beN_snoc (l : List UInt8) (b : UInt8) : beN (l ++ [b]) = beN l * 256 + b.toNat := by unfold beN; rw [List.foldl_append]; rfl
theorem beN_lt : ∀ (l : List UInt8), beN l < 256 ^ l.length := fun l => by
  rcases List.eq_nil_or_concat l with rfl | ⟨q, b, rfl⟩
  · simp [beN]
  · rw [List.concat_eq_append, beN_snoc, List.length_append, List.length_singleton, Nat.pow_succ]
    have ih := beN_lt q
    have := b.toNat_lt
    omega
termination_by l => l.length
decreasing_by subst_vars; simp
/-- The numbers of these sizes, and what is left. -/
def getS : List Nat → List UInt8 → Option (List Nat × List UInt8)
  | [], b => some ([], b)
  | n :: r, b => if n < 1 ∨ 8 < n ∨ b.length < n then none else (getS r (b.drop n)).map fun p => (beN (b.take n) :: p.1, p.2)
/-- The options of some bytes. -/
def optsS : List UInt8 → Option (List (Int × List UInt8))
  | [] => some []
  | [_] => none
  | k :: m :: r => if k = 0 ∨ r.length < m.toNat then none else (optsS (r.drop m.toNat)).map fun l => ((k.toNat : Int), r.take m.toNat) :: l
termination_by l => l.length
decreasing_by simp; omega
/-- A count in digits. -/
def digs (n : Nat) : List UInt8 := if n < 10 then [UInt8.ofNat (48 + n)] else digs (n / 10) ++ [UInt8.ofNat (48 + n % 10)]
termination_by n
decreasing_by omega
theorem digs_lt {n : Nat} (h : n < 10) : digs n = [UInt8.ofNat (48 + n)] := by rw [digs, if_pos h]
theorem digs_ge {n : Nat} (h : 10 ≤ n) : digs n = digs (n / 10) ++ [UInt8.ofNat (48 + n % 10)] := by rw [digs, if_neg (by omega)]
def digsI (n : Int) : List UInt8 := digs n.toNat
end Go.Br
