/- SortPure, SortInt -/
import Derived.Test.YtmglifmopjedbaaGreatBrSep
import Derived.Test.YtmglifmopjedbaaGreatBrSeat
import Derived.Test.YtmglifmopjedbaaGreatBrOwn
/- Plain lists that are sorted: what rotating,merging,inserting do. -/
set_option linter.unusedVariables false
set_option linter.unusedSimpArgs false
set_option linter.unnecessarySimpa false
namespace Go.Br
open Go
section
variable {α : Type} {f : α -> α -> Int}
end
end Go.Br
/- What the code of some functions says,as the core reads it; each reading is checked by the kernel. -/
set_option linter.unusedVariables false
set_option maxRecDepth 100000
namespace Go.Br
open Go Go.Proofs
end Go.Br
/- A short slice of numbers is sorted (insertion),and made to hold each once. -/
set_option linter.unusedVariables false
set_option linter.unusedSimpArgs false
set_option linter.unnecessarySimpa false
namespace Go.Br
open Go
attribute [local irreducible] Addr.add RD RDS RUN RUNU NILC LETB CALL CALLX CALLV
def ddS (a : List Int) (x : Int) : List Int:=if a.getLast? = some x then a else a ++ [x]
def dd (l : List Int) : List Int:=l.foldl ddS []
section
variable {c : Ctx} {w : World} {R : List SA} {A : Option Addr} {n k : Nat}
end
end Go.Br
