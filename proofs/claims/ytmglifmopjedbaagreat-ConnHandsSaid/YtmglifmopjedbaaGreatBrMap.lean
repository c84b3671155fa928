/- Maps with whole numbers as keys, as pieces. -/
import Derived.Test.YtmglifmopjedbaaGreatBrOwn
import Derived.Maps.RangeRun
set_option linter.unusedVariables false
set_option linter.unusedSimpArgs false
namespace Go.Br
open Go
attribute [local semireducible] RUNA
section
variable {c : Ctx} {w : World} {L R : List SA} {P : Program} {r : Nat} {E : List (Int × Value)}
end
/-! ### A map that is ranged over -/
section
variable {c : Ctx} {w : World} {L R : List SA} {P : Program} {r it : Nat} {E V : List (Int × Value)} {cur : Option (Int × Value)}
end
end Go.Br
