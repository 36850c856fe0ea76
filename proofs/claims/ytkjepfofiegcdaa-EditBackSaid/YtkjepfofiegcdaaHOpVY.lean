import Derived.Test.YtkjepfofiegcdaaHOpen
import Derived.Test.YtkjepfofiegcdaaVX1Y
import Derived.OpenShut
/- Opening of a law's arguments: a version (struct type 26), options (48), a compaction (52), a list of tables (23). Conditions: the weights are within reach. -/
namespace Go.Proofs.Ytkjepfofiegcdaa.H
set_option linter.unusedVariables false
set_option linter.unusedSimpArgs false
open Go.RowKit Go.Proofs.YtkjepfofiegcdaaW.PrintWords Go.Proofs.Ytkjepfofiegcdaa.PB14 Go.Proofs.Ytkjepfofiegcdaa.V
section
variable {H : Type} {enc : TypeId × Value → H} {P : Program} {w : World} {base : Nat} {spare : Nat → Bool} {held : Bool}
end
section
variable {H : Type} {enc : TypeId × Value → H} {w : World} {base : Nat} {spare : Nat → Bool} {held : Bool}
end
end Go.Proofs.Ytkjepfofiegcdaa.H
