import Derived.Test.YtkjepfofiegcdaaVE9Y
import Derived.Test.YtkjepfofiegcdaaVF1Y
import Derived.Test.YtkjepfofiegcdaaVH2Y
/- Whole: what it answers, in the plain; edit.Whole (59) and the reference's (60), walked. Conditions: the tables' numbers are such as the machine has. -/
namespace Go.Proofs.Ytkjepfofiegcdaa.V
set_option linter.unusedVariables false
set_option linter.unusedSimpArgs false
open Go.RowKit Go.Proofs.YtkjepfofiegcdaaW.PrintWords Go.Proofs.YtkjepfofiegcdaaW.PrintLast Go.Proofs.YtkjepfofiegcdaaW.PrintMore Go.Proofs.Ytkjepfofiegcdaa.PB14
theorem size70 : (Try.prog.info? 70).map (·.size) = some 5 := by kernel_rfl
end Go.Proofs.Ytkjepfofiegcdaa.V
