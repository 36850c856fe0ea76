import Derived.Test.YtkjepfofiegcdaaVX3Y
/- A list less a number (freshetref14.without), walked. Conditions: at most 10 to the 9th rows. -/
namespace Go.Proofs.Ytkjepfofiegcdaa.V
set_option linter.unusedVariables false
set_option linter.unusedSimpArgs false
open Go.RowKit Go.Proofs.YtkjepfofiegcdaaW.PrintWords Go.Proofs.YtkjepfofiegcdaaW.PrintLast Go.Proofs.YtkjepfofiegcdaaW.PrintMore Go.Proofs.Ytkjepfofiegcdaa.PB14
end Go.Proofs.Ytkjepfofiegcdaa.V
