import Derived.Test.YtkjepfofiegcdaaVX3Y
/- A list with a table at its place (freshetref14.with), walked. Conditions: at most 10 to the 9th rows, a level that is not negative. -/
namespace Go.Proofs.Ytkjepfofiegcdaa.V
set_option linter.unusedVariables false
set_option linter.unusedSimpArgs false
open Go.RowKit Go.Proofs.YtkjepfofiegcdaaW.PrintWords Go.Proofs.YtkjepfofiegcdaaW.PrintLast Go.Proofs.YtkjepfofiegcdaaW.PrintMore Go.Proofs.Ytkjepfofiegcdaa.PB14
/-- Does x stand before m at a level? -/
def befP (lv : Int) (m x : S58) : Prop := (lv = 0 ∧ x.f0 < m.f0) ∨ (lv > 0 ∧ Op.bytesLess m.f3.toList x.f3.toList = false)
instance (lv : Int) (m x : S58) : Decidable (befP lv m x) := by unfold befP; infer_instance
end Go.Proofs.Ytkjepfofiegcdaa.V
