import Derived.Test.YtkjepfofiegcdaaHOpEY
import Derived.Test.YtkjepfofiegcdaaVP2Y
/- The numbers of an edit that is opened are such as the machine has. Conditions: none. -/
namespace Go.Proofs.Ytkjepfofiegcdaa.H
open Go.RowKit Go.Proofs.YtkjepfofiegcdaaW.PrintWords Go.Proofs.Ytkjepfofiegcdaa.PB14 Go.Proofs.Ytkjepfofiegcdaa.V
theorem u64_of {n : Int} (h : (Lit.int .u64 n).wf = true) : U64 n := by
  have h1 := bounds_u64 h
  exact ⟨h1.1, by omega⟩
theorem EdtW.eu {e : Edt} (h : EdtW e) : EU e := ⟨⟨u64_of h.1, u64_of h.2.1, u64_of h.2.2.1⟩, fun x hx => u64_of (h.2.2.2.1.2 x hx).2⟩
end Go.Proofs.Ytkjepfofiegcdaa.H
