import Derived.Test.YtfemebenkbobnaaPB0611
import Derived.Test.YtfemebenkbobnaaU06b
namespace Go.Proofs.Ytfemebenkbobnaa.Pure
open Go.RowKit Go.Proofs.Ytfemebenkbobnaa.PB06 Go.Proofs.YtfemebenkbobnaaW.PrintWords Go.Proofs.YtfemebenkbobnaaW.PrintLast

/-- The plain law: what batch.Decode and the reference answer is the same. -/
theorem BatchDecode : freshetlaw06_BatchDecode.Pure := fun a0 h => (ev_BatchDecode a0 (by omega)).rounds

end Go.Proofs.Ytfemebenkbobnaa.Pure
