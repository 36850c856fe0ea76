import Derived.Test.YtfemebenkbobnaaPB0614
import Derived.Test.YtfemebenkbobnaaU06c
namespace Go.Proofs.Ytfemebenkbobnaa.Pure
open Go.RowKit Go.Proofs.Ytfemebenkbobnaa.PB06 Go.Proofs.YtfemebenkbobnaaW.PrintWords Go.Proofs.YtfemebenkbobnaaW.PrintLast

/-- The plain law: what batch.Decode reads, batch.Encode writes back, byte for byte. -/
theorem BatchOnly : freshetlaw06_BatchOnly.Pure := fun a0 h => (ev_BatchOnly a0 (by omega)).rounds

end Go.Proofs.Ytfemebenkbobnaa.Pure
