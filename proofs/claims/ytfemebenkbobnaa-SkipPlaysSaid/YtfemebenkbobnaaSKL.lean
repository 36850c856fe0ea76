import Derived.Test.YtfemebenkbobnaaHOp2
/- The range of a literal. -/
namespace Go.Proofs.Ytfemebenkbobnaa.SK
theorem lit_u64 {n : Int} (h : (Lit.int .u64 n).wf = true) : n ≤ 18446744073709551615 := by
  simp [Lit.wf, IntKind.min, IntKind.max, IntKind.signed, IntKind.bits] at h
  omega
theorem lit_i64 {n : Int} (h : (Lit.int .i64 n).wf = true) : -9223372036854775808 ≤ n ∧ n ≤ 9223372036854775807 := by
  simp [Lit.wf, IntKind.min, IntKind.max, IntKind.signed, IntKind.bits] at h
  omega
end Go.Proofs.Ytfemebenkbobnaa.SK
