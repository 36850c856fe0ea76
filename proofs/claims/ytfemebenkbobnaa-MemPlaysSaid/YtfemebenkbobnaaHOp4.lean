import Derived.Test.YtfemebenkbobnaaHOp2
/- Opening of a law's argument: a list of batches (slice type 75). Conditions: the weights are within reach. -/
namespace Go.Proofs.Ytfemebenkbobnaa.H
set_option linter.unusedVariables false
open Go.RowKit Go.Proofs.YtfemebenkbobnaaW.PrintWords Go.Proofs.Ytfemebenkbobnaa.PB06
section
variable {H : Type} {enc : TypeId × Value → H} {w : World} {base : Nat} {spare : Nat → Bool} {held : Bool}
theorem trod_58k (n : Nat) (cs : List Value) (x : DataW H × List MemPlace) (h : DataW.trod enc Try.prog w base spare held n 58 cs = some x) (hz : Fit Try.prog 58 x.1) :
    ∃ a : S58, k58.K w a cs ∧ (Lit.int .u64 a.f0).wf = true := by
  obtain ⟨n, A, l, c, rfl, wf, g1, g2, g3, g4, g5⟩ := trod_58 _ _ _ h hz
  exact ⟨⟨n, l⟩, k58_mk w ⟨n, l⟩ g1 g4, wf⟩
set_option maxRecDepth 100000 in
theorem open_75 {v : Value} {d : DataW H} {p : List MemPlace} {b0 : Nat} (hv : Value.okWide Try.prog w .any b0 75 v) (h : ∃ fuel, DataW.trod enc Try.prog w base spare held fuel 75 v.cells.toList = some (d, p)) (hz : Fit Try.prog 75 d) :
    ∃ (A : Option Addr) (l : List S58) (c : Nat), v = .slice A l.length c ∧ l.length ≤ c ∧ k58.C w A l.length l ∧ ∀ a, a ∈ l → (Lit.int .u64 a.f0).wf = true := by
  obtain ⟨fuel, h⟩ := h
  obtain ⟨A, c, l, c1, g1, g2, g3, g4, g5⟩ := trod_row k58 _ Try.underlying75 (by kernel_rfl) trod_58k hz h
  obtain ⟨A', len, cap, rfl⟩ := Go.WideShapes.okWide_slice Try.underlying75 hv
  simp [Value.cells] at c1
  obtain ⟨rfl, rfl, rfl⟩ := c1
  exact ⟨_, l, _, rfl, g1, g4, g5⟩
end
end Go.Proofs.Ytfemebenkbobnaa.H
