import Derived.Test.YtfemebenkbobnaaHOp2
/- Opening of a law's argument: a list of lists of writes (slice type 74). Conditions: the weights are within reach. -/
namespace Go.Proofs.Ytfemebenkbobnaa.H
set_option linter.unusedVariables false
open Go.RowKit Go.Proofs.YtfemebenkbobnaaW.PrintWords Go.Proofs.Ytfemebenkbobnaa.PB06
def k56 : Kd (List S72) := Kd.slice 72 k72
section
variable {H : Type} {enc : TypeId × Value → H} {w : World} {base : Nat} {spare : Nat → Bool} {held : Bool}
theorem trod_56 (n : Nat) (cs : List Value) (x : DataW H × List MemPlace) (h : DataW.trod enc Try.prog w base spare held n 56 cs = some x) (hz : Fit Try.prog 56 x.1) :
    ∃ a : List S72, k56.K w a cs ∧ True := by
  obtain ⟨A, c, l, rfl, g1, g2, g3, g4, g5⟩ := trod_row k72 _ Try.underlying56 (by kernel_rfl) trod_72 hz h
  exact ⟨l, ⟨A, c, rfl, g1, g4⟩, trivial⟩
set_option maxRecDepth 100000 in
theorem open_74 {v : Value} {d : DataW H} {p : List MemPlace} {b0 : Nat} (hv : Value.okWide Try.prog w .any b0 74 v) (h : ∃ fuel, DataW.trod enc Try.prog w base spare held fuel 74 v.cells.toList = some (d, p)) (hz : Fit Try.prog 74 d) :
    ∃ (A : Option Addr) (l : List (List S72)) (c : Nat), v = .slice A l.length c ∧ l.length ≤ c ∧ k56.C w A l.length l ∧ ∀ a, a ∈ l → True := by
  obtain ⟨fuel, h⟩ := h
  obtain ⟨A, c, l, c1, g1, g2, g3, g4, g5⟩ := trod_row k56 _ Try.underlying74 (by kernel_rfl) trod_56 hz h
  obtain ⟨A', len, cap, rfl⟩ := Go.WideShapes.okWide_slice Try.underlying74 hv
  simp [Value.cells] at c1
  obtain ⟨rfl, rfl, rfl⟩ := c1
  exact ⟨_, l, _, rfl, g1, g4, g5⟩
end
/-- The cell of the i-th list. -/
theorem at_T74 {w : World} {A : Option Addr} {xs : List (List S72)} (h : Kd.C k56 w A xs.length xs) (i : Nat) (hi : i < xs.length) : ∃ ad X c, A = some ad ∧ w.cell? (ad.add (i * 1)) = some (.slice X (xs.getD i []).length c) ∧ (xs.getD i []).length ≤ c ∧ k72.C w X (xs.getD i []).length (xs.getD i []) := by
  obtain ⟨ad, c, e, _, hK, hc0⟩ := Kd.C_get h [] (i : Int) (by omega) (by omega)
  obtain ⟨X, c, rfl, l1, g1⟩ := hK
  exact ⟨ad, X, c, e, hc0 0 _ rfl, l1, g1⟩
end Go.Proofs.Ytfemebenkbobnaa.H
