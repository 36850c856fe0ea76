import Derived.Test.YtfemebenkbobnaaHOpen
/- Opening of a law's argument: rows (struct type 28), slices of rows, slices of ints. Conditions: the weights are within reach. -/
namespace Go.Proofs.Ytfemebenkbobnaa.H
set_option linter.unusedVariables false
open Go.RowKit Go.Proofs.YtfemebenkbobnaaW.PrintWords Go.Proofs.Ytfemebenkbobnaa.PB06
section
variable {H : Type} {enc : TypeId × Value → H} {w : World} {base : Nat} {spare : Nat → Bool} {held : Bool}
theorem trod_struct4 {P : Program} {t : TypeId} {f0 f1 f2 f3 : Field} {fuel : Nat} {cs : List Value} {x : DataW H × List MemPlace} (ht : P.underlying t = some (.struct #[f0, f1, f2, f3])) (h : DataW.trod enc P w base spare held fuel t cs = some x) :
    ∃ y0 y1 y2 y3 n, x = (.agg [y0.1, y1.1, y2.1, y3.1], y0.2 ++ (y1.2 ++ (y2.2 ++ y3.2))) ∧ cs.length = P.cellsOf t ∧ DataW.trod enc P w base spare held n f0.type ((cs.drop f0.offset).take (P.cellsOf f0.type)) = some y0 ∧
      DataW.trod enc P w base spare held n f1.type ((cs.drop f1.offset).take (P.cellsOf f1.type)) = some y1 ∧ DataW.trod enc P w base spare held n f2.type ((cs.drop f2.offset).take (P.cellsOf f2.type)) = some y2 ∧ DataW.trod enc P w base spare held n f3.type ((cs.drop f3.offset).take (P.cellsOf f3.type)) = some y3 := by
  obtain ⟨xs, n, _, rfl, hl, hlen, hf⟩ := DataW.trod_struct ht h
  match xs, hlen with
  | [y0, y1, y2, y3], _ => exact ⟨y0, y1, y2, y3, n, by simp, hl, by simpa using hf 0 f0 rfl, by simpa using hf 1 f1 rfl, by simpa using hf 2 f2 rfl, by simpa using hf 3 f3 rfl⟩
set_option maxRecDepth 100000 in
theorem trod_28 (n : Nat) (cs : List Value) (x : DataW H × List MemPlace) (h : DataW.trod enc Try.prog w base spare held n 28 cs = some x) (hz : Fit Try.prog 28 x.1) :
    ∃ a : S28, k28.K w a cs ∧ ((Lit.int .u64 a.f1).wf = true ∧ (Lit.int .i64 a.f2).wf = true ∧ a.f0.size ≤ reachBytes ∧ a.f3.size ≤ reachBytes) := by
  obtain ⟨y0, y1, y2, y3, m, rfl, hl, h0, h1, h2, h3⟩ := trod_struct4 Try.underlying28 h
  have e3 : Try.prog.cellsOf 3 = 1 := by kernel_rfl
  have e9 : Try.prog.cellsOf 9 = 1 := by kernel_rfl
  have e24 : Try.prog.cellsOf 24 = 1 := by kernel_rfl
  have e28 : Try.prog.cellsOf 28 = 4 := by kernel_rfl
  rw [e28] at hl
  match cs, hl with
  | [u0, u1, u2, u3], _ =>
    obtain ⟨s0, c0, _, d0⟩ := trod_string Try.underlying9 h0
    obtain ⟨n1, c1, wf1, _⟩ := trod_int Try.underlying24 h1
    obtain ⟨n2, c2, wf2, _⟩ := trod_int Try.underlying3 h2
    obtain ⟨s3, c3, _, d3⟩ := trod_string Try.underlying9 h3
    have z0 := fit_struct Try.underlying28 hz 0 _ _ rfl rfl
    have z3 := fit_struct Try.underlying28 hz 3 _ _ rfl rfl
    rw [d0] at z0
    rw [d3] at z3
    have z0' := fit_string z0
    have z3' := fit_string z3
    simp [e9] at c0 c3
    simp [e24] at c1
    simp [e3] at c2
    subst c0 c1 c2 c3
    exact ⟨⟨s0, n1, n2, s3⟩, k28_mk w ⟨s0, n1, n2, s3⟩, wf1, wf2, by simpa using z0', by simpa using z3'⟩
set_option maxRecDepth 100000 in
theorem open_28 {v : Value} {d : DataW H} {p : List MemPlace} {b0 : Nat} (hv : Value.okWide Try.prog w .any b0 28 v) (h : ∃ fuel, DataW.trod enc Try.prog w base spare held fuel 28 v.cells.toList = some (d, p)) (hz : Fit Try.prog 28 d) :
    ∃ a : S28, v = .agg #[.string a.f0, .int .u64 a.f1, .int .i64 a.f2, .string a.f3] ∧ ((Lit.int .u64 a.f1).wf = true ∧ (Lit.int .i64 a.f2).wf = true ∧ a.f0.size ≤ reachBytes ∧ a.f3.size ≤ reachBytes) := by
  obtain ⟨fuel, h⟩ := h
  obtain ⟨a, hK, hq⟩ := trod_28 _ _ _ h hz
  obtain ⟨cs, rfl, _⟩ := Go.WideShapes.okWide_struct Try.underlying28 hv
  have h2 := k28_open hK
  rw [show (Value.agg cs).cells = cs from rfl] at h2
  exact ⟨a, congrArg Value.agg (Array.toList_inj.mp (by simpa using h2)), hq⟩
set_option maxRecDepth 100000 in
theorem open_22 {v : Value} {d : DataW H} {p : List MemPlace} {b0 : Nat} (hv : Value.okWide Try.prog w .any b0 22 v) (h : ∃ fuel, DataW.trod enc Try.prog w base spare held fuel 22 v.cells.toList = some (d, p)) (hz : Fit Try.prog 22 d) :
    ∃ (A : Option Addr) (l : List S28) (c : Nat), v = .slice A l.length c ∧ l.length ≤ c ∧ l.length ≤ 4398046511104 ∧ k28.C w A l.length l ∧ ∀ a, a ∈ l → (Lit.int .u64 a.f1).wf = true ∧ (Lit.int .i64 a.f2).wf = true ∧ a.f0.size ≤ reachBytes ∧ a.f3.size ≤ reachBytes := by
  obtain ⟨fuel, h⟩ := h
  obtain ⟨A, c, l, c1, g1, g2, g3, g4, g5⟩ := trod_row k28 _ Try.underlying22 (by kernel_rfl) trod_28 hz h
  obtain ⟨A', len, cap, rfl⟩ := Go.WideShapes.okWide_slice Try.underlying22 hv
  have eb : Try.prog.bytesOf 28 = 48 := by kernel_rfl
  rw [eb] at g3
  have : reachBytes < 2 ^ 47 := reachBytes_lt
  simp [Value.cells] at c1
  obtain ⟨rfl, rfl, rfl⟩ := c1
  exact ⟨_, l, _, rfl, g1, by omega, g4, g5⟩
theorem trod_3 (n : Nat) (cs : List Value) (x : DataW H × List MemPlace) (h : DataW.trod enc Try.prog w base spare held n 3 cs = some x) (hz : Fit Try.prog 3 x.1) :
    ∃ a : Int, (Kd.int .i64).K w a cs ∧ (Lit.int .i64 a).wf = true := by
  obtain ⟨n0, rfl, wf, _⟩ := trod_int Try.underlying3 h
  exact ⟨n0, rfl, wf⟩
set_option maxRecDepth 100000 in
theorem open_23 {v : Value} {d : DataW H} {p : List MemPlace} {b0 : Nat} (hv : Value.okWide Try.prog w .any b0 23 v) (h : ∃ fuel, DataW.trod enc Try.prog w base spare held fuel 23 v.cells.toList = some (d, p)) (hz : Fit Try.prog 23 d) :
    ∃ (A : Option Addr) (l : List Int) (c : Nat), v = .slice A l.length c ∧ l.length ≤ c ∧ l.length ≤ 35184372088832 ∧ (Kd.int .i64).C w A l.length l ∧ ∀ a, a ∈ l → (Lit.int .i64 a).wf = true := by
  obtain ⟨fuel, h⟩ := h
  obtain ⟨A, c, l, c1, g1, g2, g3, g4, g5⟩ := trod_row (Kd.int .i64) _ Try.underlying23 (by kernel_rfl) trod_3 hz h
  obtain ⟨A', len, cap, rfl⟩ := Go.WideShapes.okWide_slice Try.underlying23 hv
  have eb : Try.prog.bytesOf 3 = 8 := by kernel_rfl
  rw [eb] at g3
  have : reachBytes < 2 ^ 47 := reachBytes_lt
  simp [Value.cells] at c1
  obtain ⟨rfl, rfl, rfl⟩ := c1
  exact ⟨_, l, _, rfl, g1, by omega, g4, g5⟩
end
end Go.Proofs.Ytfemebenkbobnaa.H
