import Derived.Test.YtfemebenkbobnaaHOp2
/- Opening of a law's argument: a script of a skip list's calls (struct type 44, slice type 40). Conditions: the weights are within reach. -/
namespace Go.Proofs.Ytfemebenkbobnaa.H
set_option linter.unusedVariables false
open Go.RowKit Go.Proofs.YtfemebenkbobnaaW.PrintWords Go.Proofs.Ytfemebenkbobnaa.PB06
structure S44 where
  f0 : Int
  f1 : S28
  f2 : Int
def z44 : S44 := ⟨0, z28, 0⟩
def k44 : Kd S44 := Kd.iso (Kd.pair (Kd.int .i64) (Kd.pair k28 (Kd.int .i64))) (fun x : S44 => (x.f0, x.f1, x.f2))
theorem k44_open {w : World} {x : S44} {cs : List Value} (h : k44.K w x cs) : cs = [.int .i64 x.f0, .string x.f1.f0, .int .u64 x.f1.f1, .int .i64 x.f1.f2, .string x.f1.f3, .int .i64 x.f2] := by
  obtain ⟨_, _, rfl, rfl, ⟨c, _, rfl, h1, rfl⟩⟩ := h
  have h2 : c = _ := k28_open h1
  rw [h2]
  rfl
theorem k44_mk (w : World) (x : S44) : k44.K w x [.int .i64 x.f0, .string x.f1.f0, .int .u64 x.f1.f1, .int .i64 x.f1.f2, .string x.f1.f3, .int .i64 x.f2] :=
  ⟨[.int .i64 x.f0], [.string x.f1.f0, .int .u64 x.f1.f1, .int .i64 x.f1.f2, .string x.f1.f3, .int .i64 x.f2], rfl, rfl, ⟨[.string x.f1.f0, .int .u64 x.f1.f1, .int .i64 x.f1.f2, .string x.f1.f3], [.int .i64 x.f2], rfl, k28_mk w x.f1, rfl⟩⟩
/-- The cells of the i-th call. -/
theorem at_T44 {w : World} {A : Option Addr} {xs : List S44} (h : Kd.C k44 w A xs.length xs) (i : Nat) (hi : i < xs.length) : ∃ ad x, A = some ad ∧ xs.getD i z44 = x ∧ x ∈ xs ∧ w.cell? (ad.add (i * 6)) = some (.int .i64 x.f0) ∧ w.cell? ⟨(ad.add (i * 6)).block, (ad.add (i * 6)).off + 1, none⟩ = some (.string x.f1.f0) ∧ w.cell? ⟨(ad.add (i * 6)).block, (ad.add (i * 6)).off + 2, none⟩ = some (.int .u64 x.f1.f1) ∧ w.cell? ⟨(ad.add (i * 6)).block, (ad.add (i * 6)).off + 3, none⟩ = some (.int .i64 x.f1.f2) ∧ w.cell? ⟨(ad.add (i * 6)).block, (ad.add (i * 6)).off + 4, none⟩ = some (.string x.f1.f3) ∧ w.cell? ⟨(ad.add (i * 6)).block, (ad.add (i * 6)).off + 5, none⟩ = some (.int .i64 x.f2) := by
  obtain ⟨ad, c, e, _, hK, hc0⟩ := Kd.C_get h z44 (i : Int) (by omega) (by omega)
  have hc : ∀ j u, c[j]? = some u → w.cell? (ad.add (i * 6 + j)) = some u := hc0
  obtain rfl := k44_open hK
  refine ⟨ad, xs.getD i z44, e, rfl, ?_, hc 0 _ rfl, by rw [← add_field _ _ 1 (by omega)]; exact hc 1 _ rfl, by rw [← add_field _ _ 2 (by omega)]; exact hc 2 _ rfl, by rw [← add_field _ _ 3 (by omega)]; exact hc 3 _ rfl, by rw [← add_field _ _ 4 (by omega)]; exact hc 4 _ rfl, by rw [← add_field _ _ 5 (by omega)]; exact hc 5 _ rfl⟩
  rw [List.getD_eq_getElem?_getD, List.getElem?_eq_getElem hi]
  exact List.getElem_mem _
section
variable {H : Type} {enc : TypeId × Value → H} {w : World} {base : Nat} {spare : Nat → Bool} {held : Bool}
set_option maxRecDepth 100000 in
theorem trod_44 (n : Nat) (cs : List Value) (x : DataW H × List MemPlace) (h : DataW.trod enc Try.prog w base spare held n 44 cs = some x) (hz : Fit Try.prog 44 x.1) :
    ∃ a : S44, k44.K w a cs ∧ ((Lit.int .u64 a.f1.f1).wf = true ∧ (Lit.int .i64 a.f2).wf = true ∧ (Lit.int .i64 a.f0).wf = true) := by
  obtain ⟨y0, y1, y2, m, rfl, hl, h0, h1, h2⟩ := Go.Deep.trod_struct3 Try.underlying44 h
  have e3 : Try.prog.cellsOf 3 = 1 := by kernel_rfl
  have e28 : Try.prog.cellsOf 28 = 4 := by kernel_rfl
  have e44 : Try.prog.cellsOf 44 = 6 := by kernel_rfl
  rw [e44] at hl
  match cs, hl with
  | [u0, u1, u2, u3, u4, u5], _ =>
    obtain ⟨n0, c0, wf0, _⟩ := trod_int Try.underlying3 h0
    have z1 := fit_struct Try.underlying44 hz 1 _ _ rfl rfl
    obtain ⟨r, hr, hq⟩ := trod_28 _ _ _ h1 z1
    obtain ⟨n2, c2, wf2, _⟩ := trod_int Try.underlying3 h2
    have hr2 := k28_open hr
    simp [e3] at c0 c2
    simp [e28] at hr2
    obtain ⟨rfl, rfl, rfl, rfl⟩ := hr2
    subst c0 c2
    exact ⟨⟨n0, r, n2⟩, k44_mk w ⟨n0, r, n2⟩, hq.1, wf2, wf0⟩
set_option maxRecDepth 100000 in
theorem open_40 {v : Value} {d : DataW H} {p : List MemPlace} {b0 : Nat} (hv : Value.okWide Try.prog w .any b0 40 v) (h : ∃ fuel, DataW.trod enc Try.prog w base spare held fuel 40 v.cells.toList = some (d, p)) (hz : Fit Try.prog 40 d) :
    ∃ (A : Option Addr) (l : List S44) (c : Nat), v = .slice A l.length c ∧ l.length ≤ c ∧ k44.C w A l.length l ∧ ∀ a, a ∈ l → (Lit.int .u64 a.f1.f1).wf = true ∧ (Lit.int .i64 a.f2).wf = true ∧ (Lit.int .i64 a.f0).wf = true := by
  obtain ⟨fuel, h⟩ := h
  obtain ⟨A, c, l, c1, g1, g2, g3, g4, g5⟩ := trod_row k44 _ Try.underlying40 (by kernel_rfl) trod_44 hz h
  obtain ⟨A', len, cap, rfl⟩ := Go.WideShapes.okWide_slice Try.underlying40 hv
  simp [Value.cells] at c1
  obtain ⟨rfl, rfl, rfl⟩ := c1
  exact ⟨_, l, _, rfl, g1, g4, g5⟩
end
end Go.Proofs.Ytfemebenkbobnaa.H
