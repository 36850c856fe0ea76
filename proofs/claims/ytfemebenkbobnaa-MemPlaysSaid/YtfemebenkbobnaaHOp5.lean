import Derived.Test.YtfemebenkbobnaaHOp4
/- Opening of a law's argument: a script of a table's calls (struct type 84, slice type 81). Conditions: the weights are within reach. -/
namespace Go.Proofs.Ytfemebenkbobnaa.H
set_option linter.unusedVariables false
open Go.RowKit Go.Proofs.YtfemebenkbobnaaW.PrintWords Go.Proofs.Ytfemebenkbobnaa.PB06
structure S84 where
  d : Int
  b : S58
  hs : List Int
  fr : ByteArray
  to_ : ByteArray
  at_ : Int
def z84 : S84 := ⟨0, z58, [], ⟨#[]⟩, ⟨#[]⟩, 0⟩
def k84 : Kd S84 := Kd.iso (Kd.pair (Kd.int .i64) (Kd.pair k58 (Kd.pair (Kd.slice 3 (Kd.int .i64)) (Kd.pair Kd.string (Kd.pair Kd.string (Kd.int .u64)))))) (fun x : S84 => (x.d, x.b, x.hs, x.fr, x.to_, x.at_))
theorem k84_open {w : World} {x : S84} {cs : List Value} (h : k84.K w x cs) : ∃ A1 c1 A2 c2, cs = [.int .i64 x.d, .int .u64 x.b.f0, .slice A1 x.b.f1.length c1, .slice A2 x.hs.length c2, .string x.fr, .string x.to_, .int .u64 x.at_] ∧ x.b.f1.length ≤ c1 ∧ k72.C w A1 x.b.f1.length x.b.f1 ∧ x.hs.length ≤ c2 ∧ (Kd.int .i64).C w A2 x.hs.length x.hs := by
  obtain ⟨_, _, rfl, rfl, ⟨c, _, rfl, h1, ⟨_, _, rfl, ⟨A2, c2, rfl, l2, g2⟩, ⟨_, _, rfl, rfl, ⟨_, _, rfl, rfl, rfl⟩⟩⟩⟩⟩ := h
  obtain ⟨A1, c1, e, l1, g1⟩ := k58_open h1
  have e2 : c = _ := e
  subst e2
  exact ⟨A1, c1, A2, c2, rfl, l1, g1, l2, g2⟩
theorem k84_mk (w : World) (x : S84) {A1 A2 : Option Addr} {c1 c2 : Nat} (l1 : x.b.f1.length ≤ c1) (g1 : k72.C w A1 x.b.f1.length x.b.f1) (l2 : x.hs.length ≤ c2) (g2 : (Kd.int .i64).C w A2 x.hs.length x.hs) : k84.K w x [.int .i64 x.d, .int .u64 x.b.f0, .slice A1 x.b.f1.length c1, .slice A2 x.hs.length c2, .string x.fr, .string x.to_, .int .u64 x.at_] :=
  ⟨[.int .i64 x.d], _, rfl, rfl, ⟨[.int .u64 x.b.f0, .slice A1 x.b.f1.length c1], _, rfl, k58_mk w x.b l1 g1, ⟨[.slice A2 x.hs.length c2], _, rfl, ⟨A2, c2, rfl, l2, g2⟩, ⟨[.string x.fr], _, rfl, rfl, ⟨[.string x.to_], [.int .u64 x.at_], rfl, rfl, rfl⟩⟩⟩⟩⟩
/-- The cells of the i-th call. -/
theorem at_T84 {w : World} {A : Option Addr} {xs : List S84} (h : Kd.C k84 w A xs.length xs) (i : Nat) (hi : i < xs.length) : ∃ ad x A1 c1 A2 c2, A = some ad ∧ x ∈ xs ∧ w.cell? (ad.add (i * 7)) = some (.int .i64 x.d) ∧ w.cell? ⟨(ad.add (i * 7)).block, (ad.add (i * 7)).off + 1, none⟩ = some (.int .u64 x.b.f0) ∧ w.cell? ⟨(ad.add (i * 7)).block, (ad.add (i * 7)).off + 2, none⟩ = some (.slice A1 x.b.f1.length c1) ∧ w.cell? ⟨(ad.add (i * 7)).block, (ad.add (i * 7)).off + 3, none⟩ = some (.slice A2 x.hs.length c2) ∧ w.cell? ⟨(ad.add (i * 7)).block, (ad.add (i * 7)).off + 4, none⟩ = some (.string x.fr) ∧ w.cell? ⟨(ad.add (i * 7)).block, (ad.add (i * 7)).off + 5, none⟩ = some (.string x.to_) ∧ w.cell? ⟨(ad.add (i * 7)).block, (ad.add (i * 7)).off + 6, none⟩ = some (.int .u64 x.at_) ∧
    x.b.f1.length ≤ c1 ∧ k72.C w A1 x.b.f1.length x.b.f1 ∧ x.hs.length ≤ c2 ∧ (Kd.int .i64).C w A2 x.hs.length x.hs := by
  obtain ⟨ad, c, e, _, hK, hc0⟩ := Kd.C_get h z84 (i : Int) (by omega) (by omega)
  have hc : ∀ j u, c[j]? = some u → w.cell? (ad.add (i * 7 + j)) = some u := hc0
  obtain ⟨A1, c1, A2, c2, rfl, l1, g1, l2, g2⟩ := k84_open hK
  refine ⟨ad, xs.getD i z84, A1, c1, A2, c2, e, ?_, hc 0 _ rfl, by rw [← add_field _ _ 1 (by omega)]; exact hc 1 _ rfl, by rw [← add_field _ _ 2 (by omega)]; exact hc 2 _ rfl, by rw [← add_field _ _ 3 (by omega)]; exact hc 3 _ rfl, by rw [← add_field _ _ 4 (by omega)]; exact hc 4 _ rfl, by rw [← add_field _ _ 5 (by omega)]; exact hc 5 _ rfl, by rw [← add_field _ _ 6 (by omega)]; exact hc 6 _ rfl, l1, g1, l2, g2⟩
  rw [List.getD_eq_getElem?_getD, List.getElem?_eq_getElem hi]
  exact List.getElem_mem _
section
variable {H : Type} {enc : TypeId × Value → H} {w : World} {base : Nat} {spare : Nat → Bool} {held : Bool}
theorem trod_struct6 {P : Program} {t : TypeId} {f0 f1 f2 f3 f4 f5 : Field} {fuel : Nat} {cs : List Value} {x : DataW H × List MemPlace} (ht : P.underlying t = some (.struct #[f0, f1, f2, f3, f4, f5])) (h : DataW.trod enc P w base spare held fuel t cs = some x) :
    ∃ y0 y1 y2 y3 y4 y5 n pl, x = (.agg [y0.1, y1.1, y2.1, y3.1, y4.1, y5.1], pl) ∧ cs.length = P.cellsOf t ∧ DataW.trod enc P w base spare held n f0.type ((cs.drop f0.offset).take (P.cellsOf f0.type)) = some y0 ∧
      DataW.trod enc P w base spare held n f1.type ((cs.drop f1.offset).take (P.cellsOf f1.type)) = some y1 ∧ DataW.trod enc P w base spare held n f2.type ((cs.drop f2.offset).take (P.cellsOf f2.type)) = some y2 ∧ DataW.trod enc P w base spare held n f3.type ((cs.drop f3.offset).take (P.cellsOf f3.type)) = some y3 ∧
      DataW.trod enc P w base spare held n f4.type ((cs.drop f4.offset).take (P.cellsOf f4.type)) = some y4 ∧ DataW.trod enc P w base spare held n f5.type ((cs.drop f5.offset).take (P.cellsOf f5.type)) = some y5 := by
  obtain ⟨xs, n, _, rfl, hl, hlen, hf⟩ := DataW.trod_struct ht h
  match xs, hlen with
  | [y0, y1, y2, y3, y4, y5], _ => exact ⟨y0, y1, y2, y3, y4, y5, n, _, by simp; rfl, hl, by simpa using hf 0 f0 rfl, by simpa using hf 1 f1 rfl, by simpa using hf 2 f2 rfl, by simpa using hf 3 f3 rfl, by simpa using hf 4 f4 rfl, by simpa using hf 5 f5 rfl⟩
set_option maxRecDepth 100000 in
theorem trod_84 (n : Nat) (cs : List Value) (x : DataW H × List MemPlace) (h : DataW.trod enc Try.prog w base spare held n 84 cs = some x) (hz : Fit Try.prog 84 x.1) :
    ∃ a : S84, k84.K w a cs ∧ ((Lit.int .u64 a.b.f0).wf = true ∧ (Lit.int .u64 a.at_).wf = true) := by
  obtain ⟨y0, y1, y2, y3, y4, y5, m, pl, rfl, hl, h0, h1, h2, h3, h4, h5⟩ := trod_struct6 Try.underlying84 h
  have e3 : Try.prog.cellsOf 3 = 1 := by kernel_rfl
  have e9 : Try.prog.cellsOf 9 = 1 := by kernel_rfl
  have e23 : Try.prog.cellsOf 23 = 1 := by kernel_rfl
  have e24 : Try.prog.cellsOf 24 = 1 := by kernel_rfl
  have e58 : Try.prog.cellsOf 58 = 2 := by kernel_rfl
  have e84 : Try.prog.cellsOf 84 = 7 := by kernel_rfl
  rw [e84] at hl
  match cs, hl with
  | [u0, u1, u2, u3, u4, u5, u6], _ =>
    obtain ⟨n0, q0, wf0, _⟩ := trod_int Try.underlying3 h0
    have z1 := fit_struct Try.underlying84 hz 1 _ _ rfl rfl
    have z2 := fit_struct Try.underlying84 hz 2 _ _ rfl rfl
    obtain ⟨bn, A1, bl, c1, q1, wf1, g1, g2, g3, g4, g5⟩ := trod_58 _ _ _ h1 z1
    obtain ⟨A2, c2, hl2, q2, k1, k2, k3, k4, k5⟩ := trod_row (Kd.int .i64) _ Try.underlying23 (by kernel_rfl) trod_3 z2 h2
    obtain ⟨s3, q3, _, d3⟩ := trod_string Try.underlying9 h3
    obtain ⟨s4, q4, _, d4⟩ := trod_string Try.underlying9 h4
    obtain ⟨n5, q5, wf5, _⟩ := trod_int Try.underlying24 h5
    simp [e3] at q0
    simp [e58] at q1
    simp [e23] at q2
    simp [e9] at q3 q4
    simp [e24] at q5
    obtain ⟨rfl, rfl⟩ := q1
    subst q0 q2 q3 q4 q5
    exact ⟨⟨n0, ⟨bn, bl⟩, hl2, s3, s4, n5⟩, k84_mk w ⟨n0, ⟨bn, bl⟩, hl2, s3, s4, n5⟩ g1 g4 k1 k4, wf1, wf5⟩
set_option maxRecDepth 100000 in
theorem open_81 {v : Value} {d : DataW H} {p : List MemPlace} {b0 : Nat} (hv : Value.okWide Try.prog w .any b0 81 v) (h : ∃ fuel, DataW.trod enc Try.prog w base spare held fuel 81 v.cells.toList = some (d, p)) (hz : Fit Try.prog 81 d) :
    ∃ (A : Option Addr) (l : List S84) (c : Nat), v = .slice A l.length c ∧ l.length ≤ c ∧ k84.C w A l.length l ∧ ∀ a, a ∈ l → (Lit.int .u64 a.b.f0).wf = true ∧ (Lit.int .u64 a.at_).wf = true := by
  obtain ⟨fuel, h⟩ := h
  obtain ⟨A, c, l, c1, g1, g2, g3, g4, g5⟩ := trod_row k84 _ Try.underlying81 (by kernel_rfl) trod_84 hz h
  obtain ⟨A', len, cap, rfl⟩ := Go.WideShapes.okWide_slice Try.underlying81 hv
  simp [Value.cells] at c1
  obtain ⟨rfl, rfl, rfl⟩ := c1
  exact ⟨_, l, _, rfl, g1, g4, g5⟩
end
end Go.Proofs.Ytfemebenkbobnaa.H
