import Derived.Test.YtkjepfofiegcdaaHOpen
import Derived.Test.YtkjepfofiegcdaaVX1Y
import Derived.OpenShut
/- Opening of a law's arguments: a version (struct type 26), options (48), a compaction (52), a list of tables (23). Conditions: the weights are within reach. -/
namespace Go.Proofs.Ytkjepfofiegcdaa.H
set_option linter.unusedVariables false
set_option linter.unusedSimpArgs false
open Go.RowKit Go.Proofs.YtkjepfofiegcdaaW.PrintWords Go.Proofs.Ytkjepfofiegcdaa.PB14 Go.Proofs.Ytkjepfofiegcdaa.V
section
variable {H : Type} {enc : TypeId × Value → H} {P : Program} {w : World} {base : Nat} {spare : Nat → Bool} {held : Bool}
theorem fit_array {t e : TypeId} {n : Nat} {ds : List (DataW H)} (ht : P.underlying t = some (.array n e)) (h : Fit P t (.agg ds : DataW H)) : ∀ d, d ∈ ds → Fit P e d := by
  intro d hd n hn
  refine h n ?_
  simp only [DataW.weights, ht]
  exact weights_all hd n hn
theorem trod_struct4' {t : TypeId} {f0 f1 f2 f3 : Field} {fuel : Nat} {cs : List Value} {x : DataW H × List MemPlace} (ht : P.underlying t = some (.struct #[f0, f1, f2, f3])) (h : DataW.trod enc P w base spare held fuel t cs = some x) :
    ∃ y0 y1 y2 y3 n, (∃ q, x = (.agg [y0.1, y1.1, y2.1, y3.1], q)) ∧ cs.length = P.cellsOf t ∧ DataW.trod enc P w base spare held n f0.type ((cs.drop f0.offset).take (P.cellsOf f0.type)) = some y0 ∧
      DataW.trod enc P w base spare held n f1.type ((cs.drop f1.offset).take (P.cellsOf f1.type)) = some y1 ∧ DataW.trod enc P w base spare held n f2.type ((cs.drop f2.offset).take (P.cellsOf f2.type)) = some y2 ∧ DataW.trod enc P w base spare held n f3.type ((cs.drop f3.offset).take (P.cellsOf f3.type)) = some y3 := by
  obtain ⟨xs, n, _, rfl, hl, hlen, hf⟩ := DataW.trod_struct ht h
  match xs, hlen with
  | [y0, y1, y2, y3], _ => exact ⟨y0, y1, y2, y3, n, ⟨_, rfl⟩, hl, by simpa using hf 0 f0 rfl, by simpa using hf 1 f1 rfl, by simpa using hf 2 f2 rfl, by simpa using hf 3 f3 rfl⟩
end
section
variable {H : Type} {enc : TypeId × Value → H} {w : World} {base : Nat} {spare : Nat → Bool} {held : Bool}
def LW (l : List S58) : Prop := l.length * Try.prog.bytesOf 58 ≤ reachBytes ∧ ∀ m, m ∈ l → MW m
theorem bytes58 : Try.prog.bytesOf 58 = 72 := by kernel_rfl
theorem LW.len {l : List S58} (h : LW l) : l.length ≤ 1954712348739 := by
  have h1 := h.1
  rw [bytes58] at h1
  unfold reachBytes at h1
  omega
theorem LW.num {l : List S58} (h : LW l) {m : S58} (hm : m ∈ l) : 0 ≤ m.f0 ∧ m.f0 ≤ 18446744073709551615 := bounds_u64 (h.2 m hm).1
def VerW (v : Ver) : Prop := (Lit.int .u64 v.log).wf = true ∧ (Lit.int .u64 v.next).wf = true ∧ (Lit.int .u64 v.seq).wf = true ∧ ∀ i, i < 4 → LW (v.lv i)
theorem VerW.vw {v : Ver} (h : VerW v) : VW v := fun i hi m hm => (h.2.2.2 i hi).num hm
set_option maxRecDepth 100000 in
theorem trod_23 (n : Nat) (cs : List Value) (x : DataW H × List MemPlace) (h : DataW.trod enc Try.prog w base spare held n 23 cs = some x) (hz : Fit Try.prog 23 x.1) :
    ∃ (A : Option Addr) (l : List S58) (c : Nat), cs = [.slice A l.length c] ∧ l.length ≤ c ∧ k58.C w A l.length l ∧ LW l := by
  obtain ⟨A, c, l, c1, g1, g2, g3, g4, g5⟩ := trod_row k58 MW Try.underlying23 (by kernel_rfl) trod_58 hz h
  exact ⟨A, l, c, c1, g1, g4, g3, g5⟩
set_option maxRecDepth 100000 in
theorem trod_24 (n : Nat) (cs : List Value) (x : DataW H × List MemPlace) (h : DataW.trod enc Try.prog w base spare held n 24 cs = some x) (hz : Fit Try.prog 24 x.1) :
    ∃ (A0 A1 A2 A3 : Option Addr) (l0 l1 l2 l3 : List S58) (c0 c1 c2 c3 : Nat), cs = [.slice A0 l0.length c0, .slice A1 l1.length c1, .slice A2 l2.length c2, .slice A3 l3.length c3] ∧ (l0.length ≤ c0 ∧ k58.C w A0 l0.length l0 ∧ LW l0) ∧ (l1.length ≤ c1 ∧ k58.C w A1 l1.length l1 ∧ LW l1) ∧ (l2.length ≤ c2 ∧ k58.C w A2 l2.length l2 ∧ LW l2) ∧ (l3.length ≤ c3 ∧ k58.C w A3 l3.length l3 ∧ LW l3) := by
  obtain ⟨xs, m, _, rfl, hl, hlen, hel⟩ := DataW.trod_array Try.underlying24 h
  have e23 : Try.prog.cellsOf 23 = 1 := by kernel_rfl
  have e24 : Try.prog.cellsOf 24 = 4 := by kernel_rfl
  rw [e24] at hl
  rw [e23] at hel
  match cs, hl, xs, hlen with
  | [u0, u1, u2, u3], _, [x0, x1, x2, x3], _ =>
    have hf := fit_array Try.underlying24 hz
    obtain ⟨A0, l0, c0, q0, g0⟩ := trod_23 _ _ _ (by simpa using hel 0 (by decide)) (hf x0.1 (by simp))
    obtain ⟨A1, l1, c1, q1, g1⟩ := trod_23 _ _ _ (by simpa using hel 1 (by decide)) (hf x1.1 (by simp))
    obtain ⟨A2, l2, c2, q2, g2⟩ := trod_23 _ _ _ (by simpa using hel 2 (by decide)) (hf x2.1 (by simp))
    obtain ⟨A3, l3, c3, q3, g3⟩ := trod_23 _ _ _ (by simpa using hel 3 (by decide)) (hf x3.1 (by simp))
    simp at q0 q1 q2 q3
    subst q0 q1 q2 q3
    exact ⟨A0, A1, A2, A3, l0, l1, l2, l3, c0, c1, c2, c3, rfl, g0, g1, g2, g3⟩
set_option maxRecDepth 100000 in
theorem trod_26 (n : Nat) (cs : List Value) (x : DataW H × List MemPlace) (h : DataW.trod enc Try.prog w base spare held n 26 cs = some x) (hz : Fit Try.prog 26 x.1) :
    ∃ (v : Ver) (p : Pl), cs = (vCs v p).toList ∧ VC w v p ∧ VerW v := by
  obtain ⟨y0, y1, y2, y3, m, ⟨q, rfl⟩, hl, h0, h1, h2, h3⟩ := trod_struct4' Try.underlying26 h
  have e22 : Try.prog.cellsOf 22 = 1 := by kernel_rfl
  have e24 : Try.prog.cellsOf 24 = 4 := by kernel_rfl
  have e26 : Try.prog.cellsOf 26 = 7 := by kernel_rfl
  rw [e26] at hl
  match cs, hl with
  | [u0, u1, u2, u3, u4, u5, u6], _ =>
    obtain ⟨s0, c0, wf0, _⟩ := trod_int Try.underlying22 h0
    obtain ⟨s1, c1, wf1, _⟩ := trod_int Try.underlying22 h1
    obtain ⟨s2, c2, wf2, _⟩ := trod_int Try.underlying22 h2
    have z3 := fit_struct Try.underlying26 hz 3 _ _ rfl rfl
    obtain ⟨A0, A1, A2, A3, l0, l1, l2, l3, d0, d1, d2, d3, q3, g0, g1, g2, g3⟩ := trod_24 _ _ _ h3 z3
    simp [e22] at c0 c1 c2
    simp [e24] at q3
    obtain ⟨rfl, rfl, rfl, rfl⟩ := q3
    subst c0 c1 c2
    refine ⟨⟨s0, s1, s2, l0, l1, l2, l3⟩, ⟨A0, A1, A2, A3, d0, d1, d2, d3⟩, rfl, fun i hi => ?_, wf0, wf1, wf2, fun i hi => ?_⟩
    · rcases (by omega : i = 0 ∨ i = 1 ∨ i = 2 ∨ i = 3) with rfl | rfl | rfl | rfl
      · exact ⟨g0.2.1, g0.1⟩
      · exact ⟨g1.2.1, g1.1⟩
      · exact ⟨g2.2.1, g2.1⟩
      · exact ⟨g3.2.1, g3.1⟩
    · rcases (by omega : i = 0 ∨ i = 1 ∨ i = 2 ∨ i = 3) with rfl | rfl | rfl | rfl
      · exact g0.2.2
      · exact g1.2.2
      · exact g2.2.2
      · exact g3.2.2
set_option maxRecDepth 100000 in
theorem open_26 {v : Value} {d : DataW H} {p : List MemPlace} {b0 : Nat} (hv : Value.okWide Try.prog w .any b0 26 v) (h : ∃ fuel, DataW.trod enc Try.prog w base spare held fuel 26 v.cells.toList = some (d, p)) (hz : Fit Try.prog 26 d) :
    ∃ (a : Ver) (p : Pl), v = .agg (vCs a p) ∧ VC w a p ∧ VerW a := by
  obtain ⟨fuel, h⟩ := h
  obtain ⟨a, p, hK, hq, hw⟩ := trod_26 _ _ _ h hz
  obtain ⟨cs, rfl, _⟩ := Go.WideShapes.okWide_struct Try.underlying26 hv
  rw [show (Value.agg cs).cells = cs from rfl] at hK
  exact ⟨a, p, congrArg Value.agg (Array.toList_inj.mp hK), hq, hw⟩
set_option maxRecDepth 100000 in
theorem open_48 {v : Value} {d : DataW H} {p : List MemPlace} {b0 : Nat} (hv : Value.okWide Try.prog w .any b0 48 v) (h : ∃ fuel, DataW.trod enc Try.prog w base spare held fuel 48 v.cells.toList = some (d, p)) :
    ∃ a b c : Int, v = .agg #[.int .i64 a, .int .i64 b, .int .i64 c] ∧ (Lit.int .i64 a).wf = true ∧ (Lit.int .i64 b).wf = true ∧ (Lit.int .i64 c).wf = true := by
  obtain ⟨fuel, h⟩ := h
  obtain ⟨y0, y1, y2, m, hx, hl, h0, h1, h2⟩ := Go.Deep.trod_struct3 Try.underlying48 h
  obtain ⟨cs, rfl, _⟩ := Go.WideShapes.okWide_struct Try.underlying48 hv
  have e3 : Try.prog.cellsOf 3 = 1 := by kernel_rfl
  have e48 : Try.prog.cellsOf 48 = 3 := by kernel_rfl
  rw [show (Value.agg cs).cells = cs from rfl] at h0 h1 h2 hl
  obtain ⟨cs⟩ := cs
  rw [e48] at hl
  match cs, hl with
  | [u0, u1, u2], _ =>
    obtain ⟨s0, c0, wf0, _⟩ := trod_int Try.underlying3 h0
    obtain ⟨s1, c1, wf1, _⟩ := trod_int Try.underlying3 h1
    obtain ⟨s2, c2, wf2, _⟩ := trod_int Try.underlying3 h2
    simp [e3] at c0 c1 c2
    subst c0 c1 c2
    exact ⟨s0, s1, s2, rfl, wf0, wf1, wf2⟩
set_option maxRecDepth 100000 in
theorem open_23 {v : Value} {d : DataW H} {p : List MemPlace} {b0 : Nat} (hv : Value.okWide Try.prog w .any b0 23 v) (h : ∃ fuel, DataW.trod enc Try.prog w base spare held fuel 23 v.cells.toList = some (d, p)) (hz : Fit Try.prog 23 d) :
    ∃ (A : Option Addr) (l : List S58) (c : Nat), v = .slice A l.length c ∧ l.length ≤ c ∧ k58.C w A l.length l ∧ LW l := by
  obtain ⟨fuel, h⟩ := h
  obtain ⟨A, l, c, c1, g⟩ := trod_23 _ _ _ h hz
  obtain ⟨A', len, cap, rfl⟩ := Go.WideShapes.okWide_slice Try.underlying23 hv
  simp [Value.cells] at c1
  obtain ⟨rfl, rfl, rfl⟩ := c1
  exact ⟨_, l, _, rfl, g⟩
end
end Go.Proofs.Ytkjepfofiegcdaa.H
