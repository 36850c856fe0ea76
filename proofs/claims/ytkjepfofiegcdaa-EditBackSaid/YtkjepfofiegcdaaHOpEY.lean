import Derived.Test.YtkjepfofiegcdaaHOpVY
import Derived.Test.YtkjepfofiegcdaaVF1Y
import Derived.OpenShut
/- Opening of a law's arguments: an edit (struct type 70). Conditions: the weights are within reach. -/
namespace Go.Proofs.Ytkjepfofiegcdaa.H
set_option linter.unusedVariables false
set_option linter.unusedSimpArgs false
open Go.RowKit Go.Proofs.YtkjepfofiegcdaaW.PrintWords Go.Proofs.Ytkjepfofiegcdaa.PB14 Go.Proofs.Ytkjepfofiegcdaa.V
section
variable {H : Type} {enc : TypeId × Value → H} {P : Program} {w : World} {base : Nat} {spare : Nat → Bool} {held : Bool}
theorem trod_struct5' {t : TypeId} {f0 f1 f2 f3 f4 : Field} {fuel : Nat} {cs : List Value} {x : DataW H × List MemPlace} (ht : P.underlying t = some (.struct #[f0, f1, f2, f3, f4])) (h : DataW.trod enc P w base spare held fuel t cs = some x) :
    ∃ y0 y1 y2 y3 y4 n, (∃ q, x = (.agg [y0.1, y1.1, y2.1, y3.1, y4.1], q)) ∧ cs.length = P.cellsOf t ∧ DataW.trod enc P w base spare held n f0.type ((cs.drop f0.offset).take (P.cellsOf f0.type)) = some y0 ∧
      DataW.trod enc P w base spare held n f1.type ((cs.drop f1.offset).take (P.cellsOf f1.type)) = some y1 ∧ DataW.trod enc P w base spare held n f2.type ((cs.drop f2.offset).take (P.cellsOf f2.type)) = some y2 ∧ DataW.trod enc P w base spare held n f3.type ((cs.drop f3.offset).take (P.cellsOf f3.type)) = some y3 ∧ DataW.trod enc P w base spare held n f4.type ((cs.drop f4.offset).take (P.cellsOf f4.type)) = some y4 := by
  obtain ⟨xs, n, _, rfl, hl, hlen, hf⟩ := DataW.trod_struct ht h
  match xs, hlen with
  | [y0, y1, y2, y3, y4], _ => exact ⟨y0, y1, y2, y3, y4, n, ⟨_, rfl⟩, hl, by simpa using hf 0 f0 rfl, by simpa using hf 1 f1 rfl, by simpa using hf 2 f2 rfl, by simpa using hf 3 f3 rfl, by simpa using hf 4 f4 rfl⟩
end
section
variable {H : Type} {enc : TypeId × Value → H} {w : World} {base : Nat} {spare : Nat → Bool} {held : Bool}
/-- What an edit's rows hold is such as the machine has. -/
def GW (a : S84) : Prop := (Lit.int .i64 a.f0).wf = true ∧ (Lit.int .u64 a.f1).wf = true
def AW (a : S82) : Prop := (Lit.int .i64 a.f0).wf = true ∧ MW a.f1
set_option maxRecDepth 100000 in
theorem trod_84 (n : Nat) (cs : List Value) (x : DataW H × List MemPlace) (h : DataW.trod enc Try.prog w base spare held n 84 cs = some x) (hz : Fit Try.prog 84 x.1) : ∃ a : S84, k84.K w a cs ∧ GW a := by
  obtain ⟨xs, m, _, rfl, hl, hlen, hf⟩ := DataW.trod_struct Try.underlying84 h
  have e22 : Try.prog.cellsOf 22 = 1 := by kernel_rfl
  have e3 : Try.prog.cellsOf 3 = 1 := by kernel_rfl
  have e84 : Try.prog.cellsOf 84 = 2 := by kernel_rfl
  rw [e84] at hl
  match cs, hl, xs, hlen with
  | [u0, u1], _, [y0, y1], _ =>
    obtain ⟨s0, c0, wf0, _⟩ := trod_int Try.underlying3 (by simpa using hf 0 _ rfl)
    obtain ⟨s1, c1, wf1, _⟩ := trod_int Try.underlying22 (by simpa using hf 1 _ rfl)
    simp [e3] at c0
    simp [e22] at c1
    subst c0 c1
    exact ⟨⟨s0, s1⟩, k84_mk w ⟨s0, s1⟩, wf0, wf1⟩
set_option maxRecDepth 100000 in
theorem trod_82 (n : Nat) (cs : List Value) (x : DataW H × List MemPlace) (h : DataW.trod enc Try.prog w base spare held n 82 cs = some x) (hz : Fit Try.prog 82 x.1) : ∃ a : S82, k82.K w a cs ∧ AW a := by
  obtain ⟨xs, m, _, rfl, hl, hlen, hf⟩ := DataW.trod_struct Try.underlying82 h
  have e3 : Try.prog.cellsOf 3 = 1 := by kernel_rfl
  have e58 : Try.prog.cellsOf 58 = 7 := by kernel_rfl
  have e82 : Try.prog.cellsOf 82 = 8 := by kernel_rfl
  rw [e82] at hl
  match cs, hl, xs, hlen with
  | [u0, u1, u2, u3, u4, u5, u6, u7], _, [y0, y1], _ =>
    obtain ⟨s0, c0, wf0, _⟩ := trod_int Try.underlying3 (by simpa using hf 0 _ rfl)
    have h1 : DataW.trod enc Try.prog w base spare held m 58 [u1, u2, u3, u4, u5, u6, u7] = some y1 := by
      have h1 := hf 1 _ rfl
      simpa [e58] using h1
    obtain ⟨a, ha, wa⟩ := trod_58 _ _ _ h1 (fit_struct Try.underlying82 hz 1 _ _ rfl rfl)
    have ha := k58_open ha
    simp [e3] at c0
    simp at ha
    obtain ⟨rfl, rfl, rfl, rfl, rfl, rfl, rfl⟩ := ha
    subst c0
    exact ⟨⟨s0, a⟩, k82_mk w ⟨s0, a⟩, wf0, wa⟩
/-- A list's length is within reach. -/
def GL (l : List S84) : Prop := l.length * Try.prog.bytesOf 84 ≤ reachBytes ∧ ∀ m, m ∈ l → GW m
def AL (l : List S82) : Prop := l.length * Try.prog.bytesOf 82 ≤ reachBytes ∧ ∀ m, m ∈ l → AW m
set_option maxRecDepth 100000 in
theorem trod_67 (n : Nat) (cs : List Value) (x : DataW H × List MemPlace) (h : DataW.trod enc Try.prog w base spare held n 67 cs = some x) (hz : Fit Try.prog 67 x.1) :
    ∃ (A : Option Addr) (l : List S84) (c : Nat), cs = [.slice A l.length c] ∧ l.length ≤ c ∧ k84.C w A l.length l ∧ GL l := by
  obtain ⟨A, c, l, c1, g1, g2, g3, g4, g5⟩ := trod_row k84 GW Try.underlying67 (by kernel_rfl) trod_84 hz h
  exact ⟨A, l, c, c1, g1, g4, g3, g5⟩
set_option maxRecDepth 100000 in
theorem trod_68 (n : Nat) (cs : List Value) (x : DataW H × List MemPlace) (h : DataW.trod enc Try.prog w base spare held n 68 cs = some x) (hz : Fit Try.prog 68 x.1) :
    ∃ (A : Option Addr) (l : List S82) (c : Nat), cs = [.slice A l.length c] ∧ l.length ≤ c ∧ k82.C w A l.length l ∧ AL l := by
  obtain ⟨A, c, l, c1, g1, g2, g3, g4, g5⟩ := trod_row k82 AW Try.underlying68 (by kernel_rfl) trod_82 hz h
  exact ⟨A, l, c, c1, g1, g4, g3, g5⟩
/-- An edit's numbers and rows are such as the machine has. -/
def EdtW (e : Edt) : Prop := (Lit.int .u64 e.log).wf = true ∧ (Lit.int .u64 e.next).wf = true ∧ (Lit.int .u64 e.seq).wf = true ∧ GL e.gone ∧ AL e.added
set_option maxRecDepth 100000 in
theorem open_70 {v : Value} {d : DataW H} {p : List MemPlace} {b0 : Nat} (hv : Value.okWide Try.prog w .any b0 70 v) (h : ∃ fuel, DataW.trod enc Try.prog w base spare held fuel 70 v.cells.toList = some (d, p)) (hz : Fit Try.prog 70 d) :
    ∃ (e : Edt) (A1 : Option Addr) (c1 : Nat) (A2 : Option Addr) (c2 : Nat), v = .agg (eCs e A1 c1 A2 c2) ∧ (e.gone.length ≤ c1 ∧ k84.C w A1 e.gone.length e.gone) ∧ (e.added.length ≤ c2 ∧ k82.C w A2 e.added.length e.added) ∧ EdtW e := by
  obtain ⟨fuel, h⟩ := h
  obtain ⟨y0, y1, y2, y3, y4, m, ⟨q, hx⟩, hl, h0, h1, h2, h3, h4⟩ := trod_struct5' Try.underlying70 h
  obtain ⟨cs, rfl, _⟩ := Go.WideShapes.okWide_struct Try.underlying70 hv
  have e22 : Try.prog.cellsOf 22 = 1 := by kernel_rfl
  have e67 : Try.prog.cellsOf 67 = 1 := by kernel_rfl
  have e68 : Try.prog.cellsOf 68 = 1 := by kernel_rfl
  have e70 : Try.prog.cellsOf 70 = 5 := by kernel_rfl
  rw [show (Value.agg cs).cells = cs from rfl] at h0 h1 h2 h3 h4 hl
  obtain ⟨cs⟩ := cs
  rw [e70] at hl
  have hz' : Fit Try.prog 70 (.agg [y0.1, y1.1, y2.1, y3.1, y4.1] : DataW H) := by
    have := congrArg Prod.fst hx
    simp at this
    rw [← this]
    exact hz
  match cs, hl with
  | [u0, u1, u2, u3, u4], _ =>
    obtain ⟨s0, c0, wf0, _⟩ := trod_int Try.underlying22 h0
    obtain ⟨s1, c1, wf1, _⟩ := trod_int Try.underlying22 h1
    obtain ⟨s2, c2, wf2, _⟩ := trod_int Try.underlying22 h2
    obtain ⟨A1, l1, d1, q1, g1⟩ := trod_67 _ _ _ h3 (fit_struct Try.underlying70 hz' 3 _ _ rfl rfl)
    obtain ⟨A2, l2, d2, q2, g2⟩ := trod_68 _ _ _ h4 (fit_struct Try.underlying70 hz' 4 _ _ rfl rfl)
    simp [e22] at c0 c1 c2
    simp [e67] at q1
    simp [e68] at q2
    subst c0 c1 c2 q1 q2
    exact ⟨⟨s0, s1, s2, l1, l2⟩, A1, d1, A2, d2, rfl, ⟨g1.1, g1.2.1⟩, ⟨g2.1, g2.2.1⟩, wf0, wf1, wf2, g1.2.2, g2.2.2⟩
end
end Go.Proofs.Ytkjepfofiegcdaa.H
