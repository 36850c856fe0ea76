import Derived.Test.YtkjepfofiegcdaaVX3Y
import Derived.Test.YtkjepfofiegcdaaWEqStruct
import Derived.Test.YtkjepfofiegcdaaVM1Y
import Derived.OpenShut
/- Edits in memory; whether two are the same; whether a table is one of a list: walked. Conditions: none. -/
namespace Go.Proofs.Ytkjepfofiegcdaa.V
set_option linter.unusedVariables false
set_option linter.unusedSimpArgs false
open Go.RowKit Go.Proofs.YtkjepfofiegcdaaW.PrintWords Go.Proofs.YtkjepfofiegcdaaW.PrintLast Go.Proofs.YtkjepfofiegcdaaW.PrintMore Go.Proofs.Ytkjepfofiegcdaa.PB14
/-- An edit. -/
structure Edt where
  log : Int
  next : Int
  seq : Int
  gone : List S84
  added : List S82
instance : DecidableEq S84 := fun a b => if h : a.f0 = b.f0 ∧ a.f1 = b.f1 then isTrue (by cases a; cases b; simp at h; obtain ⟨rfl, rfl⟩ := h; rfl) else isFalse (fun e => h (by subst e; simp))
instance : DecidableEq S82 := fun a b => if h : a.f0 = b.f0 ∧ a.f1 = b.f1 then isTrue (by cases a; cases b; simp at h; obtain ⟨rfl, rfl⟩ := h; rfl) else isFalse (fun e => h (by subst e; simp))
instance : DecidableEq Edt := fun a b => if h : (a.log = b.log ∧ a.next = b.next ∧ a.seq = b.seq) ∧ a.gone = b.gone ∧ a.added = b.added then isTrue (by cases a; cases b; simp at h; obtain ⟨⟨rfl, rfl, rfl⟩, rfl, rfl⟩ := h; rfl) else isFalse (fun e => h (by subst e; simp))
abbrev eCs (e : Edt) (A1 : Option Addr) (c1 : Nat) (A2 : Option Addr) (c2 : Nat) : Array Value := #[.int .u64 e.log, .int .u64 e.next, .int .u64 e.seq, .slice A1 e.gone.length c1, .slice A2 e.added.length c2]
abbrev gCs (x : S84) : Array Value := #[.int .i64 x.f0, .int .u64 x.f1]
abbrev pCs (x : S82) : Array Value := #[.int .i64 x.f0, .int .u64 x.f1.f0, .int .i64 x.f1.f1, .int .i64 x.f1.f2, .string x.f1.f3, .string x.f1.f4, .int .u64 x.f1.f5, .int .u64 x.f1.f6]
theorem eqA84 (d : Nat) (w : World) (a b : S84) : (Op.equalIn (d + 2) 84 (.agg #[.int .i64 a.f0, .int .u64 a.f1]) (.agg #[.int .i64 b.f0, .int .u64 b.f1])).run Try.prog w = .ok (decide (a = b)) w := by
  have e : decide (a = b) = (a.f0 == b.f0 && (a.f1 == b.f1)) := by
    rw [Bool.eq_iff_iff]
    simp only [decide_eq_true_eq, Bool.and_eq_true, beq_iff_eq]
    constructor
    · rintro rfl
      simp
    · rintro ⟨h0, h1⟩
      cases a
      cases b
      simp_all
  rw [e]
  refine eqA_of Try.underlying84 (by kernel_rfl) ?_
  refine eqf_cons (by rfl) (by go_simp; rfl) (by go_simp; rfl) (by go_simp) ?_
  exact eqf_last (by rfl) (by go_simp; rfl) (by go_simp; rfl) (by go_simp)
theorem eqA82 (d : Nat) (w : World) (a b : S82) : (Op.equalIn (d + 3) 82 (.agg #[.int .i64 a.f0, .int .u64 a.f1.f0, .int .i64 a.f1.f1, .int .i64 a.f1.f2, .string a.f1.f3, .string a.f1.f4, .int .u64 a.f1.f5, .int .u64 a.f1.f6]) (.agg #[.int .i64 b.f0, .int .u64 b.f1.f0, .int .i64 b.f1.f1, .int .i64 b.f1.f2, .string b.f1.f3, .string b.f1.f4, .int .u64 b.f1.f5, .int .u64 b.f1.f6])).run Try.prog w = .ok (decide (a = b)) w := by
  have e : decide (a = b) = (a.f0 == b.f0 && decide (a.f1 = b.f1)) := by
    rw [Bool.eq_iff_iff]
    simp only [decide_eq_true_eq, Bool.and_eq_true, beq_iff_eq]
    constructor
    · rintro rfl
      simp
    · rintro ⟨h0, h1⟩
      cases a
      cases b
      simp_all
  rw [e]
  refine eqA_of Try.underlying82 (by kernel_rfl) ?_
  refine eqf_cons (by rfl) (by go_simp; rfl) (by go_simp; rfl) (by go_simp) ?_
  exact eqf_last (by rfl) (by go_simp) (by go_simp) (eqA58 d w a.f1 b.f1)
attribute [local go_sem high] eqA58 eqA84 eqA82
end Go.Proofs.Ytkjepfofiegcdaa.V
/- Opening of a law's arguments: an edit (struct type 70). Conditions: the weights are within reach. -/
namespace Go.Proofs.Ytkjepfofiegcdaa.H
set_option linter.unusedVariables false
set_option linter.unusedSimpArgs false
open Go.RowKit Go.Proofs.YtkjepfofiegcdaaW.PrintWords Go.Proofs.Ytkjepfofiegcdaa.PB14 Go.Proofs.Ytkjepfofiegcdaa.V
section
variable {H : Type} {enc : TypeId × Value → H} {P : Program} {w : World} {base : Nat} {spare : Nat → Bool} {held : Bool}
theorem trod_struct5' {t : TypeId} {f0 f1 f2 f3 f4 : Field} {fuel : Nat} {cs : List Value} {x : DataW H × List MemPlace} (ht : P.underlying t = some (.struct #[f0, f1, f2, f3, f4])) (h : DataW.trod enc P w base spare held fuel t cs = some x) :
    ∃ y0 y1 y2 y3 y4 n, (∃ q, x = (.agg [y0.1, y1.1, y2.1, y3.1, y4.1], q)) ∧ cs.length = P.cellsOf t ∧ DataW.trod enc P w base spare held n f0.type ((cs.drop f0.offset).take (P.cellsOf f0.type)) = some y0 ∧
      DataW.trod enc P w base spare held n f1.type ((cs.drop f1.offset).take (P.cellsOf f1.type)) = some y1 ∧ DataW.trod enc P w base spare held n f2.type ((cs.drop f2.offset).take (P.cellsOf f2.type)) = some y2 ∧ DataW.trod enc P w base spare held n f3.type ((cs.drop f3.offset).take (P.cellsOf f3.type)) = some y3 ∧ DataW.trod enc P w base spare held n f4.type ((cs.drop f4.offset).take (P.cellsOf f4.type)) = some y4 := by
  obtain ⟨xs, n, _, rfl, hl, hlen, hf⟩ := DataW.trod_struct ht h
  match xs, hlen with
  | [y0, y1, y2, y3, y4], _ => exact ⟨y0, y1, y2, y3, y4, n, ⟨_, rfl⟩, hl, by simpa using hf 0 f0 rfl, by simpa using hf 1 f1 rfl, by simpa using hf 2 f2 rfl, by simpa using hf 3 f3 rfl, by simpa using hf 4 f4 rfl⟩
end
section
variable {H : Type} {enc : TypeId × Value → H} {w : World} {base : Nat} {spare : Nat → Bool} {held : Bool}
/-- What an edit's rows hold is such as the machine has. -/
def GW (a : S84) : Prop := (Lit.int .i64 a.f0).wf = true ∧ (Lit.int .u64 a.f1).wf = true
def AW (a : S82) : Prop := (Lit.int .i64 a.f0).wf = true ∧ MW a.f1
set_option maxRecDepth 100000 in
theorem trod_84 (n : Nat) (cs : List Value) (x : DataW H × List MemPlace) (h : DataW.trod enc Try.prog w base spare held n 84 cs = some x) (hz : Fit Try.prog 84 x.1) : ∃ a : S84, k84.K w a cs ∧ GW a := by
  obtain ⟨xs, m, _, rfl, hl, hlen, hf⟩ := DataW.trod_struct Try.underlying84 h
  have e22 : Try.prog.cellsOf 22 = 1 := by kernel_rfl
  have e3 : Try.prog.cellsOf 3 = 1 := by kernel_rfl
  have e84 : Try.prog.cellsOf 84 = 2 := by kernel_rfl
  rw [e84] at hl
  match cs, hl, xs, hlen with
  | [u0, u1], _, [y0, y1], _ =>
    obtain ⟨s0, c0, wf0, _⟩ := trod_int Try.underlying3 (by simpa using hf 0 _ rfl)
    obtain ⟨s1, c1, wf1, _⟩ := trod_int Try.underlying22 (by simpa using hf 1 _ rfl)
    simp [e3] at c0
    simp [e22] at c1
    subst c0 c1
    exact ⟨⟨s0, s1⟩, k84_mk w ⟨s0, s1⟩, wf0, wf1⟩
set_option maxRecDepth 100000 in
theorem trod_82 (n : Nat) (cs : List Value) (x : DataW H × List MemPlace) (h : DataW.trod enc Try.prog w base spare held n 82 cs = some x) (hz : Fit Try.prog 82 x.1) : ∃ a : S82, k82.K w a cs ∧ AW a := by
  obtain ⟨xs, m, _, rfl, hl, hlen, hf⟩ := DataW.trod_struct Try.underlying82 h
  have e3 : Try.prog.cellsOf 3 = 1 := by kernel_rfl
  have e58 : Try.prog.cellsOf 58 = 7 := by kernel_rfl
  have e82 : Try.prog.cellsOf 82 = 8 := by kernel_rfl
  rw [e82] at hl
  match cs, hl, xs, hlen with
  | [u0, u1, u2, u3, u4, u5, u6, u7], _, [y0, y1], _ =>
    obtain ⟨s0, c0, wf0, _⟩ := trod_int Try.underlying3 (by simpa using hf 0 _ rfl)
    have h1 : DataW.trod enc Try.prog w base spare held m 58 [u1, u2, u3, u4, u5, u6, u7] = some y1 := by
      have h1 := hf 1 _ rfl
      simpa [e58] using h1
    obtain ⟨a, ha, wa⟩ := trod_58 _ _ _ h1 (fit_struct Try.underlying82 hz 1 _ _ rfl rfl)
    have ha := k58_open ha
    simp [e3] at c0
    simp at ha
    obtain ⟨rfl, rfl, rfl, rfl, rfl, rfl, rfl⟩ := ha
    subst c0
    exact ⟨⟨s0, a⟩, k82_mk w ⟨s0, a⟩, wf0, wa⟩
/-- A list's length is within reach. -/
def GL (l : List S84) : Prop := l.length * Try.prog.bytesOf 84 ≤ reachBytes ∧ ∀ m, m ∈ l → GW m
def AL (l : List S82) : Prop := l.length * Try.prog.bytesOf 82 ≤ reachBytes ∧ ∀ m, m ∈ l → AW m
set_option maxRecDepth 100000 in
theorem trod_67 (n : Nat) (cs : List Value) (x : DataW H × List MemPlace) (h : DataW.trod enc Try.prog w base spare held n 67 cs = some x) (hz : Fit Try.prog 67 x.1) :
    ∃ (A : Option Addr) (l : List S84) (c : Nat), cs = [.slice A l.length c] ∧ l.length ≤ c ∧ k84.C w A l.length l ∧ GL l := by
  obtain ⟨A, c, l, c1, g1, g2, g3, g4, g5⟩ := trod_row k84 GW Try.underlying67 (by kernel_rfl) trod_84 hz h
  exact ⟨A, l, c, c1, g1, g4, g3, g5⟩
set_option maxRecDepth 100000 in
theorem trod_68 (n : Nat) (cs : List Value) (x : DataW H × List MemPlace) (h : DataW.trod enc Try.prog w base spare held n 68 cs = some x) (hz : Fit Try.prog 68 x.1) :
    ∃ (A : Option Addr) (l : List S82) (c : Nat), cs = [.slice A l.length c] ∧ l.length ≤ c ∧ k82.C w A l.length l ∧ AL l := by
  obtain ⟨A, c, l, c1, g1, g2, g3, g4, g5⟩ := trod_row k82 AW Try.underlying68 (by kernel_rfl) trod_82 hz h
  exact ⟨A, l, c, c1, g1, g4, g3, g5⟩
/-- An edit's numbers and rows are such as the machine has. -/
def EdtW (e : Edt) : Prop := (Lit.int .u64 e.log).wf = true ∧ (Lit.int .u64 e.next).wf = true ∧ (Lit.int .u64 e.seq).wf = true ∧ GL e.gone ∧ AL e.added
set_option maxRecDepth 100000 in
theorem open_70 {v : Value} {d : DataW H} {p : List MemPlace} {b0 : Nat} (hv : Value.okWide Try.prog w .any b0 70 v) (h : ∃ fuel, DataW.trod enc Try.prog w base spare held fuel 70 v.cells.toList = some (d, p)) (hz : Fit Try.prog 70 d) :
    ∃ (e : Edt) (A1 : Option Addr) (c1 : Nat) (A2 : Option Addr) (c2 : Nat), v = .agg (eCs e A1 c1 A2 c2) ∧ (e.gone.length ≤ c1 ∧ k84.C w A1 e.gone.length e.gone) ∧ (e.added.length ≤ c2 ∧ k82.C w A2 e.added.length e.added) ∧ EdtW e := by
  obtain ⟨fuel, h⟩ := h
  obtain ⟨y0, y1, y2, y3, y4, m, ⟨q, hx⟩, hl, h0, h1, h2, h3, h4⟩ := trod_struct5' Try.underlying70 h
  obtain ⟨cs, rfl, _⟩ := Go.WideShapes.okWide_struct Try.underlying70 hv
  have e22 : Try.prog.cellsOf 22 = 1 := by kernel_rfl
  have e67 : Try.prog.cellsOf 67 = 1 := by kernel_rfl
  have e68 : Try.prog.cellsOf 68 = 1 := by kernel_rfl
  have e70 : Try.prog.cellsOf 70 = 5 := by kernel_rfl
  rw [show (Value.agg cs).cells = cs from rfl] at h0 h1 h2 h3 h4 hl
  obtain ⟨cs⟩ := cs
  rw [e70] at hl
  have hz' : Fit Try.prog 70 (.agg [y0.1, y1.1, y2.1, y3.1, y4.1] : DataW H) := by
    have := congrArg Prod.fst hx
    simp at this
    rw [← this]
    exact hz
  match cs, hl with
  | [u0, u1, u2, u3, u4], _ =>
    obtain ⟨s0, c0, wf0, _⟩ := trod_int Try.underlying22 h0
    obtain ⟨s1, c1, wf1, _⟩ := trod_int Try.underlying22 h1
    obtain ⟨s2, c2, wf2, _⟩ := trod_int Try.underlying22 h2
    obtain ⟨A1, l1, d1, q1, g1⟩ := trod_67 _ _ _ h3 (fit_struct Try.underlying70 hz' 3 _ _ rfl rfl)
    obtain ⟨A2, l2, d2, q2, g2⟩ := trod_68 _ _ _ h4 (fit_struct Try.underlying70 hz' 4 _ _ rfl rfl)
    simp [e22] at c0 c1 c2
    simp [e67] at q1
    simp [e68] at q2
    subst c0 c1 c2 q1 q2
    exact ⟨⟨s0, s1, s2, l1, l2⟩, A1, d1, A2, d2, rfl, ⟨g1.1, g1.2.1⟩, ⟨g2.1, g2.2.1⟩, wf0, wf1, wf2, g1.2.2, g2.2.2⟩
end
end Go.Proofs.Ytkjepfofiegcdaa.H
/- Are two versions the same, a copy with marks, is it kept (freshetref14), walked. Conditions: levels of at most a million tables. -/
namespace Go.Proofs.Ytkjepfofiegcdaa.V
set_option linter.unusedVariables false
set_option linter.unusedSimpArgs false
open Go.RowKit Go.Proofs.YtkjepfofiegcdaaW.PrintWords Go.Proofs.YtkjepfofiegcdaaW.PrintLast Go.Proofs.YtkjepfofiegcdaaW.PrintMore Go.Proofs.Ytkjepfofiegcdaa.PB14
def sameP (a b : Ver) : Prop := (a.log = b.log ∧ a.next = b.next ∧ a.seq = b.seq) ∧ ∀ i, i < 4 → a.lv i = b.lv i
instance (a b : Ver) : Decidable (sameP a b) := by unfold sameP; infer_instance
theorem sameP_iff {a b : Ver} : sameP a b ↔ a = b := by
  constructor
  · rintro ⟨⟨h0, h1, h2⟩, h⟩
    have l0 := h 0 (by omega)
    have l1 := h 1 (by omega)
    have l2 := h 2 (by omega)
    have l3 := h 3 (by omega)
    simp only [Ver.lv] at l0 l1 l2 l3
    cases a; cases b; simp_all
  · rintro rfl; exact ⟨⟨rfl, rfl, rfl⟩, fun _ _ => rfl⟩
def mark : S58 := ⟨0, 0, 77, ⟨#[]⟩, ⟨#[]⟩, 0, 0⟩
/-- A copy: a mark stands behind each level. -/
def MK (w : World) (v : Ver) (p : Pl) : Prop := ∀ i, i < 4 → k58.C w (p.a i) ((v.lv i).length + 1) (v.lv i ++ [mark]) ∧ (v.lv i).length + 1 ≤ p.c i
theorem MK.below {w w' : World} {v : Ver} {p : Pl} (h : MK w v p) (hb : Below w.heap.size w w') : MK w' v p := fun i hi => ⟨Kd.C_below (h i hi).1 hb, (h i hi).2⟩
theorem MK.vc {w : World} {v : Ver} {p : Pl} (h : MK w v p) : VC w v p := fun i hi => by
  obtain ⟨h1, h2⟩ := h i hi
  refine ⟨?_, by omega⟩
  have h3 := Kd.C_take (k := k58) (w := w) (A := p.a i) (xs := v.lv i ++ [mark]) (m := (v.lv i).length) (by rw [List.length_append, List.length_singleton]; exact h1) (by rw [List.length_append]; omega)
  rw [List.take_left' rfl] at h3
  exact h3
theorem cut_past {P : Program} (t e : TypeId) (kh : IntKind) {i : TypeInfo} (ht : P.underlying t = some (.slice e)) (hi : P.info? e = some i) (A : Option Addr) (n c : Nat) (j : Int) (h0 : 0 ≤ j) (hm : j ≤ c) :
    ∀ W : World, (Instr.slice t (.slice A n c) none (some (.int kh j)) none).run P W = .ok (.slice A j.toNat c) W := by
  intro W
  have hel : P.elem t = e := by simp [Program.elem, ht]
  have hu : P.underlying t = some (.slice (P.elem t)) := by rw [hel]; exact ht
  have ha : (A.map fun x => x.add 0) = A := by cases A <;> simp [Addr.add]
  rw [run_slice_h W t A n c hu kh j h0 (by omega), hel]
  simp [sizeOf, typeInfo, hi, sliced, Result.andThen, ha]
def Pl.set (p : Pl) (i : Nat) (a : Option Addr) (c : Nat) : Pl :=
  match i with
  | 0 => { p with a0 := a, c0 := c }
  | 1 => { p with a1 := a, c1 := c }
  | 2 => { p with a2 := a, c2 := c }
  | _ => { p with a3 := a, c3 := c }
theorem Pl.set_a (p : Pl) (i j : Nat) (hi : i < 4) (hj : j < 4) (a : Option Addr) (c : Nat) : (p.set i a c).a j = if j = i then a else p.a j := by
  rcases (by omega : i = 0 ∨ i = 1 ∨ i = 2 ∨ i = 3) with rfl | rfl | rfl | rfl <;> rcases (by omega : j = 0 ∨ j = 1 ∨ j = 2 ∨ j = 3) with rfl | rfl | rfl | rfl <;> rfl
theorem Pl.set_c (p : Pl) (i j : Nat) (hi : i < 4) (hj : j < 4) (a : Option Addr) (c : Nat) : (p.set i a c).c j = if j = i then c else p.c j := by
  rcases (by omega : i = 0 ∨ i = 1 ∨ i = 2 ∨ i = 3) with rfl | rfl | rfl | rfl <;> rcases (by omega : j = 0 ∨ j = 1 ∨ j = 2 ∨ j = 3) with rfl | rfl | rfl | rfl <;> rfl
def Ver.set (v : Ver) (i : Nat) (l : List S58) : Ver :=
  match i with
  | 0 => { v with l0 := l }
  | 1 => { v with l1 := l }
  | 2 => { v with l2 := l }
  | _ => { v with l3 := l }
theorem Ver.set_lv (v : Ver) (i j : Nat) (hi : i < 4) (hj : j < 4) (l : List S58) : (v.set i l).lv j = if j = i then l else v.lv j := by
  rcases (by omega : i = 0 ∨ i = 1 ∨ i = 2 ∨ i = 3) with rfl | rfl | rfl | rfl <;> rcases (by omega : j = 0 ∨ j = 1 ∨ j = 2 ∨ j = 3) with rfl | rfl | rfl | rfl <;> rfl
theorem vCs_set (v : Ver) (p : Pl) (i : Nat) (hi : i < 4) (l : List S58) (a : Option Addr) (c : Nat) : (vCs v p).setIfInBounds (3 + i) (.slice a l.length c) = vCs (v.set i l) (p.set i a c) := by
  rcases (by omega : i = 0 ∨ i = 1 ∨ i = 2 ∨ i = 3) with rfl | rfl | rfl | rfl <;> rfl
theorem Ver.set_self (v : Ver) (i : Nat) (hi : i < 4) : v.set i (v.lv i) = v := by
  rcases (by omega : i = 0 ∨ i = 1 ∨ i = 2 ∨ i = 3) with rfl | rfl | rfl | rfl <;> rfl
set_option maxHeartbeats 8000000 in
set_option maxRecDepth 100000 in
theorem sameV_calls (w : World) (a b : Ver) (p q : Pl) (ha : VC w a p) (hb : VC w b q) : Calls Try.prog 56 #[.agg (vCs a p), .agg (vCs b q)] w fun e w' => e = .returned (.bool (decide (sameP a b))) ∧ Below w.heap.size w w' := by
  have HA := Aside0.mk ha
  have HBV := Aside0.mk hb
  have HB := Aside0.mk (below_alloc ((Below.refl w.heap.size w).alloc (Nat.le_refl _) (.cells (vCs a p) 26)) (.cells (vCs b q) 26))
  have X2 := Aside0.mk (blk_alloc (blk_new w (.cells (vCs a p) 26)) (.cells (vCs b q) 26))
  have X3 := Aside0.mk (blk_new (w.alloc (.cells (vCs a p) 26)) (.cells (vCs b q) 26))
  clear ha hb
  obtain ⟨r, hr⟩ : ∃ r, r = decide (sameP a b) := ⟨_, rfl⟩
  rw [← hr]
  have HRR := Aside0.mk hr
  clear hr
  go_enter Try.func56, Try.ntmps56
  go_upto_region 1 with (fail)
  generalize hg3 : (w.alloc (.cells (vCs a p) 26)).heap.size = g3 at *
  have e3 : w.heap.size + 1 = g3 := by rw [← hg3]; simp
  try rw [e3]
  clear hg3 e3
  generalize (w.alloc (.cells (vCs a p) 26)).alloc (.cells (vCs b q) 26) = w1 at *
  have b0 : w1.cell? ⟨w.heap.size, 0, none⟩ = some (.int .u64 a.log) := (blk_cell X2.out 0).trans rfl
  have b1 : w1.cell? ⟨w.heap.size, 1, none⟩ = some (.int .u64 a.next) := (blk_cell X2.out 1).trans rfl
  have b2 : w1.cell? ⟨w.heap.size, 2, none⟩ = some (.int .u64 a.seq) := (blk_cell X2.out 2).trans rfl
  have d0 : w1.cell? ⟨g3, 0, none⟩ = some (.int .u64 b.log) := (blk_cell X3.out 0).trans rfl
  have d1 : w1.cell? ⟨g3, 1, none⟩ = some (.int .u64 b.next) := (blk_cell X3.out 1).trans rfl
  have d2 : w1.cell? ⟨g3, 2, none⟩ = some (.int .u64 b.seq) := (blk_cell X3.out 2).trans rfl
  by_cases hx0 : a.log = b.log
  · have t0 : (a.log == b.log) = true := beq_iff_eq.mpr hx0
    have v0 : (a.log != b.log) = false := by simp [hx0]
    have E0 := Aside0.mk hx0
    clear hx0
    by_cases hx1 : a.next = b.next
    · have t1 : (a.next == b.next) = true := beq_iff_eq.mpr hx1
      have v1 : (a.next != b.next) = false := by simp [hx1]
      have E1 := Aside0.mk hx1
      clear hx1
      by_cases hx2 : a.seq = b.seq
      · have t2 : (a.seq == b.seq) = true := beq_iff_eq.mpr hx2
        have v2 : (a.seq != b.seq) = false := by simp [hx2]
        have E2 := Aside0.mk hx2
        clear hx2
        go_wp2_with fail
        clear b0 b1 b2 d0 d1 d2 t0 t1 t2 v0 v1 v2
        go_loopg [5] 4 (fun kq v5 w' => ∃ i : Nat, v5 = .int .i64 (i : Int) ∧ Aside0 (kq + i = 4) ∧ Aside0 (Below w1.heap.size w1 w') ∧ Aside0 (∀ j, j < i → a.lv j = b.lv j))
        case atStart => exact ⟨0, rfl, ⟨by omega⟩, ⟨Below.refl _ _⟩, ⟨fun j hj => by omega⟩⟩
        case round =>
          obtain ⟨i, rfl, HK, HBB, HJ⟩ := hrel
          cases gk with
          | zero =>
            have ei : i = 4 := by have := HK.out; omega
            subst ei
            go_wp2_with fail
            go_ret
            exact ⟨ret_bool (by rw [HRR.out]; symm; exact decide_eq_true ⟨⟨E0.out, E1.out, E2.out⟩, HJ.out⟩), below_step HB.out HBB.out⟩
          | succ z =>
            have hi : i < 4 := by have := HK.out; omega
            have HI := Aside0.mk hi
            have d0 : decide ((i : Int) < 4) = true := decide_eq_true (by omega)
            have i0 : 0 ≤ (i : Int) := Int.natCast_nonneg _
            have i1 : (i : Int) < 4 := by omega
            have hv := vcell (blk_below X2.out HBB.out) i hi
            have hu := vcell (blk_below X3.out HBB.out) i hi
            have ew : wrap64 ((i : Int) + 1) = ((i + 1 : Nat) : Int) := by unfold wrap64; omega
            obtain ⟨l, hl⟩ : ∃ l, l = a.lv i := ⟨_, rfl⟩
            obtain ⟨m, hm⟩ : ∃ m, m = b.lv i := ⟨_, rfl⟩
            rw [← hl] at hv
            rw [← hm] at hu
            have LA := Aside0.mk hl
            have LB := Aside0.mk hm
            have KK := sameM_calls wr.drew (p.a i) (q.a i) (p.c i) (q.c i) l m (by rw [hl]; exact Kd.C_drew ((HA.out.below (below_step HB.out HBB.out)) i HI.out).1) (by rw [hm]; exact Kd.C_drew ((HBV.out.below (below_step HB.out HBB.out)) i HI.out).1)
            clear hl hm hi
            by_cases hx : l = m
            · rw [decide_eq_true hx] at KK
              have EX := Aside0.mk hx
              clear hx
              go_wp2_with fail
              go_still_tail 8, (by kernel_rfl)
              go_wp2_with fail
              refine KK.mono ?_
              clear KK
              rintro e w8 ⟨rfl, hb⟩
              replace hb : Below wr.heap.size wr w8 := (below_drew (Below.refl wr.heap.size wr)).trans hb
              have HB8 := Aside0.mk (below_step HBB.out hb)
              clear hb hv hu
              go_wp2_with fail
              try rw [ew]
              clear ew
              go_roundg z
              case measure => omega
              case rel => exact ⟨i + 1, rfl, ⟨by have := HK.out; omega⟩, HB8, ⟨fun j hj => by
                by_cases e : j = i
                · subst e; rw [← LA.out, ← LB.out]; exact EX.out
                · exact HJ.out j (by omega)⟩⟩
            · rw [decide_eq_false hx] at KK
              have HN := Aside0.mk (show ¬ sameP a b from fun h => hx (by rw [LA.out, LB.out]; exact h.2 i HI.out))
              clear hx
              go_wp2_with fail
              go_still_tail 8, (by kernel_rfl)
              go_wp2_with fail
              refine KK.mono ?_
              clear KK
              rintro e w8 ⟨rfl, hb⟩
              replace hb : Below wr.heap.size wr w8 := (below_drew (Below.refl wr.heap.size wr)).trans hb
              have HB8 := Aside0.mk (below_step HBB.out hb)
              clear hb hv hu
              go_wp2_with fail
              go_ret
              exact ⟨ret_bool (by rw [HRR.out]; symm; exact decide_eq_false HN.out), below_step HB.out HB8.out⟩
      · have t2 : (a.seq == b.seq) = false := beq_eq_false_iff_ne.mpr hx2
        have v2 : (a.seq != b.seq) = true := by simp [hx2]
        have HN := Aside0.mk (show ¬ sameP a b from fun h => hx2 h.1.2.2)
        clear hx2
        go_wp2_with fail
        go_ret
        exact ⟨ret_bool (by rw [HRR.out]; symm; exact decide_eq_false HN.out), HB.out⟩
    · have t1 : (a.next == b.next) = false := beq_eq_false_iff_ne.mpr hx1
      have v1 : (a.next != b.next) = true := by simp [hx1]
      have HN := Aside0.mk (show ¬ sameP a b from fun h => hx1 h.1.2.1)
      clear hx1
      go_wp2_with fail
      go_ret
      exact ⟨ret_bool (by rw [HRR.out]; symm; exact decide_eq_false HN.out), HB.out⟩
  · have t0 : (a.log == b.log) = false := beq_eq_false_iff_ne.mpr hx0
    have v0 : (a.log != b.log) = true := by simp [hx0]
    have HN := Aside0.mk (show ¬ sameP a b from fun h => hx0 h.1.1)
    clear hx0
    go_wp2_with fail
    go_ret
    exact ⟨ret_bool (by rw [HRR.out]; symm; exact decide_eq_false HN.out), HB.out⟩
set_option maxHeartbeats 8000000 in
set_option maxRecDepth 100000 in
theorem kept_calls (w : World) (a b : Ver) (p q : Pl) (ha : MK w a p) (hb : VC w b q) (hl : ∀ i, i < 4 → (b.lv i).length ≤ 1000000) : Calls Try.prog 41 #[.agg (vCs a p), .agg (vCs b q)] w fun e w' => e = .returned (.bool (decide (sameP a b))) ∧ Below w.heap.size w w' := by
  have HA := Aside0.mk ha
  have HBV := Aside0.mk hb
  have HL := Aside0.mk hl
  have HB := Aside0.mk (below_alloc ((Below.refl w.heap.size w).alloc (Nat.le_refl _) (.cells (vCs a p) 26)) (.cells (vCs b q) 26))
  have X2 := Aside0.mk (blk_alloc (blk_new w (.cells (vCs a p) 26)) (.cells (vCs b q) 26))
  have X3 := Aside0.mk (blk_new (w.alloc (.cells (vCs a p) 26)) (.cells (vCs b q) 26))
  clear ha hb hl
  obtain ⟨r, hr⟩ : ∃ r, r = decide (sameP a b) := ⟨_, rfl⟩
  rw [← hr]
  have HRR := Aside0.mk hr
  clear hr
  obtain ⟨i58, hi58, _, hsz58, _⟩ := info_parts info58
  have HI58 := Aside0.mk hi58
  clear hi58 hsz58
  go_enter Try.func41, Try.ntmps41
  go_upto_region 1 with (fail)
  generalize hg3 : (w.alloc (.cells (vCs a p) 26)).heap.size = g3 at *
  have e3 : w.heap.size + 1 = g3 := by rw [← hg3]; simp
  try rw [e3]
  clear hg3 e3
  generalize (w.alloc (.cells (vCs a p) 26)).alloc (.cells (vCs b q) 26) = w1 at *
  go_wp2_with fail
  go_loopg [5, 6] 4 (fun kq v5 v6 w' => ∃ i : Nat, v5 = .int .i64 (i : Int) ∧ Aside0 (kq + i = 4) ∧ Aside0 (w' = w1))
  case atStart => exact ⟨0, rfl, ⟨by omega⟩, ⟨rfl⟩⟩
  case round =>
    obtain ⟨i, rfl, HK, HW⟩ := hrel
    obtain rfl := HW.out
    clear HW
    cases gk with
    | zero =>
      have ei : i = 4 := by have := HK.out; omega
      subst ei
      have KK := sameV_calls wr a b p q (HA.out.vc.below HB.out) (HBV.out.below HB.out)
      have b0 : wr.cell? ⟨w.heap.size, 0, none⟩ = some (.int .u64 a.log) := (blk_cell X2.out 0).trans rfl
      have b1 : wr.cell? ⟨w.heap.size, 1, none⟩ = some (.int .u64 a.next) := (blk_cell X2.out 1).trans rfl
      have b2 : wr.cell? ⟨w.heap.size, 2, none⟩ = some (.int .u64 a.seq) := (blk_cell X2.out 2).trans rfl
      have b3 : wr.cell? ⟨w.heap.size, 3, none⟩ = some (.slice p.a0 a.l0.length p.c0) := (blk_cell X2.out 3).trans rfl
      have b4 : wr.cell? ⟨w.heap.size, 4, none⟩ = some (.slice p.a1 a.l1.length p.c1) := (blk_cell X2.out 4).trans rfl
      have b5 : wr.cell? ⟨w.heap.size, 5, none⟩ = some (.slice p.a2 a.l2.length p.c2) := (blk_cell X2.out 5).trans rfl
      have b6 : wr.cell? ⟨w.heap.size, 6, none⟩ = some (.slice p.a3 a.l3.length p.c3) := (blk_cell X2.out 6).trans rfl
      have d0 : wr.cell? ⟨g3, 0, none⟩ = some (.int .u64 b.log) := (blk_cell X3.out 0).trans rfl
      have d1 : wr.cell? ⟨g3, 1, none⟩ = some (.int .u64 b.next) := (blk_cell X3.out 1).trans rfl
      have d2 : wr.cell? ⟨g3, 2, none⟩ = some (.int .u64 b.seq) := (blk_cell X3.out 2).trans rfl
      have d3 : wr.cell? ⟨g3, 3, none⟩ = some (.slice q.a0 b.l0.length q.c0) := (blk_cell X3.out 3).trans rfl
      have d4 : wr.cell? ⟨g3, 4, none⟩ = some (.slice q.a1 b.l1.length q.c1) := (blk_cell X3.out 4).trans rfl
      have d5 : wr.cell? ⟨g3, 5, none⟩ = some (.slice q.a2 b.l2.length q.c2) := (blk_cell X3.out 5).trans rfl
      have d6 : wr.cell? ⟨g3, 6, none⟩ = some (.slice q.a3 b.l3.length q.c3) := (blk_cell X3.out 6).trans rfl
      go_wp2_with fail
      refine KK.mono ?_
      clear KK
      rintro e w8 ⟨rfl, hb⟩
      have HB8 := Aside0.mk (below_step HB.out hb)
      clear hb
      go_wp2_with fail
      go_ret
      exact ⟨ret_bool HRR.out.symm, HB8.out⟩
    | succ z =>
      have hi : i < 4 := by have := HK.out; omega
      have HI := Aside0.mk hi
      have d0 : decide ((i : Int) < 4) = true := decide_eq_true (by omega)
      have i0 : 0 ≤ (i : Int) := Int.natCast_nonneg _
      have i1 : (i : Int) < 4 := by omega
      have hv := vcell X2.out i hi
      have hu := vcell X3.out i hi
      have ew : wrap64 ((i : Int) + 1) = ((i + 1 : Nat) : Int) := by unfold wrap64; omega
      obtain ⟨l, hl⟩ : ∃ l, l = a.lv i := ⟨_, rfl⟩
      obtain ⟨m, hm⟩ : ∃ m, m = b.lv i := ⟨_, rfl⟩
      rw [← hl] at hv
      rw [← hm] at hu
      have LA := Aside0.mk hl
      have LB := Aside0.mk hm
      clear hl hm hi
      by_cases hx : l.length = m.length
      · have t0 : ((l.length : Int) == (m.length : Int)) = true := by rw [hx]; simp
        have t1 : ((l.length : Int) != (m.length : Int)) = false := by rw [hx]; simp
        have t2 : (l.length == m.length) = true := by rw [hx]; simp
        have t3 : (l.length != m.length) = false := by rw [hx]; simp
        have LX := Aside0.mk hx
        have LM := Aside0.mk (show m.length ≤ 1000000 by rw [LB.out]; exact HL.out i HI.out)
        have hmk := ((HA.out.below HB.out) i HI.out)
        rw [← LA.out] at hmk
        obtain ⟨j, hj⟩ : ∃ j : Int, j = (m.length : Int) + 1 := ⟨_, rfl⟩
        have JQ := Aside0.mk hj
        have j0 : 0 ≤ j := by omega
        have jw1 : wrap64 ((m.length : Int) + 1) = j := by have := LM.out; unfold wrap64; omega
        have jw2 : IntKind.i64.wrap ((m.length : Int) + 1) = j := by have := LM.out; rw [IntKind.wrap_i64]; omega
        have jw3 : (m.length : Int) + 1 = j := hj.symm
        have jw4 : wrap64 j = j := by have := LM.out; unfold wrap64; omega
        have hcut := cut_past (P := Try.prog) 23 58 .i64 Try.underlying23 HI58.out (p.a i) l.length (p.c i) j j0 (by have := hmk.2; omega)
        have ejn : j.toNat = l.length + 1 := by omega
        rw [ejn] at hcut
        have hat := at_T58 (show k58.C wr (p.a i) (l ++ [mark]).length (l ++ [mark]) from by rw [List.length_append]; exact hmk.1) (m.length : Int) (by omega) (by rw [List.length_append, List.length_singleton]; omega)
        obtain ⟨ad, ea, _, _, hc2, _⟩ := hat
        rw [Int.toNat_natCast] at hc2
        have em : rd_T58 (l ++ [mark]) (m.length : Int) = mark := by
          unfold rd_T58
          rw [Int.toNat_natCast, ← hx, List.getD_eq_getElem?_getD, List.getElem?_append_right (Nat.le_refl _)]
          simp
        rw [em] at hc2
        replace hc2 : wr.cell? ⟨(ad.add (m.length * 7)).block, (ad.add (m.length * 7)).off + 2, none⟩ = some (.int .i64 77) := hc2
        rw [ea] at hv hcut
        have q0 : (0 : Int) ≤ (m.length : Int) := by omega
        have q1 : (m.length : Int) < ((l.length + 1 : Nat) : Int) := by omega
        have q2 : m.length < l.length + 1 := by omega
        have q3 : (m.length : Int) < (l.length : Int) + 1 := by omega
        clear hx hj hmk em ea j0 ejn
        go_wp2_with fail
        try rw [ew]
        clear ew jw1 jw2 jw3 jw4
        go_roundg z
        case measure => omega
        case rel => exact ⟨i + 1, rfl, ⟨by have := HK.out; omega⟩, ⟨rfl⟩⟩
      · have t0 : ((l.length : Int) == (m.length : Int)) = false := by rw [beq_eq_false_iff_ne]; omega
        have t1 : ((l.length : Int) != (m.length : Int)) = true := by simp; omega
        have t2 : (l.length == m.length) = false := by rw [beq_eq_false_iff_ne]; exact hx
        have t3 : (l.length != m.length) = true := by simp [hx]
        have HN := Aside0.mk (show ¬ sameP a b from fun h => hx (by rw [LA.out, LB.out, h.2 i HI.out]))
        clear hx
        go_wp2_with fail
        go_ret
        exact ⟨ret_bool (by rw [HRR.out]; symm; exact decide_eq_false HN.out), HB.out⟩
set_option maxHeartbeats 8000000 in
set_option maxRecDepth 100000 in
theorem copy_calls (w : World) (v : Ver) (p : Pl) (hC : VC w v p) (hl : ∀ i, i < 4 → (v.lv i).length ≤ 1000000) : Calls Try.prog 35 #[.agg (vCs v p)] w fun e w' => ∃ q : Pl, e = .returned (.agg (vCs v q)) ∧ MK w' v q ∧ Below w.heap.size w w' := by
  have HC := Aside0.mk hC
  have HL := Aside0.mk hl
  have HB := Aside0.mk (below_alloc ((Below.refl w.heap.size w).alloc (Nat.le_refl _) (.cells (vCs v p) 26)) (.cells #[.int .u64 0, .int .u64 0, .int .u64 0, .slice none 0 0, .slice none 0 0, .slice none 0 0, .slice none 0 0] 26))
  have X1 := Aside0.mk (blk_alloc (blk_new w (.cells (vCs v p) 26)) (.cells #[.int .u64 0, .int .u64 0, .int .u64 0, .slice none 0 0, .slice none 0 0, .slice none 0 0, .slice none 0 0] 26))
  have X2 := Aside0.mk (blk_new (w.alloc (.cells (vCs v p) 26)) (.cells #[.int .u64 0, .int .u64 0, .int .u64 0, .slice none 0 0, .slice none 0 0, .slice none 0 0, .slice none 0 0] 26))
  clear hC hl
  obtain ⟨i58, hi58, _, hsz58, _⟩ := info_parts info58
  have HI58 := Aside0.mk hi58
  clear hi58 hsz58
  go_enter Try.func35, Try.ntmps35
  go_upto_region 1 with (fail)
  generalize hg3 : (w.alloc (.cells (vCs v p) 26)).heap.size = g3 at *
  have e3 : w.heap.size + 1 = g3 := by rw [← hg3]; simp
  try rw [e3]
  have NG := Aside0.mk (show w.heap.size < g3 by omega)
  clear hg3 e3
  generalize (w.alloc (.cells (vCs v p) 26)).alloc (.cells #[.int .u64 0, .int .u64 0, .int .u64 0, .slice none 0 0, .slice none 0 0, .slice none 0 0, .slice none 0 0] 26) = w1 at *
  go_wp2_with fail
  go_loopg [3, 4] 4 (fun kq v3 v4 w' => ∃ (i : Nat) (q : Pl), v3 = .int .i64 (i : Int) ∧ Aside0 (kq + i = 4) ∧ Aside0 (Below w.heap.size w w') ∧ Aside0 (w'.heap[w.heap.size]? = some (.cells (vCs v q) 26 (0, 0))) ∧ Aside0 (w'.heap[g3]? = some (.cells #[.int .u64 0, .int .u64 0, .int .u64 0, .slice none 0 0, .slice none 0 0, .slice none 0 0, .slice none 0 0] 26 (0, 0))) ∧ Aside0 (∀ j, i ≤ j → j < 4 → q.a j = p.a j ∧ q.c j = p.c j) ∧ Aside0 (∀ j, j < i → ∃ n, Kd.R k58 58 w' w.heap.size (fun _ => True) (.slice (q.a j) n (q.c j)) (v.lv j ++ [mark])))
  case atStart => exact ⟨0, p, rfl, ⟨by omega⟩, HB, X1, X2, ⟨fun j _ _ => ⟨rfl, rfl⟩⟩, ⟨fun j hj => by omega⟩⟩
  case round =>
    clear HB X1 X2
    obtain ⟨i, q, rfl, HK, HB, X1, X2, HQ, HR⟩ := hrel
    cases gk with
    | zero =>
      have ei : i = 4 := by have := HK.out; omega
      subst ei
      have b0 : wr.cell? ⟨w.heap.size, 0, none⟩ = some (.int .u64 v.log) := (blk_cell X1.out 0).trans rfl
      have b1 : wr.cell? ⟨w.heap.size, 1, none⟩ = some (.int .u64 v.next) := (blk_cell X1.out 1).trans rfl
      have b2 : wr.cell? ⟨w.heap.size, 2, none⟩ = some (.int .u64 v.seq) := (blk_cell X1.out 2).trans rfl
      have b3 : wr.cell? ⟨w.heap.size, 3, none⟩ = some (.slice q.a0 v.l0.length q.c0) := (blk_cell X1.out 3).trans rfl
      have b4 : wr.cell? ⟨w.heap.size, 4, none⟩ = some (.slice q.a1 v.l1.length q.c1) := (blk_cell X1.out 4).trans rfl
      have b5 : wr.cell? ⟨w.heap.size, 5, none⟩ = some (.slice q.a2 v.l2.length q.c2) := (blk_cell X1.out 5).trans rfl
      have b6 : wr.cell? ⟨w.heap.size, 6, none⟩ = some (.slice q.a3 v.l3.length q.c3) := (blk_cell X1.out 6).trans rfl
      go_wp2_with (first | (refine st_arr rfl 26 _ _ rfl g3 26 ?hx (vCs v q) ?hy _ X2.out (by rw [size26]; rfl) rfl (by simp [Value.oneCell']) ?_; (case hx => rfl); (case hy => rfl); intro w5 hb5 hbb hk5 hs5; have HB5 := Aside0.mk (hbb _ _ HB.out (show w.heap.size ≤ g3 by have := NG.out; omega)); have X5 := Aside0.mk hb5; have HR5 := Aside0.mk (show ∀ j, j < 4 → ∃ n, Kd.R k58 58 w5 w.heap.size (fun _ => True) (.slice (q.a j) n (q.c j)) (v.lv j ++ [mark]) from fun j hj => by obtain ⟨n, hn⟩ := HR.out j hj; exact ⟨n, Kd.R_mono (Kd.R_step (Kd.R_types hn X2.out (by intro x hx; simp [show k58.E = [] from rfl] at hx; omega)) (fun k ho _ => hk5 k ho.2)) (fun _ _ => trivial)⟩); clear hb5 hbb hk5 hs5) | fail)
      have r0 : w5.cell? ⟨g3, 0, none⟩ = some (.int .u64 v.log) := (blk_cell X5.out 0).trans rfl
      have r1 : w5.cell? ⟨g3, 1, none⟩ = some (.int .u64 v.next) := (blk_cell X5.out 1).trans rfl
      have r2 : w5.cell? ⟨g3, 2, none⟩ = some (.int .u64 v.seq) := (blk_cell X5.out 2).trans rfl
      have r3 : w5.cell? ⟨g3, 3, none⟩ = some (.slice q.a0 v.l0.length q.c0) := (blk_cell X5.out 3).trans rfl
      have r4 : w5.cell? ⟨g3, 4, none⟩ = some (.slice q.a1 v.l1.length q.c1) := (blk_cell X5.out 4).trans rfl
      have r5 : w5.cell? ⟨g3, 5, none⟩ = some (.slice q.a2 v.l2.length q.c2) := (blk_cell X5.out 5).trans rfl
      have r6 : w5.cell? ⟨g3, 6, none⟩ = some (.slice q.a3 v.l3.length q.c3) := (blk_cell X5.out 6).trans rfl
      exact bodyPost_ret (v := .agg (vCs v q)) (by simp [results, Try.results35, go_sem, r0, r1, r2, r3, r4, r5, r6]) rfl ⟨q, rfl, fun j hj => by
        obtain ⟨n, hn⟩ := HR5.out j hj
        obtain ⟨h1, h2, h3⟩ := Kd.R_reads' hn
        rw [List.length_append, List.length_singleton] at h1 h3
        exact ⟨h3, by omega⟩, HB5.out⟩
    | succ z =>
      have hi : i < 4 := by have := HK.out; omega
      have HI := Aside0.mk hi
      have d0 : decide ((i : Int) < 4) = true := decide_eq_true (by omega)
      have i0 : 0 ≤ (i : Int) := Int.natCast_nonneg _
      have i1 : (i : Int) < 4 := by omega
      have ew : wrap64 ((i : Int) + 1) = ((i + 1 : Nat) : Int) := by unfold wrap64; omega
      obtain ⟨l, hl⟩ : ∃ l, l = v.lv i := ⟨_, rfl⟩
      have LE := Aside0.mk hl
      have HLL := Aside0.mk (show l.length ≤ 1000000 by rw [hl]; exact HL.out i hi)
      have CV := Aside0.mk (show k58.C wr (q.a i) l.length l by rw [hl, (HQ.out i (Nat.le_refl _) hi).1]; exact ((HC.out.below HB.out) i hi).1)
      have lw1 : wrap64 (l.length : Int) = (l.length : Int) := by have := HLL.out; unfold wrap64; omega
      have lw2 : IntKind.i64.wrap (l.length : Int) = (l.length : Int) := by have := HLL.out; rw [IntKind.wrap_i64]; omega
      clear hl hi
      go_wp2_with (first | ((with_reducible refine gate_dst (N := 9) rfl ?_); refine Kd.R_lit k58 (w0 := wr) wr.heap.size 58 ?hgda (N := 9) ?hda (xs := ([] : List S58)) (inner := []) (ok := fun _ => True) (okp := fun _ => True) ?hra ?hpa (fun _ hk => hk) trivial (Below.refl wr.heap.size wr) (Below.size ((Below.refl wr.heap.size wr))) (by simp) ?_; (case hda => rfl); (case hgda => rfl); (case hra => first | (go_simp; done) | (go_simp; rfl)); (case hpa => exact (Reps.none _ _)); intro va wa ho hb hg_ hnew_; have Ra := Aside0.mk ho; have HBa := Aside0.mk hb; have Xa := Aside0.mk (blk_below X1.out (below_none hg_)); have hva := vcell Xa.out i HI.out; rw [← LE.out] at hva; clear ho hb hg_ hnew_) | ((with_reducible refine gate_builtin (b := .append) (xs := #[.tmp 9, .tmp 13]) rfl ?_); at_builtin; refine Kd.R_append_rows k58 (Rr := k58.K wa) (w0 := wr) wr.heap.size rfl (.tmp 9) (.tmp 13) 23 58 (.agg #[(.int .u64 0), (.int .i64 0), (.int .i64 0), (.string ⟨#[]⟩), (.string ⟨#[]⟩), (.int .u64 0), (.int .u64 0)]) 72 rfl Try.underlying23 info58 rfl (show 0 < 7 by decide) (show 0 < 72 by decide) va ([]) (l) (q.a i) l.length (q.c i) (fun _ => True) (fun _ => False) rfl rfl ?aOb ?aRb ?aMb (fun _ h => h.elim) ?aFb ?aBb ?aSb ?aLb ?_; (case aRb => exact (Kd.C_below CV.out HBa.out)); (case aMb => (intro x cs hk; obtain rfl := k58_open hk; exact k58_mkM _ _ _ x)); (case aBb => exact HBa.out); (case aFb => exact (fun _ _ => trivial)); (case aOb => exact Ra.out); (case aSb => exact Below.size (HBa.out)); (case aLb => (have h1 := HLL.out; simp; omega)); intro vb wb ho hb hg hat; have Rb := Aside0.mk ho; have HBb := Aside0.mk hb; have Xb := Aside0.mk (blk_grown Xa.out hg (Kd.R_ne Ra.out Xa.out (by decide))); rw [List.nil_append] at Rb; obtain ⟨B1, cb1, hv1⟩ := Kd.R_slice Rb.out; subst hv1; clear ho hb hg hat) | ((with_reducible refine gate_builtin (b := .append) (xs := #[.tmp 15, .tmp 17]) rfl ?_); at_builtin; refine Kd.R_append k58 (w0 := wr) wr.heap.size rfl (.tmp 15) (.tmp 17) 23 58 (.agg #[(.int .u64 0), (.int .i64 0), (.int .i64 0), (.string ⟨#[]⟩), (.string ⟨#[]⟩), (.int .u64 0), (.int .u64 0)]) 72 rfl Try.underlying23 info58 rfl (show 0 < 7 by decide) (show 0 < 72 by decide) (.slice B1 l.length cb1) (l) mark [.int .u64 0, .int .i64 0, .int .i64 77, .string ⟨#[]⟩, .string ⟨#[]⟩, .int .u64 0, .int .u64 0] (fun _ => True) (fun _ => False) rfl rfl ?aPc (fun _ hk => hk.elim) ?aFc ?aOc ?aBc ?aSc ?aLc ?_; (case aPc => exact k58_mkM _ _ _ mark); (case aBc => exact HBb.out); (case aFc => exact (fun _ _ => trivial)); (case aOc => exact Rb.out); (case aSc => exact Below.size (HBb.out)); (case aLc => (have h1 := HLL.out; omega)); intro va wa ho hb hg hat; have HBc := Aside0.mk hb; have Xc := Aside0.mk (blk_grown Xb.out hg (Kd.R_ne Rb.out Xb.out (by decide))); have ff := blk_frozen Xc.out (3 + i); have hvc := vcell Xc.out i HI.out; obtain ⟨B', cb', hv⟩ := Kd.R_slice ho; subst hv; have kc0 := (Kd.R_reads' ho).2.1; rw [List.length_append, List.length_singleton] at kc0; have kc1 : l.length ≤ cb' := Nat.le_of_succ_le kc0; have kc2 : (l.length : Int) ≤ (cb' : Int) := Int.ofNat_le.mpr kc1; clear kc0; have HRc := Aside0.mk ho; clear ho hb hg hat) | fail)
      clear lw1 lw2
      have HR1 := Aside0.mk (Kd.R_set (Kd.R_lower HRc.out HB.out.size) Xc.out (by intro x hx; simp [show k58.E = [] from rfl] at hx; omega) (3 + i) (.slice B' l.length cb'))
      have HRo := Aside0.mk (show ∀ j, j < i → ∃ n, Kd.R k58 58 (wa.setCell ⟨w.heap.size, 3 + i, none⟩ (.slice B' l.length cb')) w.heap.size (fun _ => True) (.slice (q.a j) n (q.c j)) (v.lv j ++ [mark]) from fun j hj => by
        obtain ⟨n, hn⟩ := HR.out j hj
        exact ⟨n, Kd.R_set (Kd.R_below hn HBc.out) Xc.out (by intro x hx; simp [show k58.E = [] from rfl] at hx; omega) (3 + i) (.slice B' l.length cb')⟩)
      have X1n := Aside0.mk (show (wa.setCell ⟨w.heap.size, 3 + i, none⟩ (.slice B' l.length cb')).heap[w.heap.size]? = some (.cells (vCs v (q.set i B' cb')) 26 (0, 0)) from five_set Xc.out _ (by have h1 := vCs_set v q i HI.out l B' cb'; rw [show v.set i l = v by rw [LE.out]; exact Ver.set_self v i HI.out] at h1; exact h1))
      have X2n := Aside0.mk (blk_far (blk_below X2.out HBc.out) (p := ⟨w.heap.size, 3 + i, none⟩) (show g3 ≠ w.heap.size by have := NG.out; omega) (.slice B' l.length cb'))
      have HBn := Aside0.mk (below_set (j := 3 + i) (v := .slice B' l.length cb') (below_step HB.out HBc.out) (Nat.le_refl _))
      try rw [ew]
      clear ew ff hvc
      go_roundg z
      case measure => omega
      case rel => exact ⟨i + 1, q.set i B' cb', rfl, ⟨by have := HK.out; omega⟩, HBn, X1n, X2n, ⟨fun j h1 h2 => by
        rw [Pl.set_a q i j HI.out h2, Pl.set_c q i j HI.out h2, if_neg (by omega), if_neg (by omega)]
        exact HQ.out j (by omega) h2⟩, ⟨fun j hj => by
        have hj4 : j < 4 := by have := HI.out; omega
        rw [Pl.set_a q i j HI.out hj4, Pl.set_c q i j HI.out hj4]
        by_cases e : j = i
        · subst e
          rw [if_pos rfl, if_pos rfl, ← LE.out]
          exact ⟨_, HR1.out⟩
        · rw [if_neg e, if_neg e]
          exact HRo.out j (by omega)⟩⟩
end Go.Proofs.Ytkjepfofiegcdaa.V
/- Numbers of an edit that are told, long lists, an edit's lists (later, long, listed), walked. Conditions: none. -/
namespace Go.Proofs.Ytkjepfofiegcdaa.V
set_option linter.unusedVariables false
set_option linter.unusedSimpArgs false
open Go.RowKit Go.Proofs.YtkjepfofiegcdaaW.PrintWords Go.Proofs.YtkjepfofiegcdaaW.PrintLast Go.Proofs.YtkjepfofiegcdaaW.PrintMore Go.Proofs.Ytkjepfofiegcdaa.PB14
/-- A number of an edit, if it is told; false: it is less than what there was. -/
def laterB (was n : Int) : Bool := decide (n = 0) || decide (was ≤ n)
def laterN (was n : Int) : Int := if n = 0 then was else n
set_option maxHeartbeats 4000000 in
set_option maxRecDepth 100000 in
theorem later_calls (w : World) (g j t : Nat) (cs : Array Value) (was n : Int) (hg : w.heap[g]? = some (.cells cs t (0, 0))) (hj : cs[j]? = some (.int .u64 was)) :
    Calls Try.prog 102 #[.pointer (some ⟨g, j, none⟩), .int .u64 n] w fun e w' => e = .returned (.bool (laterB was n)) ∧ w' = (if n = 0 then w else w.setCell ⟨g, j, none⟩ (.int .u64 n)) := by
  have hf : w.frozen? ⟨g, j, none⟩ = false := by simp [World.frozen?, hg]
  have h : w.cell? ⟨g, j, none⟩ = some (.int .u64 was) := (blk_cell hg j).trans hj
  clear hg hj
  by_cases h0 : n = 0
  · have e0 : (n == 0) = true := beq_iff_eq.mpr h0
    go_enter Try.func102, Try.ntmps102
    go_wp2_with fail
    go_ret
    exact ⟨ret_bool (by simp [laterB, h0]), by simp [h0]⟩
  · have e0 : (n == 0) = false := beq_eq_false_iff_ne.mpr h0
    have eb : laterB was n = decide (was ≤ n) := by simp [laterB, h0]
    rw [eb, if_neg h0]
    clear eb
    go_enter Try.func102, Try.ntmps102
    go_wp2_with fail
    go_ret
    exact ⟨rfl, rfl⟩
def longP (e : Edt) : Prop := 300 < e.gone.length ∨ 300 < e.added.length
instance (e : Edt) : Decidable (longP e) := by unfold longP; infer_instance
set_option maxHeartbeats 4000000 in
set_option maxRecDepth 100000 in
theorem long_calls (w : World) (e : Edt) (A1 A2 : Option Addr) (c1 c2 : Nat) : Calls Try.prog 52 #[.agg (eCs e A1 c1 A2 c2)] w fun x w' => x = .returned (.bool (decide (longP e))) ∧ Below w.heap.size w w' := by
  have HB := Aside0.mk ((Below.refl w.heap.size w).alloc (Nat.le_refl _) (.cells (eCs e A1 c1 A2 c2) 70))
  by_cases h1 : (e.gone.length : Int) > 300
  · have t0 : decide (300 < (e.gone.length : Int)) = true := decide_eq_true h1
    have t1 : decide (300 < e.gone.length) = true := decide_eq_true (by omega)
    have ER := Aside0.mk (show decide (longP e) = true from decide_eq_true (Or.inl (by omega)))
    rw [ER.out]
    clear h1
    go_enter Try.func52, Try.ntmps52
    go_wp2_with fail
    go_ret
    exact ⟨rfl, HB.out⟩
  · have t0 : decide (300 < (e.gone.length : Int)) = false := decide_eq_false h1
    have t1 : decide (300 < e.gone.length) = false := decide_eq_false (by omega)
    by_cases h2 : (e.added.length : Int) > 300
    · have t2 : decide (300 < (e.added.length : Int)) = true := decide_eq_true h2
      have t3 : decide (300 < e.added.length) = true := decide_eq_true (by omega)
      have ER := Aside0.mk (show decide (longP e) = true from decide_eq_true (Or.inr (by omega)))
      rw [ER.out]
      clear h1 h2
      go_enter Try.func52, Try.ntmps52
      go_wp2_with fail
      go_ret
      exact ⟨rfl, HB.out⟩
    · have t2 : decide (300 < (e.added.length : Int)) = false := decide_eq_false h2
      have t3 : decide (300 < e.added.length) = false := decide_eq_false (by omega)
      have ER := Aside0.mk (show decide (longP e) = false from decide_eq_false (by rintro (h | h) <;> omega))
      rw [ER.out]
      clear h1 h2
      go_enter Try.func52, Try.ntmps52
      go_wp2_with fail
      go_ret
      exact ⟨rfl, HB.out⟩
theorem ret_i {a b : Int} (h : a = b) : Ending.returned (.int .i64 a) = .returned (.int .i64 b) := by rw [h]
/-- An edit's lists stand. -/
def goneOk (x : S84) : Prop := 0 ≤ x.f0 ∧ x.f0 < 4
def addOk (x : S82) : Prop := (0 ≤ x.f0 ∧ x.f0 < 4) ∧ mayP x.f1
instance (x : S84) : Decidable (goneOk x) := by unfold goneOk; infer_instance
instance (x : S82) : Decidable (addOk x) := by unfold addOk; infer_instance
def listedP (e : Edt) : Prop := (∀ x, x ∈ e.gone → goneOk x) ∧ ∀ x, x ∈ e.added → addOk x
instance (e : Edt) : Decidable (listedP e) := by unfold listedP; infer_instance
theorem all_getD {α : Type} {p : α → Prop} {l : List α} {z : α} (h : ∀ j, j < l.length → p (l.getD j z)) : ∀ x, x ∈ l → p x := fun x hx => by
  obtain ⟨i, hi, hx2⟩ := List.getElem_of_mem hx
  have := h i hi
  rw [List.getD_eq_getElem?_getD, List.getElem?_eq_getElem hi] at this
  rw [← hx2]
  exact this
set_option maxHeartbeats 8000000 in
set_option maxRecDepth 100000 in
theorem listed_calls (w : World) (e : Edt) (A1 A2 : Option Addr) (c1 c2 : Nat) (h1 : k84.C w A1 e.gone.length e.gone) (h2 : k82.C w A2 e.added.length e.added) :
    Calls Try.prog 103 #[.agg (eCs e A1 c1 A2 c2)] w fun x w' => x = .returned (.int .i64 (if listedP e then 0 else 2)) ∧ Below w.heap.size w w' := by
  have H1 := Aside0.mk h1
  have H2 := Aside0.mk h2
  have HB := Aside0.mk ((Below.refl w.heap.size w).alloc (Nat.le_refl _) (.cells (eCs e A1 c1 A2 c2) 70))
  have X1 := Aside0.mk (blk_new w (.cells (eCs e A1 c1 A2 c2) 70))
  clear h1 h2
  obtain ⟨r, hr⟩ : ∃ r : Int, r = if listedP e then 0 else 2 := ⟨_, rfl⟩
  rw [← hr]
  have HRR := Aside0.mk hr
  clear hr
  go_enter Try.func103, Try.ntmps103
  go_upto_region 1 with (fail)
  generalize w.alloc (.cells (eCs e A1 c1 A2 c2) 70) = w1 at *
  have b3 : w1.cell? ⟨w.heap.size, 3, none⟩ = some (.slice A1 e.gone.length c1) := (blk_cell X1.out 3).trans rfl
  go_wp2_with fail
  clear b3
  go_loopg [4, 10] e.gone.length (fun kq v4 v10 w' => ∃ k : Nat, v10 = .int .i64 (k : Int) ∧ Aside0 (kq + k = e.gone.length) ∧ Aside0 (Below w1.heap.size w1 w') ∧ Aside0 (∀ j, j < k → goneOk (e.gone.getD j z84)))
  case atStart => exact ⟨0, rfl, ⟨by omega⟩, ⟨Below.refl _ _⟩, ⟨fun j hj => by omega⟩⟩
  case round =>
    obtain ⟨k, rfl, HK, HBW, HJ⟩ := hrel
    cases gk with
    | zero =>
      have ek : k = e.gone.length := by have := HK.out; omega
      subst ek
      have d0 : decide ((e.gone.length : Int) < (e.gone.length : Int)) = false := by simp
      have G1 := Aside0.mk (all_getD HJ.out)
      have X1r := Aside0.mk (blk_below X1.out HBW.out)
      have b4 : wr.cell? ⟨w.heap.size, 4, none⟩ = some (.slice A2 e.added.length c2) := (blk_cell X1r.out 4).trans rfl
      have HB2 := Aside0.mk (below_step HB.out HBW.out)
      clear HK HJ X1 HB HBW
      go_wp2_with fail
      clear b4 d0
      generalize hw5 : wr = w5 at *
      clear hw5
      go_loopg [6, 22] e.added.length (fun kq v6 v22 w' => ∃ k : Nat, v22 = .int .i64 (k : Int) ∧ Aside0 (kq + k = e.added.length) ∧ Aside0 (Below w.heap.size w w') ∧ Aside0 (∀ j, j < k → addOk (e.added.getD j z82)))
      case atStart => exact ⟨0, rfl, ⟨by omega⟩, HB2, ⟨fun j hj => by omega⟩⟩
      case round =>
        clear HB2
        obtain ⟨k, rfl, HK, HBW, HJ⟩ := hrel
        cases gk with
        | zero =>
          have ek : k = e.added.length := by have := HK.out; omega
          subst ek
          have d0 : decide ((e.added.length : Int) < (e.added.length : Int)) = false := by simp
          go_wp2_with fail
          go_ret
          exact ⟨ret_i (by rw [HRR.out, if_pos ⟨G1.out, all_getD HJ.out⟩]), HBW.out⟩
        | succ q =>
          have hk : k < e.added.length := by have := HK.out; omega
          have HM := Aside0.mk (show e.added.length ≤ 9223372036854775807 from H2.out.2.1)
          have d0 : decide ((k : Int) < (e.added.length : Int)) = true := decide_eq_true (by omega)
          have d1 : decide (k < e.added.length) = true := decide_eq_true hk
          have p0 : 0 ≤ (k : Int) := Int.natCast_nonneg _
          have p1 : (k : Int) < (e.added.length : Int) := by omega
          have CX := Kd.C_below H2.out HBW.out
          obtain ⟨ad, ea, ha0, ha1, ha2, ha3, ha4, ha5, ha6, ha7⟩ := at_T82 CX (k : Int) p0 p1
          rw [Int.toNat_natCast] at ha0 ha1 ha2 ha3 ha4 ha5 ha6 ha7
          have EA := Aside0.mk (show rd_T82 e.added (k : Int) = e.added.getD k z82 by unfold rd_T82; rw [Int.toNat_natCast])
          have EM := Aside0.mk (show e.added.getD k z82 ∈ e.added from getD_mem _ z82 hk)
          generalize rd_T82 e.added (k : Int) = m at *
          rw [ea]
          have HAX := Aside0.mk ea
          have ew : wrap64 ((k : Int) + 1) = ((k + 1 : Nat) : Int) := by have h1 := HM.out; unfold wrap64; omega
          have n0_ := Aside0.mk (below_step HBW.out ((Below.refl wr.heap.size wr).alloc (Nat.le_refl _) (.cells (pCs m) 82)))
          have Y1 := Aside0.mk (blk_new wr (.cells (pCs m) 82))
          clear ea hk CX
          by_cases hp : 0 ≤ m.f0 ∧ m.f0 < 4
          · have DP := Aside0.mk (decide_eq_true hp)
            go_wp2_with fail
            refine (level_calls _ _).mono ?_
            rintro x w2 ⟨rfl, hb⟩
            rw [DP.out]
            have Y2 := Aside0.mk (blk_below Y1.out hb)
            have n1_ := Aside0.mk (below_step n0_.out hb)
            clear hb
            have y1 : w2.cell? ⟨wr.heap.size, 1, none⟩ = some (.int .u64 m.f1.f0) := (blk_cell Y2.out 1).trans rfl
            have y2 : w2.cell? ⟨wr.heap.size, 2, none⟩ = some (.int .i64 m.f1.f1) := (blk_cell Y2.out 2).trans rfl
            have y3 : w2.cell? ⟨wr.heap.size, 3, none⟩ = some (.int .i64 m.f1.f2) := (blk_cell Y2.out 3).trans rfl
            have y4 : w2.cell? ⟨wr.heap.size, 4, none⟩ = some (.string m.f1.f3) := (blk_cell Y2.out 4).trans rfl
            have y5 : w2.cell? ⟨wr.heap.size, 5, none⟩ = some (.string m.f1.f4) := (blk_cell Y2.out 5).trans rfl
            have y6 : w2.cell? ⟨wr.heap.size, 6, none⟩ = some (.int .u64 m.f1.f5) := (blk_cell Y2.out 6).trans rfl
            have y7 : w2.cell? ⟨wr.heap.size, 7, none⟩ = some (.int .u64 m.f1.f6) := (blk_cell Y2.out 7).trans rfl
            by_cases hm : mayP m.f1
            · have DM := Aside0.mk (decide_eq_true hm)
              have OK1 := Aside0.mk (show addOk m from ⟨hp, hm⟩)
              clear hp hm
              go_wp2_with fail
              refine (may_calls _ _).mono ?_
              rintro x w3 ⟨rfl, hb⟩
              rw [DM.out]
              have n2_ := Aside0.mk (below_step n1_.out hb)
              clear hb y1 y2 y3 y4 y5 y6 y7
              go_wp2_with fail
              try rw [ew]
              rw [← HAX.out]
              clear ew
              go_roundg q
              case measure => omega
              case rel => exact ⟨k + 1, rfl, ⟨by have := HK.out; omega⟩, n2_, ⟨fun j hj => by
                by_cases e : j = k
                · subst e; rw [← EA.out]; exact OK1.out
                · exact HJ.out j (by omega)⟩⟩
            · have DM := Aside0.mk (decide_eq_false hm)
              have HN := Aside0.mk (show ¬ listedP e from fun h => hm (by have := (h.2 _ EM.out).2; rw [← EA.out] at this; exact this))
              clear hp hm
              go_wp2_with fail
              refine (may_calls _ _).mono ?_
              rintro x w3 ⟨rfl, hb⟩
              rw [DM.out]
              have n2_ := Aside0.mk (below_step n1_.out hb)
              clear hb y1 y2 y3 y4 y5 y6 y7
              go_wp2_with fail
              go_ret
              exact ⟨ret_i (by rw [HRR.out, if_neg HN.out]), n2_.out⟩
          · have DP := Aside0.mk (decide_eq_false hp)
            have HN := Aside0.mk (show ¬ listedP e from fun h => hp (by have := (h.2 _ EM.out).1; rw [← EA.out] at this; exact this))
            clear hp
            go_wp2_with fail
            refine (level_calls _ _).mono ?_
            rintro x w2 ⟨rfl, hb⟩
            rw [DP.out]
            have n1_ := Aside0.mk (below_step n0_.out hb)
            clear hb
            go_wp2_with fail
            go_ret
            exact ⟨ret_i (by rw [HRR.out, if_neg HN.out]), n1_.out⟩
    | succ q =>
      have hk : k < e.gone.length := by have := HK.out; omega
      have HM := Aside0.mk (show e.gone.length ≤ 9223372036854775807 from H1.out.2.1)
      have d0 : decide ((k : Int) < (e.gone.length : Int)) = true := decide_eq_true (by omega)
      have d1 : decide (k < e.gone.length) = true := decide_eq_true hk
      have p0 : 0 ≤ (k : Int) := Int.natCast_nonneg _
      have p1 : (k : Int) < (e.gone.length : Int) := by omega
      have CX := Kd.C_below H1.out (below_step HB.out HBW.out)
      obtain ⟨ad, ea, ha0, ha1⟩ := at_T84 CX (k : Int) p0 p1
      rw [Int.toNat_natCast] at ha0 ha1
      have EA := Aside0.mk (show rd_T84 e.gone (k : Int) = e.gone.getD k z84 by unfold rd_T84; rw [Int.toNat_natCast])
      have EM := Aside0.mk (show e.gone.getD k z84 ∈ e.gone from getD_mem _ z84 hk)
      generalize rd_T84 e.gone (k : Int) = m at *
      rw [ea]
      have HAX := Aside0.mk ea
      have ew : wrap64 ((k : Int) + 1) = ((k + 1 : Nat) : Int) := by have h1 := HM.out; unfold wrap64; omega
      have n0_ := Aside0.mk (below_step HBW.out ((Below.refl wr.heap.size wr).alloc (Nat.le_refl _) (.cells (gCs m) 84)))
      clear ea hk CX
      by_cases hp : 0 ≤ m.f0 ∧ m.f0 < 4
      · have DP := Aside0.mk (decide_eq_true hp)
        have OK1 := Aside0.mk (show goneOk m from hp)
        clear hp
        go_wp2_with fail
        refine (level_calls _ _).mono ?_
        rintro x w2 ⟨rfl, hb⟩
        rw [DP.out]
        have n1_ := Aside0.mk (below_step n0_.out hb)
        clear hb
        go_wp2_with fail
        try rw [ew]
        rw [← HAX.out]
        clear ew
        go_roundg q
        case measure => omega
        case rel => exact ⟨k + 1, rfl, ⟨by have := HK.out; omega⟩, n1_, ⟨fun j hj => by
          by_cases e : j = k
          · subst e; rw [← EA.out]; exact OK1.out
          · exact HJ.out j (by omega)⟩⟩
      · have DP := Aside0.mk (decide_eq_false hp)
        have HN := Aside0.mk (show ¬ listedP e from fun h => hp (by have := h.1 _ EM.out; rw [← EA.out] at this; exact this))
        clear hp
        go_wp2_with fail
        refine (level_calls _ _).mono ?_
        rintro x w2 ⟨rfl, hb⟩
        rw [DP.out]
        have n1_ := Aside0.mk (below_step n0_.out hb)
        clear hb
        go_wp2_with fail
        go_ret
        exact ⟨ret_i (by rw [HRR.out, if_neg HN.out]), below_step HB.out n1_.out⟩
set_option maxHeartbeats 8000000 in
set_option maxRecDepth 100000 in
theorem listedR_calls (w : World) (e : Edt) (A1 A2 : Option Addr) (c1 c2 : Nat) (h1 : k84.C w A1 e.gone.length e.gone) (h2 : k82.C w A2 e.added.length e.added) :
    Calls Try.prog 108 #[.agg (eCs e A1 c1 A2 c2)] w fun x w' => x = .returned (.bool (decide (listedP e))) ∧ Below w.heap.size w w' := by
  have H1 := Aside0.mk h1
  have H2 := Aside0.mk h2
  have HB := Aside0.mk ((Below.refl w.heap.size w).alloc (Nat.le_refl _) (.cells (eCs e A1 c1 A2 c2) 70))
  have X1 := Aside0.mk (blk_new w (.cells (eCs e A1 c1 A2 c2) 70))
  clear h1 h2
  obtain ⟨r, hr⟩ : ∃ r, r = decide (listedP e) := ⟨_, rfl⟩
  rw [← hr]
  have HRR := Aside0.mk hr
  clear hr
  go_enter Try.func108, Try.ntmps108
  go_upto_region 1 with (fail)
  generalize w.alloc (.cells (eCs e A1 c1 A2 c2) 70) = w1 at *
  go_wp2_with fail
  go_loopg [3] e.gone.length (fun kq v3 w' => ∃ k : Nat, v3 = .int .i64 (k : Int) ∧ Aside0 (kq + k = e.gone.length) ∧ Aside0 (w' = w1) ∧ Aside0 (∀ j, j < k → goneOk (e.gone.getD j z84)))
  case atStart => exact ⟨0, rfl, ⟨by omega⟩, ⟨rfl⟩, ⟨fun j hj => by omega⟩⟩
  case round =>
    obtain ⟨k, rfl, HK, HW, HJ⟩ := hrel
    obtain rfl := HW.out
    have b3 : wr.cell? ⟨w.heap.size, 3, none⟩ = some (.slice A1 e.gone.length c1) := (blk_cell X1.out 3).trans rfl
    cases gk with
    | zero =>
      have ek : k = e.gone.length := by have := HK.out; omega
      subst ek
      have d0 : decide ((e.gone.length : Int) < (e.gone.length : Int)) = false := by simp
      have G1 := Aside0.mk (all_getD HJ.out)
      clear HK HJ HW
      go_wp2_with fail
      clear b3 d0
      generalize hw5 : wr = w5 at *
      clear hw5
      go_loopg [4] e.added.length (fun kq v4 w' => ∃ k : Nat, v4 = .int .i64 (k : Int) ∧ Aside0 (kq + k = e.added.length) ∧ Aside0 (Below w5.heap.size w5 w') ∧ Aside0 (∀ j, j < k → addOk (e.added.getD j z82)))
      case atStart => exact ⟨0, rfl, ⟨by omega⟩, ⟨Below.refl _ _⟩, ⟨fun j hj => by omega⟩⟩
      case round =>
        obtain ⟨k, rfl, HK, HBW, HJ⟩ := hrel
        have X1r := Aside0.mk (blk_below X1.out HBW.out)
        have HB2 := Aside0.mk (below_step HB.out HBW.out)
        have b4 : wr.cell? ⟨w.heap.size, 4, none⟩ = some (.slice A2 e.added.length c2) := (blk_cell X1r.out 4).trans rfl
        cases gk with
        | zero =>
          have ek : k = e.added.length := by have := HK.out; omega
          subst ek
          have d0 : decide ((e.added.length : Int) < (e.added.length : Int)) = false := by simp
          go_wp2_with fail
          go_ret
          exact ⟨ret_bool (by rw [HRR.out]; symm; exact decide_eq_true ⟨G1.out, all_getD HJ.out⟩), HB2.out⟩
        | succ q =>
          have hk : k < e.added.length := by have := HK.out; omega
          have HM := Aside0.mk (show e.added.length ≤ 9223372036854775807 from H2.out.2.1)
          have d0 : decide ((k : Int) < (e.added.length : Int)) = true := decide_eq_true (by omega)
          have d1 : decide (k < e.added.length) = true := decide_eq_true hk
          have p0 : 0 ≤ (k : Int) := Int.natCast_nonneg _
          have p1 : (k : Int) < (e.added.length : Int) := by omega
          have CX := Kd.C_below H2.out HB2.out
          obtain ⟨ad, ea, ha0, ha1, ha2, ha3, ha4, ha5, ha6, ha7⟩ := at_T82 CX (k : Int) p0 p1
          rw [Int.toNat_natCast] at ha0 ha1 ha2 ha3 ha4 ha5 ha6 ha7
          have EA := Aside0.mk (show rd_T82 e.added (k : Int) = e.added.getD k z82 by unfold rd_T82; rw [Int.toNat_natCast])
          have EM := Aside0.mk (show e.added.getD k z82 ∈ e.added from getD_mem _ z82 hk)
          generalize rd_T82 e.added (k : Int) = m at *
          rw [ea] at b4 ⊢
          have HAX := Aside0.mk ea
          have ew : wrap64 ((k : Int) + 1) = ((k + 1 : Nat) : Int) := by have h1 := HM.out; unfold wrap64; omega
          clear ea hk CX
          by_cases hp : m.f0 < 0
          · have t0 : decide (m.f0 < 0) = true := decide_eq_true hp
            have HN := Aside0.mk (show ¬ listedP e from fun h => by have h2 := (h.2 _ EM.out).1; rw [← EA.out] at h2; have := h2.1; omega)
            clear hp
            go_wp2_with fail
            go_ret
            exact ⟨ret_bool (by rw [HRR.out]; symm; exact decide_eq_false HN.out), HB2.out⟩
          · have t0 : decide (m.f0 < 0) = false := decide_eq_false hp
            by_cases hq : m.f0 > 3
            · have t1 : decide (3 < m.f0) = true := decide_eq_true hq
              have HN := Aside0.mk (show ¬ listedP e from fun h => by have h2 := (h.2 _ EM.out).1; rw [← EA.out] at h2; have := h2.2; omega)
              clear hp hq
              go_wp2_with fail
              go_ret
              exact ⟨ret_bool (by rw [HRR.out]; symm; exact decide_eq_false HN.out), HB2.out⟩
            · have t1 : decide (3 < m.f0) = false := decide_eq_false hq
              have LV := Aside0.mk (show 0 ≤ m.f0 ∧ m.f0 < 4 from ⟨by omega, by omega⟩)
              clear hp hq
              by_cases hm : mayP m.f1
              · have DM := Aside0.mk (decide_eq_true hm)
                have OK1 := Aside0.mk (show addOk m from ⟨LV.out, hm⟩)
                clear hm
                go_wp2_with fail
                refine (mayR_calls _ _).mono ?_
                rintro x w3 ⟨rfl, hb⟩
                rw [DM.out]
                have n2_ := Aside0.mk (below_step HBW.out hb)
                clear hb b4
                go_wp2_with fail
                try rw [ew]
                rw [← HAX.out]
                clear ew
                go_roundg q
                case measure => omega
                case rel => exact ⟨k + 1, rfl, ⟨by have := HK.out; omega⟩, n2_, ⟨fun j hj => by
                  by_cases e : j = k
                  · subst e; rw [← EA.out]; exact OK1.out
                  · exact HJ.out j (by omega)⟩⟩
              · have DM := Aside0.mk (decide_eq_false hm)
                have HN := Aside0.mk (show ¬ listedP e from fun h => hm (by have := (h.2 _ EM.out).2; rw [← EA.out] at this; exact this))
                clear hm
                go_wp2_with fail
                refine (mayR_calls _ _).mono ?_
                rintro x w3 ⟨rfl, hb⟩
                rw [DM.out]
                have n2_ := Aside0.mk (below_step HBW.out hb)
                clear hb b4
                go_wp2_with fail
                go_ret
                exact ⟨ret_bool (by rw [HRR.out]; symm; exact decide_eq_false HN.out), below_step HB.out n2_.out⟩
    | succ q =>
      have hk : k < e.gone.length := by have := HK.out; omega
      have HM := Aside0.mk (show e.gone.length ≤ 9223372036854775807 from H1.out.2.1)
      have d0 : decide ((k : Int) < (e.gone.length : Int)) = true := decide_eq_true (by omega)
      have d1 : decide (k < e.gone.length) = true := decide_eq_true hk
      have p0 : 0 ≤ (k : Int) := Int.natCast_nonneg _
      have p1 : (k : Int) < (e.gone.length : Int) := by omega
      have CX := Kd.C_below H1.out HB.out
      obtain ⟨ad, ea, ha0, ha1⟩ := at_T84 CX (k : Int) p0 p1
      rw [Int.toNat_natCast] at ha0 ha1
      have EA := Aside0.mk (show rd_T84 e.gone (k : Int) = e.gone.getD k z84 by unfold rd_T84; rw [Int.toNat_natCast])
      have EM := Aside0.mk (show e.gone.getD k z84 ∈ e.gone from getD_mem _ z84 hk)
      generalize rd_T84 e.gone (k : Int) = m at *
      rw [ea] at b3 ⊢
      have HAX := Aside0.mk ea
      have ew : wrap64 ((k : Int) + 1) = ((k + 1 : Nat) : Int) := by have h1 := HM.out; unfold wrap64; omega
      clear ea hk CX
      by_cases hp : m.f0 < 0
      · have t0 : decide (m.f0 < 0) = true := decide_eq_true hp
        have HN := Aside0.mk (show ¬ listedP e from fun h => by have h2 := h.1 _ EM.out; rw [← EA.out] at h2; have := h2.1; omega)
        clear hp
        go_wp2_with fail
        go_ret
        exact ⟨ret_bool (by rw [HRR.out]; symm; exact decide_eq_false HN.out), HB.out⟩
      · have t0 : decide (m.f0 < 0) = false := decide_eq_false hp
        by_cases hq : m.f0 > 3
        · have t1 : decide (3 < m.f0) = true := decide_eq_true hq
          have HN := Aside0.mk (show ¬ listedP e from fun h => by have h2 := h.1 _ EM.out; rw [← EA.out] at h2; have := h2.2; omega)
          clear hp hq
          go_wp2_with fail
          go_ret
          exact ⟨ret_bool (by rw [HRR.out]; symm; exact decide_eq_false HN.out), HB.out⟩
        · have t1 : decide (3 < m.f0) = false := decide_eq_false hq
          have OK1 := Aside0.mk (show goneOk m from ⟨by omega, by omega⟩)
          clear hp hq
          go_wp2_with fail
          try rw [ew]
          rw [← HAX.out]
          clear ew
          go_roundg q
          case measure => omega
          case rel => exact ⟨k + 1, rfl, ⟨by have := HK.out; omega⟩, ⟨rfl⟩, ⟨fun j hj => by
            by_cases e : j = k
            · subst e; rw [← EA.out]; exact OK1.out
            · exact HJ.out j (by omega)⟩⟩
end Go.Proofs.Ytkjepfofiegcdaa.V
/- A list less a number (freshetref14.without), walked. Conditions: at most 10 to the 9th rows. -/
namespace Go.Proofs.Ytkjepfofiegcdaa.V
set_option linter.unusedVariables false
set_option linter.unusedSimpArgs false
open Go.RowKit Go.Proofs.YtkjepfofiegcdaaW.PrintWords Go.Proofs.YtkjepfofiegcdaaW.PrintLast Go.Proofs.YtkjepfofiegcdaaW.PrintMore Go.Proofs.Ytkjepfofiegcdaa.PB14
/-- A list less a number; of its first k. -/
def wo (l : List S58) (n : Int) (k : Nat) : List S58 := (l.take k).filter fun m => decide (¬ m.f0 = n)
def woL (l : List S58) (n : Int) : List S58 := l.filter fun m => decide (¬ m.f0 = n)
theorem wo_snoc (l : List S58) (n : Int) {k : Nat} (hk : k < l.length) : wo l n (k + 1) = if (l.getD k z58).f0 = n then wo l n k else wo l n k ++ [l.getD k z58] := by
  unfold wo
  rw [take_snoc l z58 hk, List.filter_append]
  by_cases h : (l.getD k z58).f0 = n
  · rw [if_pos h, List.filter_cons_of_neg (by simpa using h), List.filter_nil, List.append_nil]
  · rw [if_neg h, List.filter_cons_of_pos (by simpa using h), List.filter_nil]
theorem wo_len (l : List S58) (n : Int) (k : Nat) : (wo l n k).length ≤ l.length := Nat.le_trans (List.length_filter_le _ _) (by rw [List.length_take]; omega)
theorem wo_all (l : List S58) (n : Int) : wo l n l.length = woL l n := by unfold wo woL; rw [List.take_length]
set_option maxHeartbeats 8000000 in
set_option maxRecDepth 100000 in
theorem without_calls (w : World) (A : Option Addr) (c : Nat) (l : List S58) (n : Int) (hC : k58.C w A l.length l) (hl : l.length ≤ 1000000000) :
    Calls Try.prog 109 #[.slice A l.length c, .int .u64 n] w fun e w' => ∃ (B : Option Addr) (cb : Nat), e = .returned (.tuple #[.slice B (woL l n).length cb, .bool (decide ((woL l n).length < l.length))]) ∧ Kd.R k58 58 w' w.heap.size (fun _ => True) (.slice B (woL l n).length cb) (woL l n) ∧ Below w.heap.size w w' := by
  have HC := Aside0.mk hC
  have HLL := Aside0.mk hl
  clear hC hl
  obtain ⟨i58, hi58, _, hsz58, _⟩ := info_parts info58
  have HI58 := Aside0.mk hi58
  clear hi58 hsz58
  go_enter Try.func109, Try.ntmps109
  go_wp2_with fail
  go_loopg [6, 7] l.length (fun kq v6 v7 w' => ∃ (k : Nat) (B : Option Addr) (cb : Nat), v6 = .slice B (wo l n k).length cb ∧ v7 = .int .i64 (k : Int) ∧ Aside0 (kq + k = l.length) ∧ Aside0 (Below w.heap.size w w') ∧ Aside0 (Kd.R k58 58 w' w.heap.size (fun _ => True) (.slice B (wo l n k).length cb) (wo l n k)))
  case atStart => exact ⟨0, none, 0, rfl, rfl, ⟨by omega⟩, ⟨Below.refl _ _⟩, ⟨Kd.R_nil _ _ _ _ _⟩⟩
  case round =>
    obtain ⟨k, B, cb, rfl, rfl, HK, HB, HR⟩ := hrel
    cases gk with
    | zero =>
      have ek : k = l.length := by have := HK.out; omega
      subst ek
      have d0 : decide ((l.length : Int) < (l.length : Int)) = false := by simp
      rw [wo_all] at HR ⊢
      obtain ⟨b, hb⟩ : ∃ b, decide ((woL l n).length < l.length) = b := ⟨_, rfl⟩
      have d1 : decide (((woL l n).length : Int) < (l.length : Int)) = b := by rw [← hb]; exact decide_eq_decide.mpr (by omega)
      have DB := Aside0.mk hb
      clear hb
      go_wp2_with fail
      try simp only [d1]
      exact bodyPost_ret (v := .tuple #[.slice B (woL l n).length cb, .bool b]) (by simp [results, Try.results109, go_sem, d1, DB.out]) rfl ⟨B, cb, by rw [DB.out], HR.out, HB.out⟩
    | succ q =>
      have hk : k < l.length := by have := HK.out; omega
      have d0 : decide ((k : Int) < (l.length : Int)) = true := decide_eq_true (by omega)
      have d1 : decide (k < l.length) = true := decide_eq_true hk
      have p0 : 0 ≤ (k : Int) := Int.natCast_nonneg _
      have p1 : (k : Int) < (l.length : Int) := by omega
      have CL1 := Aside0.mk (Kd.C_below HC.out HB.out)
      obtain ⟨ax, eb, ha0, ha1, ha2, ha3, ha4, ha5, ha6⟩ := at_T58 CL1.out (k : Int) p0 p1
      rw [Int.toNat_natCast] at ha0 ha1 ha2 ha3 ha4 ha5 ha6
      have EI := Aside0.mk (show rd_T58 l (k : Int) = l.getD k z58 by unfold rd_T58; rw [Int.toNat_natCast])
      generalize rd_T58 l (k : Int) = m at *
      have FS := Aside0.mk (wo_snoc l n hk)
      rw [← EI.out] at FS
      rw [eb]
      have HAY := Aside0.mk eb
      have ew : wrap64 ((k : Int) + 1) = ((k + 1 : Nat) : Int) := by have h1 := HLL.out; unfold wrap64; omega
      have FL := Aside0.mk (show (wo l n k).length ≤ 1000000000 from Nat.le_trans (wo_len l n k) HLL.out)
      clear eb hk CL1
      by_cases hx : m.f0 = n
      · have t0 : (m.f0 == n) = true := beq_iff_eq.mpr hx
        have t1 : (m.f0 != n) = false := by simp [hx]
        have FS2 := Aside0.mk (show wo l n (k + 1) = wo l n k by rw [FS.out, if_pos hx])
        clear hx
        go_wp2_with fail
        try rw [ew]
        rw [← HAY.out]
        clear ew
        go_roundg q
        case measure => omega
        case rel => exact ⟨k + 1, B, cb, by (show Value.slice B (wo l n k).length cb = _; rw [FS2.out]), rfl, ⟨by have := HK.out; omega⟩, HB, by rw [FS2.out]; exact HR⟩
      · have t0 : (m.f0 == n) = false := beq_eq_false_iff_ne.mpr hx
        have t1 : (m.f0 != n) = true := by simp [hx]
        have FS2 := Aside0.mk (show wo l n (k + 1) = wo l n k ++ [m] by rw [FS.out, if_neg hx])
        clear hx
        go_wp2_with (first | ((with_reducible refine gate_builtin (b := .append) (xs := #[.tmp 21, .tmp 26]) rfl ?_); at_builtin; refine Kd.R_append k58 (w0 := w) w.heap.size rfl (.tmp 21) (.tmp 26) 23 58 (.agg #[(.int .u64 0), (.int .i64 0), (.int .i64 0), (.string ⟨#[]⟩), (.string ⟨#[]⟩), (.int .u64 0), (.int .u64 0)]) 72 rfl Try.underlying23 info58 rfl (show 0 < 7 by decide) (show 0 < 72 by decide) (.slice B (wo l n k).length cb) (wo l n k) m [.int .u64 m.f0, .int .i64 m.f1, .int .i64 m.f2, .string m.f3, .string m.f4, .int .u64 m.f5, .int .u64 m.f6] (fun _ => True) (fun _ => False) rfl rfl ?aPa (fun _ hk => hk.elim) ?aFa ?aOa ?aBa ?aSa ?aLa ?_; (case aPa => exact k58_mkM _ _ _ m); (case aBa => exact HB.out); (case aFa => exact (fun _ _ => trivial)); (case aOa => exact HR.out); (case aSa => exact Below.size (HB.out)); (case aLa => (have h1 := FL.out; omega)); intro va wa ho hb hg hat; have HBa := Aside0.mk hb; obtain ⟨B', cb', hv⟩ := Kd.R_slice ho; subst hv; have HRa := Aside0.mk ho; clear ho hb hg hat) | fail)
        rw [← FS2.out] at HRa
        try rw [ew]
        rw [← HAY.out]
        clear ew
        go_roundg q
        case measure => omega
        case rel => exact ⟨k + 1, B', cb', by rw [FS2.out, List.length_append]; rfl, rfl, ⟨by have := HK.out; omega⟩, HBa, HRa⟩
end Go.Proofs.Ytkjepfofiegcdaa.V
/- A list with a table at its place (freshetref14.with), walked. Conditions: at most 10 to the 9th rows, a level that is not negative. -/
namespace Go.Proofs.Ytkjepfofiegcdaa.V
set_option linter.unusedVariables false
set_option linter.unusedSimpArgs false
open Go.RowKit Go.Proofs.YtkjepfofiegcdaaW.PrintWords Go.Proofs.YtkjepfofiegcdaaW.PrintLast Go.Proofs.YtkjepfofiegcdaaW.PrintMore Go.Proofs.Ytkjepfofiegcdaa.PB14
/-- Does x stand before m at a level? -/
def befP (lv : Int) (m x : S58) : Prop := (lv = 0 ∧ x.f0 < m.f0) ∨ (lv > 0 ∧ Op.bytesLess m.f3.toList x.f3.toList = false)
instance (lv : Int) (m x : S58) : Decidable (befP lv m x) := by unfold befP; infer_instance
def plc (lv : Int) (m : S58) (l : List S58) : Nat := (l.takeWhile fun x => decide (befP lv m x)).length
def wiL (lv : Int) (m : S58) (l : List S58) : List S58 := l.take (plc lv m l) ++ m :: l.drop (plc lv m l)
theorem plc_at {lv : Int} {m : S58} : ∀ {l : List S58} {k : Nat}, k ≤ l.length → (∀ j, j < k → befP lv m (l.getD j z58)) → (k = l.length ∨ ¬ befP lv m (l.getD k z58)) → plc lv m l = k := by
  intro l
  induction l with
  | nil => intro k hk _ _; simp at hk; subst hk; rfl
  | cons x xs ih =>
    intro k hk hj he
    cases k with
    | zero =>
      have h : ¬ befP lv m x := by
        rcases he with he | he
        · simp at he
        · simpa using he
      unfold plc
      rw [List.takeWhile_cons_of_neg (by simpa using h)]
      rfl
    | succ k =>
      have h0 : befP lv m x := by have := hj 0 (by omega); simpa using this
      have h1 : plc lv m xs = k := ih (by simp at hk; omega) (fun j hj2 => by have := hj (j + 1) (by omega); simpa using this) (by
        rcases he with he | he
        · left; simp at he; exact he
        · right; simpa using he)
      unfold plc at h1 ⊢
      rw [List.takeWhile_cons_of_pos (by simpa using h0), List.length_cons, h1]
set_option maxHeartbeats 8000000 in
set_option maxRecDepth 100000 in
theorem with_calls (w : World) (A : Option Addr) (c : Nat) (l : List S58) (m : S58) (lv : Int) (hlv : 0 ≤ lv) (hC : k58.C w A l.length l) (hc : l.length ≤ c) (hl : l.length ≤ 1000000000) :
    Calls Try.prog 110 #[.slice A l.length c, .agg (mCs m), .int .i64 lv] w fun e w' => ∃ v, e = .returned v ∧ Kd.R k58 58 w' w.heap.size (fun _ => True) v (wiL lv m l) ∧ Below w.heap.size w w' := by
  have HC := Aside0.mk hC
  have HLL := Aside0.mk hl
  have HCC := Aside0.mk hc
  have HB := Aside0.mk ((Below.refl w.heap.size w).alloc (Nat.le_refl _) (.cells (mCs m) 58))
  have X1 := Aside0.mk (blk_new w (.cells (mCs m) 58))
  clear hC hl hc
  obtain ⟨i58, hi58, _, hsz58, _⟩ := info_parts info58
  have HI58 := Aside0.mk hi58
  have S58sz := Aside0.mk (show i58.size = 7 from hsz58)
  clear hi58 hsz58
  go_enter Try.func110, Try.ntmps110
  go_upto_region 1 with (fail)
  generalize w.alloc (.cells (mCs m) 58) = w1 at *
  go_wp2_with fail
  go_loopg [7] l.length (fun kq v7 w' => ∃ k : Nat, v7 = .int .i64 (k : Int) ∧ Aside0 (kq + k = l.length) ∧ Aside0 (Below w1.heap.size w1 w') ∧ Aside0 (∀ j, j < k → befP lv m (l.getD j z58)))
  case atStart => exact ⟨0, rfl, ⟨by omega⟩, ⟨Below.refl _ _⟩, ⟨fun j hj => by omega⟩⟩
  case round =>
    obtain ⟨k, rfl, HK, HBW, HJ⟩ := hrel
    have X1r := Aside0.mk (blk_below X1.out HBW.out)
    have HB2 := Aside0.mk (below_step HB.out HBW.out)
    have y0 : wr.cell? ⟨w.heap.size, 0, none⟩ = some (.int .u64 m.f0) := (blk_cell X1r.out 0).trans rfl
    have y1 : wr.cell? ⟨w.heap.size, 1, none⟩ = some (.int .i64 m.f1) := (blk_cell X1r.out 1).trans rfl
    have y2 : wr.cell? ⟨w.heap.size, 2, none⟩ = some (.int .i64 m.f2) := (blk_cell X1r.out 2).trans rfl
    have y3 : wr.cell? ⟨w.heap.size, 3, none⟩ = some (.string m.f3) := (blk_cell X1r.out 3).trans rfl
    have y4 : wr.cell? ⟨w.heap.size, 4, none⟩ = some (.string m.f4) := (blk_cell X1r.out 4).trans rfl
    have y5 : wr.cell? ⟨w.heap.size, 5, none⟩ = some (.int .u64 m.f5) := (blk_cell X1r.out 5).trans rfl
    have y6 : wr.cell? ⟨w.heap.size, 6, none⟩ = some (.int .u64 m.f6) := (blk_cell X1r.out 6).trans rfl
    have KLE := Aside0.mk (show k ≤ l.length by have := HK.out; omega)
    have p0 : 0 ≤ (k : Int) := Int.natCast_nonneg _
    have hcut1 : ∀ W : World, (Instr.slice 23 (.slice A l.length c) none (some (.int .i64 (k : Int))) none).run Try.prog W = .ok (.slice A k c) W := by
      have h := cut_to (P := Try.prog) 23 58 .i64 Try.underlying23 HI58.out A l.length c (k : Int) p0 (by have := KLE.out; omega) HCC.out
      rw [Int.toNat_natCast] at h
      exact h
    obtain ⟨A2, hA2⟩ : ∃ a, (if c = k then A else A.map (·.add (k * 7))) = a := ⟨_, rfl⟩
    have hcut2 : ∀ W : World, (Instr.slice 23 (.slice A l.length c) (some (.int .i64 (k : Int))) none none).run Try.prog W = .ok (.slice A2 (l.length - k) (c - k)) W := by
      have h := cut_from (P := Try.prog) 23 58 .i64 Try.underlying23 HI58.out 7 S58sz.out A l.length c (k : Int) p0 (by have := KLE.out; omega)
      rw [Int.toNat_natCast, hA2] at h
      exact h
    have CT := Aside0.mk (show k58.C w A k (l.take k) by
      have h := Kd.C_take (k := k58) (m := k) HC.out KLE.out
      rw [show (l.take k).length = k by rw [List.length_take]; have := KLE.out; omega] at h
      exact h)
    have CD := Aside0.mk (show k58.C w A2 (l.length - k) (l.drop k) by
      have h := Kd.C_drop (k := k58) (m := k) HC.out KLE.out HCC.out
      rw [List.length_drop] at h
      rw [← hA2]
      exact h)
    clear hA2
    cases gk with
    | zero =>
      have ek : k = l.length := by have := HK.out; omega
      have d0 : decide ((k : Int) < (l.length : Int)) = false := decide_eq_false (by omega)
      have d1 : decide (k < l.length) = false := decide_eq_false (by omega)
      have PL := Aside0.mk (plc_at KLE.out HJ.out (.inl ek))
      clear hlv ek
      go_wp2_with fail
      go_quiet (fail)
      have HBq := Aside0.mk (pw_below_drewN HB2.out nq)
      have Xq := Aside0.mk (blk_below X1.out (pw_below_drewN HBW.out nq))
      have FL7 := Aside0.mk (show ([] ++ l.take k).length ≤ 1000000000 by have h1 := HLL.out; have h2 := KLE.out; simp; omega)
      go_wp2_with (first | ((with_reducible refine gate_dst (N := 43) rfl ?_); refine Kd.R_lit k58 (w0 := w) w.heap.size 58 ?hgd (N := 43) ?hd (xs := ([] : List S58)) (inner := []) (ok := (fun b => b ≠ w.heap.size)) (okp := fun _ => True ∧ False) ?hr ?hp (fun _ hk => hk.2.elim) (show _ ≠ _ by have := blk_lt Xq.out; omega) HBq.out HBq.out.size (by simp) ?_; (case hd => rfl); (case hgd => rfl); (case hr => first | (go_simp; done) | (go_simp; rfl)); (case hp => exact (Reps.none _ _)); intro v5 w5 ho hb hg_ hnew_; have X5 := Aside0.mk (blk_grown Xq.out hg_ (by simp)); have HO1 := Aside0.mk ho; have HB1 := Aside0.mk hb; clear ho hb hg_ hnew_; have CT1 := Aside0.mk (Kd.C_below CT.out HB1.out)) | ((with_reducible refine gate_builtin (b := .append) (xs := #[.tmp 43, .tmp 46]) rfl ?_); at_builtin; refine Kd.R_append_rows k58 (Rr := k58.K w5) (w0 := w) w.heap.size rfl (.tmp 43) (.tmp 46) 23 58 (.agg #[(.int .u64 0), (.int .i64 0), (.int .i64 0), (.string ⟨#[]⟩), (.string ⟨#[]⟩), (.int .u64 0), (.int .u64 0)]) 72 rfl Try.underlying23 info58 rfl (show 0 < 7 by decide) (show 0 < 72 by decide) (v5) ([]) (l.take k) (A) (k) (c) (fun b => b ≠ w.heap.size) (fun _ => False) rfl rfl ?aO43 ?aR43 ?aM43 (fun _ h => h.elim) ?aF43 ?aB43 ?aS43 ?aL43 ?_; (case aR43 => exact CT1.out); (case aM43 => (intro x cs hk; obtain rfl := k58_open hk; exact k58_mkM _ _ _ x)); (case aB43 => exact HB1.out); (case aF43 => exact (fun k hk => by have := blk_lt X5.out; omega)); (case aO43 => exact HO1.out); (case aS43 => exact HB1.out.size); (case aL43 => (have h1 := HLL.out; have h2 := KLE.out; simp; omega)); intro v7 w7 ho hb hg hat; have X7 := Aside0.mk (blk_grown X5.out hg (Kd.R_away HO1.out (fun k hk => hk))); have HO7 := Aside0.mk ho; have HB7 := Aside0.mk hb; clear ho hb hg hat; have z0 : w7.cell? ⟨w.heap.size, 0, none⟩ = some (.int .u64 m.f0) := (blk_cell X7.out 0).trans rfl ; have z1 : w7.cell? ⟨w.heap.size, 1, none⟩ = some (.int .i64 m.f1) := (blk_cell X7.out 1).trans rfl ; have z2 : w7.cell? ⟨w.heap.size, 2, none⟩ = some (.int .i64 m.f2) := (blk_cell X7.out 2).trans rfl ; have z3 : w7.cell? ⟨w.heap.size, 3, none⟩ = some (.string m.f3) := (blk_cell X7.out 3).trans rfl ; have z4 : w7.cell? ⟨w.heap.size, 4, none⟩ = some (.string m.f4) := (blk_cell X7.out 4).trans rfl ; have z5 : w7.cell? ⟨w.heap.size, 5, none⟩ = some (.int .u64 m.f5) := (blk_cell X7.out 5).trans rfl ; have z6 : w7.cell? ⟨w.heap.size, 6, none⟩ = some (.int .u64 m.f6) := (blk_cell X7.out 6).trans rfl) | ((with_reducible refine gate_builtin (b := .append) (xs := #[.tmp 48, .tmp 50]) rfl ?_); at_builtin; refine Kd.R_append k58 (w0 := w) w.heap.size rfl (.tmp 48) (.tmp 50) 23 58 (.agg #[(.int .u64 0), (.int .i64 0), (.int .i64 0), (.string ⟨#[]⟩), (.string ⟨#[]⟩), (.int .u64 0), (.int .u64 0)]) 72 rfl Try.underlying23 info58 rfl (show 0 < 7 by decide) (show 0 < 72 by decide) (v7) ([] ++ l.take k) m [.int .u64 m.f0, .int .i64 m.f1, .int .i64 m.f2, .string m.f3, .string m.f4, .int .u64 m.f5, .int .u64 m.f6] (fun b => b ≠ w.heap.size) (fun _ => False) rfl rfl ?aPa (fun _ hk => hk.elim) ?aFa ?aOa ?aBa ?aSa ?aLa ?_; (case aPa => exact k58_mkM _ _ _ m); (case aBa => exact HB7.out); (case aFa => exact (fun b hb => by have := blk_lt X7.out; omega)); (case aOa => exact HO7.out); (case aSa => exact Below.size (HB7.out)); (case aLa => (have h1 := FL7.out; omega)); intro va wa ho hb hg hat; have HBa := Aside0.mk hb; have Xa := Aside0.mk (blk_grown X7.out hg (Kd.R_away HO7.out (fun b hb => hb))); have CDa := Aside0.mk (Kd.C_below CD.out HBa.out); have HRa := Aside0.mk ho; clear ho hb hg hat) | ((with_reducible refine gate_builtin (b := .append) (xs := #[.tmp 52, .tmp 55]) rfl ?_); at_builtin; refine Kd.R_append_rows k58 (Rr := k58.K wa) (w0 := w) w.heap.size rfl (.tmp 52) (.tmp 55) 23 58 (.agg #[(.int .u64 0), (.int .i64 0), (.int .i64 0), (.string ⟨#[]⟩), (.string ⟨#[]⟩), (.int .u64 0), (.int .u64 0)]) 72 rfl Try.underlying23 info58 rfl (show 0 < 7 by decide) (show 0 < 72 by decide) (va) (([] ++ l.take k) ++ [m]) (l.drop k) (A2) (l.length - k) (c - k) (fun b => b ≠ w.heap.size) (fun _ => False) rfl rfl ?aO52 ?aR52 ?aM52 (fun _ h => h.elim) ?aF52 ?aB52 ?aS52 ?aL52 ?_; (case aR52 => exact CDa.out); (case aM52 => (intro x cs hk; obtain rfl := k58_open hk; exact k58_mkM _ _ _ x)); (case aB52 => exact HBa.out); (case aF52 => exact (fun k hk => by have := blk_lt Xa.out; omega)); (case aO52 => exact HRa.out); (case aS52 => exact HBa.out.size); (case aL52 => (have h1 := HLL.out; have h2 := KLE.out; simp; omega)); intro v9 w9 ho hb hg hat; have X9 := Aside0.mk (blk_grown Xa.out hg (Kd.R_away HRa.out (fun k hk => hk))); have HO9 := Aside0.mk ho; have HB9 := Aside0.mk hb; clear ho hb hg hat; skip) | fail)
      go_ret
      exact ⟨_, rfl, by
        have e : ([] ++ l.take k) ++ [m] ++ l.drop k = wiL lv m l := by unfold wiL; rw [PL.out]; simp
        rw [← e]
        exact Kd.R_mono HO9.out (fun _ _ => trivial), HB9.out⟩
    | succ q =>
      have hk : k < l.length := by have := HK.out; omega
      have d0 : decide ((k : Int) < (l.length : Int)) = true := decide_eq_true (by omega)
      have d1 : decide (k < l.length) = true := decide_eq_true hk
      have p1 : (k : Int) < (l.length : Int) := by omega
      have CX := Kd.C_below HC.out HB2.out
      obtain ⟨ad, ea, ha0, ha1, ha2, ha3, ha4, ha5, ha6⟩ := at_T58 CX (k : Int) p0 p1
      rw [Int.toNat_natCast] at ha0 ha1 ha2 ha3 ha4 ha5 ha6
      have EA := Aside0.mk (show rd_T58 l (k : Int) = l.getD k z58 by unfold rd_T58; rw [Int.toNat_natCast])
      generalize rd_T58 l (k : Int) = x at *
      rw [ea]
      have HAX := Aside0.mk ea
      have HKL := Aside0.mk hk
      have ew : wrap64 ((k : Int) + 1) = ((k + 1 : Nat) : Int) := by have h1 := HLL.out; unfold wrap64; omega
      clear ea hk CX
      by_cases hz : lv = 0
      · subst hz
        by_cases hn : x.f0 < m.f0
        · have t0 : decide (x.f0 < m.f0) = true := decide_eq_true hn
          have BF := Aside0.mk (show befP 0 m (l.getD k z58) by rw [← EA.out]; exact .inl ⟨rfl, hn⟩)
          clear hn hlv
          go_wp2_with fail
          go_quiet (fail)
          go_wp2_with fail
          try rw [ew]
          rw [← HAX.out]
          clear ew
          go_roundg q
          case measure => omega
          case rel => exact ⟨k + 1, rfl, ⟨by have := HK.out; omega⟩, ⟨pw_below_drewN HBW.out nq⟩, ⟨fun j hj => by
            by_cases e : j = k
            · subst e; exact BF.out
            · exact HJ.out j (by omega)⟩⟩
        · have t0 : decide (x.f0 < m.f0) = false := decide_eq_false hn
          have g0 : decide ((0 : Int) < 0) = false := by decide
          have PL := Aside0.mk (plc_at (Nat.le_of_lt HKL.out) HJ.out (.inr (show ¬ befP 0 m (l.getD k z58) by
            rw [← EA.out]
            rintro (h | h)
            · exact hn h.2
            · exact absurd h.1 (by decide))))
          clear hn hlv
          go_wp2_with fail
          go_quiet (fail)
          rw [← HAX.out]
          have HBq := Aside0.mk (pw_below_drewN HB2.out nq)
          have Xq := Aside0.mk (blk_below X1.out (pw_below_drewN HBW.out nq))
          have FL7 := Aside0.mk (show ([] ++ l.take k).length ≤ 1000000000 by have h1 := HLL.out; have h2 := KLE.out; simp; omega)
          go_wp2_with (first | ((with_reducible refine gate_dst (N := 43) rfl ?_); refine Kd.R_lit k58 (w0 := w) w.heap.size 58 ?hgd (N := 43) ?hd (xs := ([] : List S58)) (inner := []) (ok := (fun b => b ≠ w.heap.size)) (okp := fun _ => True ∧ False) ?hr ?hp (fun _ hk => hk.2.elim) (show _ ≠ _ by have := blk_lt Xq.out; omega) HBq.out HBq.out.size (by simp) ?_; (case hd => rfl); (case hgd => rfl); (case hr => first | (go_simp; done) | (go_simp; rfl)); (case hp => exact (Reps.none _ _)); intro v5 w5 ho hb hg_ hnew_; have X5 := Aside0.mk (blk_grown Xq.out hg_ (by simp)); have HO1 := Aside0.mk ho; have HB1 := Aside0.mk hb; clear ho hb hg_ hnew_; have CT1 := Aside0.mk (Kd.C_below CT.out HB1.out)) | ((with_reducible refine gate_builtin (b := .append) (xs := #[.tmp 43, .tmp 46]) rfl ?_); at_builtin; refine Kd.R_append_rows k58 (Rr := k58.K w5) (w0 := w) w.heap.size rfl (.tmp 43) (.tmp 46) 23 58 (.agg #[(.int .u64 0), (.int .i64 0), (.int .i64 0), (.string ⟨#[]⟩), (.string ⟨#[]⟩), (.int .u64 0), (.int .u64 0)]) 72 rfl Try.underlying23 info58 rfl (show 0 < 7 by decide) (show 0 < 72 by decide) (v5) ([]) (l.take k) (A) (k) (c) (fun b => b ≠ w.heap.size) (fun _ => False) rfl rfl ?aO43 ?aR43 ?aM43 (fun _ h => h.elim) ?aF43 ?aB43 ?aS43 ?aL43 ?_; (case aR43 => exact CT1.out); (case aM43 => (intro x cs hk; obtain rfl := k58_open hk; exact k58_mkM _ _ _ x)); (case aB43 => exact HB1.out); (case aF43 => exact (fun k hk => by have := blk_lt X5.out; omega)); (case aO43 => exact HO1.out); (case aS43 => exact HB1.out.size); (case aL43 => (have h1 := HLL.out; have h2 := KLE.out; simp; omega)); intro v7 w7 ho hb hg hat; have X7 := Aside0.mk (blk_grown X5.out hg (Kd.R_away HO1.out (fun k hk => hk))); have HO7 := Aside0.mk ho; have HB7 := Aside0.mk hb; clear ho hb hg hat; have z0 : w7.cell? ⟨w.heap.size, 0, none⟩ = some (.int .u64 m.f0) := (blk_cell X7.out 0).trans rfl ; have z1 : w7.cell? ⟨w.heap.size, 1, none⟩ = some (.int .i64 m.f1) := (blk_cell X7.out 1).trans rfl ; have z2 : w7.cell? ⟨w.heap.size, 2, none⟩ = some (.int .i64 m.f2) := (blk_cell X7.out 2).trans rfl ; have z3 : w7.cell? ⟨w.heap.size, 3, none⟩ = some (.string m.f3) := (blk_cell X7.out 3).trans rfl ; have z4 : w7.cell? ⟨w.heap.size, 4, none⟩ = some (.string m.f4) := (blk_cell X7.out 4).trans rfl ; have z5 : w7.cell? ⟨w.heap.size, 5, none⟩ = some (.int .u64 m.f5) := (blk_cell X7.out 5).trans rfl ; have z6 : w7.cell? ⟨w.heap.size, 6, none⟩ = some (.int .u64 m.f6) := (blk_cell X7.out 6).trans rfl) | ((with_reducible refine gate_builtin (b := .append) (xs := #[.tmp 48, .tmp 50]) rfl ?_); at_builtin; refine Kd.R_append k58 (w0 := w) w.heap.size rfl (.tmp 48) (.tmp 50) 23 58 (.agg #[(.int .u64 0), (.int .i64 0), (.int .i64 0), (.string ⟨#[]⟩), (.string ⟨#[]⟩), (.int .u64 0), (.int .u64 0)]) 72 rfl Try.underlying23 info58 rfl (show 0 < 7 by decide) (show 0 < 72 by decide) (v7) ([] ++ l.take k) m [.int .u64 m.f0, .int .i64 m.f1, .int .i64 m.f2, .string m.f3, .string m.f4, .int .u64 m.f5, .int .u64 m.f6] (fun b => b ≠ w.heap.size) (fun _ => False) rfl rfl ?aPa (fun _ hk => hk.elim) ?aFa ?aOa ?aBa ?aSa ?aLa ?_; (case aPa => exact k58_mkM _ _ _ m); (case aBa => exact HB7.out); (case aFa => exact (fun b hb => by have := blk_lt X7.out; omega)); (case aOa => exact HO7.out); (case aSa => exact Below.size (HB7.out)); (case aLa => (have h1 := FL7.out; omega)); intro va wa ho hb hg hat; have HBa := Aside0.mk hb; have Xa := Aside0.mk (blk_grown X7.out hg (Kd.R_away HO7.out (fun b hb => hb))); have CDa := Aside0.mk (Kd.C_below CD.out HBa.out); have HRa := Aside0.mk ho; clear ho hb hg hat) | ((with_reducible refine gate_builtin (b := .append) (xs := #[.tmp 52, .tmp 55]) rfl ?_); at_builtin; refine Kd.R_append_rows k58 (Rr := k58.K wa) (w0 := w) w.heap.size rfl (.tmp 52) (.tmp 55) 23 58 (.agg #[(.int .u64 0), (.int .i64 0), (.int .i64 0), (.string ⟨#[]⟩), (.string ⟨#[]⟩), (.int .u64 0), (.int .u64 0)]) 72 rfl Try.underlying23 info58 rfl (show 0 < 7 by decide) (show 0 < 72 by decide) (va) (([] ++ l.take k) ++ [m]) (l.drop k) (A2) (l.length - k) (c - k) (fun b => b ≠ w.heap.size) (fun _ => False) rfl rfl ?aO52 ?aR52 ?aM52 (fun _ h => h.elim) ?aF52 ?aB52 ?aS52 ?aL52 ?_; (case aR52 => exact CDa.out); (case aM52 => (intro x cs hk; obtain rfl := k58_open hk; exact k58_mkM _ _ _ x)); (case aB52 => exact HBa.out); (case aF52 => exact (fun k hk => by have := blk_lt Xa.out; omega)); (case aO52 => exact HRa.out); (case aS52 => exact HBa.out.size); (case aL52 => (have h1 := HLL.out; have h2 := KLE.out; simp; omega)); intro v9 w9 ho hb hg hat; have X9 := Aside0.mk (blk_grown Xa.out hg (Kd.R_away HRa.out (fun k hk => hk))); have HO9 := Aside0.mk ho; have HB9 := Aside0.mk hb; clear ho hb hg hat; skip) | fail)
          go_ret
          exact ⟨_, rfl, by
            have e : ([] ++ l.take k) ++ [m] ++ l.drop k = wiL 0 m l := by unfold wiL; rw [PL.out]; simp
            rw [← e]
            exact Kd.R_mono HO9.out (fun _ _ => trivial), HB9.out⟩
      · have z0 : decide (lv = 0) = false := decide_eq_false hz
        have z1 : (lv == 0) = false := beq_eq_false_iff_ne.mpr hz
        have z2 : decide (0 < lv) = true := decide_eq_true (by omega)
        have LV := Aside0.mk (show 0 < lv by omega)
        have LZ := Aside0.mk hz
        cases hg : Op.bytesLess m.f3.toList x.f3.toList with
        | true =>
          have p9 : ¬ (Op.bytesLess x.f3.toList m.f3.toList = true ∨ x.f3.toList = m.f3.toList) := fun h_ => by rw [le_less] at h_; rw [h_] at hg; cases hg
          have s9 : Op.bytesLess x.f3.toList m.f3.toList = false := by cases hq : Op.bytesLess x.f3.toList m.f3.toList with | false => rfl | true => exact absurd (.inl hq) p9
          have t9 : ¬ x.f3.toList = m.f3.toList := fun h_ => p9 (.inr h_)
          have u9 : (x.f3.toList == m.f3.toList) = false := beq_eq_false_iff_ne.mpr t9
          have r9 : (Op.bytesLess x.f3.toList m.f3.toList || x.f3.toList == m.f3.toList) = false := by rw [s9, u9]; rfl
          have PL := Aside0.mk (plc_at (lv := lv) (Nat.le_of_lt HKL.out) HJ.out (.inr (show ¬ befP lv m (l.getD k z58) by
            rw [← EA.out]
            rintro (h | h)
            · exact LZ.out h.1
            · rw [h.2] at hg; cases hg)))
          clear hz hlv
          go_wp2_with fail
          go_quiet (fail)
          rw [← HAX.out]
          have HBq := Aside0.mk (pw_below_drewN HB2.out nq)
          have Xq := Aside0.mk (blk_below X1.out (pw_below_drewN HBW.out nq))
          have FL7 := Aside0.mk (show ([] ++ l.take k).length ≤ 1000000000 by have h1 := HLL.out; have h2 := KLE.out; simp; omega)
          go_wp2_with (first | ((with_reducible refine gate_dst (N := 43) rfl ?_); refine Kd.R_lit k58 (w0 := w) w.heap.size 58 ?hgd (N := 43) ?hd (xs := ([] : List S58)) (inner := []) (ok := (fun b => b ≠ w.heap.size)) (okp := fun _ => True ∧ False) ?hr ?hp (fun _ hk => hk.2.elim) (show _ ≠ _ by have := blk_lt Xq.out; omega) HBq.out HBq.out.size (by simp) ?_; (case hd => rfl); (case hgd => rfl); (case hr => first | (go_simp; done) | (go_simp; rfl)); (case hp => exact (Reps.none _ _)); intro v5 w5 ho hb hg_ hnew_; have X5 := Aside0.mk (blk_grown Xq.out hg_ (by simp)); have HO1 := Aside0.mk ho; have HB1 := Aside0.mk hb; clear ho hb hg_ hnew_; have CT1 := Aside0.mk (Kd.C_below CT.out HB1.out)) | ((with_reducible refine gate_builtin (b := .append) (xs := #[.tmp 43, .tmp 46]) rfl ?_); at_builtin; refine Kd.R_append_rows k58 (Rr := k58.K w5) (w0 := w) w.heap.size rfl (.tmp 43) (.tmp 46) 23 58 (.agg #[(.int .u64 0), (.int .i64 0), (.int .i64 0), (.string ⟨#[]⟩), (.string ⟨#[]⟩), (.int .u64 0), (.int .u64 0)]) 72 rfl Try.underlying23 info58 rfl (show 0 < 7 by decide) (show 0 < 72 by decide) (v5) ([]) (l.take k) (A) (k) (c) (fun b => b ≠ w.heap.size) (fun _ => False) rfl rfl ?aO43 ?aR43 ?aM43 (fun _ h => h.elim) ?aF43 ?aB43 ?aS43 ?aL43 ?_; (case aR43 => exact CT1.out); (case aM43 => (intro x cs hk; obtain rfl := k58_open hk; exact k58_mkM _ _ _ x)); (case aB43 => exact HB1.out); (case aF43 => exact (fun k hk => by have := blk_lt X5.out; omega)); (case aO43 => exact HO1.out); (case aS43 => exact HB1.out.size); (case aL43 => (have h1 := HLL.out; have h2 := KLE.out; simp; omega)); intro v7 w7 ho hb hg hat; have X7 := Aside0.mk (blk_grown X5.out hg (Kd.R_away HO1.out (fun k hk => hk))); have HO7 := Aside0.mk ho; have HB7 := Aside0.mk hb; clear ho hb hg hat; have z0 : w7.cell? ⟨w.heap.size, 0, none⟩ = some (.int .u64 m.f0) := (blk_cell X7.out 0).trans rfl ; have z1 : w7.cell? ⟨w.heap.size, 1, none⟩ = some (.int .i64 m.f1) := (blk_cell X7.out 1).trans rfl ; have z2 : w7.cell? ⟨w.heap.size, 2, none⟩ = some (.int .i64 m.f2) := (blk_cell X7.out 2).trans rfl ; have z3 : w7.cell? ⟨w.heap.size, 3, none⟩ = some (.string m.f3) := (blk_cell X7.out 3).trans rfl ; have z4 : w7.cell? ⟨w.heap.size, 4, none⟩ = some (.string m.f4) := (blk_cell X7.out 4).trans rfl ; have z5 : w7.cell? ⟨w.heap.size, 5, none⟩ = some (.int .u64 m.f5) := (blk_cell X7.out 5).trans rfl ; have z6 : w7.cell? ⟨w.heap.size, 6, none⟩ = some (.int .u64 m.f6) := (blk_cell X7.out 6).trans rfl) | ((with_reducible refine gate_builtin (b := .append) (xs := #[.tmp 48, .tmp 50]) rfl ?_); at_builtin; refine Kd.R_append k58 (w0 := w) w.heap.size rfl (.tmp 48) (.tmp 50) 23 58 (.agg #[(.int .u64 0), (.int .i64 0), (.int .i64 0), (.string ⟨#[]⟩), (.string ⟨#[]⟩), (.int .u64 0), (.int .u64 0)]) 72 rfl Try.underlying23 info58 rfl (show 0 < 7 by decide) (show 0 < 72 by decide) (v7) ([] ++ l.take k) m [.int .u64 m.f0, .int .i64 m.f1, .int .i64 m.f2, .string m.f3, .string m.f4, .int .u64 m.f5, .int .u64 m.f6] (fun b => b ≠ w.heap.size) (fun _ => False) rfl rfl ?aPa (fun _ hk => hk.elim) ?aFa ?aOa ?aBa ?aSa ?aLa ?_; (case aPa => exact k58_mkM _ _ _ m); (case aBa => exact HB7.out); (case aFa => exact (fun b hb => by have := blk_lt X7.out; omega)); (case aOa => exact HO7.out); (case aSa => exact Below.size (HB7.out)); (case aLa => (have h1 := FL7.out; omega)); intro va wa ho hb hg hat; have HBa := Aside0.mk hb; have Xa := Aside0.mk (blk_grown X7.out hg (Kd.R_away HO7.out (fun b hb => hb))); have CDa := Aside0.mk (Kd.C_below CD.out HBa.out); have HRa := Aside0.mk ho; clear ho hb hg hat) | ((with_reducible refine gate_builtin (b := .append) (xs := #[.tmp 52, .tmp 55]) rfl ?_); at_builtin; refine Kd.R_append_rows k58 (Rr := k58.K wa) (w0 := w) w.heap.size rfl (.tmp 52) (.tmp 55) 23 58 (.agg #[(.int .u64 0), (.int .i64 0), (.int .i64 0), (.string ⟨#[]⟩), (.string ⟨#[]⟩), (.int .u64 0), (.int .u64 0)]) 72 rfl Try.underlying23 info58 rfl (show 0 < 7 by decide) (show 0 < 72 by decide) (va) (([] ++ l.take k) ++ [m]) (l.drop k) (A2) (l.length - k) (c - k) (fun b => b ≠ w.heap.size) (fun _ => False) rfl rfl ?aO52 ?aR52 ?aM52 (fun _ h => h.elim) ?aF52 ?aB52 ?aS52 ?aL52 ?_; (case aR52 => exact CDa.out); (case aM52 => (intro x cs hk; obtain rfl := k58_open hk; exact k58_mkM _ _ _ x)); (case aB52 => exact HBa.out); (case aF52 => exact (fun k hk => by have := blk_lt Xa.out; omega)); (case aO52 => exact HRa.out); (case aS52 => exact HBa.out.size); (case aL52 => (have h1 := HLL.out; have h2 := KLE.out; simp; omega)); intro v9 w9 ho hb hg hat; have X9 := Aside0.mk (blk_grown Xa.out hg (Kd.R_away HRa.out (fun k hk => hk))); have HO9 := Aside0.mk ho; have HB9 := Aside0.mk hb; clear ho hb hg hat; skip) | fail)
          go_ret
          exact ⟨_, rfl, by
            have e : ([] ++ l.take k) ++ [m] ++ l.drop k = wiL lv m l := by unfold wiL; rw [PL.out]; simp
            rw [← e]
            exact Kd.R_mono HO9.out (fun _ _ => trivial), HB9.out⟩
        | false =>
          have p9 : Op.bytesLess x.f3.toList m.f3.toList = true ∨ x.f3.toList = m.f3.toList := le_less.mpr hg
          have r9 : (Op.bytesLess x.f3.toList m.f3.toList || x.f3.toList == m.f3.toList) = true := by rw [Bool.or_eq_true, beq_iff_eq]; exact p9
          have BF := Aside0.mk (show befP lv m (l.getD k z58) by rw [← EA.out]; exact .inr ⟨LV.out, hg⟩)
          clear hz hlv
          go_wp2_with fail
          go_quiet (fail)
          go_wp2_with fail
          try rw [ew]
          rw [← HAX.out]
          clear ew
          go_roundg q
          case measure => omega
          case rel => exact ⟨k + 1, rfl, ⟨by have := HK.out; omega⟩, ⟨pw_below_drewN HBW.out nq⟩, ⟨fun j hj => by
            by_cases e : j = k
            · subst e; exact BF.out
            · exact HJ.out j (by omega)⟩⟩
end Go.Proofs.Ytkjepfofiegcdaa.V
