import Derived.Test.YtkjepfofiegcdaaVX3Y
/- Are two versions the same, a copy with marks, is it kept (freshetref14), walked. Conditions: levels of at most a million tables. -/
namespace Go.Proofs.Ytkjepfofiegcdaa.V
set_option linter.unusedVariables false
set_option linter.unusedSimpArgs false
open Go.RowKit Go.Proofs.YtkjepfofiegcdaaW.PrintWords Go.Proofs.YtkjepfofiegcdaaW.PrintLast Go.Proofs.YtkjepfofiegcdaaW.PrintMore Go.Proofs.Ytkjepfofiegcdaa.PB14
def sameP (a b : Ver) : Prop := (a.log = b.log ∧ a.next = b.next ∧ a.seq = b.seq) ∧ ∀ i, i < 4 → a.lv i = b.lv i
instance (a b : Ver) : Decidable (sameP a b) := by unfold sameP; infer_instance
def mark : S58 := ⟨0, 0, 77, ⟨#[]⟩, ⟨#[]⟩, 0, 0⟩
/-- A copy: a mark stands behind each level. -/
def MK (w : World) (v : Ver) (p : Pl) : Prop := ∀ i, i < 4 → k58.C w (p.a i) ((v.lv i).length + 1) (v.lv i ++ [mark]) ∧ (v.lv i).length + 1 ≤ p.c i
theorem MK.below {w w' : World} {v : Ver} {p : Pl} (h : MK w v p) (hb : Below w.heap.size w w') : MK w' v p := fun i hi => ⟨Kd.C_below (h i hi).1 hb, (h i hi).2⟩
def Pl.set (p : Pl) (i : Nat) (a : Option Addr) (c : Nat) : Pl :=
  match i with
  | 0 => { p with a0 := a, c0 := c }
  | 1 => { p with a1 := a, c1 := c }
  | 2 => { p with a2 := a, c2 := c }
  | _ => { p with a3 := a, c3 := c }
def Ver.set (v : Ver) (i : Nat) (l : List S58) : Ver :=
  match i with
  | 0 => { v with l0 := l }
  | 1 => { v with l1 := l }
  | 2 => { v with l2 := l }
  | _ => { v with l3 := l }
theorem vCs_set (v : Ver) (p : Pl) (i : Nat) (hi : i < 4) (l : List S58) (a : Option Addr) (c : Nat) : (vCs v p).setIfInBounds (3 + i) (.slice a l.length c) = vCs (v.set i l) (p.set i a c) := by
  rcases (by omega : i = 0 ∨ i = 1 ∨ i = 2 ∨ i = 3) with rfl | rfl | rfl | rfl <;> rfl
theorem Ver.set_self (v : Ver) (i : Nat) (hi : i < 4) : v.set i (v.lv i) = v := by
  rcases (by omega : i = 0 ∨ i = 1 ∨ i = 2 ∨ i = 3) with rfl | rfl | rfl | rfl <;> rfl
end Go.Proofs.Ytkjepfofiegcdaa.V
