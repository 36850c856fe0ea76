import Derived.Test.YtkjepfofiegcdaaVR1Y
import Derived.Test.YtkjepfofiegcdaaVP2Y
/- What Decode reads, in the plain. -/
namespace Go.Proofs.Ytkjepfofiegcdaa.V
set_option linter.unusedVariables false
set_option linter.unusedSimpArgs false
open Go.RowKit Go.Proofs.YtkjepfofiegcdaaW.PrintWords Go.Proofs.YtkjepfofiegcdaaW.PrintLast Go.Proofs.YtkjepfofiegcdaaW.PrintMore Go.Proofs.Ytkjepfofiegcdaa.PB14
open H (uintS putL)
/-- The greatest number. -/
abbrev mxU : Int := 18446744073709551615
/-- A table that goes, and what is left. -/
def goneO (st : Option ByteArray) : S84 × Option ByteArray := (⟨(numO st 3).1, (numO (numO st 3).2 mxU).1⟩, (numO (numO st 3).2 mxU).2)
/-- A table that comes, and what is left. -/
def addO (st : Option ByteArray) : S82 × Option ByteArray :=
  let a := numO st 3
  let b := numO a.2 99999999
  let c := numO b.2 262144
  let d := numO c.2 262144
  let f := texO d.2
  let g := texO f.2
  let h := numO g.2 mxU
  let k := numO h.2 mxU
  (⟨a.1, b.1, c.1, d.1, f.1, g.1, h.1, k.1⟩, k.2)
open Classical in
noncomputable def finE (lg nx sq : Int) (g : List S84) (a : List S82) (s : ByteArray) : Option Edt := if s.size = 0 ∧ listedP ⟨lg, nx, sq, g, a⟩ then some ⟨lg, nx, sq, g, a⟩ else none
noncomputable def cA (lg nx sq : Int) (g : List S84) : Nat → List S82 → ByteArray → Option Edt
  | 0, acc, s => finE lg nx sq g acc s
  | n + 1, acc, s => (addO (some s)).2.bind (cA lg nx sq g n (acc ++ [(addO (some s)).1]))
noncomputable def cG (lg nx sq : Int) : Nat → List S84 → ByteArray → Option Edt
  | 0, acc, s => (numO (some s) 256).2.bind (cA lg nx sq acc (numO (some s) 256).1.toNat [])
  | n + 1, acc, s => (goneO (some s)).2.bind (cG lg nx sq n (acc ++ [(goneO (some s)).1]))
/-- The edit whose bytes these are, if any. -/
noncomputable def decE (s : ByteArray) : Option Edt :=
  let a := numO (some s) mxU
  let b := numO a.2 mxU
  let c := numO b.2 mxU
  let d := numO c.2 256
  d.2.bind (cG a.1 b.1 c.1 d.1.toNat [])
def zeroE : Edt := ⟨0, 0, 0, [], []⟩
/-- What Decode answers. -/
noncomputable def decV (s : ByteArray) : Edt × Int := match decE s with
  | some e => (e, 0)
  | none => (zeroE, 7)
theorem numO_range (st : Option ByteArray) {most : Int} (h : 0 ≤ most) : 0 ≤ (numO st most).1 ∧ (numO st most).1 ≤ most := by
  cases st with
  | none => exact ⟨Int.le_refl 0, h⟩
  | some s =>
    by_cases hc : (uintS s).2.2 = 0 ∧ (uintS s).1 ≤ most
    · rw [numO_good hc]
      rcases hu : uintS s with ⟨v, m, er⟩
      rw [hu] at hc
      obtain ⟨he, hm⟩ := hc
      dsimp only at he hm
      subst he
      exact ⟨(uint_ok hu).1, hm⟩
    · rw [numO_bad hc]
      exact ⟨Int.le_refl 0, h⟩
theorem decE_none {s : ByteArray} (h : decE s = none) : decV s = (zeroE, 7) := by unfold decV; rw [h]
theorem decE_some {s : ByteArray} {e : Edt} (h : decE s = some e) : decV s = (e, 0) := by unfold decV; rw [h]
theorem cG_succ {st : Option ByteArray} {lg nx sq : Int} {n : Nat} {acc : List S84} : st.bind (cG lg nx sq (n + 1) acc) = (goneO st).2.bind (cG lg nx sq n (acc ++ [(goneO st).1])) := by
  cases st with
  | none => rfl
  | some s => rfl
theorem cG_zero {st : Option ByteArray} {lg nx sq : Int} {acc : List S84} : st.bind (cG lg nx sq 0 acc) = (numO st 256).2.bind (cA lg nx sq acc (numO st 256).1.toNat []) := by
  cases st with
  | none => rfl
  | some s => rfl
theorem cA_succ {st : Option ByteArray} {lg nx sq : Int} {g : List S84} {n : Nat} {acc : List S82} : st.bind (cA lg nx sq g (n + 1) acc) = (addO st).2.bind (cA lg nx sq g n (acc ++ [(addO st).1])) := by
  cases st with
  | none => rfl
  | some s => rfl
theorem cA_zero {s : ByteArray} {lg nx sq : Int} {g : List S84} {acc : List S82} : cA lg nx sq g 0 acc s = finE lg nx sq g acc s := rfl
theorem finE_yes {lg nx sq : Int} {g : List S84} {a : List S82} {s : ByteArray} (h : s.size = 0) (h2 : listedP ⟨lg, nx, sq, g, a⟩) : finE lg nx sq g a s = some ⟨lg, nx, sq, g, a⟩ := by unfold finE; exact if_pos ⟨h, h2⟩
theorem finE_no {lg nx sq : Int} {g : List S84} {a : List S82} {s : ByteArray} (h : ¬ (s.size = 0 ∧ listedP ⟨lg, nx, sq, g, a⟩)) : finE lg nx sq g a s = none := by unfold finE; exact if_neg h
end Go.Proofs.Ytkjepfofiegcdaa.V
