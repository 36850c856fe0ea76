import Derived.Test.YtkjepfofiegcdaaVX1Y
import Derived.Test.YtkjepfofiegcdaaWEqStruct
/- Texts of the walks joined into one (VB14, VB15, VB16, VB17, VC1, VC2, VD1, VD2, VD3, VE1). Conditions: told at each. -/
namespace Go.Proofs.Ytkjepfofiegcdaa.V
section
/- VB14: pick.Pick, walked. Conditions: none. -/
set_option linter.unusedVariables false
set_option linter.unusedSimpArgs false
open Go.RowKit Go.Proofs.YtkjepfofiegcdaaW.PrintWords Go.Proofs.YtkjepfofiegcdaaW.PrintLast Go.Proofs.YtkjepfofiegcdaaW.PrintMore Go.Proofs.Ytkjepfofiegcdaa.PB14
instance : DecidableEq S58 := fun a b => if h : a.f0 = b.f0 ∧ a.f1 = b.f1 ∧ a.f2 = b.f2 ∧ a.f3 = b.f3 ∧ a.f4 = b.f4 ∧ a.f5 = b.f5 ∧ a.f6 = b.f6 then isTrue (by cases a; cases b; simp at h; obtain ⟨rfl, rfl, rfl, rfl, rfl, rfl, rfl⟩ := h; rfl) else isFalse (fun e => h (by subst e; simp))
end
section
/- VB15: pick.Bottom, walked. Conditions: none. -/
set_option linter.unusedVariables false
set_option linter.unusedSimpArgs false
open Go.RowKit Go.Proofs.YtkjepfofiegcdaaW.PrintWords Go.Proofs.YtkjepfofiegcdaaW.PrintLast Go.Proofs.YtkjepfofiegcdaaW.PrintMore Go.Proofs.Ytkjepfofiegcdaa.PB14
def askP (v : Ver) (lev : Int) : Prop := rightP v ∧ 0 ≤ lev ∧ lev < 3
instance (v : Ver) (lev : Int) : Decidable (askP v lev) := by unfold askP; infer_instance
def BotP (v : Ver) (lev : Nat) (L : List S58) : Prop := L = [] ∨ ∀ i, i < 4 → lev + 2 ≤ i → ∀ m, m ∈ v.lv i → overB m (spanM L) = false
instance (v : Ver) (lev : Nat) (L : List S58) : Decidable (BotP v lev L) := by unfold BotP; infer_instance
end
section
/- VB16: The version of the document's example (sample), walked. Conditions: none. -/
set_option linter.unusedVariables false
set_option linter.unusedSimpArgs false
open Go.RowKit Go.Proofs.YtkjepfofiegcdaaW.PrintWords Go.Proofs.YtkjepfofiegcdaaW.PrintLast Go.Proofs.YtkjepfofiegcdaaW.PrintMore Go.Proofs.Ytkjepfofiegcdaa.PB14
theorem size26 : (Try.prog.info? 26).map (·.size) = some 7 := by kernel_rfl
end
section
/- VB17: An answer that the document fixes (awake of layer 16), walked. Conditions: none. -/
set_option linter.unusedVariables false
set_option linter.unusedSimpArgs false
open Go.RowKit Go.Proofs.YtkjepfofiegcdaaW.PrintWords Go.Proofs.YtkjepfofiegcdaaW.PrintLast Go.Proofs.YtkjepfofiegcdaaW.PrintMore Go.Proofs.Ytkjepfofiegcdaa.PB14
end
section
/- VC1: The law PickOverlap, walked. Conditions: none. -/
set_option linter.unusedVariables false
set_option linter.unusedSimpArgs false
open Go.RowKit Go.Proofs.YtkjepfofiegcdaaW.PrintWords Go.Proofs.YtkjepfofiegcdaaW.PrintLast Go.Proofs.YtkjepfofiegcdaaW.PrintMore Go.Proofs.Ytkjepfofiegcdaa.PB14
end
section
/- VC2: The law PickMeets, walked. Conditions: none. -/
set_option linter.unusedVariables false
set_option linter.unusedSimpArgs false
open Go.RowKit Go.Proofs.YtkjepfofiegcdaaW.PrintWords Go.Proofs.YtkjepfofiegcdaaW.PrintLast Go.Proofs.YtkjepfofiegcdaaW.PrintMore Go.Proofs.Ytkjepfofiegcdaa.PB14
end
section
/- VD1: Are there too many tables (freshetlaw16.many, freshetlaw14.many), walked. Conditions: none. -/
set_option linter.unusedVariables false
set_option linter.unusedSimpArgs false
open Go.RowKit Go.Proofs.YtkjepfofiegcdaaW.PrintWords Go.Proofs.YtkjepfofiegcdaaW.PrintLast Go.Proofs.YtkjepfofiegcdaaW.PrintMore Go.Proofs.Ytkjepfofiegcdaa.PB14
def manyP (v : Ver) : Prop := ∃ i, i < 4 ∧ 80 < (v.lv i).length
instance (v : Ver) : Decidable (manyP v) := decidable_of_iff (¬ ∀ i, i < 4 → (v.lv i).length ≤ 80) ⟨fun h => by
  rw [Classical.not_forall] at h
  obtain ⟨i, hi⟩ := h
  rw [Classical.not_imp] at hi
  exact ⟨i, hi.1, by omega⟩, fun ⟨i, hi, h2⟩ h => by have := h i hi; omega⟩
end
section
/- VD2: freshetref14.May, walked. Conditions: none. -/
set_option linter.unusedVariables false
set_option linter.unusedSimpArgs false
open Go.RowKit Go.Proofs.YtkjepfofiegcdaaW.PrintWords Go.Proofs.YtkjepfofiegcdaaW.PrintLast Go.Proofs.YtkjepfofiegcdaaW.PrintMore Go.Proofs.Ytkjepfofiegcdaa.PB14
def mayQ (m : S58) : Prop := (1 ≤ m.f0 ∧ m.f0 ≤ 99999998 ∧ 1 ≤ m.f1 ∧ m.f1 ≤ 262144 ∧ 1 ≤ m.f2 ∧ m.f2 ≤ 262144) ∧ ((1 : Int) ≤ m.f3.size ∧ (m.f3.size : Int) ≤ 520 ∧ (1 : Int) ≤ m.f4.size ∧ (m.f4.size : Int) ≤ 520 ∧ (Op.bytesLess m.f3.toList m.f4.toList = true ∨ m.f3.toList = m.f4.toList)) ∧ 1 ≤ m.f5 ∧ m.f5 ≤ m.f6 ∧ m.f6 < 72057594037927936
instance (m : S58) : Decidable (mayQ m) := by unfold mayQ; infer_instance
end
section
/- VD3: The span of tables and what overlaps it, in the plain. Conditions: none. -/
set_option linter.unusedVariables false
set_option linter.unusedSimpArgs false
open Go.RowKit Go.Proofs.YtkjepfofiegcdaaW.PrintWords Go.Proofs.YtkjepfofiegcdaaW.PrintLast Go.Proofs.YtkjepfofiegcdaaW.PrintMore Go.Proofs.Ytkjepfofiegcdaa.PB14
end
section
/- VE1: Are two lists of tables the same (freshetref14.SameMetas), walked. Conditions: none. -/
set_option linter.unusedVariables false
set_option linter.unusedSimpArgs false
open Go.RowKit Go.Proofs.YtkjepfofiegcdaaW.PrintWords Go.Proofs.YtkjepfofiegcdaaW.PrintLast Go.Proofs.YtkjepfofiegcdaaW.PrintMore Go.Proofs.Ytkjepfofiegcdaa.PB14
theorem bytes_eq {a b : ByteArray} (h : a.toList = b.toList) : a = b := by
  rw [ByteArray.toList_eq, ByteArray.toList_eq] at h
  exact ByteArray.ext (Array.toList_inj.mp h)
theorem eqA58 (d : Nat) (w : World) (a b : S58) :
    (Op.equalIn (d + 2) 58 (.agg #[.int .u64 a.f0, .int .i64 a.f1, .int .i64 a.f2, .string a.f3, .string a.f4, .int .u64 a.f5, .int .u64 a.f6]) (.agg #[.int .u64 b.f0, .int .i64 b.f1, .int .i64 b.f2, .string b.f3, .string b.f4, .int .u64 b.f5, .int .u64 b.f6])).run Try.prog w = .ok (decide (a = b)) w := by
  have e : decide (a = b) = (a.f0 == b.f0 && (a.f1 == b.f1 && (a.f2 == b.f2 && (a.f3.toList == b.f3.toList && (a.f4.toList == b.f4.toList && (a.f5 == b.f5 && (a.f6 == b.f6))))))) := by
    rw [Bool.eq_iff_iff]
    simp only [decide_eq_true_eq, Bool.and_eq_true, beq_iff_eq]
    constructor
    · rintro rfl
      simp
    · rintro ⟨h0, h1, h2, h3, h4, h5, h6⟩
      have h3 := bytes_eq h3
      have h4 := bytes_eq h4
      cases a
      cases b
      simp_all
  rw [e]
  refine eqA_of Try.underlying58 (by kernel_rfl) ?_
  refine eqf_cons (by rfl) (by go_simp; rfl) (by go_simp; rfl) (by go_simp) ?_
  refine eqf_cons (by rfl) (by go_simp; rfl) (by go_simp; rfl) (by go_simp) ?_
  refine eqf_cons (by rfl) (by go_simp; rfl) (by go_simp; rfl) (by go_simp) ?_
  refine eqf_cons (by rfl) (by go_simp; rfl) (by go_simp; rfl) (by go_simp) ?_
  refine eqf_cons (by rfl) (by go_simp; rfl) (by go_simp; rfl) (by go_simp) ?_
  refine eqf_cons (by rfl) (by go_simp; rfl) (by go_simp; rfl) (by go_simp) ?_
  exact eqf_last (by rfl) (by go_simp; rfl) (by go_simp; rfl) (by go_simp)
attribute [local go_sem high] eqA58
end
end Go.Proofs.Ytkjepfofiegcdaa.V
