import Derived.Test.YtkjepfofiegcdaaVX3Y
import Derived.Test.YtkjepfofiegcdaaWEqStruct
/- Edits in memory; whether two are the same; whether a table is one of a list: walked. Conditions: none. -/
namespace Go.Proofs.Ytkjepfofiegcdaa.V
set_option linter.unusedVariables false
set_option linter.unusedSimpArgs false
open Go.RowKit Go.Proofs.YtkjepfofiegcdaaW.PrintWords Go.Proofs.YtkjepfofiegcdaaW.PrintLast Go.Proofs.YtkjepfofiegcdaaW.PrintMore Go.Proofs.Ytkjepfofiegcdaa.PB14
/-- An edit. -/
structure Edt where
  log : Int
  next : Int
  seq : Int
  gone : List S84
  added : List S82
instance : DecidableEq S84 := fun a b => if h : a.f0 = b.f0 ∧ a.f1 = b.f1 then isTrue (by cases a; cases b; simp at h; obtain ⟨rfl, rfl⟩ := h; rfl) else isFalse (fun e => h (by subst e; simp))
instance : DecidableEq S82 := fun a b => if h : a.f0 = b.f0 ∧ a.f1 = b.f1 then isTrue (by cases a; cases b; simp at h; obtain ⟨rfl, rfl⟩ := h; rfl) else isFalse (fun e => h (by subst e; simp))
instance : DecidableEq Edt := fun a b => if h : (a.log = b.log ∧ a.next = b.next ∧ a.seq = b.seq) ∧ a.gone = b.gone ∧ a.added = b.added then isTrue (by cases a; cases b; simp at h; obtain ⟨⟨rfl, rfl, rfl⟩, rfl, rfl⟩ := h; rfl) else isFalse (fun e => h (by subst e; simp))
abbrev eCs (e : Edt) (A1 : Option Addr) (c1 : Nat) (A2 : Option Addr) (c2 : Nat) : Array Value := #[.int .u64 e.log, .int .u64 e.next, .int .u64 e.seq, .slice A1 e.gone.length c1, .slice A2 e.added.length c2]
abbrev gCs (x : S84) : Array Value := #[.int .i64 x.f0, .int .u64 x.f1]
abbrev pCs (x : S82) : Array Value := #[.int .i64 x.f0, .int .u64 x.f1.f0, .int .i64 x.f1.f1, .int .i64 x.f1.f2, .string x.f1.f3, .string x.f1.f4, .int .u64 x.f1.f5, .int .u64 x.f1.f6]
theorem eqA84 (d : Nat) (w : World) (a b : S84) : (Op.equalIn (d + 2) 84 (.agg #[.int .i64 a.f0, .int .u64 a.f1]) (.agg #[.int .i64 b.f0, .int .u64 b.f1])).run Try.prog w = .ok (decide (a = b)) w := by
  have e : decide (a = b) = (a.f0 == b.f0 && (a.f1 == b.f1)) := by
    rw [Bool.eq_iff_iff]
    simp only [decide_eq_true_eq, Bool.and_eq_true, beq_iff_eq]
    constructor
    · rintro rfl
      simp
    · rintro ⟨h0, h1⟩
      cases a
      cases b
      simp_all
  rw [e]
  refine eqA_of Try.underlying84 (by kernel_rfl) ?_
  refine eqf_cons (by rfl) (by go_simp; rfl) (by go_simp; rfl) (by go_simp) ?_
  exact eqf_last (by rfl) (by go_simp; rfl) (by go_simp; rfl) (by go_simp)
theorem eqA82 (d : Nat) (w : World) (a b : S82) : (Op.equalIn (d + 3) 82 (.agg #[.int .i64 a.f0, .int .u64 a.f1.f0, .int .i64 a.f1.f1, .int .i64 a.f1.f2, .string a.f1.f3, .string a.f1.f4, .int .u64 a.f1.f5, .int .u64 a.f1.f6]) (.agg #[.int .i64 b.f0, .int .u64 b.f1.f0, .int .i64 b.f1.f1, .int .i64 b.f1.f2, .string b.f1.f3, .string b.f1.f4, .int .u64 b.f1.f5, .int .u64 b.f1.f6])).run Try.prog w = .ok (decide (a = b)) w := by
  have e : decide (a = b) = (a.f0 == b.f0 && decide (a.f1 = b.f1)) := by
    rw [Bool.eq_iff_iff]
    simp only [decide_eq_true_eq, Bool.and_eq_true, beq_iff_eq]
    constructor
    · rintro rfl
      simp
    · rintro ⟨h0, h1⟩
      cases a
      cases b
      simp_all
  rw [e]
  refine eqA_of Try.underlying82 (by kernel_rfl) ?_
  refine eqf_cons (by rfl) (by go_simp; rfl) (by go_simp; rfl) (by go_simp) ?_
  exact eqf_last (by rfl) (by go_simp) (by go_simp) (eqA58 d w a.f1 b.f1)
attribute [local go_sem high] eqA58 eqA84 eqA82
end Go.Proofs.Ytkjepfofiegcdaa.V
