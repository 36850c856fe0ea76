import Derived.Test.YtkjepfofiegcdaaVB6
/- Options, levels, sizes, whether two tables overlap: walked. Conditions: none. -/
namespace Go.Proofs.Ytkjepfofiegcdaa.V
set_option linter.unusedVariables false
set_option linter.unusedSimpArgs false
open Go.RowKit Go.Proofs.YtkjepfofiegcdaaW.PrintWords Go.Proofs.YtkjepfofiegcdaaW.PrintLast Go.Proofs.YtkjepfofiegcdaaW.PrintMore Go.Proofs.Ytkjepfofiegcdaa.PB14
abbrev mCs (m : S58) : Array Value := #[.int .u64 m.f0, .int .i64 m.f1, .int .i64 m.f2, .string m.f3, .string m.f4, .int .u64 m.f5, .int .u64 m.f6]
def overB (a b : S58) : Bool := !Op.bytesLess a.f4.toList b.f3.toList && !Op.bytesLess b.f4.toList a.f3.toList
def optP (many base times : Int) : Prop := 1 ≤ many ∧ many ≤ 64 ∧ 1 ≤ base ∧ base ≤ 1073741824 ∧ 1 ≤ times ∧ times ≤ 1000
instance (a b c : Int) : Decidable (optP a b c) := by unfold optP; infer_instance
def optE (a b c : Int) : Int := if optP a b c then 0 else 2
theorem optE_zero {a b c : Int} (h : optP a b c) : 0 = optE a b c := by rw [optE, if_pos h]
theorem optE_two {a b c : Int} (h : ¬ optP a b c) : 2 = optE a b c := by rw [optE, if_neg h]
theorem ret_int {k : IntKind} {a b : Int} (h : a = b) : Ending.returned (.int k a) = .returned (.int k b) := by rw [h]
set_option maxRecDepth 100000 in
theorem check_calls (w : World) (a b c : Int) : Calls Try.prog 39 #[.agg #[.int .i64 a, .int .i64 b, .int .i64 c]] w fun e w' => e = .returned (.int .i64 (optE a b c)) ∧ Below w.heap.size w w' := by
  have HB := Aside0.mk ((Below.refl w.heap.size w).alloc (Nat.le_refl _) (.cells #[.int .i64 a, .int .i64 b, .int .i64 c] 48))
  go_enter Try.func39, Try.ntmps39
  go_wp2_with fail
  all_goals
    go_ret
    exact ⟨ret_int (by first | exact optE_zero (by unfold optP; omega) | exact optE_two (by unfold optP; omega)), HB.out⟩
set_option maxRecDepth 100000 in
theorem checkR_calls (w : World) (a b c : Int) : Calls Try.prog 40 #[.agg #[.int .i64 a, .int .i64 b, .int .i64 c]] w fun e w' => e = .returned (.int .i64 (optE a b c)) ∧ Below w.heap.size w w' := by
  have HB := Aside0.mk ((Below.refl w.heap.size w).alloc (Nat.le_refl _) (.cells #[.int .i64 a, .int .i64 b, .int .i64 c] 48))
  go_enter Try.func40, Try.ntmps40
  go_wp2_with fail
  all_goals
    go_ret
    exact ⟨ret_int (by first | exact optE_zero (by unfold optP; omega) | exact optE_two (by unfold optP; omega)), HB.out⟩
set_option maxRecDepth 100000 in
theorem level_calls (w : World) (n : Int) : Calls Try.prog 121 #[.int .i64 n] w fun e w' => e = .returned (.bool (decide (0 ≤ n ∧ n < 4))) ∧ Below w.heap.size w w' := by
  by_cases h1 : 0 ≤ n
  · by_cases h2 : n < 4
    · rw [decide_eq_true (And.intro h1 h2)]
      go_enter Try.func121, Try.ntmps121
      go_wp2_with fail
      go_ret
      exact ⟨rfl, Below.refl _ _⟩
    · rw [decide_eq_false (fun h => h2 h.2)]
      go_enter Try.func121, Try.ntmps121
      go_wp2_with fail
      go_ret
      exact ⟨rfl, Below.refl _ _⟩
  · rw [decide_eq_false (fun h => h1 h.1)]
    go_enter Try.func121, Try.ntmps121
    go_wp2_with fail
    go_ret
    exact ⟨rfl, Below.refl _ _⟩
set_option maxHeartbeats 4000000 in
set_option maxRecDepth 100000 in
theorem over_calls (w : World) (a b : S58) : Calls Try.prog 42 #[.agg (mCs a), .agg (mCs b)] w fun e w' => e = .returned (.bool (overB a b)) ∧ Below w.heap.size w w' := by
  have HB := Aside0.mk (below_alloc ((Below.refl w.heap.size w).alloc (Nat.le_refl _) (.cells (mCs a) 58)) (.cells (mCs b) 58))
  obtain ⟨r, hr⟩ : ∃ r, r = overB a b := ⟨_, rfl⟩
  rw [← hr]
  have HR := Aside0.mk hr
  clear hr
  cases h1 : Op.bytesLess a.f4.toList b.f3.toList with
  | true =>
    have HQ := Aside0.mk (show false = r by rw [HR.out]; unfold overB; rw [h1]; rfl)
    go_enter Try.func42, Try.ntmps42
    go_wp2_with fail
    go_ret
    exact ⟨ret_bool HQ.out, HB.out⟩
  | false =>
    cases h2 : Op.bytesLess b.f4.toList a.f3.toList with
    | true =>
      have HQ := Aside0.mk (show false = r by rw [HR.out]; unfold overB; rw [h1, h2]; rfl)
      go_enter Try.func42, Try.ntmps42
      go_wp2_with fail
      all_goals
        go_ret
        exact ⟨ret_bool HQ.out, HB.out⟩
    | false =>
      have HQ := Aside0.mk (show true = r by rw [HR.out]; unfold overB; rw [h1, h2]; rfl)
      go_enter Try.func42, Try.ntmps42
      go_wp2_with fail
      all_goals
        go_ret
        exact ⟨ret_bool HQ.out, HB.out⟩
set_option maxHeartbeats 4000000 in
set_option maxRecDepth 100000 in
theorem overR_calls (w : World) (a b : S58) : Calls Try.prog 43 #[.agg (mCs a), .agg (mCs b)] w fun e w' => e = .returned (.bool (overB a b)) ∧ Below w.heap.size w w' := by
  have HB := Aside0.mk (below_alloc ((Below.refl w.heap.size w).alloc (Nat.le_refl _) (.cells (mCs a) 58)) (.cells (mCs b) 58))
  obtain ⟨r, hr⟩ : ∃ r, r = overB a b := ⟨_, rfl⟩
  rw [← hr]
  have HR := Aside0.mk hr
  clear hr
  cases h1 : Op.bytesLess a.f4.toList b.f3.toList with
  | true =>
    have HQ := Aside0.mk (show false = r by rw [HR.out]; unfold overB; rw [h1]; rfl)
    go_enter Try.func43, Try.ntmps43
    go_wp2_with fail
    go_ret
    exact ⟨ret_bool HQ.out, HB.out⟩
  | false =>
    cases h2 : Op.bytesLess b.f4.toList a.f3.toList with
    | true =>
      have HQ := Aside0.mk (show false = r by rw [HR.out]; unfold overB; rw [h1, h2]; rfl)
      go_enter Try.func43, Try.ntmps43
      go_wp2_with fail
      all_goals
        go_ret
        exact ⟨ret_bool HQ.out, HB.out⟩
    | false =>
      have HQ := Aside0.mk (show true = r by rw [HR.out]; unfold overB; rw [h1, h2]; rfl)
      go_enter Try.func43, Try.ntmps43
      go_wp2_with fail
      all_goals
        go_ret
        exact ⟨ret_bool HQ.out, HB.out⟩
end Go.Proofs.Ytkjepfofiegcdaa.V
