import Derived.Test.YtkjepfofiegcdaaVC1
/- The law PickMeets, walked. Conditions: none. -/
namespace Go.Proofs.Ytkjepfofiegcdaa.V
set_option linter.unusedVariables false
set_option linter.unusedSimpArgs false
open Go.RowKit Go.Proofs.YtkjepfofiegcdaaW.PrintWords Go.Proofs.YtkjepfofiegcdaaW.PrintLast Go.Proofs.YtkjepfofiegcdaaW.PrintMore Go.Proofs.Ytkjepfofiegcdaa.PB14
def insB (a b : S58) : Bool := (!Op.bytesLess a.f3.toList b.f3.toList && !Op.bytesLess b.f4.toList a.f3.toList) || (!Op.bytesLess b.f3.toList a.f3.toList && !Op.bytesLess a.f4.toList b.f3.toList)
theorem less_le {a b c : List UInt8} (h1 : Op.bytesLess a b = true) (h2 : Op.bytesLess c b = false) : Op.bytesLess a c = true := by
  by_cases e : c = b
  · rw [e]; exact h1
  · exact less_trans h1 (less_total h2 e)
theorem le_less_t {a b c : List UInt8} (h1 : Op.bytesLess b a = false) (h2 : Op.bytesLess b c = true) : Op.bytesLess a c = true := by
  by_cases e : a = b
  · rw [e]; exact h2
  · exact less_trans (less_total h1 (fun e2 => e e2.symm)) h2
theorem over_ins {a b : S58} (ha : Op.bytesLess a.f4.toList a.f3.toList = false) (hb : Op.bytesLess b.f4.toList b.f3.toList = false) : overB a b = insB a b := by
  unfold overB insB
  cases q1 : Op.bytesLess a.f4.toList b.f3.toList with
  | true =>
    have h1 : Op.bytesLess a.f3.toList b.f3.toList = true := le_less_t ha q1
    rw [h1]
    simp
  | false =>
    cases q2 : Op.bytesLess b.f4.toList a.f3.toList with
    | true =>
      have h1 : Op.bytesLess b.f3.toList a.f3.toList = true := le_less_t hb q2
      rw [h1]
      simp
    | false =>
      cases q3 : Op.bytesLess a.f3.toList b.f3.toList with
      | false => simp
      | true =>
        have h1 : Op.bytesLess b.f3.toList a.f3.toList = false := by
          cases q : Op.bytesLess b.f3.toList a.f3.toList with
          | false => rfl
          | true => have := less_trans q3 q; rw [less_irr] at this; cases this
        rw [h1]
        simp
theorem over_self {a : S58} (ha : Op.bytesLess a.f4.toList a.f3.toList = false) : overB a a = true := by unfold overB; rw [ha]; rfl
set_option maxHeartbeats 8000000 in
set_option maxRecDepth 100000 in
theorem pickMeets_calls (w : World) (a b : S58) : Calls Try.prog 8 #[.agg (mCs a), .agg (mCs b)] w fun e w' => e = .returned (.bool true) ∧ Below w.heap.size w w' := by
  have HB := Aside0.mk (below_alloc ((Below.refl w.heap.size w).alloc (Nat.le_refl _) (.cells (mCs a) 58)) (.cells (mCs b) 58))
  have X2 := Aside0.mk (blk_alloc (blk_new w (.cells (mCs a) 58)) (.cells (mCs b) 58))
  have X3 := Aside0.mk (blk_new (w.alloc (.cells (mCs a) 58)) (.cells (mCs b) 58))
  go_enter Try.func8, Try.ntmps8
  go_upto_region 1 with (fail)
  generalize hg3 : (w.alloc (.cells (mCs a) 58)).heap.size = g3 at *
  have e3 : w.heap.size + 1 = g3 := by rw [← hg3]; simp
  try rw [e3]
  clear hg3 e3
  generalize (w.alloc (.cells (mCs a) 58)).alloc (.cells (mCs b) 58) = w1 at *
  have ca0 : w1.cell? ⟨w.heap.size, 0, none⟩ = some (.int .u64 a.f0) := (blk_cell X2.out 0).trans rfl
  have ca1 : w1.cell? ⟨w.heap.size, 1, none⟩ = some (.int .i64 a.f1) := (blk_cell X2.out 1).trans rfl
  have ca2 : w1.cell? ⟨w.heap.size, 2, none⟩ = some (.int .i64 a.f2) := (blk_cell X2.out 2).trans rfl
  have ca3 : w1.cell? ⟨w.heap.size, 3, none⟩ = some (.string a.f3) := (blk_cell X2.out 3).trans rfl
  have ca4 : w1.cell? ⟨w.heap.size, 4, none⟩ = some (.string a.f4) := (blk_cell X2.out 4).trans rfl
  have ca5 : w1.cell? ⟨w.heap.size, 5, none⟩ = some (.int .u64 a.f5) := (blk_cell X2.out 5).trans rfl
  have ca6 : w1.cell? ⟨w.heap.size, 6, none⟩ = some (.int .u64 a.f6) := (blk_cell X2.out 6).trans rfl
  have cb0 : w1.cell? ⟨g3, 0, none⟩ = some (.int .u64 b.f0) := (blk_cell X3.out 0).trans rfl
  have cb1 : w1.cell? ⟨g3, 1, none⟩ = some (.int .i64 b.f1) := (blk_cell X3.out 1).trans rfl
  have cb2 : w1.cell? ⟨g3, 2, none⟩ = some (.int .i64 b.f2) := (blk_cell X3.out 2).trans rfl
  have cb3 : w1.cell? ⟨g3, 3, none⟩ = some (.string b.f3) := (blk_cell X3.out 3).trans rfl
  have cb4 : w1.cell? ⟨g3, 4, none⟩ = some (.string b.f4) := (blk_cell X3.out 4).trans rfl
  have cb5 : w1.cell? ⟨g3, 5, none⟩ = some (.int .u64 b.f5) := (blk_cell X3.out 5).trans rfl
  have cb6 : w1.cell? ⟨g3, 6, none⟩ = some (.int .u64 b.f6) := (blk_cell X3.out 6).trans rfl
  cases q1 : Op.bytesLess a.f4.toList a.f3.toList with
  | true =>
    have p1 : ¬ (Op.bytesLess a.f3.toList a.f4.toList = true ∨ a.f3.toList = a.f4.toList) := fun h => by rw [le_less] at h; rw [h] at q1; cases q1
    have s1 : Op.bytesLess a.f3.toList a.f4.toList = false := by cases hq : Op.bytesLess a.f3.toList a.f4.toList with | false => rfl | true => exact absurd (.inl hq) p1
    have t1 : ¬ a.f3.toList = a.f4.toList := fun h => p1 (.inr h)
    have u1 : (a.f3.toList == a.f4.toList) = false := beq_eq_false_iff_ne.mpr t1
    have r1 : (Op.bytesLess a.f3.toList a.f4.toList || a.f3.toList == a.f4.toList) = false := by rw [s1, u1]; rfl
    go_wp2_with fail
    refine (awake16_calls _).mono ?_
    rintro e w9 ⟨rfl, hb⟩
    have HB9 := Aside0.mk (below_step HB.out hb)
    clear hb
    go_wp2_with fail
    go_ret
    exact ⟨rfl, HB9.out⟩
  | false =>
    have QA := Aside0.mk q1
    have p1 : Op.bytesLess a.f3.toList a.f4.toList = true ∨ a.f3.toList = a.f4.toList := le_less.mpr q1
    have r1 : (Op.bytesLess a.f3.toList a.f4.toList || a.f3.toList == a.f4.toList) = true := by rw [Bool.or_eq_true, beq_iff_eq]; exact p1
    cases q2 : Op.bytesLess b.f4.toList b.f3.toList with
    | true =>
      have p2 : ¬ (Op.bytesLess b.f3.toList b.f4.toList = true ∨ b.f3.toList = b.f4.toList) := fun h => by rw [le_less] at h; rw [h] at q2; cases q2
      have s2 : Op.bytesLess b.f3.toList b.f4.toList = false := by cases hq : Op.bytesLess b.f3.toList b.f4.toList with | false => rfl | true => exact absurd (.inl hq) p2
      have t2 : ¬ b.f3.toList = b.f4.toList := fun h => p2 (.inr h)
      have u2 : (b.f3.toList == b.f4.toList) = false := beq_eq_false_iff_ne.mpr t2
      have r2 : (Op.bytesLess b.f3.toList b.f4.toList || b.f3.toList == b.f4.toList) = false := by rw [s2, u2]; rfl
      go_wp2_with fail
      refine (awake16_calls _).mono ?_
      rintro e w9 ⟨rfl, hb⟩
      have HB9 := Aside0.mk (below_step HB.out hb)
      clear hb
      go_wp2_with fail
      go_ret
      exact ⟨rfl, HB9.out⟩
    | false =>
      have QB := Aside0.mk q2
      have p2 : Op.bytesLess b.f3.toList b.f4.toList = true ∨ b.f3.toList = b.f4.toList := le_less.mpr q2
      have r2 : (Op.bytesLess b.f3.toList b.f4.toList || b.f3.toList == b.f4.toList) = true := by rw [Bool.or_eq_true, beq_iff_eq]; exact p2
      cases x1 : Op.bytesLess a.f3.toList b.f3.toList with
      | false =>
        cases q3 : Op.bytesLess b.f4.toList a.f3.toList with
        | false =>
          have p3 : Op.bytesLess a.f3.toList b.f4.toList = true ∨ a.f3.toList = b.f4.toList := le_less.mpr q3
          have r3 : (Op.bytesLess a.f3.toList b.f4.toList || a.f3.toList == b.f4.toList) = true := by rw [Bool.or_eq_true, beq_iff_eq]; exact p3
          have O1 := Aside0.mk (show overB a b = true by rw [over_ins QA.out QB.out]; unfold insB; rw [x1, q3]; rfl)
          have K1 := Aside0.mk (fun w => over_calls w a b)
          have K2 := Aside0.mk (fun w => over_calls w b a)
          have K3 := Aside0.mk (fun w => over_calls w a a)
          rw [over_sym b a] at K2
          rw [over_self QA.out] at K3
          rw [O1.out] at K1 K2

          go_wp2_with fail
          refine (K1.out _).mono ?_
          rintro e w3 ⟨rfl, hb⟩
          have Hb.f3.toList := Aside0.mk (below_step HB.out hb)
          have X23 := Aside0.mk (blk_below X2.out hb)
          have X33 := Aside0.mk (blk_below X3.out hb)
          clear hb
          clear ca0 ca1 ca2 ca3 ca4 ca5 ca6 cb0 cb1 cb2 cb3 cb4 cb5 cb6
          have ca0 : w3.cell? ⟨w.heap.size, 0, none⟩ = some (.int .u64 a.f0) := (blk_cell X23.out 0).trans rfl
          have ca1 : w3.cell? ⟨w.heap.size, 1, none⟩ = some (.int .i64 a.f1) := (blk_cell X23.out 1).trans rfl
          have ca2 : w3.cell? ⟨w.heap.size, 2, none⟩ = some (.int .i64 a.f2) := (blk_cell X23.out 2).trans rfl
          have ca3 : w3.cell? ⟨w.heap.size, 3, none⟩ = some (.string a.f3) := (blk_cell X23.out 3).trans rfl
          have ca4 : w3.cell? ⟨w.heap.size, 4, none⟩ = some (.string a.f4) := (blk_cell X23.out 4).trans rfl
          have ca5 : w3.cell? ⟨w.heap.size, 5, none⟩ = some (.int .u64 a.f5) := (blk_cell X23.out 5).trans rfl
          have ca6 : w3.cell? ⟨w.heap.size, 6, none⟩ = some (.int .u64 a.f6) := (blk_cell X23.out 6).trans rfl
          have cb0 : w3.cell? ⟨g3, 0, none⟩ = some (.int .u64 b.f0) := (blk_cell X33.out 0).trans rfl
          have cb1 : w3.cell? ⟨g3, 1, none⟩ = some (.int .i64 b.f1) := (blk_cell X33.out 1).trans rfl
          have cb2 : w3.cell? ⟨g3, 2, none⟩ = some (.int .i64 b.f2) := (blk_cell X33.out 2).trans rfl
          have cb3 : w3.cell? ⟨g3, 3, none⟩ = some (.string b.f3) := (blk_cell X33.out 3).trans rfl
          have cb4 : w3.cell? ⟨g3, 4, none⟩ = some (.string b.f4) := (blk_cell X33.out 4).trans rfl
          have cb5 : w3.cell? ⟨g3, 5, none⟩ = some (.int .u64 b.f5) := (blk_cell X33.out 5).trans rfl
          have cb6 : w3.cell? ⟨g3, 6, none⟩ = some (.int .u64 b.f6) := (blk_cell X33.out 6).trans rfl
          go_wp2_with fail
          refine (K2.out _).mono ?_
          rintro e w4 ⟨rfl, hb⟩
          have Hb.f4.toList := Aside0.mk (below_step Hb.f3.toList.out hb)
          have X24 := Aside0.mk (blk_below X23.out hb)
          have X34 := Aside0.mk (blk_below X33.out hb)
          clear hb
          clear ca0 ca1 ca2 ca3 ca4 ca5 ca6 cb0 cb1 cb2 cb3 cb4 cb5 cb6
          have ca0 : w4.cell? ⟨w.heap.size, 0, none⟩ = some (.int .u64 a.f0) := (blk_cell X24.out 0).trans rfl
          have ca1 : w4.cell? ⟨w.heap.size, 1, none⟩ = some (.int .i64 a.f1) := (blk_cell X24.out 1).trans rfl
          have ca2 : w4.cell? ⟨w.heap.size, 2, none⟩ = some (.int .i64 a.f2) := (blk_cell X24.out 2).trans rfl
          have ca3 : w4.cell? ⟨w.heap.size, 3, none⟩ = some (.string a.f3) := (blk_cell X24.out 3).trans rfl
          have ca4 : w4.cell? ⟨w.heap.size, 4, none⟩ = some (.string a.f4) := (blk_cell X24.out 4).trans rfl
          have ca5 : w4.cell? ⟨w.heap.size, 5, none⟩ = some (.int .u64 a.f5) := (blk_cell X24.out 5).trans rfl
          have ca6 : w4.cell? ⟨w.heap.size, 6, none⟩ = some (.int .u64 a.f6) := (blk_cell X24.out 6).trans rfl
          have cb0 : w4.cell? ⟨g3, 0, none⟩ = some (.int .u64 b.f0) := (blk_cell X34.out 0).trans rfl
          have cb1 : w4.cell? ⟨g3, 1, none⟩ = some (.int .i64 b.f1) := (blk_cell X34.out 1).trans rfl
          have cb2 : w4.cell? ⟨g3, 2, none⟩ = some (.int .i64 b.f2) := (blk_cell X34.out 2).trans rfl
          have cb3 : w4.cell? ⟨g3, 3, none⟩ = some (.string b.f3) := (blk_cell X34.out 3).trans rfl
          have cb4 : w4.cell? ⟨g3, 4, none⟩ = some (.string b.f4) := (blk_cell X34.out 4).trans rfl
          have cb5 : w4.cell? ⟨g3, 5, none⟩ = some (.int .u64 b.f5) := (blk_cell X34.out 5).trans rfl
          have cb6 : w4.cell? ⟨g3, 6, none⟩ = some (.int .u64 b.f6) := (blk_cell X34.out 6).trans rfl
          go_wp2_with fail
          refine (K3.out _).mono ?_
          rintro e w5 ⟨rfl, hb⟩
          have HB5 := Aside0.mk (below_step Hb.f4.toList.out hb)
          have X25 := Aside0.mk (blk_below X24.out hb)
          have X35 := Aside0.mk (blk_below X34.out hb)
          clear hb
          clear ca0 ca1 ca2 ca3 ca4 ca5 ca6 cb0 cb1 cb2 cb3 cb4 cb5 cb6
          have ca0 : w5.cell? ⟨w.heap.size, 0, none⟩ = some (.int .u64 a.f0) := (blk_cell X25.out 0).trans rfl
          have ca1 : w5.cell? ⟨w.heap.size, 1, none⟩ = some (.int .i64 a.f1) := (blk_cell X25.out 1).trans rfl
          have ca2 : w5.cell? ⟨w.heap.size, 2, none⟩ = some (.int .i64 a.f2) := (blk_cell X25.out 2).trans rfl
          have ca3 : w5.cell? ⟨w.heap.size, 3, none⟩ = some (.string a.f3) := (blk_cell X25.out 3).trans rfl
          have ca4 : w5.cell? ⟨w.heap.size, 4, none⟩ = some (.string a.f4) := (blk_cell X25.out 4).trans rfl
          have ca5 : w5.cell? ⟨w.heap.size, 5, none⟩ = some (.int .u64 a.f5) := (blk_cell X25.out 5).trans rfl
          have ca6 : w5.cell? ⟨w.heap.size, 6, none⟩ = some (.int .u64 a.f6) := (blk_cell X25.out 6).trans rfl
          have cb0 : w5.cell? ⟨g3, 0, none⟩ = some (.int .u64 b.f0) := (blk_cell X35.out 0).trans rfl
          have cb1 : w5.cell? ⟨g3, 1, none⟩ = some (.int .i64 b.f1) := (blk_cell X35.out 1).trans rfl
          have cb2 : w5.cell? ⟨g3, 2, none⟩ = some (.int .i64 b.f2) := (blk_cell X35.out 2).trans rfl
          have cb3 : w5.cell? ⟨g3, 3, none⟩ = some (.string b.f3) := (blk_cell X35.out 3).trans rfl
          have cb4 : w5.cell? ⟨g3, 4, none⟩ = some (.string b.f4) := (blk_cell X35.out 4).trans rfl
          have cb5 : w5.cell? ⟨g3, 5, none⟩ = some (.int .u64 b.f5) := (blk_cell X35.out 5).trans rfl
          have cb6 : w5.cell? ⟨g3, 6, none⟩ = some (.int .u64 b.f6) := (blk_cell X35.out 6).trans rfl
          go_wp2_with fail
          refine (awake16_calls _).mono ?_
          rintro e w9 ⟨rfl, hb⟩
          have HB9 := Aside0.mk (below_step HB5.out hb)
          clear hb
          go_wp2_with fail
          go_ret
          exact ⟨rfl, HB9.out⟩
        | true =>
          have x3 : Op.bytesLess b.f3.toList a.f3.toList = true := le_less_t q2 q3
          have p3 : ¬ (Op.bytesLess a.f3.toList b.f4.toList = true ∨ a.f3.toList = b.f4.toList) := fun h => by rw [le_less] at h; rw [h] at q3; cases q3
          have s3 : Op.bytesLess a.f3.toList b.f4.toList = false := by cases hq : Op.bytesLess a.f3.toList b.f4.toList with | false => rfl | true => exact absurd (.inl hq) p3
          have t3 : ¬ a.f3.toList = b.f4.toList := fun h => p3 (.inr h)
          have u3 : (a.f3.toList == b.f4.toList) = false := beq_eq_false_iff_ne.mpr t3
          have r3 : (Op.bytesLess a.f3.toList b.f4.toList || a.f3.toList == b.f4.toList) = false := by rw [s3, u3]; rfl
          have O1 := Aside0.mk (show overB a b = false by rw [over_ins QA.out QB.out]; unfold insB; rw [x1, q3, x3]; rfl)
          have K1 := Aside0.mk (fun w => over_calls w a b)
          have K2 := Aside0.mk (fun w => over_calls w b a)
          have K3 := Aside0.mk (fun w => over_calls w a a)
          rw [over_sym b a] at K2
          rw [over_self QA.out] at K3
          rw [O1.out] at K1 K2

          go_wp2_with fail
          refine (K1.out _).mono ?_
          rintro e w3 ⟨rfl, hb⟩
          have Hb.f3.toList := Aside0.mk (below_step HB.out hb)
          have X23 := Aside0.mk (blk_below X2.out hb)
          have X33 := Aside0.mk (blk_below X3.out hb)
          clear hb
          clear ca0 ca1 ca2 ca3 ca4 ca5 ca6 cb0 cb1 cb2 cb3 cb4 cb5 cb6
          have ca0 : w3.cell? ⟨w.heap.size, 0, none⟩ = some (.int .u64 a.f0) := (blk_cell X23.out 0).trans rfl
          have ca1 : w3.cell? ⟨w.heap.size, 1, none⟩ = some (.int .i64 a.f1) := (blk_cell X23.out 1).trans rfl
          have ca2 : w3.cell? ⟨w.heap.size, 2, none⟩ = some (.int .i64 a.f2) := (blk_cell X23.out 2).trans rfl
          have ca3 : w3.cell? ⟨w.heap.size, 3, none⟩ = some (.string a.f3) := (blk_cell X23.out 3).trans rfl
          have ca4 : w3.cell? ⟨w.heap.size, 4, none⟩ = some (.string a.f4) := (blk_cell X23.out 4).trans rfl
          have ca5 : w3.cell? ⟨w.heap.size, 5, none⟩ = some (.int .u64 a.f5) := (blk_cell X23.out 5).trans rfl
          have ca6 : w3.cell? ⟨w.heap.size, 6, none⟩ = some (.int .u64 a.f6) := (blk_cell X23.out 6).trans rfl
          have cb0 : w3.cell? ⟨g3, 0, none⟩ = some (.int .u64 b.f0) := (blk_cell X33.out 0).trans rfl
          have cb1 : w3.cell? ⟨g3, 1, none⟩ = some (.int .i64 b.f1) := (blk_cell X33.out 1).trans rfl
          have cb2 : w3.cell? ⟨g3, 2, none⟩ = some (.int .i64 b.f2) := (blk_cell X33.out 2).trans rfl
          have cb3 : w3.cell? ⟨g3, 3, none⟩ = some (.string b.f3) := (blk_cell X33.out 3).trans rfl
          have cb4 : w3.cell? ⟨g3, 4, none⟩ = some (.string b.f4) := (blk_cell X33.out 4).trans rfl
          have cb5 : w3.cell? ⟨g3, 5, none⟩ = some (.int .u64 b.f5) := (blk_cell X33.out 5).trans rfl
          have cb6 : w3.cell? ⟨g3, 6, none⟩ = some (.int .u64 b.f6) := (blk_cell X33.out 6).trans rfl
          go_wp2_with fail
          refine (K2.out _).mono ?_
          rintro e w4 ⟨rfl, hb⟩
          have Hb.f4.toList := Aside0.mk (below_step Hb.f3.toList.out hb)
          have X24 := Aside0.mk (blk_below X23.out hb)
          have X34 := Aside0.mk (blk_below X33.out hb)
          clear hb
          clear ca0 ca1 ca2 ca3 ca4 ca5 ca6 cb0 cb1 cb2 cb3 cb4 cb5 cb6
          have ca0 : w4.cell? ⟨w.heap.size, 0, none⟩ = some (.int .u64 a.f0) := (blk_cell X24.out 0).trans rfl
          have ca1 : w4.cell? ⟨w.heap.size, 1, none⟩ = some (.int .i64 a.f1) := (blk_cell X24.out 1).trans rfl
          have ca2 : w4.cell? ⟨w.heap.size, 2, none⟩ = some (.int .i64 a.f2) := (blk_cell X24.out 2).trans rfl
          have ca3 : w4.cell? ⟨w.heap.size, 3, none⟩ = some (.string a.f3) := (blk_cell X24.out 3).trans rfl
          have ca4 : w4.cell? ⟨w.heap.size, 4, none⟩ = some (.string a.f4) := (blk_cell X24.out 4).trans rfl
          have ca5 : w4.cell? ⟨w.heap.size, 5, none⟩ = some (.int .u64 a.f5) := (blk_cell X24.out 5).trans rfl
          have ca6 : w4.cell? ⟨w.heap.size, 6, none⟩ = some (.int .u64 a.f6) := (blk_cell X24.out 6).trans rfl
          have cb0 : w4.cell? ⟨g3, 0, none⟩ = some (.int .u64 b.f0) := (blk_cell X34.out 0).trans rfl
          have cb1 : w4.cell? ⟨g3, 1, none⟩ = some (.int .i64 b.f1) := (blk_cell X34.out 1).trans rfl
          have cb2 : w4.cell? ⟨g3, 2, none⟩ = some (.int .i64 b.f2) := (blk_cell X34.out 2).trans rfl
          have cb3 : w4.cell? ⟨g3, 3, none⟩ = some (.string b.f3) := (blk_cell X34.out 3).trans rfl
          have cb4 : w4.cell? ⟨g3, 4, none⟩ = some (.string b.f4) := (blk_cell X34.out 4).trans rfl
          have cb5 : w4.cell? ⟨g3, 5, none⟩ = some (.int .u64 b.f5) := (blk_cell X34.out 5).trans rfl
          have cb6 : w4.cell? ⟨g3, 6, none⟩ = some (.int .u64 b.f6) := (blk_cell X34.out 6).trans rfl
          go_wp2_with fail
          refine (K3.out _).mono ?_
          rintro e w5 ⟨rfl, hb⟩
          have HB5 := Aside0.mk (below_step Hb.f4.toList.out hb)
          have X25 := Aside0.mk (blk_below X24.out hb)
          have X35 := Aside0.mk (blk_below X34.out hb)
          clear hb
          clear ca0 ca1 ca2 ca3 ca4 ca5 ca6 cb0 cb1 cb2 cb3 cb4 cb5 cb6
          have ca0 : w5.cell? ⟨w.heap.size, 0, none⟩ = some (.int .u64 a.f0) := (blk_cell X25.out 0).trans rfl
          have ca1 : w5.cell? ⟨w.heap.size, 1, none⟩ = some (.int .i64 a.f1) := (blk_cell X25.out 1).trans rfl
          have ca2 : w5.cell? ⟨w.heap.size, 2, none⟩ = some (.int .i64 a.f2) := (blk_cell X25.out 2).trans rfl
          have ca3 : w5.cell? ⟨w.heap.size, 3, none⟩ = some (.string a.f3) := (blk_cell X25.out 3).trans rfl
          have ca4 : w5.cell? ⟨w.heap.size, 4, none⟩ = some (.string a.f4) := (blk_cell X25.out 4).trans rfl
          have ca5 : w5.cell? ⟨w.heap.size, 5, none⟩ = some (.int .u64 a.f5) := (blk_cell X25.out 5).trans rfl
          have ca6 : w5.cell? ⟨w.heap.size, 6, none⟩ = some (.int .u64 a.f6) := (blk_cell X25.out 6).trans rfl
          have cb0 : w5.cell? ⟨g3, 0, none⟩ = some (.int .u64 b.f0) := (blk_cell X35.out 0).trans rfl
          have cb1 : w5.cell? ⟨g3, 1, none⟩ = some (.int .i64 b.f1) := (blk_cell X35.out 1).trans rfl
          have cb2 : w5.cell? ⟨g3, 2, none⟩ = some (.int .i64 b.f2) := (blk_cell X35.out 2).trans rfl
          have cb3 : w5.cell? ⟨g3, 3, none⟩ = some (.string b.f3) := (blk_cell X35.out 3).trans rfl
          have cb4 : w5.cell? ⟨g3, 4, none⟩ = some (.string b.f4) := (blk_cell X35.out 4).trans rfl
          have cb5 : w5.cell? ⟨g3, 5, none⟩ = some (.int .u64 b.f5) := (blk_cell X35.out 5).trans rfl
          have cb6 : w5.cell? ⟨g3, 6, none⟩ = some (.int .u64 b.f6) := (blk_cell X35.out 6).trans rfl
          go_wp2_with fail
          refine (awake16_calls _).mono ?_
          rintro e w9 ⟨rfl, hb⟩
          have HB9 := Aside0.mk (below_step HB5.out hb)
          clear hb
          go_wp2_with fail
          go_ret
          exact ⟨rfl, HB9.out⟩
      | true =>
        have x3 : Op.bytesLess b.f3.toList a.f3.toList = false := by
          cases q : Op.bytesLess b.f3.toList a.f3.toList with
          | false => rfl
          | true => have := less_trans x1 q; rw [less_irr] at this; cases this
        cases q4 : Op.bytesLess a.f4.toList b.f3.toList with
        | false =>
          have p4 : Op.bytesLess b.f3.toList a.f4.toList = true ∨ b.f3.toList = a.f4.toList := le_less.mpr q4
          have r4 : (Op.bytesLess b.f3.toList a.f4.toList || b.f3.toList == a.f4.toList) = true := by rw [Bool.or_eq_true, beq_iff_eq]; exact p4
          have O1 := Aside0.mk (show overB a b = true by rw [over_ins QA.out QB.out]; unfold insB; rw [x1, x3, q4]; rfl)
          have K1 := Aside0.mk (fun w => over_calls w a b)
          have K2 := Aside0.mk (fun w => over_calls w b a)
          have K3 := Aside0.mk (fun w => over_calls w a a)
          rw [over_sym b a] at K2
          rw [over_self QA.out] at K3
          rw [O1.out] at K1 K2

          go_wp2_with fail
          refine (K1.out _).mono ?_
          rintro e w3 ⟨rfl, hb⟩
          have Hb.f3.toList := Aside0.mk (below_step HB.out hb)
          have X23 := Aside0.mk (blk_below X2.out hb)
          have X33 := Aside0.mk (blk_below X3.out hb)
          clear hb
          clear ca0 ca1 ca2 ca3 ca4 ca5 ca6 cb0 cb1 cb2 cb3 cb4 cb5 cb6
          have ca0 : w3.cell? ⟨w.heap.size, 0, none⟩ = some (.int .u64 a.f0) := (blk_cell X23.out 0).trans rfl
          have ca1 : w3.cell? ⟨w.heap.size, 1, none⟩ = some (.int .i64 a.f1) := (blk_cell X23.out 1).trans rfl
          have ca2 : w3.cell? ⟨w.heap.size, 2, none⟩ = some (.int .i64 a.f2) := (blk_cell X23.out 2).trans rfl
          have ca3 : w3.cell? ⟨w.heap.size, 3, none⟩ = some (.string a.f3) := (blk_cell X23.out 3).trans rfl
          have ca4 : w3.cell? ⟨w.heap.size, 4, none⟩ = some (.string a.f4) := (blk_cell X23.out 4).trans rfl
          have ca5 : w3.cell? ⟨w.heap.size, 5, none⟩ = some (.int .u64 a.f5) := (blk_cell X23.out 5).trans rfl
          have ca6 : w3.cell? ⟨w.heap.size, 6, none⟩ = some (.int .u64 a.f6) := (blk_cell X23.out 6).trans rfl
          have cb0 : w3.cell? ⟨g3, 0, none⟩ = some (.int .u64 b.f0) := (blk_cell X33.out 0).trans rfl
          have cb1 : w3.cell? ⟨g3, 1, none⟩ = some (.int .i64 b.f1) := (blk_cell X33.out 1).trans rfl
          have cb2 : w3.cell? ⟨g3, 2, none⟩ = some (.int .i64 b.f2) := (blk_cell X33.out 2).trans rfl
          have cb3 : w3.cell? ⟨g3, 3, none⟩ = some (.string b.f3) := (blk_cell X33.out 3).trans rfl
          have cb4 : w3.cell? ⟨g3, 4, none⟩ = some (.string b.f4) := (blk_cell X33.out 4).trans rfl
          have cb5 : w3.cell? ⟨g3, 5, none⟩ = some (.int .u64 b.f5) := (blk_cell X33.out 5).trans rfl
          have cb6 : w3.cell? ⟨g3, 6, none⟩ = some (.int .u64 b.f6) := (blk_cell X33.out 6).trans rfl
          go_wp2_with fail
          refine (K2.out _).mono ?_
          rintro e w4 ⟨rfl, hb⟩
          have Hb.f4.toList := Aside0.mk (below_step Hb.f3.toList.out hb)
          have X24 := Aside0.mk (blk_below X23.out hb)
          have X34 := Aside0.mk (blk_below X33.out hb)
          clear hb
          clear ca0 ca1 ca2 ca3 ca4 ca5 ca6 cb0 cb1 cb2 cb3 cb4 cb5 cb6
          have ca0 : w4.cell? ⟨w.heap.size, 0, none⟩ = some (.int .u64 a.f0) := (blk_cell X24.out 0).trans rfl
          have ca1 : w4.cell? ⟨w.heap.size, 1, none⟩ = some (.int .i64 a.f1) := (blk_cell X24.out 1).trans rfl
          have ca2 : w4.cell? ⟨w.heap.size, 2, none⟩ = some (.int .i64 a.f2) := (blk_cell X24.out 2).trans rfl
          have ca3 : w4.cell? ⟨w.heap.size, 3, none⟩ = some (.string a.f3) := (blk_cell X24.out 3).trans rfl
          have ca4 : w4.cell? ⟨w.heap.size, 4, none⟩ = some (.string a.f4) := (blk_cell X24.out 4).trans rfl
          have ca5 : w4.cell? ⟨w.heap.size, 5, none⟩ = some (.int .u64 a.f5) := (blk_cell X24.out 5).trans rfl
          have ca6 : w4.cell? ⟨w.heap.size, 6, none⟩ = some (.int .u64 a.f6) := (blk_cell X24.out 6).trans rfl
          have cb0 : w4.cell? ⟨g3, 0, none⟩ = some (.int .u64 b.f0) := (blk_cell X34.out 0).trans rfl
          have cb1 : w4.cell? ⟨g3, 1, none⟩ = some (.int .i64 b.f1) := (blk_cell X34.out 1).trans rfl
          have cb2 : w4.cell? ⟨g3, 2, none⟩ = some (.int .i64 b.f2) := (blk_cell X34.out 2).trans rfl
          have cb3 : w4.cell? ⟨g3, 3, none⟩ = some (.string b.f3) := (blk_cell X34.out 3).trans rfl
          have cb4 : w4.cell? ⟨g3, 4, none⟩ = some (.string b.f4) := (blk_cell X34.out 4).trans rfl
          have cb5 : w4.cell? ⟨g3, 5, none⟩ = some (.int .u64 b.f5) := (blk_cell X34.out 5).trans rfl
          have cb6 : w4.cell? ⟨g3, 6, none⟩ = some (.int .u64 b.f6) := (blk_cell X34.out 6).trans rfl
          go_wp2_with fail
          refine (K3.out _).mono ?_
          rintro e w5 ⟨rfl, hb⟩
          have HB5 := Aside0.mk (below_step Hb.f4.toList.out hb)
          have X25 := Aside0.mk (blk_below X24.out hb)
          have X35 := Aside0.mk (blk_below X34.out hb)
          clear hb
          clear ca0 ca1 ca2 ca3 ca4 ca5 ca6 cb0 cb1 cb2 cb3 cb4 cb5 cb6
          have ca0 : w5.cell? ⟨w.heap.size, 0, none⟩ = some (.int .u64 a.f0) := (blk_cell X25.out 0).trans rfl
          have ca1 : w5.cell? ⟨w.heap.size, 1, none⟩ = some (.int .i64 a.f1) := (blk_cell X25.out 1).trans rfl
          have ca2 : w5.cell? ⟨w.heap.size, 2, none⟩ = some (.int .i64 a.f2) := (blk_cell X25.out 2).trans rfl
          have ca3 : w5.cell? ⟨w.heap.size, 3, none⟩ = some (.string a.f3) := (blk_cell X25.out 3).trans rfl
          have ca4 : w5.cell? ⟨w.heap.size, 4, none⟩ = some (.string a.f4) := (blk_cell X25.out 4).trans rfl
          have ca5 : w5.cell? ⟨w.heap.size, 5, none⟩ = some (.int .u64 a.f5) := (blk_cell X25.out 5).trans rfl
          have ca6 : w5.cell? ⟨w.heap.size, 6, none⟩ = some (.int .u64 a.f6) := (blk_cell X25.out 6).trans rfl
          have cb0 : w5.cell? ⟨g3, 0, none⟩ = some (.int .u64 b.f0) := (blk_cell X35.out 0).trans rfl
          have cb1 : w5.cell? ⟨g3, 1, none⟩ = some (.int .i64 b.f1) := (blk_cell X35.out 1).trans rfl
          have cb2 : w5.cell? ⟨g3, 2, none⟩ = some (.int .i64 b.f2) := (blk_cell X35.out 2).trans rfl
          have cb3 : w5.cell? ⟨g3, 3, none⟩ = some (.string b.f3) := (blk_cell X35.out 3).trans rfl
          have cb4 : w5.cell? ⟨g3, 4, none⟩ = some (.string b.f4) := (blk_cell X35.out 4).trans rfl
          have cb5 : w5.cell? ⟨g3, 5, none⟩ = some (.int .u64 b.f5) := (blk_cell X35.out 5).trans rfl
          have cb6 : w5.cell? ⟨g3, 6, none⟩ = some (.int .u64 b.f6) := (blk_cell X35.out 6).trans rfl
          go_wp2_with fail
          refine (awake16_calls _).mono ?_
          rintro e w9 ⟨rfl, hb⟩
          have HB9 := Aside0.mk (below_step HB5.out hb)
          clear hb
          go_wp2_with fail
          go_ret
          exact ⟨rfl, HB9.out⟩
        | true =>
          have p4 : ¬ (Op.bytesLess b.f3.toList a.f4.toList = true ∨ b.f3.toList = a.f4.toList) := fun h => by rw [le_less] at h; rw [h] at q4; cases q4
          have s4 : Op.bytesLess b.f3.toList a.f4.toList = false := by cases hq : Op.bytesLess b.f3.toList a.f4.toList with | false => rfl | true => exact absurd (.inl hq) p4
          have t4 : ¬ b.f3.toList = a.f4.toList := fun h => p4 (.inr h)
          have u4 : (b.f3.toList == a.f4.toList) = false := beq_eq_false_iff_ne.mpr t4
          have r4 : (Op.bytesLess b.f3.toList a.f4.toList || b.f3.toList == a.f4.toList) = false := by rw [s4, u4]; rfl
          have O1 := Aside0.mk (show overB a b = false by rw [over_ins QA.out QB.out]; unfold insB; rw [x1, x3, q4]; rfl)
          have K1 := Aside0.mk (fun w => over_calls w a b)
          have K2 := Aside0.mk (fun w => over_calls w b a)
          have K3 := Aside0.mk (fun w => over_calls w a a)
          rw [over_sym b a] at K2
          rw [over_self QA.out] at K3
          rw [O1.out] at K1 K2

          go_wp2_with fail
          refine (K1.out _).mono ?_
          rintro e w3 ⟨rfl, hb⟩
          have Hb.f3.toList := Aside0.mk (below_step HB.out hb)
          have X23 := Aside0.mk (blk_below X2.out hb)
          have X33 := Aside0.mk (blk_below X3.out hb)
          clear hb
          clear ca0 ca1 ca2 ca3 ca4 ca5 ca6 cb0 cb1 cb2 cb3 cb4 cb5 cb6
          have ca0 : w3.cell? ⟨w.heap.size, 0, none⟩ = some (.int .u64 a.f0) := (blk_cell X23.out 0).trans rfl
          have ca1 : w3.cell? ⟨w.heap.size, 1, none⟩ = some (.int .i64 a.f1) := (blk_cell X23.out 1).trans rfl
          have ca2 : w3.cell? ⟨w.heap.size, 2, none⟩ = some (.int .i64 a.f2) := (blk_cell X23.out 2).trans rfl
          have ca3 : w3.cell? ⟨w.heap.size, 3, none⟩ = some (.string a.f3) := (blk_cell X23.out 3).trans rfl
          have ca4 : w3.cell? ⟨w.heap.size, 4, none⟩ = some (.string a.f4) := (blk_cell X23.out 4).trans rfl
          have ca5 : w3.cell? ⟨w.heap.size, 5, none⟩ = some (.int .u64 a.f5) := (blk_cell X23.out 5).trans rfl
          have ca6 : w3.cell? ⟨w.heap.size, 6, none⟩ = some (.int .u64 a.f6) := (blk_cell X23.out 6).trans rfl
          have cb0 : w3.cell? ⟨g3, 0, none⟩ = some (.int .u64 b.f0) := (blk_cell X33.out 0).trans rfl
          have cb1 : w3.cell? ⟨g3, 1, none⟩ = some (.int .i64 b.f1) := (blk_cell X33.out 1).trans rfl
          have cb2 : w3.cell? ⟨g3, 2, none⟩ = some (.int .i64 b.f2) := (blk_cell X33.out 2).trans rfl
          have cb3 : w3.cell? ⟨g3, 3, none⟩ = some (.string b.f3) := (blk_cell X33.out 3).trans rfl
          have cb4 : w3.cell? ⟨g3, 4, none⟩ = some (.string b.f4) := (blk_cell X33.out 4).trans rfl
          have cb5 : w3.cell? ⟨g3, 5, none⟩ = some (.int .u64 b.f5) := (blk_cell X33.out 5).trans rfl
          have cb6 : w3.cell? ⟨g3, 6, none⟩ = some (.int .u64 b.f6) := (blk_cell X33.out 6).trans rfl
          go_wp2_with fail
          refine (K2.out _).mono ?_
          rintro e w4 ⟨rfl, hb⟩
          have Hb.f4.toList := Aside0.mk (below_step Hb.f3.toList.out hb)
          have X24 := Aside0.mk (blk_below X23.out hb)
          have X34 := Aside0.mk (blk_below X33.out hb)
          clear hb
          clear ca0 ca1 ca2 ca3 ca4 ca5 ca6 cb0 cb1 cb2 cb3 cb4 cb5 cb6
          have ca0 : w4.cell? ⟨w.heap.size, 0, none⟩ = some (.int .u64 a.f0) := (blk_cell X24.out 0).trans rfl
          have ca1 : w4.cell? ⟨w.heap.size, 1, none⟩ = some (.int .i64 a.f1) := (blk_cell X24.out 1).trans rfl
          have ca2 : w4.cell? ⟨w.heap.size, 2, none⟩ = some (.int .i64 a.f2) := (blk_cell X24.out 2).trans rfl
          have ca3 : w4.cell? ⟨w.heap.size, 3, none⟩ = some (.string a.f3) := (blk_cell X24.out 3).trans rfl
          have ca4 : w4.cell? ⟨w.heap.size, 4, none⟩ = some (.string a.f4) := (blk_cell X24.out 4).trans rfl
          have ca5 : w4.cell? ⟨w.heap.size, 5, none⟩ = some (.int .u64 a.f5) := (blk_cell X24.out 5).trans rfl
          have ca6 : w4.cell? ⟨w.heap.size, 6, none⟩ = some (.int .u64 a.f6) := (blk_cell X24.out 6).trans rfl
          have cb0 : w4.cell? ⟨g3, 0, none⟩ = some (.int .u64 b.f0) := (blk_cell X34.out 0).trans rfl
          have cb1 : w4.cell? ⟨g3, 1, none⟩ = some (.int .i64 b.f1) := (blk_cell X34.out 1).trans rfl
          have cb2 : w4.cell? ⟨g3, 2, none⟩ = some (.int .i64 b.f2) := (blk_cell X34.out 2).trans rfl
          have cb3 : w4.cell? ⟨g3, 3, none⟩ = some (.string b.f3) := (blk_cell X34.out 3).trans rfl
          have cb4 : w4.cell? ⟨g3, 4, none⟩ = some (.string b.f4) := (blk_cell X34.out 4).trans rfl
          have cb5 : w4.cell? ⟨g3, 5, none⟩ = some (.int .u64 b.f5) := (blk_cell X34.out 5).trans rfl
          have cb6 : w4.cell? ⟨g3, 6, none⟩ = some (.int .u64 b.f6) := (blk_cell X34.out 6).trans rfl
          go_wp2_with fail
          refine (K3.out _).mono ?_
          rintro e w5 ⟨rfl, hb⟩
          have HB5 := Aside0.mk (below_step Hb.f4.toList.out hb)
          have X25 := Aside0.mk (blk_below X24.out hb)
          have X35 := Aside0.mk (blk_below X34.out hb)
          clear hb
          clear ca0 ca1 ca2 ca3 ca4 ca5 ca6 cb0 cb1 cb2 cb3 cb4 cb5 cb6
          have ca0 : w5.cell? ⟨w.heap.size, 0, none⟩ = some (.int .u64 a.f0) := (blk_cell X25.out 0).trans rfl
          have ca1 : w5.cell? ⟨w.heap.size, 1, none⟩ = some (.int .i64 a.f1) := (blk_cell X25.out 1).trans rfl
          have ca2 : w5.cell? ⟨w.heap.size, 2, none⟩ = some (.int .i64 a.f2) := (blk_cell X25.out 2).trans rfl
          have ca3 : w5.cell? ⟨w.heap.size, 3, none⟩ = some (.string a.f3) := (blk_cell X25.out 3).trans rfl
          have ca4 : w5.cell? ⟨w.heap.size, 4, none⟩ = some (.string a.f4) := (blk_cell X25.out 4).trans rfl
          have ca5 : w5.cell? ⟨w.heap.size, 5, none⟩ = some (.int .u64 a.f5) := (blk_cell X25.out 5).trans rfl
          have ca6 : w5.cell? ⟨w.heap.size, 6, none⟩ = some (.int .u64 a.f6) := (blk_cell X25.out 6).trans rfl
          have cb0 : w5.cell? ⟨g3, 0, none⟩ = some (.int .u64 b.f0) := (blk_cell X35.out 0).trans rfl
          have cb1 : w5.cell? ⟨g3, 1, none⟩ = some (.int .i64 b.f1) := (blk_cell X35.out 1).trans rfl
          have cb2 : w5.cell? ⟨g3, 2, none⟩ = some (.int .i64 b.f2) := (blk_cell X35.out 2).trans rfl
          have cb3 : w5.cell? ⟨g3, 3, none⟩ = some (.string b.f3) := (blk_cell X35.out 3).trans rfl
          have cb4 : w5.cell? ⟨g3, 4, none⟩ = some (.string b.f4) := (blk_cell X35.out 4).trans rfl
          have cb5 : w5.cell? ⟨g3, 5, none⟩ = some (.int .u64 b.f5) := (blk_cell X35.out 5).trans rfl
          have cb6 : w5.cell? ⟨g3, 6, none⟩ = some (.int .u64 b.f6) := (blk_cell X35.out 6).trans rfl
          go_wp2_with fail
          refine (awake16_calls _).mono ?_
          rintro e w9 ⟨rfl, hb⟩
          have HB9 := Aside0.mk (below_step HB5.out hb)
          clear hb
          go_wp2_with fail
          go_ret
          exact ⟨rfl, HB9.out⟩
end Go.Proofs.Ytkjepfofiegcdaa.V
