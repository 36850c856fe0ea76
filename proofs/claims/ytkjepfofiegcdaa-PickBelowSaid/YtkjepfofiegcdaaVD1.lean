import Derived.Test.YtkjepfofiegcdaaVB8
/- Are there too many tables (freshetlaw16.many, freshetlaw14.many), walked. Conditions: none. -/
namespace Go.Proofs.Ytkjepfofiegcdaa.V
set_option linter.unusedVariables false
set_option linter.unusedSimpArgs false
open Go.RowKit Go.Proofs.YtkjepfofiegcdaaW.PrintWords Go.Proofs.YtkjepfofiegcdaaW.PrintLast Go.Proofs.YtkjepfofiegcdaaW.PrintMore Go.Proofs.Ytkjepfofiegcdaa.PB14
def manyP (v : Ver) : Prop := ∃ i, i < 4 ∧ 80 < (v.lv i).length
instance (v : Ver) : Decidable (manyP v) := decidable_of_iff (¬ ∀ i, i < 4 → (v.lv i).length ≤ 80) ⟨fun h => by
  rw [Classical.not_forall] at h
  obtain ⟨i, hi⟩ := h
  rw [Classical.not_imp] at hi
  exact ⟨i, hi.1, by omega⟩, fun ⟨i, hi, h2⟩ h => by have := h i hi; omega⟩
set_option maxHeartbeats 4000000 in
set_option maxRecDepth 100000 in
theorem many33_calls (w : World) (v : Ver) (p : Pl) : Calls Try.prog 33 #[.agg (vCs v p)] w fun e w' => e = .returned (.bool (decide (manyP v))) ∧ Below w.heap.size w w' := by
  have HB := Aside0.mk ((Below.refl w.heap.size w).alloc (Nat.le_refl _) (.cells (vCs v p) 26))
  have BX := Aside0.mk (blk_new w (.cells (vCs v p) 26))
  go_enter Try.func33, Try.ntmps33
  go_wp2_with fail
  generalize w.alloc (.cells (vCs v p) 26) = w1 at *
  go_loopg [3] 4 (fun kq v3 w' => ∃ i : Nat, v3 = .int .i64 (i : Int) ∧ Aside0 (kq + i = 4) ∧ Aside0 (Below w.heap.size w w') ∧ Aside0 (w'.heap[w.heap.size]? = some (.cells (vCs v p) 26 (0, 0))) ∧ Aside0 (∀ j, j < i → (v.lv j).length ≤ 80))
  case atStart => exact ⟨0, rfl, ⟨by omega⟩, HB, BX, ⟨fun j hj => by omega⟩⟩
  case round =>
    clear HB BX
    obtain ⟨i, rfl, HK, HB, BX, HJ⟩ := hrel
    cases gk with
    | zero =>
      have ei : i = 4 := by have := HK.out; omega
      subst ei
      go_wp2_with fail
      go_ret
      exact ⟨ret_bool (by symm; rw [decide_eq_false_iff_not]; rintro ⟨j, hj, h2⟩; have := HJ.out j hj; omega), HB.out⟩
    | succ q =>
      have hi : i < 4 := by have := HK.out; omega
      have HI := Aside0.mk hi
      have d0 : decide ((i : Int) < 4) = true := decide_eq_true (by omega)
      have i0 : 0 ≤ (i : Int) := Int.natCast_nonneg _
      have i1 : (i : Int) < 4 := by omega
      have hv := vcell BX.out i hi
      have ew : wrap64 ((i : Int) + 1) = ((i + 1 : Nat) : Int) := by unfold wrap64; omega
      obtain ⟨l, hl⟩ : ∃ l, l = v.lv i := ⟨_, rfl⟩
      rw [← hl] at hv
      have LE := Aside0.mk hl
      clear hl hi
      by_cases h80 : (l.length : Int) > 80
      · have t0 : decide (80 < (l.length : Int)) = true := decide_eq_true h80
        have t1 : decide (80 < l.length) = true := decide_eq_true (by omega)
        have M := Aside0.mk (show manyP v from ⟨i, HI.out, by rw [← LE.out]; omega⟩)
        clear h80
        go_wp2_with fail
        go_ret
        exact ⟨ret_bool (by symm; rw [decide_eq_true_iff]; exact M.out), HB.out⟩
      · have t0 : decide (80 < (l.length : Int)) = false := decide_eq_false h80
        have t1 : decide (80 < l.length) = false := decide_eq_false (by omega)
        have M := Aside0.mk (show (v.lv i).length ≤ 80 by rw [← LE.out]; omega)
        clear h80
        go_wp2_with fail
        try rw [ew]
        go_roundg q
        case measure => omega
        case rel => exact ⟨i + 1, rfl, ⟨by have := HK.out; omega⟩, HB, BX, ⟨fun j hj => by
          by_cases e : j = i
          · subst e; exact M.out
          · exact HJ.out j (by omega)⟩⟩
set_option maxHeartbeats 4000000 in
set_option maxRecDepth 100000 in
theorem many51_calls (w : World) (v : Ver) (p : Pl) : Calls Try.prog 51 #[.agg (vCs v p)] w fun e w' => e = .returned (.bool (decide (manyP v))) ∧ Below w.heap.size w w' := by
  have HB := Aside0.mk ((Below.refl w.heap.size w).alloc (Nat.le_refl _) (.cells (vCs v p) 26))
  have BX := Aside0.mk (blk_new w (.cells (vCs v p) 26))
  go_enter Try.func51, Try.ntmps51
  go_wp2_with fail
  generalize w.alloc (.cells (vCs v p) 26) = w1 at *
  go_loopg [3] 4 (fun kq v3 w' => ∃ i : Nat, v3 = .int .i64 (i : Int) ∧ Aside0 (kq + i = 4) ∧ Aside0 (Below w.heap.size w w') ∧ Aside0 (w'.heap[w.heap.size]? = some (.cells (vCs v p) 26 (0, 0))) ∧ Aside0 (∀ j, j < i → (v.lv j).length ≤ 80))
  case atStart => exact ⟨0, rfl, ⟨by omega⟩, HB, BX, ⟨fun j hj => by omega⟩⟩
  case round =>
    clear HB BX
    obtain ⟨i, rfl, HK, HB, BX, HJ⟩ := hrel
    cases gk with
    | zero =>
      have ei : i = 4 := by have := HK.out; omega
      subst ei
      go_wp2_with fail
      go_ret
      exact ⟨ret_bool (by symm; rw [decide_eq_false_iff_not]; rintro ⟨j, hj, h2⟩; have := HJ.out j hj; omega), HB.out⟩
    | succ q =>
      have hi : i < 4 := by have := HK.out; omega
      have HI := Aside0.mk hi
      have d0 : decide ((i : Int) < 4) = true := decide_eq_true (by omega)
      have i0 : 0 ≤ (i : Int) := Int.natCast_nonneg _
      have i1 : (i : Int) < 4 := by omega
      have hv := vcell BX.out i hi
      have ew : wrap64 ((i : Int) + 1) = ((i + 1 : Nat) : Int) := by unfold wrap64; omega
      obtain ⟨l, hl⟩ : ∃ l, l = v.lv i := ⟨_, rfl⟩
      rw [← hl] at hv
      have LE := Aside0.mk hl
      clear hl hi
      by_cases h80 : (l.length : Int) > 80
      · have t0 : decide (80 < (l.length : Int)) = true := decide_eq_true h80
        have t1 : decide (80 < l.length) = true := decide_eq_true (by omega)
        have M := Aside0.mk (show manyP v from ⟨i, HI.out, by rw [← LE.out]; omega⟩)
        clear h80
        go_wp2_with fail
        go_ret
        exact ⟨ret_bool (by symm; rw [decide_eq_true_iff]; exact M.out), HB.out⟩
      · have t0 : decide (80 < (l.length : Int)) = false := decide_eq_false h80
        have t1 : decide (80 < l.length) = false := decide_eq_false (by omega)
        have M := Aside0.mk (show (v.lv i).length ≤ 80 by rw [← LE.out]; omega)
        clear h80
        go_wp2_with fail
        try rw [ew]
        go_roundg q
        case measure => omega
        case rel => exact ⟨i + 1, rfl, ⟨by have := HK.out; omega⟩, HB, BX, ⟨fun j hj => by
          by_cases e : j = i
          · subst e; exact M.out
          · exact HJ.out j (by omega)⟩⟩
end Go.Proofs.Ytkjepfofiegcdaa.V
