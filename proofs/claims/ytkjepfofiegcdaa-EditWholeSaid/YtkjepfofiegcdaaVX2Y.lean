import Derived.Test.YtkjepfofiegcdaaVX1Y
import Derived.Test.YtkjepfofiegcdaaWEqStruct
/- Texts of the walks joined into one (VB14, VB15, VB16, VB17, VC1, VC2, VD1, VD2, VD3, VE1). Conditions: told at each. -/
namespace Go.Proofs.Ytkjepfofiegcdaa.V
section
/- VB14: pick.Pick, walked. Conditions: none. -/
set_option linter.unusedVariables false
set_option linter.unusedSimpArgs false
open Go.RowKit Go.Proofs.YtkjepfofiegcdaaW.PrintWords Go.Proofs.YtkjepfofiegcdaaW.PrintLast Go.Proofs.YtkjepfofiegcdaaW.PrintMore Go.Proofs.Ytkjepfofiegcdaa.PB14
instance : DecidableEq S58 := fun a b => if h : a.f0 = b.f0 ∧ a.f1 = b.f1 ∧ a.f2 = b.f2 ∧ a.f3 = b.f3 ∧ a.f4 = b.f4 ∧ a.f5 = b.f5 ∧ a.f6 = b.f6 then isTrue (by cases a; cases b; simp at h; obtain ⟨rfl, rfl, rfl, rfl, rfl, rfl, rfl⟩ := h; rfl) else isFalse (fun e => h (by subst e; simp))
end
section
/- VB15: pick.Bottom, walked. Conditions: none. -/
set_option linter.unusedVariables false
set_option linter.unusedSimpArgs false
open Go.RowKit Go.Proofs.YtkjepfofiegcdaaW.PrintWords Go.Proofs.YtkjepfofiegcdaaW.PrintLast Go.Proofs.YtkjepfofiegcdaaW.PrintMore Go.Proofs.Ytkjepfofiegcdaa.PB14
def askP (v : Ver) (lev : Int) : Prop := rightP v ∧ 0 ≤ lev ∧ lev < 3
instance (v : Ver) (lev : Int) : Decidable (askP v lev) := by unfold askP; infer_instance
def BotP (v : Ver) (lev : Nat) (L : List S58) : Prop := L = [] ∨ ∀ i, i < 4 → lev + 2 ≤ i → ∀ m, m ∈ v.lv i → overB m (spanM L) = false
instance (v : Ver) (lev : Nat) (L : List S58) : Decidable (BotP v lev L) := by unfold BotP; infer_instance
end
section
/- VB16: The version of the document's example (sample), walked. Conditions: none. -/
set_option linter.unusedVariables false
set_option linter.unusedSimpArgs false
open Go.RowKit Go.Proofs.YtkjepfofiegcdaaW.PrintWords Go.Proofs.YtkjepfofiegcdaaW.PrintLast Go.Proofs.YtkjepfofiegcdaaW.PrintMore Go.Proofs.Ytkjepfofiegcdaa.PB14
theorem size26 : (Try.prog.info? 26).map (·.size) = some 7 := by kernel_rfl
end
section
/- VB17: An answer that the document fixes (awake of layer 16), walked. Conditions: none. -/
set_option linter.unusedVariables false
set_option linter.unusedSimpArgs false
open Go.RowKit Go.Proofs.YtkjepfofiegcdaaW.PrintWords Go.Proofs.YtkjepfofiegcdaaW.PrintLast Go.Proofs.YtkjepfofiegcdaaW.PrintMore Go.Proofs.Ytkjepfofiegcdaa.PB14
end
section
/- VC1: The law PickOverlap, walked. Conditions: none. -/
set_option linter.unusedVariables false
set_option linter.unusedSimpArgs false
open Go.RowKit Go.Proofs.YtkjepfofiegcdaaW.PrintWords Go.Proofs.YtkjepfofiegcdaaW.PrintLast Go.Proofs.YtkjepfofiegcdaaW.PrintMore Go.Proofs.Ytkjepfofiegcdaa.PB14
end
section
/- VC2: The law PickMeets, walked. Conditions: none. -/
set_option linter.unusedVariables false
set_option linter.unusedSimpArgs false
open Go.RowKit Go.Proofs.YtkjepfofiegcdaaW.PrintWords Go.Proofs.YtkjepfofiegcdaaW.PrintLast Go.Proofs.YtkjepfofiegcdaaW.PrintMore Go.Proofs.Ytkjepfofiegcdaa.PB14
end
section
/- VD1: Are there too many tables (freshetlaw16.many, freshetlaw14.many), walked. Conditions: none. -/
set_option linter.unusedVariables false
set_option linter.unusedSimpArgs false
open Go.RowKit Go.Proofs.YtkjepfofiegcdaaW.PrintWords Go.Proofs.YtkjepfofiegcdaaW.PrintLast Go.Proofs.YtkjepfofiegcdaaW.PrintMore Go.Proofs.Ytkjepfofiegcdaa.PB14
def manyP (v : Ver) : Prop := ∃ i, i < 4 ∧ 80 < (v.lv i).length
instance (v : Ver) : Decidable (manyP v) := decidable_of_iff (¬ ∀ i, i < 4 → (v.lv i).length ≤ 80) ⟨fun h => by
  rw [Classical.not_forall] at h
  obtain ⟨i, hi⟩ := h
  rw [Classical.not_imp] at hi
  exact ⟨i, hi.1, by omega⟩, fun ⟨i, hi, h2⟩ h => by have := h i hi; omega⟩
set_option maxHeartbeats 4000000 in
set_option maxRecDepth 100000 in
theorem many51_calls (w : World) (v : Ver) (p : Pl) : Calls Try.prog 51 #[.agg (vCs v p)] w fun e w' => e = .returned (.bool (decide (manyP v))) ∧ Below w.heap.size w w' := by
  have HB := Aside0.mk ((Below.refl w.heap.size w).alloc (Nat.le_refl _) (.cells (vCs v p) 26))
  have BX := Aside0.mk (blk_new w (.cells (vCs v p) 26))
  go_enter Try.func51, Try.ntmps51
  go_wp2_with fail
  generalize w.alloc (.cells (vCs v p) 26) = w1 at *
  go_loopg [3] 4 (fun kq v3 w' => ∃ i : Nat, v3 = .int .i64 (i : Int) ∧ Aside0 (kq + i = 4) ∧ Aside0 (Below w.heap.size w w') ∧ Aside0 (w'.heap[w.heap.size]? = some (.cells (vCs v p) 26 (0, 0))) ∧ Aside0 (∀ j, j < i → (v.lv j).length ≤ 80))
  case atStart => exact ⟨0, rfl, ⟨by omega⟩, HB, BX, ⟨fun j hj => by omega⟩⟩
  case round =>
    clear HB BX
    obtain ⟨i, rfl, HK, HB, BX, HJ⟩ := hrel
    cases gk with
    | zero =>
      have ei : i = 4 := by have := HK.out; omega
      subst ei
      go_wp2_with fail
      go_ret
      exact ⟨ret_bool (by symm; rw [decide_eq_false_iff_not]; rintro ⟨j, hj, h2⟩; have := HJ.out j hj; omega), HB.out⟩
    | succ q =>
      have hi : i < 4 := by have := HK.out; omega
      have HI := Aside0.mk hi
      have d0 : decide ((i : Int) < 4) = true := decide_eq_true (by omega)
      have i0 : 0 ≤ (i : Int) := Int.natCast_nonneg _
      have i1 : (i : Int) < 4 := by omega
      have hv := vcell BX.out i hi
      have ew : wrap64 ((i : Int) + 1) = ((i + 1 : Nat) : Int) := by unfold wrap64; omega
      obtain ⟨l, hl⟩ : ∃ l, l = v.lv i := ⟨_, rfl⟩
      rw [← hl] at hv
      have LE := Aside0.mk hl
      clear hl hi
      by_cases h80 : (l.length : Int) > 80
      · have t0 : decide (80 < (l.length : Int)) = true := decide_eq_true h80
        have t1 : decide (80 < l.length) = true := decide_eq_true (by omega)
        have M := Aside0.mk (show manyP v from ⟨i, HI.out, by rw [← LE.out]; omega⟩)
        clear h80
        go_wp2_with fail
        go_ret
        exact ⟨ret_bool (by symm; rw [decide_eq_true_iff]; exact M.out), HB.out⟩
      · have t0 : decide (80 < (l.length : Int)) = false := decide_eq_false h80
        have t1 : decide (80 < l.length) = false := decide_eq_false (by omega)
        have M := Aside0.mk (show (v.lv i).length ≤ 80 by rw [← LE.out]; omega)
        clear h80
        go_wp2_with fail
        try rw [ew]
        go_roundg q
        case measure => omega
        case rel => exact ⟨i + 1, rfl, ⟨by have := HK.out; omega⟩, HB, BX, ⟨fun j hj => by
          by_cases e : j = i
          · subst e; exact M.out
          · exact HJ.out j (by omega)⟩⟩
end
section
/- VD2: freshetref14.May, walked. Conditions: none. -/
set_option linter.unusedVariables false
set_option linter.unusedSimpArgs false
open Go.RowKit Go.Proofs.YtkjepfofiegcdaaW.PrintWords Go.Proofs.YtkjepfofiegcdaaW.PrintLast Go.Proofs.YtkjepfofiegcdaaW.PrintMore Go.Proofs.Ytkjepfofiegcdaa.PB14
theorem toList_len (a : ByteArray) : a.toList.length = a.size := by rw [ByteArray.toList_eq, Array.length_toList]; rfl
def mayQ (m : S58) : Prop := (1 ≤ m.f0 ∧ m.f0 ≤ 99999998 ∧ 1 ≤ m.f1 ∧ m.f1 ≤ 262144 ∧ 1 ≤ m.f2 ∧ m.f2 ≤ 262144) ∧ ((1 : Int) ≤ m.f3.size ∧ (m.f3.size : Int) ≤ 520 ∧ (1 : Int) ≤ m.f4.size ∧ (m.f4.size : Int) ≤ 520 ∧ (Op.bytesLess m.f3.toList m.f4.toList = true ∨ m.f3.toList = m.f4.toList)) ∧ 1 ≤ m.f5 ∧ m.f5 ≤ m.f6 ∧ m.f6 < 72057594037927936
instance (m : S58) : Decidable (mayQ m) := by unfold mayQ; infer_instance
theorem mayP_iff {m : S58} : mayP m ↔ mayQ m := by
  have h3 := toList_len m.f3
  have h4 := toList_len m.f4
  constructor
  · rintro ⟨a1, a2, a3, a4, a5, a6, a7, a8, a9, b1, b2, b3, b4⟩
    have n3 : m.f3.toList.length ≠ 0 := fun h => a7 (List.eq_nil_of_length_eq_zero h)
    have n4 : m.f4.toList.length ≠ 0 := fun h => by
      rw [List.eq_nil_of_length_eq_zero h] at b1
      cases hq : m.f3.toList with
      | nil => exact a7 hq
      | cons x r => rw [hq] at b1; simp [Op.bytesLess] at b1
    exact ⟨⟨a1, by omega, a3, a4, a5, a6⟩, ⟨by omega, by omega, by omega, by omega, le_less.mpr b1⟩, b2, b3, b4⟩
  · rintro ⟨⟨a1, a2, a3, a4, a5, a6⟩, ⟨a7, a8, a9, b0, b1⟩, b2, b3, b4⟩
    exact ⟨a1, by omega, a3, a4, a5, a6, fun h => by rw [h] at h3; simp at h3; omega, by omega, by omega, le_less.mp b1, b2, b3, b4⟩
set_option maxHeartbeats 8000000 in
set_option maxRecDepth 100000 in
theorem mayR_calls (w : World) (m : S58) : Calls Try.prog 120 #[.agg #[.int .u64 m.f0, .int .i64 m.f1, .int .i64 m.f2, .string m.f3, .string m.f4, .int .u64 m.f5, .int .u64 m.f6]] w fun e w' => e = .returned (.bool (decide (mayP m))) ∧ Below w.heap.size w w' := by
  have HB := Aside0.mk ((Below.refl w.heap.size w).alloc (Nat.le_refl _) (.cells #[.int .u64 m.f0, .int .i64 m.f1, .int .i64 m.f2, .string m.f3, .string m.f4, .int .u64 m.f5, .int .u64 m.f6] 58))
  go_enter Try.func120, Try.ntmps120
  go_wp2_with fail
  all_goals
    go_ret
    refine ⟨ret_bool ?_, HB.out⟩
    rw [show decide (mayP m) = decide (mayQ m) from decide_eq_decide.mpr mayP_iff]
    first
      | (symm; rw [decide_eq_false_iff_not]; rintro ⟨⟨a1, a2, a3, a4, a5, a6⟩, ⟨a7, a8, a9, b0, b1⟩, b2, b3, b4⟩; first | contradiction | omega)
      | (symm; rw [decide_eq_false_iff_not]; rintro ⟨⟨a1, a2, a3, a4, a5, a6⟩, ⟨a7, a8, a9, b0, b1⟩, b2, b3, b4⟩; rename_i hz; rcases hz with hz | hz; (omega); (rcases b1 with b1 | b1 <;> simp [b1] at hz))
      | (rw [Bool.eq_iff_iff]; simp only [Bool.and_eq_true, Bool.or_eq_true, decide_eq_true_eq, beq_iff_eq]; exact ⟨fun h => ⟨⟨by omega, by omega, by omega, by omega, by omega, by omega⟩, ⟨by omega, by omega, by omega, by omega, by assumption⟩, by omega, by omega, by first | exact h | exact h.2⟩, fun h => by first | exact h.2.2.2.2 | exact ⟨⟨h.2.2.1, h.2.2.2.1⟩, h.2.2.2.2⟩⟩)
      | (rw [decide_eq_decide]; exact ⟨fun h => ⟨⟨by assumption, by assumption, by assumption, by assumption, by assumption, by omega⟩, ⟨by assumption, by assumption, by assumption, by assumption, by assumption⟩, by assumption, by assumption, h⟩, fun h => h.2.2.2.2⟩)
      | (rename_i hz h5 h6
         have hl : Op.bytesLess m.f3.toList m.f4.toList = true ∨ m.f3.toList = m.f4.toList := by
           rcases hz.2 with h | h
           · left; simpa using h
           · right; simpa using h
         rw [decide_eq_decide]
         exact ⟨fun h => ⟨⟨by assumption, by assumption, by assumption, by assumption, by assumption, by omega⟩, ⟨by assumption, by assumption, by assumption, by assumption, hl⟩, h5, h6, h⟩, fun h => h.2.2.2.2⟩)
      | trace_state
end
section
/- VD3: The span of tables and what overlaps it, in the plain. Conditions: none. -/
set_option linter.unusedVariables false
set_option linter.unusedSimpArgs false
open Go.RowKit Go.Proofs.YtkjepfofiegcdaaW.PrintWords Go.Proofs.YtkjepfofiegcdaaW.PrintLast Go.Proofs.YtkjepfofiegcdaaW.PrintMore Go.Proofs.Ytkjepfofiegcdaa.PB14
end
section
/- VE1: Are two lists of tables the same (freshetref14.SameMetas), walked. Conditions: none. -/
set_option linter.unusedVariables false
set_option linter.unusedSimpArgs false
open Go.RowKit Go.Proofs.YtkjepfofiegcdaaW.PrintWords Go.Proofs.YtkjepfofiegcdaaW.PrintLast Go.Proofs.YtkjepfofiegcdaaW.PrintMore Go.Proofs.Ytkjepfofiegcdaa.PB14
theorem bytes_eq {a b : ByteArray} (h : a.toList = b.toList) : a = b := by
  rw [ByteArray.toList_eq, ByteArray.toList_eq] at h
  exact ByteArray.ext (Array.toList_inj.mp h)
theorem eqA58 (d : Nat) (w : World) (a b : S58) :
    (Op.equalIn (d + 2) 58 (.agg #[.int .u64 a.f0, .int .i64 a.f1, .int .i64 a.f2, .string a.f3, .string a.f4, .int .u64 a.f5, .int .u64 a.f6]) (.agg #[.int .u64 b.f0, .int .i64 b.f1, .int .i64 b.f2, .string b.f3, .string b.f4, .int .u64 b.f5, .int .u64 b.f6])).run Try.prog w = .ok (decide (a = b)) w := by
  have e : decide (a = b) = (a.f0 == b.f0 && (a.f1 == b.f1 && (a.f2 == b.f2 && (a.f3.toList == b.f3.toList && (a.f4.toList == b.f4.toList && (a.f5 == b.f5 && (a.f6 == b.f6))))))) := by
    rw [Bool.eq_iff_iff]
    simp only [decide_eq_true_eq, Bool.and_eq_true, beq_iff_eq]
    constructor
    · rintro rfl
      simp
    · rintro ⟨h0, h1, h2, h3, h4, h5, h6⟩
      have h3 := bytes_eq h3
      have h4 := bytes_eq h4
      cases a
      cases b
      simp_all
  rw [e]
  refine eqA_of Try.underlying58 (by kernel_rfl) ?_
  refine eqf_cons (by rfl) (by go_simp; rfl) (by go_simp; rfl) (by go_simp) ?_
  refine eqf_cons (by rfl) (by go_simp; rfl) (by go_simp; rfl) (by go_simp) ?_
  refine eqf_cons (by rfl) (by go_simp; rfl) (by go_simp; rfl) (by go_simp) ?_
  refine eqf_cons (by rfl) (by go_simp; rfl) (by go_simp; rfl) (by go_simp) ?_
  refine eqf_cons (by rfl) (by go_simp; rfl) (by go_simp; rfl) (by go_simp) ?_
  refine eqf_cons (by rfl) (by go_simp; rfl) (by go_simp; rfl) (by go_simp) ?_
  exact eqf_last (by rfl) (by go_simp; rfl) (by go_simp; rfl) (by go_simp)
attribute [local go_sem high] eqA58
theorem take_ne {xs ys : List S58} {k : Nat} (hx : k < xs.length) (hy : k < ys.length) (h : ¬ xs.getD k z58 = ys.getD k z58) : ¬ xs = ys := fun e => h (by rw [e])
theorem take_eq {xs ys : List S58} {k : Nat} (hx : k < xs.length) (hy : k < ys.length) (h : xs.getD k z58 = ys.getD k z58) (ht : xs.take k = ys.take k) : xs.take (k + 1) = ys.take (k + 1) := by rw [take_snoc xs z58 hx, take_snoc ys z58 hy, h, ht]
set_option maxHeartbeats 8000000 in
set_option maxRecDepth 100000 in
theorem sameM_calls (w : World) (A B : Option Addr) (c d : Nat) (xs ys : List S58) (hx : k58.C w A xs.length xs) (hy : k58.C w B ys.length ys) : Calls Try.prog 47 #[.slice A xs.length c, .slice B ys.length d] w fun e w' => e = .returned (.bool (decide (xs = ys))) ∧ Below w.heap.size w w' := by
  have HX := Aside0.mk hx
  have HY := Aside0.mk hy
  clear hx hy
  obtain ⟨r, hr⟩ : ∃ r, r = decide (xs = ys) := ⟨_, rfl⟩
  rw [← hr]
  have HRR := Aside0.mk hr
  clear hr
  by_cases hl : xs.length = ys.length
  · have l0 : ((xs.length : Int) != (ys.length : Int)) = false := by rw [hl]; simp
    have l1 : (xs.length != ys.length) = false := by rw [hl]; simp
    have l2 : ((xs.length : Int) == (ys.length : Int)) = true := by rw [hl]; simp
    have l3 : (xs.length == ys.length) = true := by rw [hl]; simp
    have HL := Aside0.mk hl
    clear hl
    go_enter Try.func47, Try.ntmps47
    go_wp2_with fail
    clear l0 l1 l2 l3
    go_loopg [5] xs.length (fun kq v5 w' => ∃ k : Nat, v5 = .int .i64 (k : Int) ∧ Aside0 (kq + k = xs.length) ∧ Aside0 (Below w.heap.size w w') ∧ Aside0 (xs.take k = ys.take k))
    case atStart => exact ⟨0, rfl, ⟨by omega⟩, ⟨Below.refl _ _⟩, ⟨rfl⟩⟩
    case round =>
      obtain ⟨k, rfl, HK, HB, HT⟩ := hrel
      cases gk with
      | zero =>
        have ek : k = xs.length := by have := HK.out; omega
        subst ek
        have d0 : decide ((xs.length : Int) < (xs.length : Int)) = false := by simp
        go_wp2_with fail
        go_ret
        refine ⟨ret_bool ?_, HB.out⟩
        have h1 := HT.out
        rw [List.take_length] at h1
        have h2 : xs = ys := h1.trans (List.take_of_length_le (by have := HL.out; omega))
        rw [HRR.out]
        symm
        exact decide_eq_true h2
      | succ q =>
        have hk : k < xs.length := by have := HK.out; omega
        have HM := Aside0.mk (show xs.length ≤ 9223372036854775807 from HX.out.2.1)
        have d0 : decide ((k : Int) < (xs.length : Int)) = true := decide_eq_true (by omega)
        have d1 : decide (k < xs.length) = true := decide_eq_true hk
        have p0 : 0 ≤ (k : Int) := Int.natCast_nonneg _
        have p1 : (k : Int) < (xs.length : Int) := by omega
        have p2 : (k : Int) < (ys.length : Int) := by have := HL.out; omega
        have CX := Kd.C_below HX.out HB.out
        have CY := Kd.C_below HY.out HB.out
        obtain ⟨ad, ea, ha0, ha1, ha2, ha3, ha4, ha5, ha6⟩ := at_T58 CX (k : Int) p0 p1
        obtain ⟨bd, eb, hb0, hb1, hb2, hb3, hb4, hb5, hb6⟩ := at_T58 CY (k : Int) p0 p2
        rw [Int.toNat_natCast] at ha0 ha1 ha2 ha3 ha4 ha5 ha6 hb0 hb1 hb2 hb3 hb4 hb5 hb6
        clear CX CY
        have EA := Aside0.mk (show rd_T58 xs (k : Int) = xs.getD k z58 by unfold rd_T58; rw [Int.toNat_natCast])
        have EB := Aside0.mk (show rd_T58 ys (k : Int) = ys.getD k z58 by unfold rd_T58; rw [Int.toNat_natCast])
        generalize rd_T58 xs (k : Int) = a at *
        generalize rd_T58 ys (k : Int) = b at *
        rw [ea, eb]
        have HAX := Aside0.mk ea
        have HBX := Aside0.mk eb
        have HK1 := Aside0.mk hk
        have ew : wrap64 ((k : Int) + 1) = ((k + 1 : Nat) : Int) := by have h1 := HM.out; unfold wrap64; omega
        clear ea eb hk
        by_cases hab : a = b
        · have e0 : decide (a = b) = true := decide_eq_true hab
          have HAB := Aside0.mk (show xs.getD k z58 = ys.getD k z58 by rw [← EA.out, ← EB.out, hab])
          clear hab
          go_wp2_with fail
          go_quiet (fail)
          go_wp2_with fail
          try rw [ew]
          rw [← HAX.out, ← HBX.out]
          go_roundg q
          case measure => omega
          case rel => exact ⟨k + 1, rfl, ⟨by have := HK.out; omega⟩, ⟨pw_below_drewN HB.out nq⟩, ⟨take_eq HK1.out (by have := HL.out; have := HK1.out; omega) HAB.out HT.out⟩⟩
        · have e0 : decide (a = b) = false := decide_eq_false hab
          have HAB := Aside0.mk (show ¬ xs = ys from take_ne HK1.out (by have := HL.out; have := HK1.out; omega) (by rw [← EA.out, ← EB.out]; exact hab))
          clear hab
          go_wp2_with fail
          go_quiet (fail)
          go_wp2_with fail
          go_ret
          exact ⟨ret_bool (by rw [HRR.out]; symm; exact decide_eq_false HAB.out), pw_below_drewN HB.out nq⟩
  · have l0 : ((xs.length : Int) != (ys.length : Int)) = true := by simp; omega
    have l1 : (xs.length != ys.length) = true := by simp [hl]
    have l2 : ((xs.length : Int) == (ys.length : Int)) = false := by simp; omega
    have l3 : (xs.length == ys.length) = false := by simp [hl]
    have HN := Aside0.mk (show ¬ xs = ys from fun e => hl (by rw [e]))
    clear hl
    go_enter Try.func47, Try.ntmps47
    go_wp2_with fail
    go_ret
    exact ⟨ret_bool (by rw [HRR.out]; symm; exact decide_eq_false HN.out), Below.refl _ _⟩
end
end Go.Proofs.Ytkjepfofiegcdaa.V
