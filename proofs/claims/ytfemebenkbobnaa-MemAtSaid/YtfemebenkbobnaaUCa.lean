import Derived.Test.YtfemebenkbobnaaUB
/- What ref06's Check and Rows tell, in the plain. Conditions: at most 2 to the 62nd writes. -/
namespace Go.Proofs.Ytfemebenkbobnaa.PB06
set_option linter.unusedVariables false
set_option linter.unusedSimpArgs false
open Go.RowKit Go.Proofs.YtfemebenkbobnaaW.PrintWords Go.Proofs.YtfemebenkbobnaaW.PrintLast Go.Proofs.YtfemebenkbobnaaW.PrintMore
theorem ev_rc1 (n : Int) (xs : List S72) (hx : xs.length ≤ 4611686018427387904) : ∀ c i, i + c = xs.length → Ev (fun k => freshetref06_Check.l1 k (i : Int) n xs) (if (xs.drop i).any bigW = true then 3 else 0)
  | 0, i, hi => by
    rw [List.drop_eq_nil_of_le (by omega)]
    refine Ev.step (f := fun _ => some 0) (fun k => ?_) (Ev.now _)
    rw [freshetref06_Check.l1, if_neg (by omega)]
  | c + 1, i, hi => by
    rw [rd_at xs i (by omega), List.any_cons]
    by_cases hb : bigW (rd_T72 xs (i : Int)) = true
    · rw [hb, Bool.true_or, if_pos rfl]
      refine Ev.step (f := fun _ => some 3) (fun k => ?_) (Ev.now _)
      rw [freshetref06_Check.l1, if_pos (by omega), if_pos (by omega)]
      simp only [bigW, Bool.or_eq_true, decide_eq_true_eq] at hb
      by_cases h1 : ((rd_T72 xs (i : Int)).f1.size : Int) > 520
      · rw [if_pos h1]
      · rw [if_neg h1, if_pos (by omega)]
    · have hb' : bigW (rd_T72 xs (i : Int)) = false := by simpa using hb
      rw [hb', Bool.false_or]
      refine Ev.step (f := fun k => freshetref06_Check.l1 k ((i + 1 : Nat) : Int) n xs) (fun k => ?_) (ev_rc1 n xs hx c (i + 1) (by omega))
      simp only [bigW, Bool.or_eq_true, decide_eq_true_eq] at hb
      rw [freshetref06_Check.l1, if_pos (by omega), if_pos (by omega), if_neg (by omega), if_neg (by omega), wrap64_id' _ (by omega) (by omega)]
      rfl
theorem ev_rc0 (n : Int) (xs : List S72) (hx : xs.length ≤ 4611686018427387904) : ∀ c i, i + c = xs.length → Ev (fun k => freshetref06_Check.l0 k (i : Int) n xs) (if (xs.drop i).any badW = true then 2 else if xs.length > 64 ∨ xs.any bigW = true then 3 else 0)
  | 0, i, hi => by
    rw [List.drop_eq_nil_of_le (by omega), List.any_nil, if_neg (by simp)]
    by_cases h : xs.length > 64
    · rw [if_pos (.inl h)]
      refine Ev.step (f := fun _ => some 3) (fun k => ?_) (Ev.now _)
      rw [freshetref06_Check.l0, if_neg (by omega), if_pos (by omega)]
    · have := ev_rc1 n xs hx xs.length 0 (by omega)
      rw [List.drop_zero] at this
      have e : (if xs.length > 64 ∨ xs.any bigW = true then (3 : Int) else 0) = if xs.any bigW = true then 3 else 0 := by simp [h]
      rw [e]
      refine Ev.step (f := fun k => freshetref06_Check.l1 k 0 n xs) (fun k => ?_) this
      rw [freshetref06_Check.l0, if_neg (by omega), if_neg (by omega)]
  | c + 1, i, hi => by
    rw [rd_at xs i (by omega), List.any_cons]
    have ih := ev_rc0 n xs hx c (i + 1) (by omega)
    have h1 : ((i : Int) < (xs.length : Int)) := by omega
    have h2 : (0 : Int) ≤ (i : Int) := by omega
    have hw : wrap64 ((i : Int) + 1) = ((i + 1 : Nat) : Int) := by rw [wrap64_id' _ (by omega) (by omega)]; rfl
    by_cases hb : badW (rd_T72 xs (i : Int)) = true
    · rw [hb, Bool.true_or, if_pos rfl]
      refine Ev.step (f := fun _ => some 2) (fun k => ?_) (Ev.now _)
      rw [freshetref06_Check.l0, if_pos h1, if_pos h2]
      generalize rd_T72 xs (i : Int) = x at hb ⊢
      simp only [badW] at hb
      by_cases a1 : x.f0 = 1 <;> by_cases a2 : x.f0 = 2 <;> by_cases a3 : x.f1.size = 0 <;> by_cases a4 : x.f2.size = 0 <;> simp_all <;> omega
    · have hb' : badW (rd_T72 xs (i : Int)) = false := by simpa using hb
      rw [hb', Bool.false_or]
      refine Ev.step (f := fun k => freshetref06_Check.l0 k ((i + 1 : Nat) : Int) n xs) (fun k => ?_) ih
      rw [freshetref06_Check.l0, if_pos h1, if_pos h2, hw]
      generalize rd_T72 xs (i : Int) = x at hb ⊢
      simp only [badW] at hb
      by_cases a1 : x.f0 = 1 <;> by_cases a2 : x.f0 = 2 <;> by_cases a3 : x.f1.size = 0 <;> by_cases a4 : x.f2.size = 0 <;> simp_all <;> omega
theorem ev_rCheck (n : Int) (xs : List S72) (hx : xs.length ≤ 4611686018427387904) : Ev (fun k => freshetref06_Check.f k n xs) (checkS n xs) := by
  have l0 := ev_rc0 n xs hx xs.length 0 (by omega)
  rw [List.drop_zero] at l0
  have jt : Ev (fun k => freshetref06_Check.j0 k true n xs) 2 :=
    Ev.step (f := fun _ => some 2) (fun k => by rw [freshetref06_Check.j0, if_pos rfl]) (Ev.now _)
  by_cases h0 : xs.length = 0
  · refine Ev.congr (f := fun k => freshetref06_Check.j0 k true n xs) (fun k => by rw [freshetref06_Check.f, if_pos (by omega)]) ?_
    rw [checkS, if_pos (.inl h0)]; exact jt
  · by_cases h1 : n < 1
    · refine Ev.congr (f := fun k => freshetref06_Check.j0 k true n xs) (fun k => by rw [freshetref06_Check.f, if_neg (by omega), if_pos h1]) ?_
      rw [checkS, if_pos (.inr (.inl h1))]; exact jt
    · refine Ev.congr (f := fun k => freshetref06_Check.j0 k (decide (n > 72057594037927872)) n xs) (fun k => by rw [freshetref06_Check.f, if_neg (by omega), if_neg h1]) ?_
      by_cases h2 : n > 72057594037927872
      · rw [decide_eq_true h2, checkS, if_pos (.inr (.inr (.inl h2)))]; exact jt
      · rw [decide_eq_false h2]
        have e : checkS n xs = if xs.any badW = true then 2 else if xs.length > 64 ∨ xs.any bigW = true then 3 else 0 := by
          unfold checkS
          simp only [h0, h1, h2, false_or]
        rw [e]
        exact Ev.step (f := fun k => freshetref06_Check.l0 k 0 n xs) (fun k => by rw [freshetref06_Check.j0, if_neg (by simp)]) l0
end Go.Proofs.Ytfemebenkbobnaa.PB06
