import Derived.Test.YtfemebenkbobnaaU06e
import Derived.Test.YtfemebenkbobnaaC06
/- The plain law of BatchCut: a batch cut into two has the rows of both. Conditions: the list's length fits in 62 bits. -/
namespace Go.Proofs.Ytfemebenkbobnaa.PB06
open Go.RowKit Go.Proofs.YtfemebenkbobnaaW.PrintWords Go.Proofs.YtfemebenkbobnaaW.PrintLast Go.Proofs.YtfemebenkbobnaaW.PrintMore
theorem ev_sameRefl (a : List S28) (ha : a.length ≤ 4611686018427387904) : Ev (fun k => freshetref06_SameRows.f k a a) true := by
  have hl : ∀ c i, i + c = a.length → Ev (fun k => freshetref06_SameRows.l0 k a a (i : Int)) true := by
    intro c
    induction c with
    | zero =>
      intro i hi
      exact Ev.step (f := fun _ => some true) (fun k => by rw [freshetref06_SameRows.l0, if_neg (by omega)]) (Ev.now _)
    | succ c ih =>
      intro i hi
      refine Ev.step (fun k => ?_) (ih (i + 1) (by omega))
      rw [freshetref06_SameRows.l0, if_pos (by omega), if_pos (by omega), if_pos (by omega), if_neg (by simp), wrap64_id _ (by omega) (by omega)]
      rfl
  refine Ev.congr (fun k => ?_) (hl a.length 0 (by omega))
  rw [freshetref06_SameRows.f, if_pos rfl]
  rfl
theorem check_is {n : Int} {l : List S72} (h : checkS n l = 0) : l.any badW = false ∧ l.any bigW = false := by
  unfold checkS at h
  by_cases h1 : l.length = 0 ∨ n < 1 ∨ n > 72057594037927872 ∨ l.any badW = true
  · rw [if_pos h1] at h; cases h
  · rw [if_neg h1] at h
    by_cases h2 : l.length > 64 ∨ l.any bigW = true
    · rw [if_pos h2] at h; cases h
    · exact ⟨by simpa using fun hh => h1 (.inr (.inr (.inr hh))), by simpa using fun hh => h2 (.inr hh)⟩
theorem check_mk {n : Int} {l : List S72} (h1 : 1 ≤ n) (h2 : n ≤ 72057594037927872) (h3 : 1 ≤ l.length) (h4 : l.length ≤ 64) (h5 : l.any badW = false) (h6 : l.any bigW = false) : checkS n l = 0 := by
  unfold checkS
  rw [if_neg (by rw [h5]; rintro (h | h | h | h); exact absurd h (by omega); exact absurd h (by omega); exact absurd h (by omega); cases h), if_neg (by rw [h6]; rintro (h | h); exact absurd h (by omega); cases h)]
theorem any_sub {p : S72 → Bool} {a l : List S72} (hs : ∀ x, x ∈ a → x ∈ l) (h : l.any p = false) : a.any p = false := by
  rw [List.any_eq_false] at h ⊢
  exact fun x hx => h x (hs x hx)
theorem ev_BatchCut (n : Int) (l : List S72) (a : Int) (hl : l.length ≤ 4611686018427387904) : Ev (fun k => freshetlaw06_BatchCut.f k n l a) true := by
  unfold freshetlaw06_BatchCut.f
  by_cases hg : (l.length : Int) > 300
  · simp only [if_pos hg]
    exact aw_N
  simp only [if_neg hg]
  refine Ev.bind (ev_Check n l hl) ?_
  by_cases h : checkS n l = 0
  · simp only [if_pos h]
    obtain ⟨h1, h2, h3, h4⟩ := check_ok' h
    obtain ⟨h5, h6⟩ := check_is h
    by_cases g1 : a < 1
    · simp only [if_pos g1]; exact aw_N
    by_cases g2 : a ≥ (l.length : Int)
    · simp only [if_neg g1, if_pos g2]; exact aw_N
    simp only [if_neg g1, if_neg g2, if_pos (show 0 ≤ a by omega), if_pos (show a ≤ (l.length : Int) by omega), Option.bind_some, List.nil_append, List.length_nil]
    obtain ⟨i, rfl⟩ : ∃ i : Nat, a = (i : Int) := ⟨a.toNat, by omega⟩
    simp only [Int.toNat_natCast]
    have lt : (l.take i).length = i := by rw [List.length_take]; omega
    have ld : (l.drop i).length = l.length - i := by rw [List.length_drop]
    have ct : checkS n (l.take i) = 0 := check_mk h1 h2 (by omega) (by omega) (any_sub (fun x hx => List.mem_of_mem_take hx) h5) (any_sub (fun x hx => List.mem_of_mem_take hx) h6)
    have nt : nextS n (l.take i) = n + (i : Int) := by rw [nextS, if_pos ct, lt]
    refine Ev.bind (ev_NextS n _ (by omega)) ?_
    rw [nt]
    refine Ev.bind (ev_Check _ _ (by omega)) ?_
    by_cases cd : checkS (n + (i : Int)) (l.drop i) = 0
    · simp only [if_pos cd]
      have r1 : rowsS n (l.take i) = rowsL n 0 (l.take i) := by rw [rowsS, if_pos ct]
      have r2 : rowsS (n + (i : Int)) (l.drop i) = rowsL n i (l.drop i) := by rw [rowsS, if_pos cd, rowsL_shift, Nat.zero_add]
      have r3 : rowsS n l = rowsL n 0 l := by rw [rowsS, if_pos h]
      have rr : rowsL n 0 (l.take i) ++ rowsL n i (l.drop i) = rowsL n 0 l := by
        have := rowsL_app n 0 (l.take i) (l.drop i)
        rw [List.take_append_drop, lt, Nat.zero_add] at this
        exact this.symm
      refine Ev.bind (ev_RowsS n _ (by omega)) ?_
      rw [r1]
      simp only [if_pos (show 0 + (rowsL n 0 (l.take i)).length < 2932031007402 by rw [rowsL_len]; omega)]
      refine Ev.bind (ev_RowsS _ _ (by omega)) ?_
      rw [r2]
      simp only [if_pos (show (rowsL n 0 (l.take i)).length + (rowsL n i (l.drop i)).length < 2932031007402 by rw [rowsL_len, rowsL_len]; omega)]
      refine Ev.bind (ev_RowsS n l hl) ?_
      rw [r3, rr]
      refine Ev.bind (ev_sameRefl _ (by rw [rowsL_len]; omega)) ?_
      simp only [if_true]
      refine Ev.bind (ev_NextS _ _ (by omega)) (Ev.bind (ev_NextS n l hl) ?_)
      rw [nextS, nextS, if_pos cd, if_pos h]
      simp only [if_pos (show n + (i : Int) + ((l.drop i).length : Int) = n + (l.length : Int) by omega)]
      exact aw_N
    · have hb : n + (i : Int) > 72057594037927872 := by
        refine Int.not_le.mp fun hh => cd ?_
        exact check_mk (by omega) hh (by omega) (by omega) (any_sub (fun x hx => List.mem_of_mem_drop hx) h5) (any_sub (fun x hx => List.mem_of_mem_drop hx) h6)
      simp only [if_neg cd, if_pos hb]
      exact aw_N
  · simp only [if_neg h]
    exact aw_N
end Go.Proofs.Ytfemebenkbobnaa.PB06
