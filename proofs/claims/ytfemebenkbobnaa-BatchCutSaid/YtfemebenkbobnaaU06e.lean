import Derived.Test.YtfemebenkbobnaaU06L
import Derived.Test.YtfemebenkbobnaaN06
/- The plain law of BatchNumbers: the rows of a batch, what is next, and what the law makes of them. Conditions: the list's length fits in 62 bits. -/
namespace Go.Proofs.Ytfemebenkbobnaa.PB06
open Go.RowKit Go.Proofs.YtfemebenkbobnaaW.PrintWords Go.Proofs.YtfemebenkbobnaaW.PrintLast Go.Proofs.YtfemebenkbobnaaW.PrintMore
theorem check_ok' {n : Int} {l : List S72} (h : checkS n l = 0) : 1 ≤ n ∧ n ≤ 72057594037927872 ∧ 1 ≤ l.length ∧ l.length ≤ 64 := by
  unfold checkS at h
  by_cases h1 : l.length = 0 ∨ n < 1 ∨ n > 72057594037927872 ∨ l.any badW = true
  · rw [if_pos h1] at h; cases h
  · rw [if_neg h1] at h
    by_cases h2 : l.length > 64 ∨ l.any bigW = true
    · rw [if_pos h2] at h; cases h
    · omega
/-- The row of a write. -/
def row1 (n : Int) (i : Nat) (x : S72) : S28 := ⟨x.f1, n + (i : Int), x.f0, x.f2⟩
def rowsL (n : Int) (i : Nat) : List S72 → List S28
  | [] => []
  | x :: r => row1 n i x :: rowsL n (i + 1) r
theorem rowsL_len (n : Int) : ∀ (i : Nat) (l : List S72), (rowsL n i l).length = l.length
  | _, [] => rfl
  | i, x :: r => by rw [rowsL, List.length_cons, List.length_cons, rowsL_len n (i + 1) r]
theorem rowsL_get (n : Int) : ∀ (i j : Nat) (l : List S72) (h : j < l.length), (rowsL n i l)[j]? = some (row1 n (i + j) l[j])
  | _, _, [], h => by simp at h
  | i, 0, x :: r, _ => by simp [rowsL]
  | i, j + 1, x :: r, h => by
    rw [rowsL, List.getElem?_cons_succ, rowsL_get n (i + 1) j r (by simpa using h)]
    simp only [List.getElem_cons_succ]
    rw [show i + 1 + j = i + (j + 1) from by omega]
theorem rowsL_app (n : Int) : ∀ (i : Nat) (a b : List S72), rowsL n i (a ++ b) = rowsL n i a ++ rowsL n (i + a.length) b
  | _, [], b => rfl
  | i, x :: r, b => by rw [List.cons_append, rowsL, rowsL, rowsL_app n (i + 1) r b, List.cons_append, List.length_cons, show i + 1 + r.length = i + (r.length + 1) from by omega]
theorem rowsL_shift (n : Int) (m : Nat) : ∀ (i : Nat) (l : List S72), rowsL (n + (m : Int)) i l = rowsL n (i + m) l
  | _, [] => rfl
  | i, x :: r => by
    rw [rowsL, rowsL, rowsL_shift n m (i + 1) r, show i + 1 + m = i + m + 1 from by omega]
    congr 1
    simp only [row1]
    congr 1
    omega
def rowsS (n : Int) (l : List S72) : List S28 := if checkS n l = 0 then rowsL n 0 l else []
def nextS (n : Int) (l : List S72) : Int := if checkS n l = 0 then n + (l.length : Int) else 0
theorem ev_rowsL (n : Int) (l : List S72) (hl : l.length ≤ 64) (h1 : 1 ≤ n) (h2 : n ≤ 72057594037927872) : ∀ c i (acc : List S28), i + c = l.length → acc.length = i → Ev (fun k => batch_Rows.l0 k acc l (l.length : Int) (i : Int) n l) (acc ++ rowsL n i (l.drop i))
  | 0, i, acc, hi, ha => by
    rw [List.drop_eq_nil_of_le (by omega), rowsL, List.append_nil]
    exact Ev.step (f := fun _ => some acc) (fun k => by rw [batch_Rows.l0, if_neg (by omega)]) (Ev.now _)
  | c + 1, i, acc, hi, ha => by
    have h := ev_rowsL n l hl h1 h2 c (i + 1) (acc ++ [row1 n i (rd_T72 l (i : Int))]) (by omega) (by simp [ha])
    rw [rd_at l i (by omega), rowsL, ← List.singleton_append, ← List.append_assoc]
    refine Ev.step (fun k => ?_) h
    have e1 : IntKind.u64.wrap (i : Int) = (i : Int) := by rw [IntKind.wrap_u64]; omega
    have e2 : IntKind.u64.wrap (n + (i : Int)) = n + (i : Int) := by rw [IntKind.wrap_u64]; omega
    rw [batch_Rows.l0, if_pos (by omega), if_pos (by omega), if_pos (by omega), if_pos (by omega), wrap64_id _ (by omega) (by omega), e1, e2]
    rfl
theorem ev_RowsS (n : Int) (l : List S72) (hl : l.length ≤ 4611686018427387904) : Ev (fun k => batch_Rows.f k n l) (rowsS n l) := by
  refine Ev.bind (ev_Check n l hl) ?_
  unfold rowsS
  by_cases h : checkS n l = 0
  · obtain ⟨h1, h2, h3, h4⟩ := check_ok' h
    simp only [if_pos h]
    exact ev_rowsL n l h4 h1 h2 l.length 0 [] (by omega) rfl
  · simp only [if_neg h]
    exact Ev.now _
theorem ev_NextS (n : Int) (l : List S72) (hl : l.length ≤ 4611686018427387904) : Ev (fun k => batch_Next.f k n l) (nextS n l) := by
  refine Ev.bind (ev_Check n l hl) ?_
  unfold nextS
  by_cases h : checkS n l = 0
  · obtain ⟨h1, h2, h3, h4⟩ := check_ok' h
    simp only [if_pos h]
    have e1 : IntKind.u64.wrap (l.length : Int) = (l.length : Int) := by rw [IntKind.wrap_u64]; omega
    have e2 : IntKind.u64.wrap (n + (l.length : Int)) = n + (l.length : Int) := by rw [IntKind.wrap_u64]; omega
    rw [e1, e2]
    exact Ev.now _
  · simp only [if_neg h]
    exact Ev.now _
theorem awake_true_N : Ev freshetlaw06_awake.f true := Ev.of (fun k => freshetlaw06_awake.mono k) (k := 30) (by decide +kernel)
theorem aw_N : Ev (fun k => (freshetlaw06_awake.f k).bind fun t => some t) true := Ev.bind awake_true_N (Ev.now _)
theorem ev_numl (n : Int) (l : List S72) (hl : l.length ≤ 64) (h1 : 1 ≤ n) (h2 : n ≤ 72057594037927872) : ∀ c i, i + c = l.length → Ev (fun k => freshetlaw06_BatchNumbers.l0 k (rowsL n 0 l) (i : Int) n l) true
  | 0, i, hi => by
    refine Ev.step (fun k => ?_) aw_N
    rw [freshetlaw06_BatchNumbers.l0, if_neg (by rw [rowsL_len]; omega)]
  | c + 1, i, hi => by
    have h := ev_numl n l hl h1 h2 c (i + 1) (by omega)
    refine Ev.step (fun k => ?_) h
    have rd : ∀ j, j < l.length → rd_T28 (rowsL n 0 l) (j : Int) = row1 n j (rd_T72 l (j : Int)) := fun j hj => by
      simp only [rd_T28, rd_T72, Int.toNat_natCast]
      rw [List.getD_eq_getElem?_getD, rowsL_get n 0 j l hj, List.getD_eq_getElem?_getD, List.getElem?_eq_getElem hj]
      simp
    rw [freshetlaw06_BatchNumbers.l0, if_pos (by rw [rowsL_len]; omega), if_pos (by omega), if_pos (by omega), rd i (by omega), if_neg (by simp [row1])]
    rw [wrap64_id ((i : Int) + 1) (by omega) (by omega)]
    by_cases h0 : (i : Int) > 0
    · rw [if_pos h0, wrap64_id ((i : Int) - 1) (by omega) (by omega), if_pos (by omega), if_pos (by rw [rowsL_len]; omega)]
      obtain ⟨j, rfl⟩ : ∃ j, i = j + 1 := ⟨i - 1, by omega⟩
      rw [show ((j + 1 : Nat) : Int) - 1 = (j : Int) from by omega, rd j (by omega)]
      rw [if_pos (by simp only [row1]; rw [IntKind.wrap_u64]; omega)]
      rfl
    · rw [if_neg h0]
      rfl
theorem ev_BatchNumbers (n : Int) (l : List S72) (hl : l.length ≤ 4611686018427387904) : Ev (fun k => freshetlaw06_BatchNumbers.f k n l) true := by
  unfold freshetlaw06_BatchNumbers.f
  by_cases hg : (l.length : Int) > 300
  · simp only [if_pos hg]
    exact aw_N
  simp only [if_neg hg]
  refine Ev.bind (ev_RowsS n l hl) (Ev.bind (ev_Check n l hl) ?_)
  by_cases h : checkS n l = 0
  · obtain ⟨h1, h2, h3, h4⟩ := check_ok' h
    have er : rowsS n l = rowsL n 0 l := by rw [rowsS, if_pos h]
    have en : nextS n l = n + (l.length : Int) := by rw [nextS, if_pos h]
    have rd : ∀ j, j < l.length → rd_T28 (rowsL n 0 l) (j : Int) = row1 n j (rd_T72 l (j : Int)) := fun j hj => by
      simp only [rd_T28, rd_T72, Int.toNat_natCast]
      rw [List.getD_eq_getElem?_getD, rowsL_get n 0 j l hj, List.getD_eq_getElem?_getD, List.getElem?_eq_getElem hj]
      simp
    rw [er]
    simp only [if_pos h, rowsL_len, if_true]
    refine Ev.bind (ev_NextS n l hl) ?_
    rw [en, wrap64_id ((l.length : Int) - 1) (by omega) (by omega)]
    simp only [if_pos (show 0 ≤ (l.length : Int) - 1 by omega), if_pos (show (l.length : Int) - 1 < (l.length : Int) by omega), if_pos (show 0 < (l.length : Int) by omega)]
    rw [show (l.length : Int) - 1 = ((l.length - 1 : Nat) : Int) from by omega, rd _ (by omega)]
    have e0 := rd 0 (by omega)
    rw [show ((0 : Nat) : Int) = 0 from rfl] at e0
    rw [e0]
    refine Ev.congr (fun k => ?_) (ev_numl n l h4 h1 h2 l.length 0 (by omega))
    rw [if_pos (by simp only [row1]; rw [IntKind.wrap_u64]; omega), if_pos (by simp only [row1]; omega)]
    rfl
  · have er : rowsS n l = [] := by rw [rowsS, if_neg h]
    have en : nextS n l = 0 := by rw [nextS, if_neg h]
    rw [er]
    simp only [if_neg h, List.length_nil]
    refine Ev.congr (f := fun k => (batch_Next.f k n l).bind fun t => if t = 0 then ((freshetlaw06_awake.f k).bind fun t153 => (some t153)) else none) (fun k => rfl) ?_
    refine Ev.bind (ev_NextS n l hl) ?_
    rw [en]
    simp only [if_true]
    exact aw_N
end Go.Proofs.Ytfemebenkbobnaa.PB06
