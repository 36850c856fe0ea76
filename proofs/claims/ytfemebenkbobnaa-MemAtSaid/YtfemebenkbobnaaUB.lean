import Derived.Test.YtfemebenkbobnaaPB063
import Derived.Test.YtfemebenkbobnaaPB068
/- What batch.Check and batch.Rows tell, in the plain. Conditions: at most 2 to the 62nd writes. -/
namespace Go.Proofs.Ytfemebenkbobnaa.PB06
set_option linter.unusedVariables false
set_option linter.unusedSimpArgs false
open Go.RowKit Go.Proofs.YtfemebenkbobnaaW.PrintWords Go.Proofs.YtfemebenkbobnaaW.PrintLast Go.Proofs.YtfemebenkbobnaaW.PrintMore
theorem wrap64_id' (x : Int) (h0 : -9223372036854775808 ≤ x) (h1 : x ≤ 9223372036854775807) : wrap64 x = x := by unfold wrap64; omega
theorem rd_at (xs : List S72) (i : Nat) (h : i < xs.length) : xs.drop i = rd_T72 xs (i : Int) :: xs.drop (i + 1) := by
  rw [List.drop_eq_getElem_cons h]
  simp [rd_T72, h]
theorem toList_nil (s : ByteArray) : s.toList = [] ↔ s.size = 0 := by
  rw [ByteArray.toList_eq, ← List.length_eq_zero_iff, Array.length_toList]
  rfl
def badW (x : S72) : Bool := !(x.f0 == 1 || x.f0 == 2) || x.f1.size == 0 || (x.f0 == 2 && x.f2.size != 0)
def bigW (x : S72) : Bool := decide (x.f1.size > 520) || decide (x.f2.size > 2048)
def chk (e : Int) : List S72 → Int
  | [] => e
  | x :: r => if badW x then 2 else chk (if bigW x then 3 else e) r
theorem chk_is : ∀ (l : List S72) (e : Int), chk e l = if l.any badW then 2 else if l.any bigW then 3 else e
  | [], e => by simp [chk]
  | x :: r, e => by
    rw [chk, chk_is r]
    by_cases h : badW x <;> by_cases h2 : bigW x <;> simp [h, h2]
def checkS (n : Int) (l : List S72) : Int := if l.length = 0 ∨ n < 1 ∨ n > 72057594037927872 ∨ l.any badW = true then 2 else if l.length > 64 ∨ l.any bigW = true then 3 else 0
theorem ev_chk (xs : List S72) (hx : xs.length ≤ 4611686018427387904) : ∀ c i e, i + c = xs.length → Ev (fun k => batch_Check.l0 k e xs (xs.length : Int) (i : Int)) (chk e (xs.drop i))
  | 0, i, e, hi => by
    rw [List.drop_eq_nil_of_le (by omega), chk]
    refine Ev.step (f := fun _ => some e) (fun k => ?_) (Ev.now _)
    rw [batch_Check.l0, if_neg (by omega)]
  | c + 1, i, e, hi => by
    rw [rd_at xs i (by omega), chk]
    refine Ev.step (f := fun k => batch_Check.j3 k e xs (xs.length : Int) (i : Int) (badW (rd_T72 xs (i : Int))) (rd_T72 xs (i : Int)).f0 (rd_T72 xs (i : Int)).f1 (rd_T72 xs (i : Int)).f2) (fun k => ?_) ?_
    · rw [batch_Check.l0, if_pos (by omega), if_pos (by omega), if_pos (by omega)]
      generalize rd_T72 xs (i : Int) = x
      have h4 : (x.f2.toList != []) = (x.f2.size != 0) := by
        rw [Bool.eq_iff_iff]; simp [toList_nil]
      by_cases h1 : x.f0 = 1
      · have h2 : ¬ x.f0 = 2 := by omega
        rw [if_pos h1]
        by_cases h3 : x.f1.toList = []
        · rw [if_pos h3]; rw [toList_nil] at h3; simp [badW, h3]
        · rw [if_neg h3, if_neg h2]; rw [toList_nil] at h3; simp [badW, h1, beq_false_of_ne h3]
      · rw [if_neg h1]
        by_cases h2 : x.f0 = 2
        · rw [if_pos h2]
          by_cases h3 : x.f1.toList = []
          · rw [if_pos h3]; rw [toList_nil] at h3; simp [badW, h3]
          · rw [if_neg h3, h4]; rw [toList_nil] at h3; simp [badW, h2, beq_false_of_ne h3]
        · rw [if_neg h2]; simp [badW, beq_false_of_ne h1, beq_false_of_ne h2]
    · generalize rd_T72 xs (i : Int) = x
      have ih := fun e => ev_chk xs hx c (i + 1) e (by omega)
      by_cases hb : badW x = true
      · rw [if_pos hb, hb]
        refine Ev.step (f := fun _ => some 2) (fun k => ?_) (Ev.now _)
        rw [batch_Check.j3, if_pos rfl]
      · rw [if_neg hb]
        refine Ev.step (f := fun k => batch_Check.l0 k (if bigW x then 3 else e) xs (xs.length : Int) ((i + 1 : Nat) : Int)) (fun k => ?_) (ih _)
        rw [batch_Check.j3, if_neg hb, wrap64_id' _ (by omega) (by omega)]
        by_cases h1 : (x.f1.size : Int) > 520
        · rw [if_pos h1, if_pos (show bigW x = true from by simp [bigW]; omega)]; rfl
        · rw [if_neg h1]
          by_cases h2 : (x.f2.size : Int) > 2048
          · rw [if_pos h2, if_pos (show bigW x = true from by simp [bigW]; omega)]; rfl
          · rw [if_neg h2, if_neg (show ¬ bigW x = true from by simp [bigW]; omega)]; rfl
theorem ev_Check (n : Int) (xs : List S72) (hx : xs.length ≤ 4611686018427387904) : Ev (fun k => batch_Check.f k n xs) (checkS n xs) := by
  have j1 : ∀ e b, Ev (fun k => batch_Check.j1 k e b n xs) (if b = true then 2 else chk e xs) := fun e b => by
    by_cases hb : b = true
    · rw [if_pos hb]
      refine Ev.step (f := fun _ => some 2) (fun k => ?_) (Ev.now _)
      rw [batch_Check.j1, if_pos hb]
    · rw [if_neg hb]
      refine Ev.step (f := fun k => batch_Check.l0 k e xs (xs.length : Int) 0) (fun k => ?_) (ev_chk xs hx xs.length 0 e (by omega))
      rw [batch_Check.j1, if_neg hb]
  have j0 : ∀ e, Ev (fun k => batch_Check.j0 k e n xs) (if xs.length = 0 ∨ n < 1 ∨ n > 72057594037927872 then 2 else chk e xs) := fun e => by
    by_cases h0 : xs.length = 0
    · rw [if_pos (.inl h0)]
      exact Ev.step (f := fun k => batch_Check.j1 k e true n xs) (fun k => by rw [batch_Check.j0, if_pos (by omega)]) (j1 e true)
    · by_cases h1 : n < 1
      · rw [if_pos (.inr (.inl h1))]
        exact Ev.step (f := fun k => batch_Check.j1 k e true n xs) (fun k => by rw [batch_Check.j0, if_neg (by omega), if_pos h1]) (j1 e true)
      · have e1 : (if xs.length = 0 ∨ n < 1 ∨ n > 72057594037927872 then 2 else chk e xs) = if decide (n > 72057594037927872) = true then 2 else chk e xs := by
          by_cases h2 : n > 72057594037927872 <;> simp [h0, h1, h2]
        rw [e1]
        exact Ev.step (f := fun k => batch_Check.j1 k e (decide (n > 72057594037927872)) n xs) (fun k => by rw [batch_Check.j0, if_neg (by omega), if_neg h1]) (j1 e _)
  have e2 : ∀ e, (if xs.length = 0 ∨ n < 1 ∨ n > 72057594037927872 then 2 else chk e xs) = if xs.length = 0 ∨ n < 1 ∨ n > 72057594037927872 ∨ xs.any badW = true then 2 else if xs.any bigW = true then 3 else e := fun e => by
    rw [chk_is]
    by_cases h : xs.length = 0 ∨ n < 1 ∨ n > 72057594037927872
    · rw [if_pos h, if_pos (by rcases h with h | h | h <;> simp [h])]
    · rw [if_neg h]
      by_cases hb : xs.any badW = true
      · rw [if_pos hb, if_pos (.inr (.inr (.inr hb)))]
      · rw [if_neg hb, if_neg (show ¬ (xs.length = 0 ∨ n < 1 ∨ n > 72057594037927872 ∨ xs.any badW = true) from fun hh => (by
          rcases hh with hh | hh | hh | hh
          · exact h (.inl hh)
          · exact h (.inr (.inl hh))
          · exact h (.inr (.inr hh))
          · exact hb hh))]
  by_cases h : (xs.length : Int) > 64
  · refine Ev.congr (f := fun k => batch_Check.j0 k 3 n xs) (fun k => by rw [batch_Check.f, if_pos h]) ?_
    have := j0 3
    rw [e2] at this
    have e3 : checkS n xs = if xs.length = 0 ∨ n < 1 ∨ n > 72057594037927872 ∨ xs.any badW = true then 2 else if xs.any bigW = true then 3 else 3 := by
      unfold checkS
      congr 1
      rw [if_pos (.inl (by omega))]
      simp
    rw [e3]; exact this
  · refine Ev.congr (f := fun k => batch_Check.j0 k 0 n xs) (fun k => by rw [batch_Check.f, if_neg h]) ?_
    have := j0 0
    rw [e2] at this
    have e3 : checkS n xs = if xs.length = 0 ∨ n < 1 ∨ n > 72057594037927872 ∨ xs.any badW = true then 2 else if xs.any bigW = true then 3 else 0 := by
      unfold checkS
      congr 1
      have : ¬ xs.length > 64 := by omega
      simp [this]
    rw [e3]; exact this
/-! The reference's Check. -/
theorem check_ok' {n : Int} {l : List S72} (h : checkS n l = 0) : 1 ≤ n ∧ n ≤ 72057594037927872 ∧ 1 ≤ l.length ∧ l.length ≤ 64 := by
  unfold checkS at h
  by_cases h1 : l.length = 0 ∨ n < 1 ∨ n > 72057594037927872 ∨ l.any badW = true
  · rw [if_pos h1] at h; cases h
  · rw [if_neg h1] at h
    by_cases h2 : l.length > 64 ∨ l.any bigW = true
    · rw [if_pos h2] at h; cases h
    · omega
/-- The row of a write. -/
def row1 (n : Int) (i : Nat) (x : S72) : S28 := ⟨x.f1, n + (i : Int), x.f0, x.f2⟩
def rowsL (n : Int) (i : Nat) : List S72 → List S28
  | [] => []
  | x :: r => row1 n i x :: rowsL n (i + 1) r
theorem rowsL_len (n : Int) : ∀ (i : Nat) (l : List S72), (rowsL n i l).length = l.length
  | _, [] => rfl
  | i, x :: r => by rw [rowsL, List.length_cons, List.length_cons, rowsL_len n (i + 1) r]
theorem rowsL_get (n : Int) : ∀ (i j : Nat) (l : List S72) (h : j < l.length), (rowsL n i l)[j]? = some (row1 n (i + j) l[j])
  | _, _, [], h => by simp at h
  | i, 0, x :: r, _ => by simp [rowsL]
  | i, j + 1, x :: r, h => by
    rw [rowsL, List.getElem?_cons_succ, rowsL_get n (i + 1) j r (by simpa using h)]
    simp only [List.getElem_cons_succ]
    rw [show i + 1 + j = i + (j + 1) from by omega]
theorem rowsL_app (n : Int) : ∀ (i : Nat) (a b : List S72), rowsL n i (a ++ b) = rowsL n i a ++ rowsL n (i + a.length) b
  | _, [], b => rfl
  | i, x :: r, b => by rw [List.cons_append, rowsL, rowsL, rowsL_app n (i + 1) r b, List.cons_append, List.length_cons, show i + 1 + r.length = i + (r.length + 1) from by omega]
theorem rowsL_shift (n : Int) (m : Nat) : ∀ (i : Nat) (l : List S72), rowsL (n + (m : Int)) i l = rowsL n (i + m) l
  | _, [] => rfl
  | i, x :: r => by
    rw [rowsL, rowsL, rowsL_shift n m (i + 1) r, show i + 1 + m = i + m + 1 from by omega]
    congr 1
    simp only [row1]
    congr 1
    omega
def rowsS (n : Int) (l : List S72) : List S28 := if checkS n l = 0 then rowsL n 0 l else []
def nextS (n : Int) (l : List S72) : Int := if checkS n l = 0 then n + (l.length : Int) else 0
theorem ev_rowsL (n : Int) (l : List S72) (hl : l.length ≤ 64) (h1 : 1 ≤ n) (h2 : n ≤ 72057594037927872) : ∀ c i (acc : List S28), i + c = l.length → acc.length = i → Ev (fun k => batch_Rows.l0 k acc l (l.length : Int) (i : Int) n l) (acc ++ rowsL n i (l.drop i))
  | 0, i, acc, hi, ha => by
    rw [List.drop_eq_nil_of_le (by omega), rowsL, List.append_nil]
    exact Ev.step (f := fun _ => some acc) (fun k => by rw [batch_Rows.l0, if_neg (by omega)]) (Ev.now _)
  | c + 1, i, acc, hi, ha => by
    have h := ev_rowsL n l hl h1 h2 c (i + 1) (acc ++ [row1 n i (rd_T72 l (i : Int))]) (by omega) (by simp [ha])
    rw [rd_at l i (by omega), rowsL, ← List.singleton_append, ← List.append_assoc]
    refine Ev.step (fun k => ?_) h
    have e1 : IntKind.u64.wrap (i : Int) = (i : Int) := by rw [IntKind.wrap_u64]; omega
    have e2 : IntKind.u64.wrap (n + (i : Int)) = n + (i : Int) := by rw [IntKind.wrap_u64]; omega
    rw [batch_Rows.l0, if_pos (by omega), if_pos (by omega), if_pos (by omega), if_pos (by omega), wrap64_id' _ (by omega) (by omega), e1, e2]
    rfl
theorem ev_RowsS (n : Int) (l : List S72) (hl : l.length ≤ 4611686018427387904) : Ev (fun k => batch_Rows.f k n l) (rowsS n l) := by
  refine Ev.bind (ev_Check n l hl) ?_
  unfold rowsS
  by_cases h : checkS n l = 0
  · obtain ⟨h1, h2, h3, h4⟩ := check_ok' h
    simp only [if_pos h]
    exact ev_rowsL n l h4 h1 h2 l.length 0 [] (by omega) rfl
  · simp only [if_neg h]
    exact Ev.now _
theorem rowsL_mem {n : Int} : ∀ {i : Nat} {l : List S72} {r : S28}, r ∈ rowsL n i l → ∃ j x, x ∈ l ∧ j < i + l.length ∧ r = row1 n j x
  | _, [], r, h => by simp [rowsL] at h
  | i, x :: t, r, h => by
    rw [rowsL] at h
    rcases List.mem_cons.mp h with rfl | h
    · exact ⟨i, x, List.mem_cons_self, by simp, rfl⟩
    · obtain ⟨j, y, h1, h2, h3⟩ := rowsL_mem h
      exact ⟨j, y, List.mem_cons_of_mem _ h1, by simp; omega, h3⟩
theorem rows_small {n : Int} {l : List S72} (h : checkS n l = 0) : ∀ r, r ∈ rowsL n 0 l → r.f0.size ≤ 520 ∧ r.f3.size ≤ 2048 ∧ r.f1 ≤ 18446744073709551615 := fun r hr => by
  obtain ⟨h1, h2, h3, h4⟩ := check_ok' h
  obtain ⟨j, x, hx, hj, rfl⟩ := rowsL_mem hr
  have hb : l.any bigW = false := by
    cases hq : l.any bigW with
    | false => rfl
    | true =>
      unfold checkS at h
      by_cases c : l.length = 0 ∨ n < 1 ∨ n > 72057594037927872 ∨ l.any badW = true
      · rw [if_pos c] at h; cases h
      · rw [if_neg c, if_pos (.inr hq)] at h; cases h
  have hb2 := List.any_eq_false.mp hb x hx
  unfold bigW at hb2
  simp only [Bool.or_eq_true, decide_eq_true_eq, not_or, Nat.not_lt] at hb2
  refine ⟨hb2.1, hb2.2, ?_⟩
  show n + (j : Int) ≤ _
  omega
end Go.Proofs.Ytfemebenkbobnaa.PB06
