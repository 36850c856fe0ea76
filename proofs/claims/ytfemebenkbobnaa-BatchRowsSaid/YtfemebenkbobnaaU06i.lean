import Derived.Test.YtfemebenkbobnaaPB063
import Derived.Test.YtfemebenkbobnaaPB066
import Derived.Test.YtfemebenkbobnaaPB068
import Derived.Test.YtfemebenkbobnaaR06
import Derived.Test.YtfemebenkbobnaaS06
import Derived.Test.YtfemebenkbobnaaF06
import Derived.Test.YtfemebenkbobnaaPB0615
import Derived.Test.YtfemebenkbobnaaO6s
import Derived.Test.YtfemebenkbobnaaQ06
/- The plain law of BatchRows: the rows, the next number and the sameness of batches are the reference's. Conditions: none. -/
namespace Go.Proofs.Ytfemebenkbobnaa.PB06
open Go.RowKit Go.Proofs.YtfemebenkbobnaaW.PrintWords Go.Proofs.YtfemebenkbobnaaW.PrintLast Go.Proofs.YtfemebenkbobnaaW.PrintMore
theorem wrap64_id (x : Int) (h0 : -9223372036854775808 ≤ x) (h1 : x ≤ 9223372036854775807) : wrap64 x = x := by unfold wrap64; omega
theorem wrap64_id' (x : Int) (h0 : -9223372036854775808 ≤ x) (h1 : x ≤ 9223372036854775807) : wrap64 x = x := by unfold wrap64; omega
theorem rd_at (xs : List S72) (i : Nat) (h : i < xs.length) : xs.drop i = rd_T72 xs (i : Int) :: xs.drop (i + 1) := by
  rw [List.drop_eq_getElem_cons h]
  simp [rd_T72, h]
theorem toList_nil (s : ByteArray) : s.toList = [] ↔ s.size = 0 := by
  rw [ByteArray.toList_eq, ← List.length_eq_zero_iff, Array.length_toList]
  rfl
def badW (x : S72) : Bool := !(x.f0 == 1 || x.f0 == 2) || x.f1.size == 0 || (x.f0 == 2 && x.f2.size != 0)
def bigW (x : S72) : Bool := decide (x.f1.size > 520) || decide (x.f2.size > 2048)
def chk (e : Int) : List S72 → Int
  | [] => e
  | x :: r => if badW x then 2 else chk (if bigW x then 3 else e) r
theorem chk_is : ∀ (l : List S72) (e : Int), chk e l = if l.any badW then 2 else if l.any bigW then 3 else e
  | [], e => by simp [chk]
  | x :: r, e => by
    rw [chk, chk_is r]
    by_cases h : badW x <;> by_cases h2 : bigW x <;> simp [h, h2]
def checkS (n : Int) (l : List S72) : Int := if l.length = 0 ∨ n < 1 ∨ n > 72057594037927872 ∨ l.any badW = true then 2 else if l.length > 64 ∨ l.any bigW = true then 3 else 0
theorem ev_chk (xs : List S72) (hx : xs.length ≤ 4611686018427387904) : ∀ c i e, i + c = xs.length → Ev (fun k => batch_Check.l0 k e xs (xs.length : Int) (i : Int)) (chk e (xs.drop i))
  | 0, i, e, hi => by
    rw [List.drop_eq_nil_of_le (by omega), chk]
    refine Ev.step (f := fun _ => some e) (fun k => ?_) (Ev.now _)
    rw [batch_Check.l0, if_neg (by omega)]
  | c + 1, i, e, hi => by
    rw [rd_at xs i (by omega), chk]
    refine Ev.step (f := fun k => batch_Check.j3 k e xs (xs.length : Int) (i : Int) (badW (rd_T72 xs (i : Int))) (rd_T72 xs (i : Int)).f0 (rd_T72 xs (i : Int)).f1 (rd_T72 xs (i : Int)).f2) (fun k => ?_) ?_
    · rw [batch_Check.l0, if_pos (by omega), if_pos (by omega), if_pos (by omega)]
      generalize rd_T72 xs (i : Int) = x
      have h4 : (x.f2.toList != []) = (x.f2.size != 0) := by
        rw [Bool.eq_iff_iff]; simp [toList_nil]
      by_cases h1 : x.f0 = 1
      · have h2 : ¬ x.f0 = 2 := by omega
        rw [if_pos h1]
        by_cases h3 : x.f1.toList = []
        · rw [if_pos h3]; rw [toList_nil] at h3; simp [badW, h3]
        · rw [if_neg h3, if_neg h2]; rw [toList_nil] at h3; simp [badW, h1, beq_false_of_ne h3]
      · rw [if_neg h1]
        by_cases h2 : x.f0 = 2
        · rw [if_pos h2]
          by_cases h3 : x.f1.toList = []
          · rw [if_pos h3]; rw [toList_nil] at h3; simp [badW, h3]
          · rw [if_neg h3, h4]; rw [toList_nil] at h3; simp [badW, h2, beq_false_of_ne h3]
        · rw [if_neg h2]; simp [badW, beq_false_of_ne h1, beq_false_of_ne h2]
    · generalize rd_T72 xs (i : Int) = x
      have ih := fun e => ev_chk xs hx c (i + 1) e (by omega)
      by_cases hb : badW x = true
      · rw [if_pos hb, hb]
        refine Ev.step (f := fun _ => some 2) (fun k => ?_) (Ev.now _)
        rw [batch_Check.j3, if_pos rfl]
      · rw [if_neg hb]
        refine Ev.step (f := fun k => batch_Check.l0 k (if bigW x then 3 else e) xs (xs.length : Int) ((i + 1 : Nat) : Int)) (fun k => ?_) (ih _)
        rw [batch_Check.j3, if_neg hb, wrap64_id' _ (by omega) (by omega)]
        by_cases h1 : (x.f1.size : Int) > 520
        · rw [if_pos h1, if_pos (show bigW x = true from by simp [bigW]; omega)]; rfl
        · rw [if_neg h1]
          by_cases h2 : (x.f2.size : Int) > 2048
          · rw [if_pos h2, if_pos (show bigW x = true from by simp [bigW]; omega)]; rfl
          · rw [if_neg h2, if_neg (show ¬ bigW x = true from by simp [bigW]; omega)]; rfl
theorem ev_Check (n : Int) (xs : List S72) (hx : xs.length ≤ 4611686018427387904) : Ev (fun k => batch_Check.f k n xs) (checkS n xs) := by
  have j1 : ∀ e b, Ev (fun k => batch_Check.j1 k e b n xs) (if b = true then 2 else chk e xs) := fun e b => by
    by_cases hb : b = true
    · rw [if_pos hb]
      refine Ev.step (f := fun _ => some 2) (fun k => ?_) (Ev.now _)
      rw [batch_Check.j1, if_pos hb]
    · rw [if_neg hb]
      refine Ev.step (f := fun k => batch_Check.l0 k e xs (xs.length : Int) 0) (fun k => ?_) (ev_chk xs hx xs.length 0 e (by omega))
      rw [batch_Check.j1, if_neg hb]
  have j0 : ∀ e, Ev (fun k => batch_Check.j0 k e n xs) (if xs.length = 0 ∨ n < 1 ∨ n > 72057594037927872 then 2 else chk e xs) := fun e => by
    by_cases h0 : xs.length = 0
    · rw [if_pos (.inl h0)]
      exact Ev.step (f := fun k => batch_Check.j1 k e true n xs) (fun k => by rw [batch_Check.j0, if_pos (by omega)]) (j1 e true)
    · by_cases h1 : n < 1
      · rw [if_pos (.inr (.inl h1))]
        exact Ev.step (f := fun k => batch_Check.j1 k e true n xs) (fun k => by rw [batch_Check.j0, if_neg (by omega), if_pos h1]) (j1 e true)
      · have e1 : (if xs.length = 0 ∨ n < 1 ∨ n > 72057594037927872 then 2 else chk e xs) = if decide (n > 72057594037927872) = true then 2 else chk e xs := by
          by_cases h2 : n > 72057594037927872 <;> simp [h0, h1, h2]
        rw [e1]
        exact Ev.step (f := fun k => batch_Check.j1 k e (decide (n > 72057594037927872)) n xs) (fun k => by rw [batch_Check.j0, if_neg (by omega), if_neg h1]) (j1 e _)
  have e2 : ∀ e, (if xs.length = 0 ∨ n < 1 ∨ n > 72057594037927872 then 2 else chk e xs) = if xs.length = 0 ∨ n < 1 ∨ n > 72057594037927872 ∨ xs.any badW = true then 2 else if xs.any bigW = true then 3 else e := fun e => by
    rw [chk_is]
    by_cases h : xs.length = 0 ∨ n < 1 ∨ n > 72057594037927872
    · rw [if_pos h, if_pos (by rcases h with h | h | h <;> simp [h])]
    · rw [if_neg h]
      by_cases hb : xs.any badW = true
      · rw [if_pos hb, if_pos (.inr (.inr (.inr hb)))]
      · rw [if_neg hb, if_neg (show ¬ (xs.length = 0 ∨ n < 1 ∨ n > 72057594037927872 ∨ xs.any badW = true) from fun hh => (by
          rcases hh with hh | hh | hh | hh
          · exact h (.inl hh)
          · exact h (.inr (.inl hh))
          · exact h (.inr (.inr hh))
          · exact hb hh))]
  by_cases h : (xs.length : Int) > 64
  · refine Ev.congr (f := fun k => batch_Check.j0 k 3 n xs) (fun k => by rw [batch_Check.f, if_pos h]) ?_
    have := j0 3
    rw [e2] at this
    have e3 : checkS n xs = if xs.length = 0 ∨ n < 1 ∨ n > 72057594037927872 ∨ xs.any badW = true then 2 else if xs.any bigW = true then 3 else 3 := by
      unfold checkS
      congr 1
      rw [if_pos (.inl (by omega))]
      simp
    rw [e3]; exact this
  · refine Ev.congr (f := fun k => batch_Check.j0 k 0 n xs) (fun k => by rw [batch_Check.f, if_neg h]) ?_
    have := j0 0
    rw [e2] at this
    have e3 : checkS n xs = if xs.length = 0 ∨ n < 1 ∨ n > 72057594037927872 ∨ xs.any badW = true then 2 else if xs.any bigW = true then 3 else 0 := by
      unfold checkS
      congr 1
      have : ¬ xs.length > 64 := by omega
      simp [this]
    rw [e3]; exact this
/-! The reference's Check. -/
theorem ev_rc1 (n : Int) (xs : List S72) (hx : xs.length ≤ 4611686018427387904) : ∀ c i, i + c = xs.length → Ev (fun k => freshetref06_Check.l1 k (i : Int) n xs) (if (xs.drop i).any bigW = true then 3 else 0)
  | 0, i, hi => by
    rw [List.drop_eq_nil_of_le (by omega)]
    refine Ev.step (f := fun _ => some 0) (fun k => ?_) (Ev.now _)
    rw [freshetref06_Check.l1, if_neg (by omega)]
  | c + 1, i, hi => by
    rw [rd_at xs i (by omega), List.any_cons]
    by_cases hb : bigW (rd_T72 xs (i : Int)) = true
    · rw [hb, Bool.true_or, if_pos rfl]
      refine Ev.step (f := fun _ => some 3) (fun k => ?_) (Ev.now _)
      rw [freshetref06_Check.l1, if_pos (by omega), if_pos (by omega)]
      simp only [bigW, Bool.or_eq_true, decide_eq_true_eq] at hb
      by_cases h1 : ((rd_T72 xs (i : Int)).f1.size : Int) > 520
      · rw [if_pos h1]
      · rw [if_neg h1, if_pos (by omega)]
    · have hb' : bigW (rd_T72 xs (i : Int)) = false := by simpa using hb
      rw [hb', Bool.false_or]
      refine Ev.step (f := fun k => freshetref06_Check.l1 k ((i + 1 : Nat) : Int) n xs) (fun k => ?_) (ev_rc1 n xs hx c (i + 1) (by omega))
      simp only [bigW, Bool.or_eq_true, decide_eq_true_eq] at hb
      rw [freshetref06_Check.l1, if_pos (by omega), if_pos (by omega), if_neg (by omega), if_neg (by omega), wrap64_id' _ (by omega) (by omega)]
      rfl
theorem ev_rc0 (n : Int) (xs : List S72) (hx : xs.length ≤ 4611686018427387904) : ∀ c i, i + c = xs.length → Ev (fun k => freshetref06_Check.l0 k (i : Int) n xs) (if (xs.drop i).any badW = true then 2 else if xs.length > 64 ∨ xs.any bigW = true then 3 else 0)
  | 0, i, hi => by
    rw [List.drop_eq_nil_of_le (by omega), List.any_nil, if_neg (by simp)]
    by_cases h : xs.length > 64
    · rw [if_pos (.inl h)]
      refine Ev.step (f := fun _ => some 3) (fun k => ?_) (Ev.now _)
      rw [freshetref06_Check.l0, if_neg (by omega), if_pos (by omega)]
    · have := ev_rc1 n xs hx xs.length 0 (by omega)
      rw [List.drop_zero] at this
      have e : (if xs.length > 64 ∨ xs.any bigW = true then (3 : Int) else 0) = if xs.any bigW = true then 3 else 0 := by simp [h]
      rw [e]
      refine Ev.step (f := fun k => freshetref06_Check.l1 k 0 n xs) (fun k => ?_) this
      rw [freshetref06_Check.l0, if_neg (by omega), if_neg (by omega)]
  | c + 1, i, hi => by
    rw [rd_at xs i (by omega), List.any_cons]
    have ih := ev_rc0 n xs hx c (i + 1) (by omega)
    have h1 : ((i : Int) < (xs.length : Int)) := by omega
    have h2 : (0 : Int) ≤ (i : Int) := by omega
    have hw : wrap64 ((i : Int) + 1) = ((i + 1 : Nat) : Int) := by rw [wrap64_id' _ (by omega) (by omega)]; rfl
    by_cases hb : badW (rd_T72 xs (i : Int)) = true
    · rw [hb, Bool.true_or, if_pos rfl]
      refine Ev.step (f := fun _ => some 2) (fun k => ?_) (Ev.now _)
      rw [freshetref06_Check.l0, if_pos h1, if_pos h2]
      generalize rd_T72 xs (i : Int) = x at hb ⊢
      simp only [badW] at hb
      by_cases a1 : x.f0 = 1 <;> by_cases a2 : x.f0 = 2 <;> by_cases a3 : x.f1.size = 0 <;> by_cases a4 : x.f2.size = 0 <;> simp_all <;> omega
    · have hb' : badW (rd_T72 xs (i : Int)) = false := by simpa using hb
      rw [hb', Bool.false_or]
      refine Ev.step (f := fun k => freshetref06_Check.l0 k ((i + 1 : Nat) : Int) n xs) (fun k => ?_) ih
      rw [freshetref06_Check.l0, if_pos h1, if_pos h2, hw]
      generalize rd_T72 xs (i : Int) = x at hb ⊢
      simp only [badW] at hb
      by_cases a1 : x.f0 = 1 <;> by_cases a2 : x.f0 = 2 <;> by_cases a3 : x.f1.size = 0 <;> by_cases a4 : x.f2.size = 0 <;> simp_all <;> omega
theorem ev_rCheck (n : Int) (xs : List S72) (hx : xs.length ≤ 4611686018427387904) : Ev (fun k => freshetref06_Check.f k n xs) (checkS n xs) := by
  have l0 := ev_rc0 n xs hx xs.length 0 (by omega)
  rw [List.drop_zero] at l0
  have jt : Ev (fun k => freshetref06_Check.j0 k true n xs) 2 :=
    Ev.step (f := fun _ => some 2) (fun k => by rw [freshetref06_Check.j0, if_pos rfl]) (Ev.now _)
  by_cases h0 : xs.length = 0
  · refine Ev.congr (f := fun k => freshetref06_Check.j0 k true n xs) (fun k => by rw [freshetref06_Check.f, if_pos (by omega)]) ?_
    rw [checkS, if_pos (.inl h0)]; exact jt
  · by_cases h1 : n < 1
    · refine Ev.congr (f := fun k => freshetref06_Check.j0 k true n xs) (fun k => by rw [freshetref06_Check.f, if_neg (by omega), if_pos h1]) ?_
      rw [checkS, if_pos (.inr (.inl h1))]; exact jt
    · refine Ev.congr (f := fun k => freshetref06_Check.j0 k (decide (n > 72057594037927872)) n xs) (fun k => by rw [freshetref06_Check.f, if_neg (by omega), if_neg h1]) ?_
      by_cases h2 : n > 72057594037927872
      · rw [decide_eq_true h2, checkS, if_pos (.inr (.inr (.inl h2)))]; exact jt
      · rw [decide_eq_false h2]
        have e : checkS n xs = if xs.any badW = true then 2 else if xs.length > 64 ∨ xs.any bigW = true then 3 else 0 := by
          unfold checkS
          simp only [h0, h1, h2, false_or]
        rw [e]
        exact Ev.step (f := fun k => freshetref06_Check.l0 k 0 n xs) (fun k => by rw [freshetref06_Check.j0, if_neg (by simp)]) l0
theorem check_ok' {n : Int} {l : List S72} (h : checkS n l = 0) : 1 ≤ n ∧ n ≤ 72057594037927872 ∧ 1 ≤ l.length ∧ l.length ≤ 64 := by
  unfold checkS at h
  by_cases h1 : l.length = 0 ∨ n < 1 ∨ n > 72057594037927872 ∨ l.any badW = true
  · rw [if_pos h1] at h; cases h
  · rw [if_neg h1] at h
    by_cases h2 : l.length > 64 ∨ l.any bigW = true
    · rw [if_pos h2] at h; cases h
    · omega
/-- The row of a write. -/
def row1 (n : Int) (i : Nat) (x : S72) : S28 := ⟨x.f1, n + (i : Int), x.f0, x.f2⟩
def rowsL (n : Int) (i : Nat) : List S72 → List S28
  | [] => []
  | x :: r => row1 n i x :: rowsL n (i + 1) r
theorem rowsL_len (n : Int) : ∀ (i : Nat) (l : List S72), (rowsL n i l).length = l.length
  | _, [] => rfl
  | i, x :: r => by rw [rowsL, List.length_cons, List.length_cons, rowsL_len n (i + 1) r]
theorem rowsL_get (n : Int) : ∀ (i j : Nat) (l : List S72) (h : j < l.length), (rowsL n i l)[j]? = some (row1 n (i + j) l[j])
  | _, _, [], h => by simp at h
  | i, 0, x :: r, _ => by simp [rowsL]
  | i, j + 1, x :: r, h => by
    rw [rowsL, List.getElem?_cons_succ, rowsL_get n (i + 1) j r (by simpa using h)]
    simp only [List.getElem_cons_succ]
    rw [show i + 1 + j = i + (j + 1) from by omega]
theorem rowsL_app (n : Int) : ∀ (i : Nat) (a b : List S72), rowsL n i (a ++ b) = rowsL n i a ++ rowsL n (i + a.length) b
  | _, [], b => rfl
  | i, x :: r, b => by rw [List.cons_append, rowsL, rowsL, rowsL_app n (i + 1) r b, List.cons_append, List.length_cons, show i + 1 + r.length = i + (r.length + 1) from by omega]
theorem rowsL_shift (n : Int) (m : Nat) : ∀ (i : Nat) (l : List S72), rowsL (n + (m : Int)) i l = rowsL n (i + m) l
  | _, [] => rfl
  | i, x :: r => by
    rw [rowsL, rowsL, rowsL_shift n m (i + 1) r, show i + 1 + m = i + m + 1 from by omega]
    congr 1
    simp only [row1]
    congr 1
    omega
def rowsS (n : Int) (l : List S72) : List S28 := if checkS n l = 0 then rowsL n 0 l else []
def nextS (n : Int) (l : List S72) : Int := if checkS n l = 0 then n + (l.length : Int) else 0
theorem ev_rowsL (n : Int) (l : List S72) (hl : l.length ≤ 64) (h1 : 1 ≤ n) (h2 : n ≤ 72057594037927872) : ∀ c i (acc : List S28), i + c = l.length → acc.length = i → Ev (fun k => batch_Rows.l0 k acc l (l.length : Int) (i : Int) n l) (acc ++ rowsL n i (l.drop i))
  | 0, i, acc, hi, ha => by
    rw [List.drop_eq_nil_of_le (by omega), rowsL, List.append_nil]
    exact Ev.step (f := fun _ => some acc) (fun k => by rw [batch_Rows.l0, if_neg (by omega)]) (Ev.now _)
  | c + 1, i, acc, hi, ha => by
    have h := ev_rowsL n l hl h1 h2 c (i + 1) (acc ++ [row1 n i (rd_T72 l (i : Int))]) (by omega) (by simp [ha])
    rw [rd_at l i (by omega), rowsL, ← List.singleton_append, ← List.append_assoc]
    refine Ev.step (fun k => ?_) h
    have e1 : IntKind.u64.wrap (i : Int) = (i : Int) := by rw [IntKind.wrap_u64]; omega
    have e2 : IntKind.u64.wrap (n + (i : Int)) = n + (i : Int) := by rw [IntKind.wrap_u64]; omega
    rw [batch_Rows.l0, if_pos (by omega), if_pos (by omega), if_pos (by omega), if_pos (by omega), wrap64_id _ (by omega) (by omega), e1, e2]
    rfl
theorem ev_RowsS (n : Int) (l : List S72) (hl : l.length ≤ 4611686018427387904) : Ev (fun k => batch_Rows.f k n l) (rowsS n l) := by
  refine Ev.bind (ev_Check n l hl) ?_
  unfold rowsS
  by_cases h : checkS n l = 0
  · obtain ⟨h1, h2, h3, h4⟩ := check_ok' h
    simp only [if_pos h]
    exact ev_rowsL n l h4 h1 h2 l.length 0 [] (by omega) rfl
  · simp only [if_neg h]
    exact Ev.now _
theorem ev_NextS (n : Int) (l : List S72) (hl : l.length ≤ 4611686018427387904) : Ev (fun k => batch_Next.f k n l) (nextS n l) := by
  refine Ev.bind (ev_Check n l hl) ?_
  unfold nextS
  by_cases h : checkS n l = 0
  · obtain ⟨h1, h2, h3, h4⟩ := check_ok' h
    simp only [if_pos h]
    have e1 : IntKind.u64.wrap (l.length : Int) = (l.length : Int) := by rw [IntKind.wrap_u64]; omega
    have e2 : IntKind.u64.wrap (n + (l.length : Int)) = n + (l.length : Int) := by rw [IntKind.wrap_u64]; omega
    rw [e1, e2]
    exact Ev.now _
  · simp only [if_neg h]
    exact Ev.now _
theorem awake_true_N : Ev freshetlaw06_awake.f true := Ev.of (fun k => freshetlaw06_awake.mono k) (k := 30) (by decide +kernel)
theorem aw_N : Ev (fun k => (freshetlaw06_awake.f k).bind fun t => some t) true := Ev.bind awake_true_N (Ev.now _)
theorem toList_inj {a b : ByteArray} (h : a.toList = b.toList) : a = b := by
  rw [ByteArray.toList_eq, ByteArray.toList_eq] at h
  exact Go.WideShapes.bytes_inj h
instance : DecidableEq S72 := fun x y =>
  if h : x.f0 = y.f0 ∧ x.f1.data.toList = y.f1.data.toList ∧ x.f2.data.toList = y.f2.data.toList then
    isTrue (by
      obtain ⟨h0, h1, h2⟩ := h
      cases x
      cases y
      simp only at h0 h1 h2
      rw [h0, Go.WideShapes.bytes_inj h1, Go.WideShapes.bytes_inj h2])
  else isFalse (fun e => h (by subst e; exact ⟨rfl, rfl, rfl⟩))
theorem row_eq (x y : S72) : ((!((x.f0) == (y.f0)) || (!((x.f1).toList == (y.f1).toList) || (!((x.f2).toList == (y.f2).toList)))) = true) ↔ x ≠ y := by
  constructor
  · intro h e
    subst e
    simp at h
  · intro h
    by_cases h0 : x.f0 = y.f0
    · by_cases h1 : x.f1 = y.f1
      · by_cases h2 : x.f2 = y.f2
        · exact absurd (by cases x; cases y; simp_all) h
        · have : ¬ x.f2.toList = y.f2.toList := fun e => h2 (toList_inj e)
          simp [this]
      · have : ¬ x.f1.toList = y.f1.toList := fun e => h1 (toList_inj e)
        simp [this]
    · simp [h0]
theorem ev_writes (l r : List S72) (hl : l.length = r.length) (hb : l.length ≤ 4611686018427387904) : ∀ c i, i + c = l.length → Ev (fun k => api_Write.l0 k l r (l.length : Int) (i : Int)) (decide (l.drop i = r.drop i))
  | 0, i, hi => by
    rw [List.drop_eq_nil_of_le (by omega), List.drop_eq_nil_of_le (by omega), decide_eq_true rfl]
    exact Ev.step (f := fun _ => some true) (fun k => by rw [api_Write.l0, if_neg (by omega)]) (Ev.now _)
  | c + 1, i, hi => by
    rw [rd_at l i (by omega), rd_at r i (by omega)]
    by_cases h : rd_T72 l (i : Int) = rd_T72 r (i : Int)
    · have e : decide (rd_T72 l (i : Int) :: l.drop (i + 1) = rd_T72 r (i : Int) :: r.drop (i + 1)) = decide (l.drop (i + 1) = r.drop (i + 1)) := by simp [h]
      rw [e]
      refine Ev.step (f := fun k => api_Write.l0 k l r (l.length : Int) ((i + 1 : Nat) : Int)) (fun k => ?_) (ev_writes l r hl hb c (i + 1) (by omega))
      rw [api_Write.l0, if_pos (by omega), if_pos (by omega), if_pos (by omega), if_pos (by omega), if_neg (fun hh => (row_eq _ _).mp hh h), wrap64_id _ (by omega) (by omega)]
      rfl
    · have e : decide (rd_T72 l (i : Int) :: l.drop (i + 1) = rd_T72 r (i : Int) :: r.drop (i + 1)) = false := by simp [h]
      rw [e]
      refine Ev.step (f := fun _ => some false) (fun k => ?_) (Ev.now _)
      rw [api_Write.l0, if_pos (by omega), if_pos (by omega), if_pos (by omega), if_pos (by omega), if_pos ((row_eq _ _).mpr h)]
theorem ev_bSame (n m : Int) (l r : List S72) (hb : l.length ≤ 4611686018427387904) : Ev (fun k => batch_Same.f k n l m r) (decide (n = m ∧ l = r)) := by
  by_cases h : n = m
  · refine Ev.congr (f := fun k => (api_Write.f k l r).bind fun t132 => some t132) (fun k => by rw [batch_Same.f, if_pos h]) ?_
    refine Ev.bind (a := decide (l = r)) ?_ (by
      have : decide (n = m ∧ l = r) = decide (l = r) := by simp [h]
      rw [this]; exact Ev.now _)
    by_cases hl : l.length = r.length
    · refine Ev.congr (f := fun k => api_Write.l0 k l r (l.length : Int) 0) (fun k => by rw [api_Write.f, if_pos (by omega)]) ?_
      have := ev_writes l r hl hb l.length 0 (by omega)
      rw [List.drop_zero, List.drop_zero] at this
      exact this
    · have : decide (l = r) = false := decide_eq_false (fun e => hl (by rw [e]))
      rw [this]
      exact Ev.congr (f := fun _ => some false) (fun k => by rw [api_Write.f, if_neg (by omega)]) (Ev.now _)
  · have : decide (n = m ∧ l = r) = false := decide_eq_false (fun e => h e.1)
    rw [this]
    exact Ev.congr (f := fun _ => some false) (fun k => by rw [batch_Same.f, if_neg h]) (Ev.now _)
theorem ev_sameRefl (a : List S28) (ha : a.length ≤ 4611686018427387904) : Ev (fun k => freshetref06_SameRows.f k a a) true := by
  have hl : ∀ c i, i + c = a.length → Ev (fun k => freshetref06_SameRows.l0 k a a (i : Int)) true := by
    intro c
    induction c with
    | zero =>
      intro i hi
      exact Ev.step (f := fun _ => some true) (fun k => by rw [freshetref06_SameRows.l0, if_neg (by omega)]) (Ev.now _)
    | succ c ih =>
      intro i hi
      refine Ev.step (fun k => ?_) (ih (i + 1) (by omega))
      rw [freshetref06_SameRows.l0, if_pos (by omega), if_pos (by omega), if_pos (by omega), if_neg (by simp), wrap64_id _ (by omega) (by omega)]
      rfl
  refine Ev.congr (fun k => ?_) (hl a.length 0 (by omega))
  rw [freshetref06_SameRows.f, if_pos rfl]
  rfl
theorem ev_rsl (n m : Int) (l r : List S72) (hl : l.length = r.length) (hb : l.length ≤ 4611686018427387904) : ∀ c i, i + c = l.length → Ev (fun k => freshetref06_Same.l0 k (i : Int) n l m r) (decide (l.drop i = r.drop i))
  | 0, i, hi => by
    rw [List.drop_eq_nil_of_le (by omega), List.drop_eq_nil_of_le (by omega), decide_eq_true rfl]
    exact Ev.step (f := fun _ => some true) (fun k => by rw [freshetref06_Same.l0, if_neg (by omega)]) (Ev.now _)
  | c + 1, i, hi => by
    rw [rd_at l i (by omega), rd_at r i (by omega)]
    by_cases h : rd_T72 l (i : Int) = rd_T72 r (i : Int)
    · have e : decide (rd_T72 l (i : Int) :: l.drop (i + 1) = rd_T72 r (i : Int) :: r.drop (i + 1)) = decide (l.drop (i + 1) = r.drop (i + 1)) := by simp [h]
      rw [e]
      refine Ev.step (f := fun k => freshetref06_Same.l0 k ((i + 1 : Nat) : Int) n l m r) (fun k => ?_) (ev_rsl n m l r hl hb c (i + 1) (by omega))
      rw [freshetref06_Same.l0, if_pos (by omega), if_pos (by omega), if_pos (by omega), if_neg (fun hh => (row_eq _ _).mp hh h), wrap64_id _ (by omega) (by omega)]
      rfl
    · have e : decide (rd_T72 l (i : Int) :: l.drop (i + 1) = rd_T72 r (i : Int) :: r.drop (i + 1)) = false := by simp [h]
      rw [e]
      refine Ev.step (f := fun _ => some false) (fun k => ?_) (Ev.now _)
      rw [freshetref06_Same.l0, if_pos (by omega), if_pos (by omega), if_pos (by omega), if_pos ((row_eq _ _).mpr h)]
theorem ev_rSame (n m : Int) (l r : List S72) (hb : l.length ≤ 4611686018427387904) : Ev (fun k => freshetref06_Same.f k n l m r) (decide (n = m ∧ l = r)) := by
  have jt : Ev (fun k => freshetref06_Same.j0 k true n l m r) false := Ev.step (f := fun _ => some false) (fun k => by rw [freshetref06_Same.j0, if_pos rfl]) (Ev.now _)
  by_cases h : n = m
  · have e : decide (n = m ∧ l = r) = decide (l = r) := by simp [h]
    rw [e]
    by_cases hl : l.length = r.length
    · have hq : ((l.length : Int) != (r.length : Int)) = false := by rw [hl]; simp
      refine Ev.congr (f := fun k => freshetref06_Same.j0 k false n l m r) (fun k => by rw [freshetref06_Same.f, if_pos h, hq]) ?_
      have := ev_rsl n m l r hl hb l.length 0 (by omega)
      rw [List.drop_zero, List.drop_zero] at this
      exact Ev.step (f := fun k => freshetref06_Same.l0 k 0 n l m r) (fun k => by rw [freshetref06_Same.j0, if_neg (by simp)]) this
    · have hq : ((l.length : Int) != (r.length : Int)) = true := by rw [bne_iff_ne]; omega
      have e2 : decide (l = r) = false := decide_eq_false (fun e => hl (by rw [e]))
      rw [e2]
      exact Ev.congr (f := fun k => freshetref06_Same.j0 k true n l m r) (fun k => by rw [freshetref06_Same.f, if_pos h, hq]) jt
  · have e : decide (n = m ∧ l = r) = false := decide_eq_false (fun e => h e.1)
    rw [e]
    exact Ev.congr (f := fun k => freshetref06_Same.j0 k true n l m r) (fun k => by rw [freshetref06_Same.f, if_neg h]) jt
theorem ev_rrl (n : Int) (l : List S72) (hl : l.length ≤ 64) (h1 : 1 ≤ n) (h2 : n ≤ 72057594037927872) : ∀ c i (acc : List S28), i + c = l.length → acc.length = i → Ev (fun k => freshetref06_Rows.l0 k acc (i : Int) n l) (acc ++ rowsL n i (l.drop i))
  | 0, i, acc, hi, ha => by
    rw [List.drop_eq_nil_of_le (by omega), rowsL, List.append_nil]
    exact Ev.step (f := fun _ => some acc) (fun k => by rw [freshetref06_Rows.l0, if_neg (by omega)]) (Ev.now _)
  | c + 1, i, acc, hi, ha => by
    have h := ev_rrl n l hl h1 h2 c (i + 1) (acc ++ [row1 n i (rd_T72 l (i : Int))]) (by omega) (by simp [ha])
    rw [rd_at l i (by omega), rowsL, ← List.singleton_append, ← List.append_assoc]
    refine Ev.step (fun k => ?_) h
    have e1 : IntKind.u64.wrap (i : Int) = (i : Int) := by rw [IntKind.wrap_u64]; omega
    have e2 : IntKind.u64.wrap (n + (i : Int)) = n + (i : Int) := by rw [IntKind.wrap_u64]; omega
    rw [freshetref06_Rows.l0, if_pos (by omega), if_pos (by omega), if_pos (by omega), wrap64_id _ (by omega) (by omega), e1, e2]
    rfl
theorem ev_rRows (n : Int) (l : List S72) (hl : l.length ≤ 4611686018427387904) : Ev (fun k => freshetref06_Rows.f k n l) (rowsS n l) := by
  refine Ev.bind (ev_rCheck n l hl) ?_
  unfold rowsS
  by_cases h : checkS n l = 0
  · obtain ⟨h1, h2, h3, h4⟩ := check_ok' h
    simp only [if_pos h]
    exact ev_rrl n l h4 h1 h2 l.length 0 [] (by omega) rfl
  · simp only [if_neg h]
    exact Ev.now _
theorem ev_rNext (n : Int) (l : List S72) (hl : l.length ≤ 4611686018427387904) : Ev (fun k => freshetref06_Next.f k n l) (nextS n l) := by
  refine Ev.bind (ev_rCheck n l hl) ?_
  unfold nextS
  by_cases h : checkS n l = 0
  · obtain ⟨h1, h2, h3, h4⟩ := check_ok' h
    simp only [if_pos h]
    have e1 : IntKind.u64.wrap (l.length : Int) = (l.length : Int) := by rw [IntKind.wrap_u64]; omega
    have e2 : IntKind.u64.wrap (n + (l.length : Int)) = n + (l.length : Int) := by rw [IntKind.wrap_u64]; omega
    rw [e1, e2]
    exact Ev.now _
  · simp only [if_neg h]
    exact Ev.now _
theorem ev_keptR (n : Int) (l : List S72) (hl : l.length ≤ 1000000) : Ev (fun k => freshetlaw06_kept.f k n l n l) true := by
  refine Ev.congr (f := fun k => (freshetref06_Same.f k n l n l).bind fun t => (if t = true then some true else none)) (fun k => by rw [freshetlaw06_kept.f, if_pos ⟨rfl, hl⟩]) ?_
  refine Ev.bind (ev_rSame n n l l (by omega)) ?_
  have e : decide (n = n ∧ l = l) = true := by simp
  rw [e]
  exact Ev.now _
theorem rows_len (n : Int) (l : List S72) : (rowsS n l).length ≤ l.length := by
  unfold rowsS
  by_cases h : checkS n l = 0
  · rw [if_pos h, rowsL_len]; exact Nat.le_refl _
  · rw [if_neg h]; simp
theorem ev_BatchRowsL (n m : Int) (l r : List S72) (hl : l.length ≤ 300) (xs : List S28) : ∀ c i (ys : List S28), ys.length ≤ 300 → i + c = ys.length → xs = rowsS n l → Ev (fun k => freshetlaw06_BatchRows.l0 k xs ys (i : Int) n l m r n l) true
  | 0, i, ys, hy, hi, hx => by
    subst hx
    refine Ev.step (f := fun k => ((freshetref06_Rows.f k n l).bind fun t209 => ((freshetref06_SameRows.f k (rowsS n l) t209).bind fun t212 => (if t212 = true then ((batch_Next.f k n l).bind fun t213 => ((freshetref06_Next.f k n l).bind fun t214 => (if t213 = t214 then ((batch_Same.f k n l m r).bind fun t215 => ((freshetref06_Same.f k n l m r).bind fun t216 => (if (t215 == t216) = true then ((batch_Same.f k n l n l).bind fun t217 => (if t217 = true then ((freshetlaw06_kept.f k n l n l).bind fun t218 => (if t218 = true then ((freshetlaw06_awake.f k).bind fun t219 => (some t219)) else (none))) else (none))) else (none)))) else (none)))) else (none))))) (fun k => by rw [freshetlaw06_BatchRows.l0, if_neg (by omega)]) ?_
    refine Ev.bind (ev_rRows n l (by omega)) (Ev.bind (ev_sameRefl _ (by have := rows_len n l; omega)) ?_)
    simp only [if_true]
    refine Ev.bind (ev_NextS n l (by omega)) (Ev.bind (ev_rNext n l (by omega)) ?_)
    simp only [if_true]
    refine Ev.bind (ev_bSame n m l r (by omega)) (Ev.bind (ev_rSame n m l r (by omega)) ?_)
    have e0 : (decide (n = m ∧ l = r) == decide (n = m ∧ l = r)) = true := beq_self_eq_true _
    simp only [e0, if_true]
    refine Ev.bind (a := true) (by
      have e : decide (n = n ∧ l = l) = true := by simp
      have := ev_bSame n n l l (by omega)
      rw [e] at this; exact this) ?_
    simp only [if_true]
    refine Ev.bind (ev_keptR n l (by omega)) ?_
    simp only [if_true]
    exact aw_N
  | c + 1, i, ys, hy, hi, hx => by
    have ih := ev_BatchRowsL n m l r hl xs c (i + 1) (ys.set ((i : Int)).toNat (⟨(rd_T28 ys (i : Int)).f0, (rd_T28 ys (i : Int)).f1, 99, (rd_T28 ys (i : Int)).f3⟩ : S28)) (by rw [List.length_set]; exact hy) (by rw [List.length_set]; omega) hx
    refine Ev.step (fun k => ?_) ih
    rw [freshetlaw06_BatchRows.l0, if_pos (by omega), if_pos (by omega), wrap64_id _ (by omega) (by omega)]
    rfl
theorem ev_BatchRows (n m : Int) (l r : List S72) : Ev (fun k => freshetlaw06_BatchRows.f k n l m r) true := by
  unfold freshetlaw06_BatchRows.f
  by_cases hg : (l.length : Int) > 300
  · simp only [if_pos hg]
    exact aw_N
  by_cases hr : (r.length : Int) > 300
  · simp only [if_neg hg, if_pos hr]
    exact aw_N
  simp only [if_neg hg, if_neg hr]
  have eo : freshetlaw06_own.f n l = some (n, l) := by rw [freshetlaw06_own.f, if_pos (by omega)]
  simp only [eo, Option.bind_some]
  refine Ev.bind (ev_RowsS n l (by omega)) (Ev.bind (ev_RowsS n l (by omega)) ?_)
  exact ev_BatchRowsL n m l r (by omega) (rowsS n l) (rowsS n l).length 0 (rowsS n l) (by have := rows_len n l; omega) (by omega) rfl

end Go.Proofs.Ytfemebenkbobnaa.PB06
