import Derived.Test.YtfemebenkbobnaaPB063
import Derived.Test.YtfemebenkbobnaaPB066
import Derived.Test.YtfemebenkbobnaaPB068
/- What batch.Check answers, in the plain. Conditions: the list fits in 62 bits. -/
namespace Go.Proofs.Ytfemebenkbobnaa.PB06
open Go.RowKit Go.Proofs.YtfemebenkbobnaaW.PrintWords Go.Proofs.YtfemebenkbobnaaW.PrintLast Go.Proofs.YtfemebenkbobnaaW.PrintMore
theorem wrap64_id' (x : Int) (h0 : -9223372036854775808 ≤ x) (h1 : x ≤ 9223372036854775807) : wrap64 x = x := by unfold wrap64; omega
theorem wrap64_id (x : Int) (h0 : -9223372036854775808 ≤ x) (h1 : x ≤ 9223372036854775807) : wrap64 x = x := by unfold wrap64; omega
theorem rd_at (xs : List S72) (i : Nat) (h : i < xs.length) : xs.drop i = rd_T72 xs (i : Int) :: xs.drop (i + 1) := by
  rw [List.drop_eq_getElem_cons h]
  simp [rd_T72, h]
theorem toList_nil (s : ByteArray) : s.toList = [] ↔ s.size = 0 := by
  rw [ByteArray.toList_eq, ← List.length_eq_zero_iff, Array.length_toList]
  rfl
def badW (x : S72) : Bool := !(x.f0 == 1 || x.f0 == 2) || x.f1.size == 0 || (x.f0 == 2 && x.f2.size != 0)
def bigW (x : S72) : Bool := decide (x.f1.size > 520) || decide (x.f2.size > 2048)
def chk (e : Int) : List S72 → Int
  | [] => e
  | x :: r => if badW x then 2 else chk (if bigW x then 3 else e) r
theorem chk_is : ∀ (l : List S72) (e : Int), chk e l = if l.any badW then 2 else if l.any bigW then 3 else e
  | [], e => by simp [chk]
  | x :: r, e => by
    rw [chk, chk_is r]
    by_cases h : badW x <;> by_cases h2 : bigW x <;> simp [h, h2]
def checkS (n : Int) (l : List S72) : Int := if l.length = 0 ∨ n < 1 ∨ n > 72057594037927872 ∨ l.any badW = true then 2 else if l.length > 64 ∨ l.any bigW = true then 3 else 0
theorem ev_chk (xs : List S72) (hx : xs.length ≤ 4611686018427387904) : ∀ c i e, i + c = xs.length → Ev (fun k => batch_Check.l0 k e xs (xs.length : Int) (i : Int)) (chk e (xs.drop i))
  | 0, i, e, hi => by
    rw [List.drop_eq_nil_of_le (by omega), chk]
    refine Ev.step (f := fun _ => some e) (fun k => ?_) (Ev.now _)
    rw [batch_Check.l0, if_neg (by omega)]
  | c + 1, i, e, hi => by
    rw [rd_at xs i (by omega), chk]
    refine Ev.step (f := fun k => batch_Check.j3 k e xs (xs.length : Int) (i : Int) (badW (rd_T72 xs (i : Int))) (rd_T72 xs (i : Int)).f0 (rd_T72 xs (i : Int)).f1 (rd_T72 xs (i : Int)).f2) (fun k => ?_) ?_
    · rw [batch_Check.l0, if_pos (by omega), if_pos (by omega), if_pos (by omega)]
      generalize rd_T72 xs (i : Int) = x
      have h4 : (x.f2.toList != []) = (x.f2.size != 0) := by
        rw [Bool.eq_iff_iff]; simp [toList_nil]
      by_cases h1 : x.f0 = 1
      · have h2 : ¬ x.f0 = 2 := by omega
        rw [if_pos h1]
        by_cases h3 : x.f1.toList = []
        · rw [if_pos h3]; rw [toList_nil] at h3; simp [badW, h3]
        · rw [if_neg h3, if_neg h2]; rw [toList_nil] at h3; simp [badW, h1, beq_false_of_ne h3]
      · rw [if_neg h1]
        by_cases h2 : x.f0 = 2
        · rw [if_pos h2]
          by_cases h3 : x.f1.toList = []
          · rw [if_pos h3]; rw [toList_nil] at h3; simp [badW, h3]
          · rw [if_neg h3, h4]; rw [toList_nil] at h3; simp [badW, h2, beq_false_of_ne h3]
        · rw [if_neg h2]; simp [badW, beq_false_of_ne h1, beq_false_of_ne h2]
    · generalize rd_T72 xs (i : Int) = x
      have ih := fun e => ev_chk xs hx c (i + 1) e (by omega)
      by_cases hb : badW x = true
      · rw [if_pos hb, hb]
        refine Ev.step (f := fun _ => some 2) (fun k => ?_) (Ev.now _)
        rw [batch_Check.j3, if_pos rfl]
      · rw [if_neg hb]
        refine Ev.step (f := fun k => batch_Check.l0 k (if bigW x then 3 else e) xs (xs.length : Int) ((i + 1 : Nat) : Int)) (fun k => ?_) (ih _)
        rw [batch_Check.j3, if_neg hb, wrap64_id' _ (by omega) (by omega)]
        by_cases h1 : (x.f1.size : Int) > 520
        · rw [if_pos h1, if_pos (show bigW x = true from by simp [bigW]; omega)]; rfl
        · rw [if_neg h1]
          by_cases h2 : (x.f2.size : Int) > 2048
          · rw [if_pos h2, if_pos (show bigW x = true from by simp [bigW]; omega)]; rfl
          · rw [if_neg h2, if_neg (show ¬ bigW x = true from by simp [bigW]; omega)]; rfl
theorem ev_Check (n : Int) (xs : List S72) (hx : xs.length ≤ 4611686018427387904) : Ev (fun k => batch_Check.f k n xs) (checkS n xs) := by
  have j1 : ∀ e b, Ev (fun k => batch_Check.j1 k e b n xs) (if b = true then 2 else chk e xs) := fun e b => by
    by_cases hb : b = true
    · rw [if_pos hb]
      refine Ev.step (f := fun _ => some 2) (fun k => ?_) (Ev.now _)
      rw [batch_Check.j1, if_pos hb]
    · rw [if_neg hb]
      refine Ev.step (f := fun k => batch_Check.l0 k e xs (xs.length : Int) 0) (fun k => ?_) (ev_chk xs hx xs.length 0 e (by omega))
      rw [batch_Check.j1, if_neg hb]
  have j0 : ∀ e, Ev (fun k => batch_Check.j0 k e n xs) (if xs.length = 0 ∨ n < 1 ∨ n > 72057594037927872 then 2 else chk e xs) := fun e => by
    by_cases h0 : xs.length = 0
    · rw [if_pos (.inl h0)]
      exact Ev.step (f := fun k => batch_Check.j1 k e true n xs) (fun k => by rw [batch_Check.j0, if_pos (by omega)]) (j1 e true)
    · by_cases h1 : n < 1
      · rw [if_pos (.inr (.inl h1))]
        exact Ev.step (f := fun k => batch_Check.j1 k e true n xs) (fun k => by rw [batch_Check.j0, if_neg (by omega), if_pos h1]) (j1 e true)
      · have e1 : (if xs.length = 0 ∨ n < 1 ∨ n > 72057594037927872 then 2 else chk e xs) = if decide (n > 72057594037927872) = true then 2 else chk e xs := by
          by_cases h2 : n > 72057594037927872 <;> simp [h0, h1, h2]
        rw [e1]
        exact Ev.step (f := fun k => batch_Check.j1 k e (decide (n > 72057594037927872)) n xs) (fun k => by rw [batch_Check.j0, if_neg (by omega), if_neg h1]) (j1 e _)
  have e2 : ∀ e, (if xs.length = 0 ∨ n < 1 ∨ n > 72057594037927872 then 2 else chk e xs) = if xs.length = 0 ∨ n < 1 ∨ n > 72057594037927872 ∨ xs.any badW = true then 2 else if xs.any bigW = true then 3 else e := fun e => by
    rw [chk_is]
    by_cases h : xs.length = 0 ∨ n < 1 ∨ n > 72057594037927872
    · rw [if_pos h, if_pos (by rcases h with h | h | h <;> simp [h])]
    · rw [if_neg h]
      by_cases hb : xs.any badW = true
      · rw [if_pos hb, if_pos (.inr (.inr (.inr hb)))]
      · rw [if_neg hb, if_neg (show ¬ (xs.length = 0 ∨ n < 1 ∨ n > 72057594037927872 ∨ xs.any badW = true) from fun hh => (by
          rcases hh with hh | hh | hh | hh
          · exact h (.inl hh)
          · exact h (.inr (.inl hh))
          · exact h (.inr (.inr hh))
          · exact hb hh))]
  by_cases h : (xs.length : Int) > 64
  · refine Ev.congr (f := fun k => batch_Check.j0 k 3 n xs) (fun k => by rw [batch_Check.f, if_pos h]) ?_
    have := j0 3
    rw [e2] at this
    have e3 : checkS n xs = if xs.length = 0 ∨ n < 1 ∨ n > 72057594037927872 ∨ xs.any badW = true then 2 else if xs.any bigW = true then 3 else 3 := by
      unfold checkS
      congr 1
      rw [if_pos (.inl (by omega))]
      simp
    rw [e3]; exact this
  · refine Ev.congr (f := fun k => batch_Check.j0 k 0 n xs) (fun k => by rw [batch_Check.f, if_neg h]) ?_
    have := j0 0
    rw [e2] at this
    have e3 : checkS n xs = if xs.length = 0 ∨ n < 1 ∨ n > 72057594037927872 ∨ xs.any badW = true then 2 else if xs.any bigW = true then 3 else 0 := by
      unfold checkS
      congr 1
      have : ¬ xs.length > 64 := by omega
      simp [this]
    rw [e3]; exact this
end Go.Proofs.Ytfemebenkbobnaa.PB06
