import Derived.Test.YtkjepfofiegcdaaVP1Y
import Derived.Test.YtkjepfofiegcdaaPE5
/- code.Field and the reference's Uint and Field, in the plain. -/
namespace Go.Proofs.Ytkjepfofiegcdaa.V
set_option linter.unusedVariables false
set_option linter.unusedSimpArgs false
open Go.RowKit Go.Proofs.YtkjepfofiegcdaaW.PrintWords Go.Proofs.YtkjepfofiegcdaaW.PrintLast Go.Proofs.YtkjepfofiegcdaaW.PrintMore Go.Proofs.Ytkjepfofiegcdaa.PB14
open H (uintS uL putL)
theorem putL_len' (n : Nat) : ∀ j, n < 128 ^ j → 1 ≤ j → (H.putL n).length ≤ j := by
  intro j
  induction j generalizing n with
  | zero => intro _ h; omega
  | succ j ih =>
    intro h _
    by_cases hn : n < 128
    · rw [H.putL_small n hn]; simp
    · rw [H.putL_big n hn, List.length_cons]
      have hj : 1 ≤ j := by
        rcases Nat.eq_zero_or_pos j with rfl | h1
        · simp at h; omega
        · exact h1
      have := ih (n / 128) (by rw [Nat.pow_succ] at h; exact Nat.div_lt_of_lt_mul (by omega)) hj
      omega
theorem uint_read {s : ByteArray} {v m : Int} (h : uintS s = (v, m, 0)) : ∃ n : Nat, s.data.toList = putL n ++ s.data.toList.drop (putL n).length ∧ v = (n : Int) ∧ m = ((putL n).length : Int) ∧ n < 2 ^ 64 ∧ (putL n).length ≤ s.size ∧ (putL n).length ≤ 10 := by
  rw [H.uintS_list] at h
  obtain ⟨n, h1, h2, h3, _, h5⟩ := H.uL_only 10 0 0 _ v m rfl h
  refine ⟨n, h1, by simpa using h2, by simpa using h3, h5, ?_, putL_len' n 10 (by simp at h5 ⊢; omega) (by omega)⟩
  have := congrArg List.length h1
  rw [List.length_append, Array.length_toList] at this
  have e : s.data.size = s.size := rfl
  omega
theorem uint_ok {s : ByteArray} {v m : Int} (h : uintS s = (v, m, 0)) : 0 ≤ v ∧ v < 18446744073709551616 ∧ 1 ≤ m ∧ m ≤ s.size ∧ m ≤ 10 := by
  obtain ⟨n, _, rfl, rfl, h3, h4, h5⟩ := uint_read h
  have := putL_pos n
  simp at h3
  omega
theorem wrap64_id2 (x : Int) (h0 : -9223372036854775808 ≤ x) (h1 : x ≤ 9223372036854775807) : wrap64 x = x := by unfold wrap64; omega
/-- A byte field. -/
def fieldS (s : ByteArray) (most : Nat) : ByteArray × Int × Int :=
  if (uintS s).2.2 = 0 then
    if (uintS s).1 > most then (⟨#[]⟩, 0, 3)
    else if (uintS s).1 > s.size - (uintS s).2.1 then (⟨#[]⟩, 0, 6)
    else (s.extract (uintS s).2.1.toNat ((uintS s).2.1 + (uintS s).1).toNat, (uintS s).2.1 + (uintS s).1, 0)
  else (⟨#[]⟩, 0, (uintS s).2.2)
theorem field_ok (s : ByteArray) (most : Nat) (h : (fieldS s most).2.2 = 0) : 1 ≤ (fieldS s most).2.1 ∧ (fieldS s most).2.1 ≤ s.size ∧ (fieldS s most).2.1 ≤ most + 10 := by
  unfold fieldS at h ⊢
  rcases hu : uintS s with ⟨v, m, e⟩
  rw [hu] at h
  simp only at h ⊢
  by_cases h1 : e = 0
  · subst h1
    have := uint_ok hu
    rw [if_pos rfl] at h ⊢
    by_cases h2 : v > most
    · rw [if_pos h2] at h; simp at h
    · rw [if_neg h2] at h ⊢
      by_cases h3 : v > s.size - m
      · rw [if_pos h3] at h; simp at h
      · rw [if_neg h3]
        simp only
        omega
  · rw [if_neg h1] at h
    exact absurd h h1
theorem ev_fieldj (s : ByteArray) (v m : Int) (hs : s.size ≤ 4611686018427387904) (hu : uintS s = (v, m, 0)) (most : Nat) (j : Nat → Bool → Option (ByteArray × Int × Int))
    (hj : ∀ k b, j (k + 1) b = if b = true then (some ((⟨#[]⟩ : ByteArray), 0, 3)) else (if v > (IntKind.u64.wrap (wrap64 ((s.size : Int) - m))) then (some ((⟨#[]⟩ : ByteArray), 0, 6)) else (if 0 ≤ m then (if m ≤ (wrap64 (m + (wrap64 (v)))) then (if (wrap64 (m + (wrap64 (v)))) ≤ (s.size : Int) then (some (s.extract (m : Int).toNat ((wrap64 (m + (wrap64 (v)))) : Int).toNat, wrap64 (m + (wrap64 (v))), 0)) else (none)) else (none)) else (none)))) :
    Ev (fun k => j k (decide (v > (most : Int)))) (fieldS s most) := by
  have ho := uint_ok hu
  refine Ev.step (f := fun _ => some (fieldS s most)) (fun k => ?_) (Ev.now _)
  rw [hj]
  unfold fieldS
  rw [hu]
  simp only
  rw [if_pos trivial]
  have e1 : IntKind.u64.wrap (wrap64 ((s.size : Int) - m)) = (s.size : Int) - m := by
    rw [wrap64_id2 _ (by omega) (by omega), IntKind.wrap_u64]; omega
  rw [e1]
  by_cases h1 : v > (most : Int)
  · rw [if_pos (decide_eq_true h1), if_pos h1]
  · rw [if_neg (by simpa using h1), if_neg h1]
    by_cases h2 : v > (s.size : Int) - m
    · rw [if_pos h2, if_pos h2]
    · rw [if_neg h2, if_neg h2, wrap64_id2 v (by omega) (by omega), wrap64_id2 (m + v) (by omega) (by omega), if_pos (by omega), if_pos (by omega), if_pos (by omega)]
theorem ev_Field (s : ByteArray) (most : Nat) (hm : most ≤ 100000) (hs : s.size ≤ 4611686018427387904) : Ev (fun k => code_Field.f k s most) (fieldS s most) := by
  rcases hu : uintS s with ⟨v, m, e⟩
  have e1 : IntKind.u64.wrap (most : Int) = most := by rw [IntKind.wrap_u64]; omega
  by_cases h : e = 0
  · subst h
    refine Ev.congr (f := fun k => code_Field.j0 k s v m (decide (v > (most : Int)))) (fun k => ?_) (ev_fieldj s v m hs hu most (fun k b => code_Field.j0 k s v m b) (fun k b => by rw [code_Field.j0]))
    rw [code_Field.f, code_Uint.f, hu, Option.bind_some, if_pos rfl, if_neg (by omega), e1]
  · refine Ev.congr (f := fun _ => some (fieldS s most)) (fun k => ?_) (Ev.now _)
    rw [code_Field.f, code_Uint.f, fieldS, hu, Option.bind_some, if_neg h]
    simp only
    rw [if_neg h]
theorem drop_drop (s : ByteArray) (p q : Nat) : (s.extract p s.size).extract q (s.extract p s.size).size = s.extract (p + q) s.size := by
  rw [ByteArray.extract_extract, ByteArray.size_extract]
  congr 1
  omega
theorem field_calls (w : World) (s : ByteArray) (hs : s.size ≤ 4611686018427387904) : Calls Try.prog 133 #[.string s, .int .i64 520] w fun e w' => e = .returned (.tuple #[.string (fieldS s 520).1, .int .i64 (fieldS s 520).2.1, .int .i64 (fieldS s 520).2.2]) ∧ Below w.heap.size w w' := by
  obtain ⟨k, hk⟩ := (ev_Field s 520 (by decide) hs).rounds
  exact code_Field.calls k s 520 _ _ _ w hk
theorem uint_calls (w : World) (s : ByteArray) : Calls Try.prog 134 #[.string s] w fun e w' => e = .returned (.tuple #[.int .u64 (uintS s).1, .int .i64 (uintS s).2.1, .int .i64 (uintS s).2.2]) ∧ Below w.heap.size w w' := code_Uint.calls s _ _ _ w rfl
end Go.Proofs.Ytkjepfofiegcdaa.V
