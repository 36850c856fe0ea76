import Derived.Test.YtkjepfofiegcdaaHUint
import Derived.Test.YtkjepfofiegcdaaWWords
namespace Go.Proofs.Ytkjepfofiegcdaa.H
open Go.RowKit Go.Proofs.YtkjepfofiegcdaaW.PrintWords
/-! Short numbers over lists of bytes. -/
def uL : Nat → Nat → Nat → List UInt8 → Int × Int × Int
  | 0, _, _, _ => (0, 0, 7)
  | _ + 1, _, _, [] => (0, 0, 6)
  | f + 1, i, n, b :: r =>
    if i = 9 ∧ 1 < b.toNat then (0, 0, 7)
    else if b.toNat < 128 then
      if b.toNat = 0 ∧ 0 < i then (0, 0, 7) else (((n + b.toNat * 2 ^ (7 * i) : Nat) : Int), ((i + 1 : Nat) : Int), 0)
    else uL f (i + 1) (n + b.toNat % 128 * 2 ^ (7 * i)) r
theorem bt_list (s : ByteArray) (i : Nat) (h : i < s.size) : bt s (i : Int) = ((s.data.toList[i]'(by rw [Array.length_toList]; exact h)).toNat : Int) := by
  unfold bt
  rw [dif_pos (by simpa using h)]
  simp only [Int.toNat_natCast, Array.getElem_toList]
  rfl
theorem drop_cons (s : ByteArray) (i : Nat) (h : i < s.size) : s.data.toList.drop i = (s.data.toList[i]'(by rw [Array.length_toList]; exact h)) :: s.data.toList.drop (i + 1) :=
  List.drop_eq_getElem_cons (by rw [Array.length_toList]; exact h)
theorem drop_nil' (s : ByteArray) (i : Nat) (h : ¬ i < s.size) : s.data.toList.drop i = [] :=
  List.drop_eq_nil_of_le (by rw [Array.length_toList]; have : s.data.size = s.size := rfl; omega)
theorem uintGo_list (s : ByteArray) : ∀ (f i n : Nat), uintGo s f i (n : Int) = uL f i n (s.data.toList.drop i)
  | 0, _, _ => by simp [uintGo, uL]
  | f + 1, i, n => by
    rw [uintGo]
    by_cases h : i < s.size
    · rw [if_pos h, drop_cons s i h, bt_list s i h]
      generalize (s.data.toList[i]'(by rw [Array.length_toList]; exact h)) = b
      rw [uL]
      have hb : b.toNat < 256 := b.toNat_lt
      by_cases h9 : i = 9 ∧ 1 < b.toNat
      · rw [if_pos h9, if_pos (by omega)]
      · rw [if_neg h9, if_neg (by omega)]
        by_cases h1 : b.toNat < 128
        · rw [if_pos h1, if_pos (by omega)]
          by_cases h0 : b.toNat = 0 ∧ 0 < i
          · rw [if_pos h0, if_pos (by omega)]
          · rw [if_neg h0, if_neg (by omega)]
            have e : (b.toNat : Int) % 128 = (b.toNat : Int) := by omega
            rw [e]
            simp
        · rw [if_neg h1, if_neg (by omega)]
          have ih := uintGo_list s f (i + 1) (n + b.toNat % 128 * 2 ^ (7 * i))
          rw [← ih]
          congr 1
    · rw [if_neg h, drop_nil' s i h, uL]
theorem uintS_list (s : ByteArray) : uintS s = uL 10 0 0 s.data.toList := by
  have := uintGo_list s 10 0 0
  rw [List.drop_zero] at this
  exact this
/-- The short number's bytes. -/
def putL (n : Nat) : List UInt8 := if n < 128 then [UInt8.ofNat n] else UInt8.ofNat (n % 128 + 128) :: putL (n / 128)
termination_by n
decreasing_by omega
theorem putL_small (n : Nat) (h : n < 128) : putL n = [UInt8.ofNat n] := by rw [putL, if_pos h]
theorem putL_big (n : Nat) (h : ¬ n < 128) : putL n = UInt8.ofNat (n % 128 + 128) :: putL (n / 128) := by rw [putL, if_neg h]
theorem ofNat_toNat (n : Nat) (h : n < 256) : (UInt8.ofNat n).toNat = n := by simp; omega
/-- What is written is read. -/
theorem uL_put : ∀ (f i n acc : Nat) (rest : List UInt8), f + i = 10 → n < 2 ^ (64 - 7 * i) → (n ≠ 0 ∨ i = 0) → uL f i acc (putL n ++ rest) = (((acc + n * 2 ^ (7 * i) : Nat) : Int), ((i + (putL n).length : Nat) : Int), 0)
  | 0, i, n, acc, rest, hf, hn, hz => by
    have : i = 10 := by omega
    subst this
    simp at hn
    omega
  | f + 1, i, n, acc, rest, hf, hn, hz => by
    by_cases h : n < 128
    · rw [putL_small n h, List.singleton_append, uL, ofNat_toNat n (by omega)]
      have h9 : ¬ (i = 9 ∧ 1 < n) := by
        rintro ⟨rfl, h1⟩
        simp at hn
        omega
      rw [if_neg h9, if_pos h, if_neg (by omega)]
      simp
    · rw [putL_big n h, List.cons_append, uL, ofNat_toNat _ (by omega)]
      have hi : i ≤ 8 := by
        rcases Nat.lt_or_ge 8 i with h8 | h8
        · have : i = 9 := by omega
          subst this
          simp at hn
          omega
        · exact h8
      rw [if_neg (by omega), if_neg (by omega)]
      have hp : (2 : Nat) ^ (64 - 7 * i) = 128 * 2 ^ (64 - 7 * (i + 1)) := by
        rw [show 64 - 7 * i = 7 + (64 - 7 * (i + 1)) from by omega, Nat.pow_add]
      have ih := uL_put f (i + 1) (n / 128) (acc + (n % 128 + 128) % 128 * 2 ^ (7 * i)) rest (by omega) (by rw [hp] at hn; exact Nat.div_lt_of_lt_mul hn) (by omega)
      rw [ih]
      have h2 : (2 : Nat) ^ (7 * (i + 1)) = 128 * 2 ^ (7 * i) := by rw [Nat.mul_add, Nat.pow_add]; omega
      have e1 : (n % 128 + 128) % 128 = n % 128 := by omega
      have e2 : acc + n % 128 * 2 ^ (7 * i) + n / 128 * 2 ^ (7 * (i + 1)) = acc + n * 2 ^ (7 * i) := by
        rw [h2, ← Nat.mul_assoc, Nat.add_assoc, ← Nat.add_mul]
        congr 2
        omega
      rw [e1, e2, List.length_cons]
      simp only [Prod.mk.injEq, and_true, true_and]
      omega
/-- What is read was written. -/
theorem uL_only : ∀ (f i acc : Nat) (l : List UInt8) (v m : Int), f + i = 10 → uL f i acc l = (v, m, 0) → ∃ n, l = putL n ++ l.drop (putL n).length ∧ v = ((acc + n * 2 ^ (7 * i) : Nat) : Int) ∧ m = ((i + (putL n).length : Nat) : Int) ∧ (n ≠ 0 ∨ i = 0) ∧ n < 2 ^ (64 - 7 * i)
  | 0, i, acc, l, v, m, _, h => by simp [uL] at h
  | f + 1, i, acc, [], v, m, _, h => by simp [uL] at h
  | f + 1, i, acc, b :: r, v, m, hf, h => by
    rw [uL] at h
    have hb : b.toNat < 256 := b.toNat_lt
    have hbe : UInt8.ofNat b.toNat = b := by simp
    by_cases h9 : i = 9 ∧ 1 < b.toNat
    · rw [if_pos h9] at h
      simp at h
    · rw [if_neg h9] at h
      by_cases h1 : b.toNat < 128
      · rw [if_pos h1] at h
        by_cases h0 : b.toNat = 0 ∧ 0 < i
        · rw [if_pos h0] at h
          simp at h
        · rw [if_neg h0] at h
          simp only [Prod.mk.injEq] at h
          obtain ⟨hv, hm, _⟩ := h
          refine ⟨b.toNat, ?_, hv.symm, ?_, by omega, ?_⟩
          · rw [putL_small _ h1, hbe]
            simp
          · rw [putL_small _ h1, ← hm]
            simp
          · rcases Nat.lt_or_ge i 9 with h8 | h8
            · exact Nat.lt_of_lt_of_le h1 (by rw [show (128 : Nat) = 2 ^ 7 from rfl]; exact Nat.pow_le_pow_right (by omega) (by omega))
            · have : i = 9 := by omega
              subst this
              simp
              omega
      · rw [if_neg h1] at h
        obtain ⟨n, hl, hv, hm, hz, hlt⟩ := uL_only f (i + 1) _ r v m (by omega) h
        have hi : i ≤ 8 := by
          rcases Nat.lt_or_ge 8 i with h8 | h8
          · have : i = 9 := by omega
            omega
          · exact h8
        have hn0 : n ≠ 0 := by omega
        have hbig : ¬ (b.toNat % 128 + n * 128) < 128 := by omega
        have hd : (b.toNat % 128 + n * 128) / 128 = n := by omega
        have hmod : (b.toNat % 128 + n * 128) % 128 + 128 = b.toNat := by omega
        have hp : putL (b.toNat % 128 + n * 128) = b :: putL n := by rw [putL_big _ hbig, hd, hmod, hbe]
        refine ⟨b.toNat % 128 + n * 128, ?_, ?_, ?_, by omega, ?_⟩
        · rw [hp, List.length_cons, List.drop_succ_cons, List.cons_append, ← hl]
        · rw [hv]
          have h2 : (2 : Nat) ^ (7 * (i + 1)) = 128 * 2 ^ (7 * i) := by rw [Nat.mul_add, Nat.pow_add]; omega
          rw [h2, ← Nat.mul_assoc, Nat.add_assoc, ← Nat.add_mul]
        · rw [hm, hp, List.length_cons]
          congr 1
          omega
        · have hp2 : (2 : Nat) ^ (64 - 7 * i) = 128 * 2 ^ (64 - 7 * (i + 1)) := by
            rw [show 64 - 7 * i = 7 + (64 - 7 * (i + 1)) from by omega, Nat.pow_add]
          rw [hp2]
          omega
end Go.Proofs.Ytkjepfofiegcdaa.H
