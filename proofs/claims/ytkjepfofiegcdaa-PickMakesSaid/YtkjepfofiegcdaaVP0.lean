import Derived.Test.YtkjepfofiegcdaaPE1
import Derived.Test.YtkjepfofiegcdaaPE2
import Derived.Test.YtkjepfofiegcdaaHNum
import Derived.Laws.BitsLemmas
import Derived.Laws.Bits64
/- code.PutUint, code.PutField and the reference's, in the plain, and as contracts: what they write is the number's digits. -/
namespace Go.Proofs.Ytkjepfofiegcdaa.V
set_option linter.unusedVariables false
set_option linter.unusedSimpArgs false
open Go.RowKit Go.Proofs.YtkjepfofiegcdaaW.PrintWords Go.Proofs.YtkjepfofiegcdaaW.PrintLast Go.Proofs.YtkjepfofiegcdaaW.PrintMore Go.Proofs.Ytkjepfofiegcdaa.PB14
open H (uintS uL putL)
theorem data_len (s : ByteArray) : s.data.toList.length = s.size := by rw [Array.length_toList]; rfl
def bA (l : List UInt8) : ByteArray := ⟨l.toArray⟩
theorem bA_list (l : List UInt8) : (bA l).data.toList = l := rfl
theorem bA_of (s : ByteArray) : bA s.data.toList = s := rfl
theorem bA_append (a b : List UInt8) : bA a ++ bA b = bA (a ++ b) := by
  apply ByteArray.ext
  rw [ByteArray.data_append]
  simp [bA]
theorem bA_size (l : List UInt8) : (bA l).size = l.length := by simp [bA, ByteArray.size]
theorem str_bA (xs : List Int) : strOfNums xs = bA (xs.map fun n => UInt8.ofNat n.toNat) := rfl
theorem putL_len (n : Nat) : ∀ j, n < 128 ^ j → 1 ≤ j → (H.putL n).length ≤ j := by
  intro j
  induction j generalizing n with
  | zero => intro _ h; omega
  | succ j ih =>
    intro h _
    by_cases hn : n < 128
    · rw [H.putL_small n hn]; simp
    · rw [H.putL_big n hn, List.length_cons]
      have hj : 1 ≤ j := by
        rcases Nat.eq_zero_or_pos j with rfl | h1
        · simp at h; omega
        · exact h1
      have := ih (n / 128) (by rw [Nat.pow_succ] at h; exact Nat.div_lt_of_lt_mul (by omega)) hj
      omega
theorem putL_le (n : Nat) (h : n < 2 ^ 64) : (H.putL n).length ≤ 10 := putL_len n 10 (by simp at h ⊢; omega) (by omega)
theorem or128 : ∀ a : Fin 256, a.val ||| 128 = a.val % 128 + 128 := by decide +kernel
theorem u8_or128' (x : Int) : bits BinOp.or IntKind.u8 (x % 256) 128 = x % 128 + 128 := by
  obtain ⟨a, ha⟩ := Int.eq_ofNat_of_zero_le (show 0 ≤ x % 256 by omega)
  have hlt : a < 256 := by omega
  have h1 := (bits_nat .u8 8 (by decide) wraps_u8 a 128 (by omega) (by omega)).2
  rw [or128 ⟨a, hlt⟩] at h1
  rw [ha]
  refine h1.trans ?_
  simp only
  omega
theorem ev_put : ∀ (n : Nat) (acc : List UInt8) (xs : List Int), n < 2 ^ 64 → xs.map (fun n => UInt8.ofNat n.toNat) = acc → (H.putL n).length + xs.length ≤ 200 → Ev (fun k => code_PutUint.l0 k (n : Int) xs) (bA (acc ++ H.putL n)) := by
  intro n
  induction n using Nat.strongRecOn with
  | _ n ih =>
    intro acc xs hn hx hl
    by_cases h : n < 128
    · refine Ev.step (f := fun _ => some (bA (acc ++ H.putL n))) (fun k => ?_) (Ev.now _)
      rw [code_PutUint.l0, if_neg (by omega), if_pos (by omega), str_bA, List.map_append, hx, H.putL_small n h, List.map_singleton, show ((n : Int) % 256).toNat = n from by omega]
    · refine Ev.step (f := fun k => code_PutUint.l0 k ((n / 128 : Nat) : Int) (xs ++ [bits BinOp.or IntKind.u8 ((n : Int) % 256) 128])) (fun k => ?_) ?_
      · rw [code_PutUint.l0, if_pos (by omega), if_pos (by omega)]
        congr 1
      · have hb := u8_or128' (n : Int)
        rw [H.putL_big n h] at hl ⊢
        have := ih (n / 128) (by omega) (acc ++ [UInt8.ofNat (n % 128 + 128)]) (xs ++ [bits BinOp.or IntKind.u8 ((n : Int) % 256) 128]) (by omega)
          (by rw [List.map_append, hx, hb, List.map_singleton, show ((n : Int) % 128 + 128).toNat = n % 128 + 128 from by omega]) (by simp at hl ⊢; omega)
        rw [List.append_assoc] at this
        exact this
theorem ev_PutUint (n : Nat) (hn : n < 2 ^ 64) : Ev (fun k => code_PutUint.f k (n : Int)) (bA (H.putL n)) := by
  have := ev_put n [] [] hn rfl (by have := putL_le n hn; simp; omega)
  exact this
theorem ev_rput : ∀ (n : Nat) (acc : List UInt8), n < 2 ^ 64 → (H.putL n).length + acc.length ≤ 200 → Ev (fun k => freshetref02_PutUint.l0 k (n : Int) (bA acc)) (bA (acc ++ H.putL n)) := by
  intro n
  induction n using Nat.strongRecOn with
  | _ n ih =>
    intro acc hn hl
    by_cases h : n < 128
    · refine Ev.step (f := fun _ => some (bA (acc ++ H.putL n))) (fun k => ?_) (Ev.now _)
      rw [freshetref02_PutUint.l0, if_neg (by omega), Option.bind_some, str_bA, bA_size, bA_size, if_pos (by simp; omega), bA_append, H.putL_small n h, List.map_singleton, show ((n : Int) % 256).toNat = n from by omega]
    · rw [H.putL_big n h] at hl ⊢
      refine Ev.step (f := fun k => freshetref02_PutUint.l0 k ((n / 128 : Nat) : Int) (bA (acc ++ [UInt8.ofNat (n % 128 + 128)]))) (fun k => ?_) ?_
      · have e1 : (Int.tmod (n : Int) 128 % 256 + 128) % 256 = ((n % 128 + 128 : Nat) : Int) := by
          rw [Int.tmod_eq_emod_of_nonneg (by omega)]; omega
        have e2 : IntKind.u64.wrap (Int.tdiv (n : Int) 128) = ((n / 128 : Nat) : Int) := by
          rw [Int.tdiv_eq_ediv_of_nonneg (by omega), IntKind.wrap_u64]; omega
        rw [freshetref02_PutUint.l0, if_pos (by omega), Option.bind_some, str_bA, bA_size, bA_size, if_pos (by simp at hl ⊢; omega), bA_append, e1, e2, List.map_singleton, Int.toNat_natCast]
      · have := ih (n / 128) (by omega) (acc ++ [UInt8.ofNat (n % 128 + 128)]) (by omega) (by simp at hl ⊢; omega)
        rw [List.append_assoc] at this
        exact this
theorem ev_rPutUint (n : Nat) (hn : n < 2 ^ 64) : Ev (fun k => freshetref02_PutUint.f k (n : Int)) (bA (H.putL n)) := by
  have := ev_rput n [] hn (by have := putL_le n hn; simp; omega)
  exact this
def fieldL (s : ByteArray) : List UInt8 := putL s.size ++ s.data.toList
theorem ev_PutField (s : ByteArray) (hs : s.size ≤ 1000000) : Ev (fun k => code_PutField.f k s) (bA (fieldL s)) := by
  have e : IntKind.u64.wrap (s.size : Int) = (s.size : Int) := by rw [IntKind.wrap_u64]; omega
  have h64 : s.size < 2 ^ 64 := by omega
  refine Ev.bind (g := fun k => code_PutUint.f k (IntKind.u64.wrap (s.size : Int))) (by rw [e]; exact ev_PutUint s.size h64) ?_
  have hl := putL_le s.size h64
  rw [bA_size, if_pos (by omega), show bA (putL s.size) ++ s = bA (putL s.size) ++ bA s.data.toList from by rw [bA_of], bA_append]
  exact Ev.now _
theorem fieldL_len (s : ByteArray) (hs : s.size ≤ 1000000) : (fieldL s).length ≤ s.size + 10 := by
  have hl := putL_le s.size (by omega)
  rw [fieldL, List.length_append, data_len]
  omega
theorem bytesOf_back (s : ByteArray) : (bytesOf s).map (fun n => UInt8.ofNat n.toNat) = s.data.toList := by
  rw [bytesOf, List.map_map]
  have : ((fun n : Int => UInt8.ofNat n.toNat) ∘ fun b : UInt8 => (b.toNat : Int)) = id := by funext b; simp
  rw [this, List.map_id]
theorem ev_rPutField (s : ByteArray) (hs : s.size ≤ 1000000) : Ev (fun k => freshetref02_PutField.f k s) (bA (fieldL s)) := by
  have e : IntKind.u64.wrap (s.size : Int) = (s.size : Int) := by rw [IntKind.wrap_u64]; omega
  have h64 : s.size < 2 ^ 64 := by omega
  refine Ev.bind (g := fun k => freshetref02_PutUint.f k (IntKind.u64.wrap (s.size : Int))) (by rw [e]; exact ev_rPutUint s.size h64) ?_
  have hl := putL_le s.size h64
  rw [bA_size, if_pos (by omega), show bA (putL s.size) ++ s = bA (putL s.size) ++ bA s.data.toList from by rw [bA_of], bA_append]
  exact Ev.now _
theorem wrap_u {n : Int} (h0 : 0 ≤ n) (h1 : n < 18446744073709551616) : IntKind.u64.wrap n = n := by rw [IntKind.wrap_u64]; exact Int.emod_eq_of_lt h0 (by simpa using h1)
theorem nat_u {n : Int} (h0 : 0 ≤ n) (h1 : n < 18446744073709551616) : n.toNat < 2 ^ 64 := by omega
theorem putUint_calls (w : World) (n : Nat) (hn : n < 2 ^ 64) : Calls Try.prog 112 #[.int .u64 (n : Int)] w fun e w' => e = .returned (.string (bA (putL n))) ∧ Below w.heap.size w w' := by
  obtain ⟨k, hk⟩ := (ev_PutUint n hn).rounds
  exact code_PutUint.calls k (n : Int) _ w hk
theorem putField_calls (w : World) (s : ByteArray) (hs : s.size ≤ 1000000) : Calls Try.prog 113 #[.string s] w fun e w' => e = .returned (.string (bA (fieldL s))) ∧ Below w.heap.size w w' := by
  obtain ⟨k, hk⟩ := (ev_PutField s hs).rounds
  exact code_PutField.calls k s _ w hk
end Go.Proofs.Ytkjepfofiegcdaa.V
