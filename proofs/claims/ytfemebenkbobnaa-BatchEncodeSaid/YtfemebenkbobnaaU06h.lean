import Derived.Test.YtfemebenkbobnaaHNum
import Derived.Test.YtfemebenkbobnaaPB063
import Derived.Test.YtfemebenkbobnaaPB064
import Derived.Test.YtfemebenkbobnaaPB066
import Derived.Test.YtfemebenkbobnaaPB068
import Derived.Test.YtfemebenkbobnaaPB0611
import Derived.Test.YtfemebenkbobnaaPB0612
import Derived.Test.YtfemebenkbobnaaO06
import Derived.Test.YtfemebenkbobnaaE06
import Derived.Laws.BitsLemmas
import Derived.Laws.Bits64
/- The plain law of BatchEncode: what batch.Encode and the reference write is the same. Conditions: the list fits in 62 bits. -/
namespace Go.Proofs.Ytfemebenkbobnaa.PB06
open Go.RowKit Go.Proofs.YtfemebenkbobnaaW.PrintWords Go.Proofs.YtfemebenkbobnaaW.PrintLast Go.Proofs.YtfemebenkbobnaaW.PrintMore
open H (putL)
def bA (l : List UInt8) : ByteArray := ⟨l.toArray⟩
theorem bA_list (l : List UInt8) : (bA l).data.toList = l := rfl
theorem bA_of (s : ByteArray) : bA s.data.toList = s := rfl
theorem bA_append (a b : List UInt8) : bA a ++ bA b = bA (a ++ b) := by
  apply ByteArray.ext
  rw [ByteArray.data_append]
  simp [bA]
theorem bA_size (l : List UInt8) : (bA l).size = l.length := by simp [bA, ByteArray.size]
theorem str_bA (xs : List Int) : strOfNums xs = bA (xs.map fun n => UInt8.ofNat n.toNat) := rfl
theorem putL_len (n : Nat) : ∀ j, n < 128 ^ j → 1 ≤ j → (H.putL n).length ≤ j := by
  intro j
  induction j generalizing n with
  | zero => intro _ h; omega
  | succ j ih =>
    intro h _
    by_cases hn : n < 128
    · rw [H.putL_small n hn]; simp
    · rw [H.putL_big n hn, List.length_cons]
      have hj : 1 ≤ j := by
        rcases Nat.eq_zero_or_pos j with rfl | h1
        · simp at h; omega
        · exact h1
      have := ih (n / 128) (by rw [Nat.pow_succ] at h; exact Nat.div_lt_of_lt_mul (by omega)) hj
      omega
theorem putL_le (n : Nat) (h : n < 2 ^ 64) : (H.putL n).length ≤ 10 := putL_len n 10 (by simp at h ⊢; omega) (by omega)
theorem or128 : ∀ a : Fin 256, a.val ||| 128 = a.val % 128 + 128 := by decide +kernel
theorem u8_or128' (x : Int) : bits BinOp.or IntKind.u8 (x % 256) 128 = x % 128 + 128 := by
  obtain ⟨a, ha⟩ := Int.eq_ofNat_of_zero_le (show 0 ≤ x % 256 by omega)
  have hlt : a < 256 := by omega
  have h1 := (bits_nat .u8 8 (by decide) wraps_u8 a 128 (by omega) (by omega)).2
  rw [or128 ⟨a, hlt⟩] at h1
  rw [ha]
  refine h1.trans ?_
  simp only
  omega
theorem ev_put : ∀ (n : Nat) (acc : List UInt8) (xs : List Int), n < 2 ^ 64 → xs.map (fun n => UInt8.ofNat n.toNat) = acc → (H.putL n).length + xs.length ≤ 200 → Ev (fun k => code_PutUint.l0 k (n : Int) xs) (bA (acc ++ H.putL n)) := by
  intro n
  induction n using Nat.strongRecOn with
  | _ n ih =>
    intro acc xs hn hx hl
    by_cases h : n < 128
    · refine Ev.step (f := fun _ => some (bA (acc ++ H.putL n))) (fun k => ?_) (Ev.now _)
      rw [code_PutUint.l0, if_neg (by omega), if_pos (by omega), str_bA, List.map_append, hx, H.putL_small n h, List.map_singleton, show ((n : Int) % 256).toNat = n from by omega]
    · refine Ev.step (f := fun k => code_PutUint.l0 k ((n / 128 : Nat) : Int) (xs ++ [bits BinOp.or IntKind.u8 ((n : Int) % 256) 128])) (fun k => ?_) ?_
      · rw [code_PutUint.l0, if_pos (by omega), if_pos (by omega)]
        congr 1
      · have hb := u8_or128' (n : Int)
        rw [H.putL_big n h] at hl ⊢
        have := ih (n / 128) (by omega) (acc ++ [UInt8.ofNat (n % 128 + 128)]) (xs ++ [bits BinOp.or IntKind.u8 ((n : Int) % 256) 128]) (by omega)
          (by rw [List.map_append, hx, hb, List.map_singleton, show ((n : Int) % 128 + 128).toNat = n % 128 + 128 from by omega]) (by simp at hl ⊢; omega)
        rw [List.append_assoc] at this
        exact this
theorem ev_PutUint (n : Nat) (hn : n < 2 ^ 64) : Ev (fun k => code_PutUint.f k (n : Int)) (bA (H.putL n)) := by
  have := ev_put n [] [] hn rfl (by have := putL_le n hn; simp; omega)
  exact this
theorem wrap64_id (x : Int) (h0 : -9223372036854775808 ≤ x) (h1 : x ≤ 9223372036854775807) : wrap64 x = x := by unfold wrap64; omega
theorem wrap64_id' (x : Int) (h0 : -9223372036854775808 ≤ x) (h1 : x ≤ 9223372036854775807) : wrap64 x = x := by unfold wrap64; omega
theorem rd_at (xs : List S72) (i : Nat) (h : i < xs.length) : xs.drop i = rd_T72 xs (i : Int) :: xs.drop (i + 1) := by
  rw [List.drop_eq_getElem_cons h]
  simp [rd_T72, h]
theorem toList_nil (s : ByteArray) : s.toList = [] ↔ s.size = 0 := by
  rw [ByteArray.toList_eq, ← List.length_eq_zero_iff, Array.length_toList]
  rfl
def badW (x : S72) : Bool := !(x.f0 == 1 || x.f0 == 2) || x.f1.size == 0 || (x.f0 == 2 && x.f2.size != 0)
def bigW (x : S72) : Bool := decide (x.f1.size > 520) || decide (x.f2.size > 2048)
def chk (e : Int) : List S72 → Int
  | [] => e
  | x :: r => if badW x then 2 else chk (if bigW x then 3 else e) r
theorem chk_is : ∀ (l : List S72) (e : Int), chk e l = if l.any badW then 2 else if l.any bigW then 3 else e
  | [], e => by simp [chk]
  | x :: r, e => by
    rw [chk, chk_is r]
    by_cases h : badW x <;> by_cases h2 : bigW x <;> simp [h, h2]
def checkS (n : Int) (l : List S72) : Int := if l.length = 0 ∨ n < 1 ∨ n > 72057594037927872 ∨ l.any badW = true then 2 else if l.length > 64 ∨ l.any bigW = true then 3 else 0
theorem ev_chk (xs : List S72) (hx : xs.length ≤ 4611686018427387904) : ∀ c i e, i + c = xs.length → Ev (fun k => batch_Check.l0 k e xs (xs.length : Int) (i : Int)) (chk e (xs.drop i))
  | 0, i, e, hi => by
    rw [List.drop_eq_nil_of_le (by omega), chk]
    refine Ev.step (f := fun _ => some e) (fun k => ?_) (Ev.now _)
    rw [batch_Check.l0, if_neg (by omega)]
  | c + 1, i, e, hi => by
    rw [rd_at xs i (by omega), chk]
    refine Ev.step (f := fun k => batch_Check.j3 k e xs (xs.length : Int) (i : Int) (badW (rd_T72 xs (i : Int))) (rd_T72 xs (i : Int)).f0 (rd_T72 xs (i : Int)).f1 (rd_T72 xs (i : Int)).f2) (fun k => ?_) ?_
    · rw [batch_Check.l0, if_pos (by omega), if_pos (by omega), if_pos (by omega)]
      generalize rd_T72 xs (i : Int) = x
      have h4 : (x.f2.toList != []) = (x.f2.size != 0) := by
        rw [Bool.eq_iff_iff]; simp [toList_nil]
      by_cases h1 : x.f0 = 1
      · have h2 : ¬ x.f0 = 2 := by omega
        rw [if_pos h1]
        by_cases h3 : x.f1.toList = []
        · rw [if_pos h3]; rw [toList_nil] at h3; simp [badW, h3]
        · rw [if_neg h3, if_neg h2]; rw [toList_nil] at h3; simp [badW, h1, beq_false_of_ne h3]
      · rw [if_neg h1]
        by_cases h2 : x.f0 = 2
        · rw [if_pos h2]
          by_cases h3 : x.f1.toList = []
          · rw [if_pos h3]; rw [toList_nil] at h3; simp [badW, h3]
          · rw [if_neg h3, h4]; rw [toList_nil] at h3; simp [badW, h2, beq_false_of_ne h3]
        · rw [if_neg h2]; simp [badW, beq_false_of_ne h1, beq_false_of_ne h2]
    · generalize rd_T72 xs (i : Int) = x
      have ih := fun e => ev_chk xs hx c (i + 1) e (by omega)
      by_cases hb : badW x = true
      · rw [if_pos hb, hb]
        refine Ev.step (f := fun _ => some 2) (fun k => ?_) (Ev.now _)
        rw [batch_Check.j3, if_pos rfl]
      · rw [if_neg hb]
        refine Ev.step (f := fun k => batch_Check.l0 k (if bigW x then 3 else e) xs (xs.length : Int) ((i + 1 : Nat) : Int)) (fun k => ?_) (ih _)
        rw [batch_Check.j3, if_neg hb, wrap64_id' _ (by omega) (by omega)]
        by_cases h1 : (x.f1.size : Int) > 520
        · rw [if_pos h1, if_pos (show bigW x = true from by simp [bigW]; omega)]; rfl
        · rw [if_neg h1]
          by_cases h2 : (x.f2.size : Int) > 2048
          · rw [if_pos h2, if_pos (show bigW x = true from by simp [bigW]; omega)]; rfl
          · rw [if_neg h2, if_neg (show ¬ bigW x = true from by simp [bigW]; omega)]; rfl
theorem ev_Check (n : Int) (xs : List S72) (hx : xs.length ≤ 4611686018427387904) : Ev (fun k => batch_Check.f k n xs) (checkS n xs) := by
  have j1 : ∀ e b, Ev (fun k => batch_Check.j1 k e b n xs) (if b = true then 2 else chk e xs) := fun e b => by
    by_cases hb : b = true
    · rw [if_pos hb]
      refine Ev.step (f := fun _ => some 2) (fun k => ?_) (Ev.now _)
      rw [batch_Check.j1, if_pos hb]
    · rw [if_neg hb]
      refine Ev.step (f := fun k => batch_Check.l0 k e xs (xs.length : Int) 0) (fun k => ?_) (ev_chk xs hx xs.length 0 e (by omega))
      rw [batch_Check.j1, if_neg hb]
  have j0 : ∀ e, Ev (fun k => batch_Check.j0 k e n xs) (if xs.length = 0 ∨ n < 1 ∨ n > 72057594037927872 then 2 else chk e xs) := fun e => by
    by_cases h0 : xs.length = 0
    · rw [if_pos (.inl h0)]
      exact Ev.step (f := fun k => batch_Check.j1 k e true n xs) (fun k => by rw [batch_Check.j0, if_pos (by omega)]) (j1 e true)
    · by_cases h1 : n < 1
      · rw [if_pos (.inr (.inl h1))]
        exact Ev.step (f := fun k => batch_Check.j1 k e true n xs) (fun k => by rw [batch_Check.j0, if_neg (by omega), if_pos h1]) (j1 e true)
      · have e1 : (if xs.length = 0 ∨ n < 1 ∨ n > 72057594037927872 then 2 else chk e xs) = if decide (n > 72057594037927872) = true then 2 else chk e xs := by
          by_cases h2 : n > 72057594037927872 <;> simp [h0, h1, h2]
        rw [e1]
        exact Ev.step (f := fun k => batch_Check.j1 k e (decide (n > 72057594037927872)) n xs) (fun k => by rw [batch_Check.j0, if_neg (by omega), if_neg h1]) (j1 e _)
  have e2 : ∀ e, (if xs.length = 0 ∨ n < 1 ∨ n > 72057594037927872 then 2 else chk e xs) = if xs.length = 0 ∨ n < 1 ∨ n > 72057594037927872 ∨ xs.any badW = true then 2 else if xs.any bigW = true then 3 else e := fun e => by
    rw [chk_is]
    by_cases h : xs.length = 0 ∨ n < 1 ∨ n > 72057594037927872
    · rw [if_pos h, if_pos (by rcases h with h | h | h <;> simp [h])]
    · rw [if_neg h]
      by_cases hb : xs.any badW = true
      · rw [if_pos hb, if_pos (.inr (.inr (.inr hb)))]
      · rw [if_neg hb, if_neg (show ¬ (xs.length = 0 ∨ n < 1 ∨ n > 72057594037927872 ∨ xs.any badW = true) from fun hh => (by
          rcases hh with hh | hh | hh | hh
          · exact h (.inl hh)
          · exact h (.inr (.inl hh))
          · exact h (.inr (.inr hh))
          · exact hb hh))]
  by_cases h : (xs.length : Int) > 64
  · refine Ev.congr (f := fun k => batch_Check.j0 k 3 n xs) (fun k => by rw [batch_Check.f, if_pos h]) ?_
    have := j0 3
    rw [e2] at this
    have e3 : checkS n xs = if xs.length = 0 ∨ n < 1 ∨ n > 72057594037927872 ∨ xs.any badW = true then 2 else if xs.any bigW = true then 3 else 3 := by
      unfold checkS
      congr 1
      rw [if_pos (.inl (by omega))]
      simp
    rw [e3]; exact this
  · refine Ev.congr (f := fun k => batch_Check.j0 k 0 n xs) (fun k => by rw [batch_Check.f, if_neg h]) ?_
    have := j0 0
    rw [e2] at this
    have e3 : checkS n xs = if xs.length = 0 ∨ n < 1 ∨ n > 72057594037927872 ∨ xs.any badW = true then 2 else if xs.any bigW = true then 3 else 0 := by
      unfold checkS
      congr 1
      have : ¬ xs.length > 64 := by omega
      simp [this]
    rw [e3]; exact this
/-! The reference's Check. -/
theorem ev_rc1 (n : Int) (xs : List S72) (hx : xs.length ≤ 4611686018427387904) : ∀ c i, i + c = xs.length → Ev (fun k => freshetref06_Check.l1 k (i : Int) n xs) (if (xs.drop i).any bigW = true then 3 else 0)
  | 0, i, hi => by
    rw [List.drop_eq_nil_of_le (by omega)]
    refine Ev.step (f := fun _ => some 0) (fun k => ?_) (Ev.now _)
    rw [freshetref06_Check.l1, if_neg (by omega)]
  | c + 1, i, hi => by
    rw [rd_at xs i (by omega), List.any_cons]
    by_cases hb : bigW (rd_T72 xs (i : Int)) = true
    · rw [hb, Bool.true_or, if_pos rfl]
      refine Ev.step (f := fun _ => some 3) (fun k => ?_) (Ev.now _)
      rw [freshetref06_Check.l1, if_pos (by omega), if_pos (by omega)]
      simp only [bigW, Bool.or_eq_true, decide_eq_true_eq] at hb
      by_cases h1 : ((rd_T72 xs (i : Int)).f1.size : Int) > 520
      · rw [if_pos h1]
      · rw [if_neg h1, if_pos (by omega)]
    · have hb' : bigW (rd_T72 xs (i : Int)) = false := by simpa using hb
      rw [hb', Bool.false_or]
      refine Ev.step (f := fun k => freshetref06_Check.l1 k ((i + 1 : Nat) : Int) n xs) (fun k => ?_) (ev_rc1 n xs hx c (i + 1) (by omega))
      simp only [bigW, Bool.or_eq_true, decide_eq_true_eq] at hb
      rw [freshetref06_Check.l1, if_pos (by omega), if_pos (by omega), if_neg (by omega), if_neg (by omega), wrap64_id' _ (by omega) (by omega)]
      rfl
theorem ev_rc0 (n : Int) (xs : List S72) (hx : xs.length ≤ 4611686018427387904) : ∀ c i, i + c = xs.length → Ev (fun k => freshetref06_Check.l0 k (i : Int) n xs) (if (xs.drop i).any badW = true then 2 else if xs.length > 64 ∨ xs.any bigW = true then 3 else 0)
  | 0, i, hi => by
    rw [List.drop_eq_nil_of_le (by omega), List.any_nil, if_neg (by simp)]
    by_cases h : xs.length > 64
    · rw [if_pos (.inl h)]
      refine Ev.step (f := fun _ => some 3) (fun k => ?_) (Ev.now _)
      rw [freshetref06_Check.l0, if_neg (by omega), if_pos (by omega)]
    · have := ev_rc1 n xs hx xs.length 0 (by omega)
      rw [List.drop_zero] at this
      have e : (if xs.length > 64 ∨ xs.any bigW = true then (3 : Int) else 0) = if xs.any bigW = true then 3 else 0 := by simp [h]
      rw [e]
      refine Ev.step (f := fun k => freshetref06_Check.l1 k 0 n xs) (fun k => ?_) this
      rw [freshetref06_Check.l0, if_neg (by omega), if_neg (by omega)]
  | c + 1, i, hi => by
    rw [rd_at xs i (by omega), List.any_cons]
    have ih := ev_rc0 n xs hx c (i + 1) (by omega)
    have h1 : ((i : Int) < (xs.length : Int)) := by omega
    have h2 : (0 : Int) ≤ (i : Int) := by omega
    have hw : wrap64 ((i : Int) + 1) = ((i + 1 : Nat) : Int) := by rw [wrap64_id' _ (by omega) (by omega)]; rfl
    by_cases hb : badW (rd_T72 xs (i : Int)) = true
    · rw [hb, Bool.true_or, if_pos rfl]
      refine Ev.step (f := fun _ => some 2) (fun k => ?_) (Ev.now _)
      rw [freshetref06_Check.l0, if_pos h1, if_pos h2]
      generalize rd_T72 xs (i : Int) = x at hb ⊢
      simp only [badW] at hb
      by_cases a1 : x.f0 = 1 <;> by_cases a2 : x.f0 = 2 <;> by_cases a3 : x.f1.size = 0 <;> by_cases a4 : x.f2.size = 0 <;> simp_all <;> omega
    · have hb' : badW (rd_T72 xs (i : Int)) = false := by simpa using hb
      rw [hb', Bool.false_or]
      refine Ev.step (f := fun k => freshetref06_Check.l0 k ((i + 1 : Nat) : Int) n xs) (fun k => ?_) ih
      rw [freshetref06_Check.l0, if_pos h1, if_pos h2, hw]
      generalize rd_T72 xs (i : Int) = x at hb ⊢
      simp only [badW] at hb
      by_cases a1 : x.f0 = 1 <;> by_cases a2 : x.f0 = 2 <;> by_cases a3 : x.f1.size = 0 <;> by_cases a4 : x.f2.size = 0 <;> simp_all <;> omega
theorem ev_rCheck (n : Int) (xs : List S72) (hx : xs.length ≤ 4611686018427387904) : Ev (fun k => freshetref06_Check.f k n xs) (checkS n xs) := by
  have l0 := ev_rc0 n xs hx xs.length 0 (by omega)
  rw [List.drop_zero] at l0
  have jt : Ev (fun k => freshetref06_Check.j0 k true n xs) 2 :=
    Ev.step (f := fun _ => some 2) (fun k => by rw [freshetref06_Check.j0, if_pos rfl]) (Ev.now _)
  by_cases h0 : xs.length = 0
  · refine Ev.congr (f := fun k => freshetref06_Check.j0 k true n xs) (fun k => by rw [freshetref06_Check.f, if_pos (by omega)]) ?_
    rw [checkS, if_pos (.inl h0)]; exact jt
  · by_cases h1 : n < 1
    · refine Ev.congr (f := fun k => freshetref06_Check.j0 k true n xs) (fun k => by rw [freshetref06_Check.f, if_neg (by omega), if_pos h1]) ?_
      rw [checkS, if_pos (.inr (.inl h1))]; exact jt
    · refine Ev.congr (f := fun k => freshetref06_Check.j0 k (decide (n > 72057594037927872)) n xs) (fun k => by rw [freshetref06_Check.f, if_neg (by omega), if_neg h1]) ?_
      by_cases h2 : n > 72057594037927872
      · rw [decide_eq_true h2, checkS, if_pos (.inr (.inr (.inl h2)))]; exact jt
      · rw [decide_eq_false h2]
        have e : checkS n xs = if xs.any badW = true then 2 else if xs.length > 64 ∨ xs.any bigW = true then 3 else 0 := by
          unfold checkS
          simp only [h0, h1, h2, false_or]
        rw [e]
        exact Ev.step (f := fun k => freshetref06_Check.l0 k 0 n xs) (fun k => by rw [freshetref06_Check.j0, if_neg (by simp)]) l0
def fieldL (s : ByteArray) : List UInt8 := putL s.size ++ s.data.toList
def rowL (x : S72) : List UInt8 := UInt8.ofNat x.f0.toNat :: (fieldL x.f1 ++ if x.f0 = 1 then fieldL x.f2 else [])
def encL : List S72 → List UInt8
  | [] => []
  | x :: r => rowL x ++ encL r
theorem ev_PutField (s : ByteArray) (hs : s.size ≤ 1000000) : Ev (fun k => code_PutField.f k s) (bA (fieldL s)) := by
  have e : IntKind.u64.wrap (s.size : Int) = (s.size : Int) := by rw [IntKind.wrap_u64]; omega
  have h64 : s.size < 2 ^ 64 := by omega
  refine Ev.bind (g := fun k => code_PutUint.f k (IntKind.u64.wrap (s.size : Int))) (by rw [e]; exact ev_PutUint s.size h64) ?_
  have hl := putL_le s.size h64
  rw [bA_size, if_pos (by omega), show bA (putL s.size) ++ s = bA (putL s.size) ++ bA s.data.toList from by rw [bA_of], bA_append]
  exact Ev.now _
theorem fieldL_len (s : ByteArray) (hs : s.size ≤ 1000000) : (fieldL s).length ≤ s.size + 10 := by
  have hl := putL_le s.size (by omega)
  rw [fieldL, List.length_append, data_length]
  omega
theorem bytesOf_back (s : ByteArray) : (bytesOf s).map (fun n => UInt8.ofNat n.toNat) = s.data.toList := by
  rw [bytesOf, List.map_map]
  have : ((fun n : Int => UInt8.ofNat n.toNat) ∘ fun b : UInt8 => (b.toNat : Int)) = id := by funext b; simp
  rw [this, List.map_id]
theorem ev_encl : ∀ (l : List S72) (out : List Int) (acc : List UInt8), (∀ x ∈ l, badW x = false ∧ bigW x = false) → out.map (fun n => UInt8.ofNat n.toNat) = acc → out.length + 3000 * l.length ≤ 1000000 →
    Ev (fun k => batch_Encode.l0 k l out) (bA (acc ++ encL l))
  | [], out, acc, _, ho, _ => by
    refine Ev.congr (f := fun _ => some (bA (acc ++ encL []))) (fun k => ?_) (Ev.now _)
    rw [batch_Encode.l0, str_bA, ho, encL, List.append_nil]
  | x :: r, out, acc, hb, ho, hl => by
    obtain ⟨h1, h2⟩ := hb x List.mem_cons_self
    simp only [bigW, Bool.or_eq_false_iff, decide_eq_false_iff_not] at h2
    have hk : x.f0 = 1 ∨ x.f0 = 2 := by
      simp only [badW, Bool.or_eq_false_iff, Bool.not_eq_false', Bool.or_eq_true, beq_iff_eq] at h1
      exact h1.1.1
    refine Ev.congr (f := fun k => (code_PutField.f k x.f1).bind fun a => (batch_putOf k x).bind fun b => if a.size + b.size ≤ 1000000 ∧ out.length ≤ 1000000000 then batch_Encode.l0 k r ((out ++ [x.f0 % 256]) ++ bytesOf (a ++ b)) else none) (fun k => by rw [batch_Encode.l0]) ?_
    refine Ev.bind (ev_PutField x.f1 (by omega)) ?_
    have hp : Ev (fun k => batch_putOf k x) (bA (if x.f0 = 1 then fieldL x.f2 else [])) := by
      rcases hk with hk | hk
      · rw [if_pos hk]
        exact Ev.congr (f := fun k => code_PutField.f k x.f2) (fun k => by rw [batch_putOf, if_pos hk]) (ev_PutField x.f2 (by omega))
      · rw [if_neg (by omega)]
        exact Ev.congr (f := fun k => some ⟨#[]⟩) (fun k => by rw [batch_putOf, if_neg (by omega), if_pos hk]) (Ev.now _)
    refine Ev.bind hp ?_
    have f1 := fieldL_len x.f1 (by omega)
    have f2 := fieldL_len x.f2 (by omega)
    have f3 : (if x.f0 = 1 then fieldL x.f2 else []).length ≤ x.f2.size + 10 := by
      by_cases h : x.f0 = 1
      · rw [if_pos h]; exact f2
      · rw [if_neg h]; simp
    rw [List.length_cons] at hl
    have ih := ev_encl r ((out ++ [x.f0 % 256]) ++ bytesOf (bA (fieldL x.f1) ++ bA (if x.f0 = 1 then fieldL x.f2 else []))) (acc ++ rowL x) (fun y hy => hb y (List.mem_cons_of_mem _ hy)) (by
      rw [List.map_append, List.map_append, ho, bytesOf_back, bA_append, bA_list, List.map_singleton, rowL, List.append_assoc]
      congr 3
      rcases hk with hk | hk <;> rw [hk] <;> rfl) (by
      rw [List.length_append, List.length_append, bytesOf_length, bA_append, bA_size, List.length_append, List.length_singleton]
      omega)
    refine Ev.congr (fun k => ?_) (by rw [encL, ← List.append_assoc]; exact ih)
    rw [if_pos (by rw [bA_size, bA_size]; omega)]
theorem check_ok {n : Int} {l : List S72} (h : checkS n l = 0) : 1 ≤ n ∧ n ≤ 72057594037927872 ∧ 1 ≤ l.length ∧ l.length ≤ 64 ∧ ∀ x ∈ l, badW x = false ∧ bigW x = false := by
  unfold checkS at h
  by_cases h1 : l.length = 0 ∨ n < 1 ∨ n > 72057594037927872 ∨ l.any badW = true
  · rw [if_pos h1] at h; cases h
  · rw [if_neg h1] at h
    by_cases h2 : l.length > 64 ∨ l.any bigW = true
    · rw [if_pos h2] at h; cases h
    · have h3 : l.any badW = false := by simpa using fun hh => h1 (.inr (.inr (.inr hh)))
      have h4 : l.any bigW = false := by simpa using fun hh => h2 (.inr hh)
      rw [List.any_eq_false] at h3 h4
      refine ⟨by omega, by omega, by omega, by omega, fun x hx => ⟨by simpa using h3 x hx, by simpa using h4 x hx⟩⟩
def encodeL (n : Nat) (l : List S72) : List UInt8 := putL n ++ putL l.length ++ encL l
theorem ev_Encode (n : Nat) (l : List S72) (h : checkS (n : Int) l = 0) : Ev (fun k => batch_Encode.f k (n : Int) l) (bA (encodeL n l), 0) := by
  obtain ⟨h1, h2, h3, h4, h5⟩ := check_ok h
  refine Ev.bind (g := fun k => batch_Check.f k (n : Int) l) (ev_Check (n : Int) l (by omega)) ?_
  rw [h]
  simp only [if_true]
  refine Ev.bind (ev_PutUint n (by omega)) ?_
  have e : IntKind.u64.wrap (l.length : Int) = (l.length : Int) := by rw [IntKind.wrap_u64]; omega
  refine Ev.bind (g := fun k => code_PutUint.f k (IntKind.u64.wrap (l.length : Int))) (by rw [e]; exact ev_PutUint l.length (by omega)) ?_
  have l1 := putL_le n (by omega)
  have l2 := putL_le l.length (by omega)
  refine Ev.congr (f := fun k => (batch_Encode.l0 k l (bytesOf (bA (putL n) ++ bA (putL l.length)))).bind fun s => some (s, 0)) (fun k => by rw [if_pos (by rw [bA_size, bA_size]; omega)]) ?_
  have := ev_encl l (bytesOf (bA (putL n) ++ bA (putL l.length))) (putL n ++ putL l.length) h5 (by rw [bytesOf_back, bA_append, bA_list]) (by rw [bytesOf_length, bA_append, bA_size, List.length_append]; omega)
  exact Ev.bind this (Ev.now _)
theorem ev_rput : ∀ (n : Nat) (acc : List UInt8), n < 2 ^ 64 → (H.putL n).length + acc.length ≤ 200 → Ev (fun k => freshetref02_PutUint.l0 k (n : Int) (bA acc)) (bA (acc ++ H.putL n)) := by
  intro n
  induction n using Nat.strongRecOn with
  | _ n ih =>
    intro acc hn hl
    by_cases h : n < 128
    · refine Ev.step (f := fun _ => some (bA (acc ++ H.putL n))) (fun k => ?_) (Ev.now _)
      rw [freshetref02_PutUint.l0, if_neg (by omega), Option.bind_some, str_bA, bA_size, bA_size, if_pos (by simp; omega), bA_append, H.putL_small n h, List.map_singleton, show ((n : Int) % 256).toNat = n from by omega]
    · rw [H.putL_big n h] at hl ⊢
      refine Ev.step (f := fun k => freshetref02_PutUint.l0 k ((n / 128 : Nat) : Int) (bA (acc ++ [UInt8.ofNat (n % 128 + 128)]))) (fun k => ?_) ?_
      · have e1 : (Int.tmod (n : Int) 128 % 256 + 128) % 256 = ((n % 128 + 128 : Nat) : Int) := by
          rw [Int.tmod_eq_emod_of_nonneg (by omega)]; omega
        have e2 : IntKind.u64.wrap (Int.tdiv (n : Int) 128) = ((n / 128 : Nat) : Int) := by
          rw [Int.tdiv_eq_ediv_of_nonneg (by omega), IntKind.wrap_u64]; omega
        rw [freshetref02_PutUint.l0, if_pos (by omega), Option.bind_some, str_bA, bA_size, bA_size, if_pos (by simp at hl ⊢; omega), bA_append, e1, e2, List.map_singleton, Int.toNat_natCast]
      · have := ih (n / 128) (by omega) (acc ++ [UInt8.ofNat (n % 128 + 128)]) (by omega) (by simp at hl ⊢; omega)
        rw [List.append_assoc] at this
        exact this
theorem ev_rPutUint (n : Nat) (hn : n < 2 ^ 64) : Ev (fun k => freshetref02_PutUint.f k (n : Int)) (bA (H.putL n)) := by
  have := ev_rput n [] hn (by have := putL_le n hn; simp; omega)
  exact this
def encS (n : Int) (l : List S72) : ByteArray × Int := if checkS n l = 0 then (bA (encodeL n.toNat l), 0) else (⟨#[]⟩, checkS n l)
theorem ev_EncodeAny (n : Int) (l : List S72) (hb : l.length ≤ 4611686018427387904) : Ev (fun k => batch_Encode.f k n l) (encS n l) := by
  unfold encS
  by_cases h : checkS n l = 0
  · rw [if_pos h]
    have h1 := (check_ok h).1
    have e : ((n.toNat : Nat) : Int) = n := by omega
    have := ev_Encode n.toNat l (by rw [e]; exact h)
    rw [e] at this
    exact this
  · rw [if_neg h]
    refine Ev.bind (ev_Check n l hb) ?_
    simp only [if_neg h]
    exact Ev.now _
theorem ev_same_l (n : Int) (xs : List S72) (hx : xs.length ≤ 4611686018427387904) : ∀ c i, i + c = xs.length → Ev (fun k => freshetref06_Same.l0 k (i : Int) n xs n xs) true
  | 0, i, hi => by
    refine Ev.step (f := fun _ => some true) (fun k => ?_) (Ev.now _)
    rw [freshetref06_Same.l0, if_neg (by omega)]
  | c + 1, i, hi => by
    refine Ev.step (f := fun k => freshetref06_Same.l0 k ((i + 1 : Nat) : Int) n xs n xs) (fun k => ?_) (ev_same_l n xs hx c (i + 1) (by omega))
    rw [freshetref06_Same.l0, if_pos (by omega), if_pos (by omega), if_pos (by omega), if_neg (by simp), wrap64_id _ (by omega) (by omega)]
    rfl
theorem ev_same (n : Int) (xs : List S72) (hx : xs.length ≤ 4611686018427387904) : Ev (fun k => freshetref06_Same.f k n xs n xs) true := by
  refine Ev.congr (f := fun k => freshetref06_Same.j0 k false n xs n xs) (fun k => ?_) ?_
  · rw [freshetref06_Same.f, if_pos rfl]
    congr 1
    simp
  · exact Ev.step (f := fun k => freshetref06_Same.l0 k 0 n xs n xs) (fun k => by rw [freshetref06_Same.j0, if_neg (by simp)]) (ev_same_l n xs hx xs.length 0 (by omega))
theorem ev_rPutField (s : ByteArray) (hs : s.size ≤ 1000000) : Ev (fun k => freshetref02_PutField.f k s) (bA (fieldL s)) := by
  have e : IntKind.u64.wrap (s.size : Int) = (s.size : Int) := by rw [IntKind.wrap_u64]; omega
  have h64 : s.size < 2 ^ 64 := by omega
  refine Ev.bind (g := fun k => freshetref02_PutUint.f k (IntKind.u64.wrap (s.size : Int))) (by rw [e]; exact ev_rPutUint s.size h64) ?_
  have hl := putL_le s.size h64
  rw [bA_size, if_pos (by omega), show bA (putL s.size) ++ s = bA (putL s.size) ++ bA s.data.toList from by rw [bA_of], bA_append]
  exact Ev.now _
theorem ev_rencl (n : Int) (l : List S72) (hb : ∀ x ∈ l, badW x = false ∧ bigW x = false) (hlen : l.length ≤ 64) : ∀ c i (acc : List UInt8), i + c = l.length → acc.length ≤ 3000 * i + 100 →
    Ev (fun k => freshetref06_Encode.l0 k (bA acc) (i : Int) n l) (bA (acc ++ encL (l.drop i)), 0)
  | 0, i, acc, hi, ha => by
    rw [List.drop_eq_nil_of_le (by omega), encL, List.append_nil]
    exact Ev.step (f := fun _ => some (bA acc, 0)) (fun k => by rw [freshetref06_Encode.l0, if_neg (by omega)]) (Ev.now _)
  | c + 1, i, acc, hi, ha => by
    have hx : rd_T72 l (i : Int) ∈ l := by
      simp only [rd_T72, Int.toNat_natCast]
      rw [List.getD_eq_getElem?_getD, List.getElem?_eq_getElem (by omega)]
      exact List.getElem_mem _
    rw [rd_at l i (by omega), encL]
    obtain ⟨x, ex⟩ : ∃ x, rd_T72 l (i : Int) = x := ⟨_, rfl⟩
    rw [ex] at hx ⊢
    obtain ⟨h1, h2⟩ := hb x hx
    simp only [bigW, Bool.or_eq_false_iff, decide_eq_false_iff_not] at h2
    have hk : x.f0 = 1 ∨ x.f0 = 2 := by
      simp only [badW, Bool.or_eq_false_iff, Bool.not_eq_false', Bool.or_eq_true, beq_iff_eq] at h1
      exact h1.1.1
    have f1 := fieldL_len x.f1 (by omega)
    have f2 := fieldL_len x.f2 (by omega)
    have e0 : strOfNums [x.f0 % 256] = bA [UInt8.ofNat x.f0.toNat] := by
      rw [str_bA, List.map_singleton]
      rcases hk with hk | hk <;> rw [hk] <;> rfl
    have ew : wrap64 ((i : Int) + 1) = ((i + 1 : Nat) : Int) := by rw [wrap64_id _ (by omega) (by omega)]; rfl
    have s1 : (bA acc).size + (bA [UInt8.ofNat x.f0.toNat]).size ≤ 9223372036854775807 := by rw [bA_size, bA_size, List.length_singleton]; omega
    refine Ev.step (f := fun k => (freshetref02_PutField.f k x.f1).bind fun t280 => (if (bA (acc ++ [UInt8.ofNat x.f0.toNat])).size + t280.size ≤ 9223372036854775807 then (if x.f0 = 1 then ((freshetref02_PutField.f k x.f2).bind fun t281 => (if (bA (acc ++ [UInt8.ofNat x.f0.toNat]) ++ t280).size + t281.size ≤ 9223372036854775807 then (freshetref06_Encode.l0 k ((bA (acc ++ [UInt8.ofNat x.f0.toNat]) ++ t280) ++ t281) ((i + 1 : Nat) : Int) n l) else (none))) else (freshetref06_Encode.l0 k (bA (acc ++ [UInt8.ofNat x.f0.toNat]) ++ t280) ((i + 1 : Nat) : Int) n l)) else (none))) (fun k => ?_) ?_
    · rw [freshetref06_Encode.l0, if_pos (by omega), if_pos (by omega), Option.bind_some, ex, e0, if_pos s1, bA_append, ew]
    refine Ev.bind (ev_rPutField x.f1 (by omega)) ?_
    have s2 : (bA (acc ++ [UInt8.ofNat x.f0.toNat])).size + (bA (fieldL x.f1)).size ≤ 9223372036854775807 := by rw [bA_size, bA_size, List.length_append, List.length_singleton]; omega
    simp only [if_pos s2]
    rcases hk with hk | hk
    · simp only [if_pos hk]
      refine Ev.bind (ev_rPutField x.f2 (by omega)) ?_
      have s3 : (bA (acc ++ [UInt8.ofNat x.f0.toNat]) ++ bA (fieldL x.f1)).size + (bA (fieldL x.f2)).size ≤ 9223372036854775807 := by
        rw [bA_append, bA_size, bA_size, List.length_append, List.length_append, List.length_singleton]; omega
      simp only [if_pos s3]
      rw [bA_append, bA_append]
      have ih := ev_rencl n l hb hlen c (i + 1) (acc ++ [UInt8.ofNat x.f0.toNat] ++ fieldL x.f1 ++ fieldL x.f2) (by omega) (by
        rw [List.length_append, List.length_append, List.length_append, List.length_singleton]; omega)
      have er : acc ++ [UInt8.ofNat x.f0.toNat] ++ fieldL x.f1 ++ fieldL x.f2 ++ encL (l.drop (i + 1)) = acc ++ (rowL x ++ encL (l.drop (i + 1))) := by
        rw [rowL, if_pos hk]; simp
      rw [er] at ih
      exact ih
    · have hk' : ¬ x.f0 = 1 := by omega
      simp only [if_neg hk']
      rw [bA_append]
      have ih := ev_rencl n l hb hlen c (i + 1) (acc ++ [UInt8.ofNat x.f0.toNat] ++ fieldL x.f1) (by omega) (by
        rw [List.length_append, List.length_append, List.length_singleton]; omega)
      have er : acc ++ [UInt8.ofNat x.f0.toNat] ++ fieldL x.f1 ++ encL (l.drop (i + 1)) = acc ++ (rowL x ++ encL (l.drop (i + 1))) := by
        rw [rowL, if_neg hk']; simp
      rw [er] at ih
      exact ih
theorem ev_rEncode (n : Int) (l : List S72) (hl : l.length ≤ 4611686018427387904) : Ev (fun k => freshetref06_Encode.f k n l) (encS n l) := by
  refine Ev.bind (ev_rCheck n l hl) ?_
  unfold encS
  by_cases h : checkS n l = 0
  · obtain ⟨h1, h2, h3, h4, h5⟩ := check_ok h
    have en : ((n.toNat : Nat) : Int) = n := by omega
    have e : IntKind.u64.wrap (l.length : Int) = (l.length : Int) := by rw [IntKind.wrap_u64]; omega
    simp only [if_pos h]
    refine Ev.bind (a := bA (putL n.toNat)) (by have := ev_rPutUint n.toNat (by omega); rw [en] at this; exact this) ?_
    refine Ev.bind (a := bA (putL l.length)) (by rw [e]; exact ev_rPutUint l.length (by omega)) ?_
    have l1 := putL_le n.toNat (by omega)
    have l2 := putL_le l.length (by omega)
    have s1 : (bA (putL n.toNat)).size + (bA (putL l.length)).size ≤ 9223372036854775807 := by rw [bA_size, bA_size]; omega
    simp only [if_pos s1]
    rw [bA_append]
    have := ev_rencl n l h5 h4 l.length 0 (putL n.toNat ++ putL l.length) (by omega) (by rw [List.length_append]; omega)
    rw [List.drop_zero] at this
    exact this
  · simp only [if_neg h]
    exact Ev.now _
theorem awake_true_E : Ev freshetlaw06_awake.f true := Ev.of (fun k => freshetlaw06_awake.mono k) (k := 30) (by decide +kernel)
theorem aw_E : Ev (fun k => (freshetlaw06_awake.f k).bind fun t => some t) true := Ev.bind awake_true_E (Ev.now _)
theorem ev_kept (n : Int) (l : List S72) (hl : l.length ≤ 1000000) : Ev (fun k => freshetlaw06_kept.f k n l n l) true := by
  refine Ev.congr (f := fun k => (freshetref06_Same.f k n l n l).bind fun t => (if t = true then some true else none)) (fun k => by rw [freshetlaw06_kept.f, if_pos ⟨rfl, hl⟩]) ?_
  exact Ev.bind (ev_same n l (by omega)) (Ev.now _)
theorem ev_BatchEncode (n : Int) (l : List S72) (hl : l.length ≤ 4611686018427387904) : Ev (fun k => freshetlaw06_BatchEncode.f k n l) true := by
  unfold freshetlaw06_BatchEncode.f
  by_cases hg : (l.length : Int) > 300
  · simp only [if_pos hg]
    exact aw_E
  simp only [if_neg hg]
  have eo : freshetlaw06_own.f n l = some (n, l) := by rw [freshetlaw06_own.f, if_pos (by omega)]
  simp only [eo, Option.bind_some]
  refine Ev.bind (ev_EncodeAny n l hl) (Ev.bind (ev_rEncode n l hl) ?_)
  simp only [if_true]
  refine Ev.bind (ev_Check n l hl) (Ev.bind (ev_rCheck n l hl) ?_)
  simp only [if_true]
  refine Ev.bind (ev_kept n l (by omega)) ?_
  simp only [if_true]
  exact aw_E

end Go.Proofs.Ytfemebenkbobnaa.PB06
