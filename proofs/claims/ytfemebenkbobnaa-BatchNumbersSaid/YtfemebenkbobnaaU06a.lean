import Derived.Test.YtfemebenkbobnaaHNum
import Derived.Test.YtfemebenkbobnaaPB063
import Derived.Test.YtfemebenkbobnaaPB064
import Derived.Test.YtfemebenkbobnaaPB065
import Derived.Test.YtfemebenkbobnaaPB066
import Derived.Test.YtfemebenkbobnaaPB068
import Derived.Test.YtfemebenkbobnaaPB069
import Derived.Laws.BitsLemmas
import Derived.Laws.Bits64
namespace Go.Proofs.Ytfemebenkbobnaa.PB06
open Go.RowKit Go.Proofs.YtfemebenkbobnaaW.PrintWords Go.Proofs.YtfemebenkbobnaaW.PrintLast Go.Proofs.YtfemebenkbobnaaW.PrintMore
open H (uintS uL putL)
def bA (l : List UInt8) : ByteArray := ⟨l.toArray⟩
theorem bA_list (l : List UInt8) : (bA l).data.toList = l := rfl
theorem bA_of (s : ByteArray) : bA s.data.toList = s := rfl
theorem bA_append (a b : List UInt8) : bA a ++ bA b = bA (a ++ b) := by
  apply ByteArray.ext
  rw [ByteArray.data_append]
  simp [bA]
theorem bA_size (l : List UInt8) : (bA l).size = l.length := by simp [bA, ByteArray.size]
theorem str_bA (xs : List Int) : strOfNums xs = bA (xs.map fun n => UInt8.ofNat n.toNat) := rfl
theorem putL_len (n : Nat) : ∀ j, n < 128 ^ j → 1 ≤ j → (H.putL n).length ≤ j := by
  intro j
  induction j generalizing n with
  | zero => intro _ h; omega
  | succ j ih =>
    intro h _
    by_cases hn : n < 128
    · rw [H.putL_small n hn]; simp
    · rw [H.putL_big n hn, List.length_cons]
      have hj : 1 ≤ j := by
        rcases Nat.eq_zero_or_pos j with rfl | h1
        · simp at h; omega
        · exact h1
      have := ih (n / 128) (by rw [Nat.pow_succ] at h; exact Nat.div_lt_of_lt_mul (by omega)) hj
      omega
theorem putL_le (n : Nat) (h : n < 2 ^ 64) : (H.putL n).length ≤ 10 := putL_len n 10 (by simp at h ⊢; omega) (by omega)
theorem or128 : ∀ a : Fin 256, a.val ||| 128 = a.val % 128 + 128 := by decide +kernel
theorem u8_or128' (x : Int) : bits BinOp.or IntKind.u8 (x % 256) 128 = x % 128 + 128 := by
  obtain ⟨a, ha⟩ := Int.eq_ofNat_of_zero_le (show 0 ≤ x % 256 by omega)
  have hlt : a < 256 := by omega
  have h1 := (bits_nat .u8 8 (by decide) wraps_u8 a 128 (by omega) (by omega)).2
  rw [or128 ⟨a, hlt⟩] at h1
  rw [ha]
  refine h1.trans ?_
  simp only
  omega
theorem ev_put : ∀ (n : Nat) (acc : List UInt8) (xs : List Int), n < 2 ^ 64 → xs.map (fun n => UInt8.ofNat n.toNat) = acc → (H.putL n).length + xs.length ≤ 200 → Ev (fun k => code_PutUint.l0 k (n : Int) xs) (bA (acc ++ H.putL n)) := by
  intro n
  induction n using Nat.strongRecOn with
  | _ n ih =>
    intro acc xs hn hx hl
    by_cases h : n < 128
    · refine Ev.step (f := fun _ => some (bA (acc ++ H.putL n))) (fun k => ?_) (Ev.now _)
      rw [code_PutUint.l0, if_neg (by omega), if_pos (by omega), str_bA, List.map_append, hx, H.putL_small n h, List.map_singleton, show ((n : Int) % 256).toNat = n from by omega]
    · refine Ev.step (f := fun k => code_PutUint.l0 k ((n / 128 : Nat) : Int) (xs ++ [bits BinOp.or IntKind.u8 ((n : Int) % 256) 128])) (fun k => ?_) ?_
      · rw [code_PutUint.l0, if_pos (by omega), if_pos (by omega)]
        congr 1
      · have hb := u8_or128' (n : Int)
        rw [H.putL_big n h] at hl ⊢
        have := ih (n / 128) (by omega) (acc ++ [UInt8.ofNat (n % 128 + 128)]) (xs ++ [bits BinOp.or IntKind.u8 ((n : Int) % 256) 128]) (by omega)
          (by rw [List.map_append, hx, hb, List.map_singleton, show ((n : Int) % 128 + 128).toNat = n % 128 + 128 from by omega]) (by simp at hl ⊢; omega)
        rw [List.append_assoc] at this
        exact this
theorem ev_PutUint (n : Nat) (hn : n < 2 ^ 64) : Ev (fun k => code_PutUint.f k (n : Int)) (bA (H.putL n)) := by
  have := ev_put n [] [] hn rfl (by have := putL_le n hn; simp; omega)
  exact this
/-! The reference's Uint. -/
theorem wrap64_id (x : Int) (h0 : -9223372036854775808 ≤ x) (h1 : x ≤ 9223372036854775807) : wrap64 x = x := by unfold wrap64; omega
/-- The first m bytes' number. -/
def tN (s : ByteArray) : Nat → Nat
  | 0 => 0
  | m + 1 => tN s m + (bt s (m : Int)).toNat % 128 * 2 ^ (7 * m)
theorem tN_lt (s : ByteArray) : ∀ m, tN s m < 2 ^ (7 * m)
  | 0 => by simp [tN]
  | m + 1 => by
    have := tN_lt s m
    have hp : (2 : Nat) ^ (7 * (m + 1)) = 128 * 2 ^ (7 * m) := by rw [Nat.mul_add, Nat.pow_add]; omega
    rw [tN, hp]
    have h2 : (bt s (m : Int)).toNat % 128 * 2 ^ (7 * m) ≤ 127 * 2 ^ (7 * m) := Nat.mul_le_mul_right _ (by omega)
    omega
theorem uint_fwd (s : ByteArray) (K : Nat) (hK : K ≤ 9) (hb : ∀ i, i < K → i < s.size ∧ 128 ≤ bt s (i : Int)) : ∀ i, i ≤ K → uintS s = H.uintGo s (10 - i) i (tN s i : Nat)
  | 0, _ => rfl
  | i + 1, hi => by
    rw [uint_fwd s K hK hb i (by omega)]
    obtain ⟨h1, h2⟩ := hb i (by omega)
    have hr := bt_range s (i : Int)
    rw [show 10 - i = (10 - (i + 1)) + 1 from by omega, H.uintGo, if_pos h1, if_neg (by omega), if_neg (by omega), tN]
    congr 1
    have : ((bt s (i : Int)).toNat % 128 : Nat) = (bt s (i : Int) % 128).toNat := by omega
    rw [this]
    have h3 : 0 ≤ bt s (i : Int) % 128 := by omega
    simp [Int.toNat_of_nonneg h3]
theorem find_K (s : ByteArray) : ∀ n, n ≤ 10 → ∃ K, K ≤ n ∧ (∀ i, i < K → i < s.size ∧ 128 ≤ bt s (i : Int)) ∧ (K = n ∨ K = s.size ∨ (K < s.size ∧ bt s (K : Int) < 128))
  | 0, _ => ⟨0, by omega, fun i h => by omega, .inl rfl⟩
  | n + 1, hn => by
    obtain ⟨K, h1, h2, h3⟩ := find_K s n (by omega)
    rcases h3 with rfl | h3 | h3
    · by_cases h4 : K < s.size
      · by_cases h5 : 128 ≤ bt s (K : Int)
        · refine ⟨K + 1, by omega, fun i hi => ?_, .inl rfl⟩
          rcases Nat.lt_or_ge i K with h | h
          · exact h2 i h
          · obtain rfl : i = K := by omega
            exact ⟨h4, h5⟩
        · exact ⟨K, by omega, h2, .inr (.inr ⟨h4, by omega⟩)⟩
      · rcases Nat.eq_or_lt_of_le (Nat.not_lt.1 h4) with h | h
        · exact ⟨K, by omega, h2, .inr (.inl h.symm)⟩
        · exfalso
          have := (h2 s.size h).1
          omega
    · exact ⟨K, by omega, h2, .inr (.inl h3)⟩
    · exact ⟨K, by omega, h2, .inr (.inr h3)⟩
theorem ev_down (s : ByteArray) (K : Nat) (hK : K ≤ 9) : ∀ (m : Nat) (x6 : Nat), m < s.size → m ≤ K → x6 * 2 ^ (7 * (m + 1)) + tN s (m + 1) < 2 ^ 64 →
    Ev (fun k => freshetref02_Uint.l1 k s (K : Int) (x6 : Int) (m : Int)) (((x6 * 2 ^ (7 * (m + 1)) + tN s (m + 1) : Nat) : Int), (K : Int) + 1, 0) := by
  intro m
  induction m with
  | zero =>
    intro x6 hm hmK hb
    have hr := bt_range s 0
    have e : x6 * 2 ^ (7 * (0 + 1)) + tN s (0 + 1) = x6 * 128 + (bt s 0).toNat % 128 := by simp [tN]
    rw [e] at hb ⊢
    refine Ev.step (f := fun k => freshetref02_Uint.l1 k s (K : Int) ((x6 * 128 + (bt s 0).toNat % 128 : Nat) : Int) (-1)) (fun k => ?_) ?_
    · have e1 : IntKind.u64.wrap ((IntKind.u64.wrap ((x6 : Int) * 128)) + (IntKind.u64.wrap (Int.tmod (bt s 0) 128))) = ((x6 * 128 + (bt s 0).toNat % 128 : Nat) : Int) := by
        rw [Int.tmod_eq_emod_of_nonneg hr.1, IntKind.wrap_u64, IntKind.wrap_u64, IntKind.wrap_u64]
        omega
      rw [freshetref02_Uint.l1, if_pos (by omega), if_pos (by omega), if_pos (by omega)]
      rw [show ((0 : Nat) : Int) = 0 from rfl, e1, wrap64_id _ (by omega) (by omega)]
      rfl
    · refine Ev.step (f := fun _ => some _) (fun k => ?_) (Ev.now _)
      rw [freshetref02_Uint.l1, if_neg (by omega), wrap64_id _ (by omega) (by omega)]
  | succ m ih =>
    intro x6 hm hmK hb
    have hr := bt_range s ((m + 1 : Nat) : Int)
    have hp : (2 : Nat) ^ (7 * (m + 1 + 1)) = 128 * 2 ^ (7 * (m + 1)) := by rw [Nat.mul_add, Nat.pow_add]; omega
    have hpos : 0 < 2 ^ (7 * (m + 1)) := Nat.two_pow_pos _
    have e : x6 * 2 ^ (7 * (m + 1 + 1)) + tN s (m + 1 + 1) = (x6 * 128 + (bt s ((m + 1 : Nat) : Int)).toNat % 128) * 2 ^ (7 * (m + 1)) + tN s (m + 1) := by
      rw [hp, tN, Nat.add_mul, Nat.mul_assoc]
      omega
    rw [e] at hb ⊢
    have hx : x6 * 128 + (bt s ((m + 1 : Nat) : Int)).toNat % 128 < 2 ^ 64 := by
      have h1 : x6 * 128 + (bt s ((m + 1 : Nat) : Int)).toNat % 128 ≤ (x6 * 128 + (bt s ((m + 1 : Nat) : Int)).toNat % 128) * 2 ^ (7 * (m + 1)) := Nat.le_mul_of_pos_right _ hpos
      omega
    refine Ev.step (f := fun k => freshetref02_Uint.l1 k s (K : Int) ((x6 * 128 + (bt s ((m + 1 : Nat) : Int)).toNat % 128 : Nat) : Int) (m : Int)) (fun k => ?_) (ih _ (by omega) (by omega) hb)
    have e1 : IntKind.u64.wrap ((IntKind.u64.wrap ((x6 : Int) * 128)) + (IntKind.u64.wrap (Int.tmod (bt s ((m + 1 : Nat) : Int)) 128))) = ((x6 * 128 + (bt s ((m + 1 : Nat) : Int)).toNat % 128 : Nat) : Int) := by
      rw [Int.tmod_eq_emod_of_nonneg hr.1, IntKind.wrap_u64, IntKind.wrap_u64, IntKind.wrap_u64]
      omega
    rw [freshetref02_Uint.l1, if_pos (by omega), if_pos (by omega), if_pos (by omega), e1, wrap64_id _ (by omega) (by omega), show ((m + 1 : Nat) : Int) - 1 = (m : Int) from by omega]
theorem ev_to_K (s : ByteArray) (K : Nat) (hK : K ≤ 10) (hb : ∀ i, i < K → i < s.size ∧ 128 ≤ bt s (i : Int)) (hend : K = 10 ∨ K = s.size ∨ (K < s.size ∧ bt s (K : Int) < 128)) {r : Int × Int × Int} (h : Ev (fun k => freshetref02_Uint.j1 k s (K : Int)) r) : ∀ c i, i + c = K → Ev (fun k => freshetref02_Uint.l0 k s (i : Int)) r
  | 0, i, hi => by
    obtain rfl : i = K := by omega
    refine Ev.step (f := fun k => freshetref02_Uint.j1 k s (i : Int)) (fun k => ?_) h
    rw [freshetref02_Uint.l0]
    rcases hend with h1 | h1 | ⟨h1, h2⟩
    · by_cases h3 : (i : Int) < (s.size : Int)
      · rw [if_pos h3, if_neg (by omega)]
      · rw [if_neg h3]
    · rw [if_neg (by omega)]
    · rw [if_pos (by omega)]
      by_cases h3 : (i : Int) < 10
      · rw [if_pos h3, if_pos (by omega), if_neg (by omega)]
      · rw [if_neg h3]
  | c + 1, i, hi => by
    obtain ⟨h1, h2⟩ := hb i (by omega)
    refine Ev.step (f := fun k => freshetref02_Uint.l0 k s ((i + 1 : Nat) : Int)) (fun k => ?_) (ev_to_K s K hK hb hend h c (i + 1) (by omega))
    rw [freshetref02_Uint.l0, if_pos (by omega), if_pos (by omega), if_pos (by omega), if_pos (by omega), wrap64_id _ (by omega) (by omega)]
    rfl
theorem ev_rUint (s : ByteArray) : Ev (fun k => freshetref02_Uint.f k s) (uintS s) := by
  obtain ⟨K, hK, hb, hend⟩ := find_K s 10 (by omega)
  have hgo : Ev (fun k => freshetref02_Uint.j1 k s (K : Int)) (uintS s) := by
    by_cases h10 : K = 10
    · subst h10
      have hu : uintS s = (0, 0, 7) := by
        rw [uint_fwd s 9 (by omega) (fun i hi => hb i (by omega)) 9 (by omega)]
        obtain ⟨h1, h2⟩ := hb 9 (by omega)
        rw [show 10 - 9 = 0 + 1 from rfl, H.uintGo, if_pos h1, if_pos ⟨rfl, by omega⟩]
      rw [hu]
      have key : Ev (fun k => freshetref02_Uint.j2 k s ((10 : Nat) : Int) false) (0, 0, 7) := by
        refine Ev.step (f := fun k => freshetref02_Uint.j3 k s ((10 : Nat) : Int) true) (fun k => ?_) (Ev.step (f := fun _ => some (0, 0, 7)) (fun k => ?_) (Ev.now _))
        · rw [freshetref02_Uint.j2, if_neg (by simp), if_pos (by rfl)]
        · rw [freshetref02_Uint.j3, if_pos rfl]
      refine Ev.step (f := fun k => freshetref02_Uint.j2 k s ((10 : Nat) : Int) false) (fun k => ?_) key
      rw [freshetref02_Uint.j1]
      by_cases h : ((10 : Nat) : Int) = (s.size : Int)
      · rw [if_pos h]; rfl
      · rw [if_neg h]
    · have hK9 : K ≤ 9 := by omega
      have hu := uint_fwd s K hK9 hb K (Nat.le_refl _)
      by_cases hs : K = s.size
      · have : uintS s = (0, 0, 6) := by
          rw [hu, show 10 - K = (9 - K) + 1 from by omega, H.uintGo, if_neg (by omega)]
        rw [this]
        refine Ev.step (f := fun k => freshetref02_Uint.j2 k s (K : Int) true) (fun k => ?_) (Ev.step (f := fun _ => some (0, 0, 6)) (fun k => ?_) (Ev.now _))
        · rw [freshetref02_Uint.j1, if_pos (by omega), decide_eq_true (by omega : (K : Int) < 10)]
        · rw [freshetref02_Uint.j2, if_pos rfl]
      · have hlt : K < s.size ∧ bt s (K : Int) < 128 := by
          rcases hend with h | h | h
          · exact absurd h h10
          · exact absurd h hs
          · exact h
        obtain ⟨hlt, h128⟩ := hlt
        have hr := bt_range s (K : Int)
        rw [show 10 - K = (9 - K) + 1 from by omega, H.uintGo, if_pos hlt] at hu
        refine Ev.step (f := fun k => freshetref02_Uint.j2 k s (K : Int) false) (fun k => by rw [freshetref02_Uint.j1, if_neg (by omega)]) ?_
        have down : ¬ (K = 9 ∧ 1 < bt s (K : Int)) → Ev (fun k => freshetref02_Uint.l1 k s (K : Int) 0 (K : Int)) (((tN s (K + 1) : Nat) : Int), (K : Int) + 1, 0) := by
          intro h9
          have hlt64 : 0 * 2 ^ (7 * (K + 1)) + tN s (K + 1) < 2 ^ 64 := by
            rw [Nat.zero_mul, Nat.zero_add]
            by_cases h8 : K ≤ 8
            · exact Nat.lt_of_lt_of_le (tN_lt s (K + 1)) (Nat.pow_le_pow_right (by omega) (by omega))
            · obtain rfl : K = 9 := by omega
              have h63 := tN_lt s 9
              rw [tN]
              have hb1 : (bt s ((9 : Nat) : Int)).toNat % 128 ≤ 1 := by omega
              have hm : (bt s ((9 : Nat) : Int)).toNat % 128 * 2 ^ (7 * 9) ≤ 1 * 2 ^ (7 * 9) := Nat.mul_le_mul_right _ hb1
              simp only [Nat.reduceMul, Nat.reducePow] at h63 hm ⊢
              omega
          have := ev_down s K hK9 K 0 hlt (Nat.le_refl _) hlt64
          simpa using this
        have bad : Ev (fun k => freshetref02_Uint.j3 k s (K : Int) true) (0, 0, 7) := Ev.step (f := fun _ => some (0, 0, 7)) (fun k => by rw [freshetref02_Uint.j3, if_pos rfl]) (Ev.now _)
        have val : ((tN s (K + 1) : Nat) : Int) = ((tN s K : Nat) : Int) + bt s (K : Int) % 128 * 2 ^ (7 * K) := by
          rw [tN]
          have : ((bt s (K : Int)).toNat % 128 : Nat) = (bt s (K : Int) % 128).toNat := by omega
          rw [this]
          have h3 : 0 ≤ bt s (K : Int) % 128 := by omega
          simp [Int.toNat_of_nonneg h3]
        by_cases h9 : K = 9 ∧ 1 < bt s (K : Int)
        · rw [if_pos h9] at hu
          rw [hu]
          refine Ev.step (f := fun k => freshetref02_Uint.j3 k s (K : Int) true) (fun k => ?_) bad
          rw [freshetref02_Uint.j2, if_neg (by simp), if_neg (by omega), if_pos (by omega), if_pos (by omega), if_pos (by omega), if_neg (by omega), if_pos (by omega), decide_eq_true (by omega : bt s (K : Int) > 1)]
        · rw [if_neg h9, if_pos h128] at hu
          by_cases h0 : bt s (K : Int) = 0 ∧ 0 < K
          · rw [if_pos h0] at hu
            rw [hu]
            refine Ev.step (f := fun k => freshetref02_Uint.j3 k s (K : Int) true) (fun k => ?_) bad
            rw [freshetref02_Uint.j2, if_neg (by simp), if_neg (by omega), if_pos (by omega), if_pos (by omega), if_pos (by omega), if_pos (by omega)]
          · rw [if_neg h0, ← val] at hu
            rw [hu]
            have good : Ev (fun k => freshetref02_Uint.j3 k s (K : Int) false) (((tN s (K + 1) : Nat) : Int), (K : Int) + 1, 0) :=
              Ev.step (f := fun k => freshetref02_Uint.l1 k s (K : Int) 0 (K : Int)) (fun k => by rw [freshetref02_Uint.j3, if_neg (by simp)]) (down h9)
            refine Ev.step (f := fun k => freshetref02_Uint.j3 k s (K : Int) false) (fun k => ?_) good
            rw [freshetref02_Uint.j2, if_neg (by simp), if_neg (by omega)]
            by_cases hp : (K : Int) > 0
            · rw [if_pos hp, if_pos (by omega), if_pos (by omega), if_neg (by omega)]
              by_cases h9' : (K : Int) = 9
              · rw [if_pos h9', decide_eq_false (by omega : ¬ bt s (K : Int) > 1)]
              · rw [if_neg h9']
            · rw [if_neg hp, if_neg (by omega)]
  have := ev_to_K s K hK hb hend hgo K 0 (by omega)
  exact this
theorem wrap64_id' (x : Int) (h0 : -9223372036854775808 ≤ x) (h1 : x ≤ 9223372036854775807) : wrap64 x = x := by unfold wrap64; omega
theorem rd_at (xs : List S72) (i : Nat) (h : i < xs.length) : xs.drop i = rd_T72 xs (i : Int) :: xs.drop (i + 1) := by
  rw [List.drop_eq_getElem_cons h]
  simp [rd_T72, h]
theorem toList_nil (s : ByteArray) : s.toList = [] ↔ s.size = 0 := by
  rw [ByteArray.toList_eq, ← List.length_eq_zero_iff, Array.length_toList]
  rfl
def badW (x : S72) : Bool := !(x.f0 == 1 || x.f0 == 2) || x.f1.size == 0 || (x.f0 == 2 && x.f2.size != 0)
def bigW (x : S72) : Bool := decide (x.f1.size > 520) || decide (x.f2.size > 2048)
def chk (e : Int) : List S72 → Int
  | [] => e
  | x :: r => if badW x then 2 else chk (if bigW x then 3 else e) r
theorem chk_is : ∀ (l : List S72) (e : Int), chk e l = if l.any badW then 2 else if l.any bigW then 3 else e
  | [], e => by simp [chk]
  | x :: r, e => by
    rw [chk, chk_is r]
    by_cases h : badW x <;> by_cases h2 : bigW x <;> simp [h, h2]
def checkS (n : Int) (l : List S72) : Int := if l.length = 0 ∨ n < 1 ∨ n > 72057594037927872 ∨ l.any badW = true then 2 else if l.length > 64 ∨ l.any bigW = true then 3 else 0
theorem ev_chk (xs : List S72) (hx : xs.length ≤ 4611686018427387904) : ∀ c i e, i + c = xs.length → Ev (fun k => batch_Check.l0 k e xs (xs.length : Int) (i : Int)) (chk e (xs.drop i))
  | 0, i, e, hi => by
    rw [List.drop_eq_nil_of_le (by omega), chk]
    refine Ev.step (f := fun _ => some e) (fun k => ?_) (Ev.now _)
    rw [batch_Check.l0, if_neg (by omega)]
  | c + 1, i, e, hi => by
    rw [rd_at xs i (by omega), chk]
    refine Ev.step (f := fun k => batch_Check.j3 k e xs (xs.length : Int) (i : Int) (badW (rd_T72 xs (i : Int))) (rd_T72 xs (i : Int)).f0 (rd_T72 xs (i : Int)).f1 (rd_T72 xs (i : Int)).f2) (fun k => ?_) ?_
    · rw [batch_Check.l0, if_pos (by omega), if_pos (by omega), if_pos (by omega)]
      generalize rd_T72 xs (i : Int) = x
      have h4 : (x.f2.toList != []) = (x.f2.size != 0) := by
        rw [Bool.eq_iff_iff]; simp [toList_nil]
      by_cases h1 : x.f0 = 1
      · have h2 : ¬ x.f0 = 2 := by omega
        rw [if_pos h1]
        by_cases h3 : x.f1.toList = []
        · rw [if_pos h3]; rw [toList_nil] at h3; simp [badW, h3]
        · rw [if_neg h3, if_neg h2]; rw [toList_nil] at h3; simp [badW, h1, beq_false_of_ne h3]
      · rw [if_neg h1]
        by_cases h2 : x.f0 = 2
        · rw [if_pos h2]
          by_cases h3 : x.f1.toList = []
          · rw [if_pos h3]; rw [toList_nil] at h3; simp [badW, h3]
          · rw [if_neg h3, h4]; rw [toList_nil] at h3; simp [badW, h2, beq_false_of_ne h3]
        · rw [if_neg h2]; simp [badW, beq_false_of_ne h1, beq_false_of_ne h2]
    · generalize rd_T72 xs (i : Int) = x
      have ih := fun e => ev_chk xs hx c (i + 1) e (by omega)
      by_cases hb : badW x = true
      · rw [if_pos hb, hb]
        refine Ev.step (f := fun _ => some 2) (fun k => ?_) (Ev.now _)
        rw [batch_Check.j3, if_pos rfl]
      · rw [if_neg hb]
        refine Ev.step (f := fun k => batch_Check.l0 k (if bigW x then 3 else e) xs (xs.length : Int) ((i + 1 : Nat) : Int)) (fun k => ?_) (ih _)
        rw [batch_Check.j3, if_neg hb, wrap64_id' _ (by omega) (by omega)]
        by_cases h1 : (x.f1.size : Int) > 520
        · rw [if_pos h1, if_pos (show bigW x = true from by simp [bigW]; omega)]; rfl
        · rw [if_neg h1]
          by_cases h2 : (x.f2.size : Int) > 2048
          · rw [if_pos h2, if_pos (show bigW x = true from by simp [bigW]; omega)]; rfl
          · rw [if_neg h2, if_neg (show ¬ bigW x = true from by simp [bigW]; omega)]; rfl
theorem ev_Check (n : Int) (xs : List S72) (hx : xs.length ≤ 4611686018427387904) : Ev (fun k => batch_Check.f k n xs) (checkS n xs) := by
  have j1 : ∀ e b, Ev (fun k => batch_Check.j1 k e b n xs) (if b = true then 2 else chk e xs) := fun e b => by
    by_cases hb : b = true
    · rw [if_pos hb]
      refine Ev.step (f := fun _ => some 2) (fun k => ?_) (Ev.now _)
      rw [batch_Check.j1, if_pos hb]
    · rw [if_neg hb]
      refine Ev.step (f := fun k => batch_Check.l0 k e xs (xs.length : Int) 0) (fun k => ?_) (ev_chk xs hx xs.length 0 e (by omega))
      rw [batch_Check.j1, if_neg hb]
  have j0 : ∀ e, Ev (fun k => batch_Check.j0 k e n xs) (if xs.length = 0 ∨ n < 1 ∨ n > 72057594037927872 then 2 else chk e xs) := fun e => by
    by_cases h0 : xs.length = 0
    · rw [if_pos (.inl h0)]
      exact Ev.step (f := fun k => batch_Check.j1 k e true n xs) (fun k => by rw [batch_Check.j0, if_pos (by omega)]) (j1 e true)
    · by_cases h1 : n < 1
      · rw [if_pos (.inr (.inl h1))]
        exact Ev.step (f := fun k => batch_Check.j1 k e true n xs) (fun k => by rw [batch_Check.j0, if_neg (by omega), if_pos h1]) (j1 e true)
      · have e1 : (if xs.length = 0 ∨ n < 1 ∨ n > 72057594037927872 then 2 else chk e xs) = if decide (n > 72057594037927872) = true then 2 else chk e xs := by
          by_cases h2 : n > 72057594037927872 <;> simp [h0, h1, h2]
        rw [e1]
        exact Ev.step (f := fun k => batch_Check.j1 k e (decide (n > 72057594037927872)) n xs) (fun k => by rw [batch_Check.j0, if_neg (by omega), if_neg h1]) (j1 e _)
  have e2 : ∀ e, (if xs.length = 0 ∨ n < 1 ∨ n > 72057594037927872 then 2 else chk e xs) = if xs.length = 0 ∨ n < 1 ∨ n > 72057594037927872 ∨ xs.any badW = true then 2 else if xs.any bigW = true then 3 else e := fun e => by
    rw [chk_is]
    by_cases h : xs.length = 0 ∨ n < 1 ∨ n > 72057594037927872
    · rw [if_pos h, if_pos (by rcases h with h | h | h <;> simp [h])]
    · rw [if_neg h]
      by_cases hb : xs.any badW = true
      · rw [if_pos hb, if_pos (.inr (.inr (.inr hb)))]
      · rw [if_neg hb, if_neg (show ¬ (xs.length = 0 ∨ n < 1 ∨ n > 72057594037927872 ∨ xs.any badW = true) from fun hh => (by
          rcases hh with hh | hh | hh | hh
          · exact h (.inl hh)
          · exact h (.inr (.inl hh))
          · exact h (.inr (.inr hh))
          · exact hb hh))]
  by_cases h : (xs.length : Int) > 64
  · refine Ev.congr (f := fun k => batch_Check.j0 k 3 n xs) (fun k => by rw [batch_Check.f, if_pos h]) ?_
    have := j0 3
    rw [e2] at this
    have e3 : checkS n xs = if xs.length = 0 ∨ n < 1 ∨ n > 72057594037927872 ∨ xs.any badW = true then 2 else if xs.any bigW = true then 3 else 3 := by
      unfold checkS
      congr 1
      rw [if_pos (.inl (by omega))]
      simp
    rw [e3]; exact this
  · refine Ev.congr (f := fun k => batch_Check.j0 k 0 n xs) (fun k => by rw [batch_Check.f, if_neg h]) ?_
    have := j0 0
    rw [e2] at this
    have e3 : checkS n xs = if xs.length = 0 ∨ n < 1 ∨ n > 72057594037927872 ∨ xs.any badW = true then 2 else if xs.any bigW = true then 3 else 0 := by
      unfold checkS
      congr 1
      have : ¬ xs.length > 64 := by omega
      simp [this]
    rw [e3]; exact this
/-! The reference's Check. -/
theorem ev_rc1 (n : Int) (xs : List S72) (hx : xs.length ≤ 4611686018427387904) : ∀ c i, i + c = xs.length → Ev (fun k => freshetref06_Check.l1 k (i : Int) n xs) (if (xs.drop i).any bigW = true then 3 else 0)
  | 0, i, hi => by
    rw [List.drop_eq_nil_of_le (by omega)]
    refine Ev.step (f := fun _ => some 0) (fun k => ?_) (Ev.now _)
    rw [freshetref06_Check.l1, if_neg (by omega)]
  | c + 1, i, hi => by
    rw [rd_at xs i (by omega), List.any_cons]
    by_cases hb : bigW (rd_T72 xs (i : Int)) = true
    · rw [hb, Bool.true_or, if_pos rfl]
      refine Ev.step (f := fun _ => some 3) (fun k => ?_) (Ev.now _)
      rw [freshetref06_Check.l1, if_pos (by omega), if_pos (by omega)]
      simp only [bigW, Bool.or_eq_true, decide_eq_true_eq] at hb
      by_cases h1 : ((rd_T72 xs (i : Int)).f1.size : Int) > 520
      · rw [if_pos h1]
      · rw [if_neg h1, if_pos (by omega)]
    · have hb' : bigW (rd_T72 xs (i : Int)) = false := by simpa using hb
      rw [hb', Bool.false_or]
      refine Ev.step (f := fun k => freshetref06_Check.l1 k ((i + 1 : Nat) : Int) n xs) (fun k => ?_) (ev_rc1 n xs hx c (i + 1) (by omega))
      simp only [bigW, Bool.or_eq_true, decide_eq_true_eq] at hb
      rw [freshetref06_Check.l1, if_pos (by omega), if_pos (by omega), if_neg (by omega), if_neg (by omega), wrap64_id' _ (by omega) (by omega)]
      rfl
theorem ev_rc0 (n : Int) (xs : List S72) (hx : xs.length ≤ 4611686018427387904) : ∀ c i, i + c = xs.length → Ev (fun k => freshetref06_Check.l0 k (i : Int) n xs) (if (xs.drop i).any badW = true then 2 else if xs.length > 64 ∨ xs.any bigW = true then 3 else 0)
  | 0, i, hi => by
    rw [List.drop_eq_nil_of_le (by omega), List.any_nil, if_neg (by simp)]
    by_cases h : xs.length > 64
    · rw [if_pos (.inl h)]
      refine Ev.step (f := fun _ => some 3) (fun k => ?_) (Ev.now _)
      rw [freshetref06_Check.l0, if_neg (by omega), if_pos (by omega)]
    · have := ev_rc1 n xs hx xs.length 0 (by omega)
      rw [List.drop_zero] at this
      have e : (if xs.length > 64 ∨ xs.any bigW = true then (3 : Int) else 0) = if xs.any bigW = true then 3 else 0 := by simp [h]
      rw [e]
      refine Ev.step (f := fun k => freshetref06_Check.l1 k 0 n xs) (fun k => ?_) this
      rw [freshetref06_Check.l0, if_neg (by omega), if_neg (by omega)]
  | c + 1, i, hi => by
    rw [rd_at xs i (by omega), List.any_cons]
    have ih := ev_rc0 n xs hx c (i + 1) (by omega)
    have h1 : ((i : Int) < (xs.length : Int)) := by omega
    have h2 : (0 : Int) ≤ (i : Int) := by omega
    have hw : wrap64 ((i : Int) + 1) = ((i + 1 : Nat) : Int) := by rw [wrap64_id' _ (by omega) (by omega)]; rfl
    by_cases hb : badW (rd_T72 xs (i : Int)) = true
    · rw [hb, Bool.true_or, if_pos rfl]
      refine Ev.step (f := fun _ => some 2) (fun k => ?_) (Ev.now _)
      rw [freshetref06_Check.l0, if_pos h1, if_pos h2]
      generalize rd_T72 xs (i : Int) = x at hb ⊢
      simp only [badW] at hb
      by_cases a1 : x.f0 = 1 <;> by_cases a2 : x.f0 = 2 <;> by_cases a3 : x.f1.size = 0 <;> by_cases a4 : x.f2.size = 0 <;> simp_all <;> omega
    · have hb' : badW (rd_T72 xs (i : Int)) = false := by simpa using hb
      rw [hb', Bool.false_or]
      refine Ev.step (f := fun k => freshetref06_Check.l0 k ((i + 1 : Nat) : Int) n xs) (fun k => ?_) ih
      rw [freshetref06_Check.l0, if_pos h1, if_pos h2, hw]
      generalize rd_T72 xs (i : Int) = x at hb ⊢
      simp only [badW] at hb
      by_cases a1 : x.f0 = 1 <;> by_cases a2 : x.f0 = 2 <;> by_cases a3 : x.f1.size = 0 <;> by_cases a4 : x.f2.size = 0 <;> simp_all <;> omega
theorem ev_rCheck (n : Int) (xs : List S72) (hx : xs.length ≤ 4611686018427387904) : Ev (fun k => freshetref06_Check.f k n xs) (checkS n xs) := by
  have l0 := ev_rc0 n xs hx xs.length 0 (by omega)
  rw [List.drop_zero] at l0
  have jt : Ev (fun k => freshetref06_Check.j0 k true n xs) 2 :=
    Ev.step (f := fun _ => some 2) (fun k => by rw [freshetref06_Check.j0, if_pos rfl]) (Ev.now _)
  by_cases h0 : xs.length = 0
  · refine Ev.congr (f := fun k => freshetref06_Check.j0 k true n xs) (fun k => by rw [freshetref06_Check.f, if_pos (by omega)]) ?_
    rw [checkS, if_pos (.inl h0)]; exact jt
  · by_cases h1 : n < 1
    · refine Ev.congr (f := fun k => freshetref06_Check.j0 k true n xs) (fun k => by rw [freshetref06_Check.f, if_neg (by omega), if_pos h1]) ?_
      rw [checkS, if_pos (.inr (.inl h1))]; exact jt
    · refine Ev.congr (f := fun k => freshetref06_Check.j0 k (decide (n > 72057594037927872)) n xs) (fun k => by rw [freshetref06_Check.f, if_neg (by omega), if_neg h1]) ?_
      by_cases h2 : n > 72057594037927872
      · rw [decide_eq_true h2, checkS, if_pos (.inr (.inr (.inl h2)))]; exact jt
      · rw [decide_eq_false h2]
        have e : checkS n xs = if xs.any badW = true then 2 else if xs.length > 64 ∨ xs.any bigW = true then 3 else 0 := by
          unfold checkS
          simp only [h0, h1, h2, false_or]
        rw [e]
        exact Ev.step (f := fun k => freshetref06_Check.l0 k 0 n xs) (fun k => by rw [freshetref06_Check.j0, if_neg (by simp)]) l0
theorem uL_bad : ∀ (f i n : Nat) (l : List UInt8), (uL f i n l).2.2 ≠ 0 → (uL f i n l).1 = 0 ∧ (uL f i n l).2.1 = 0
  | 0, _, _, _, _ => by simp [uL]
  | _ + 1, _, _, [], _ => by simp [uL]
  | f + 1, i, n, b :: r, h => by
    rw [uL] at h ⊢
    by_cases h9 : i = 9 ∧ 1 < b.toNat
    · rw [if_pos h9]; simp
    · rw [if_neg h9] at h ⊢
      by_cases h1 : b.toNat < 128
      · rw [if_pos h1] at h ⊢
        by_cases h0 : b.toNat = 0 ∧ 0 < i
        · rw [if_pos h0]; simp
        · rw [if_neg h0] at h; simp at h
      · rw [if_neg h1] at h ⊢
        exact uL_bad f _ _ r h
theorem uint_bad {s : ByteArray} {v m e : Int} (h : uintS s = (v, m, e)) (he : e ≠ 0) : v = 0 ∧ m = 0 := by
  have := uL_bad 10 0 0 s.data.toList
  rw [← H.uintS_list, h] at this
  exact this he
theorem putL_pos (n : Nat) : 1 ≤ (putL n).length := by
  rw [putL]
  by_cases h : n < 128
  · rw [if_pos h]; simp
  · rw [if_neg h]; simp
theorem putL_len' (n : Nat) : ∀ j, n < 128 ^ j → 1 ≤ j → (H.putL n).length ≤ j := by
  intro j
  induction j generalizing n with
  | zero => intro _ h; omega
  | succ j ih =>
    intro h _
    by_cases hn : n < 128
    · rw [H.putL_small n hn]; simp
    · rw [H.putL_big n hn, List.length_cons]
      have hj : 1 ≤ j := by
        rcases Nat.eq_zero_or_pos j with rfl | h1
        · simp at h; omega
        · exact h1
      have := ih (n / 128) (by rw [Nat.pow_succ] at h; exact Nat.div_lt_of_lt_mul (by omega)) hj
      omega
theorem uint_read {s : ByteArray} {v m : Int} (h : uintS s = (v, m, 0)) : ∃ n : Nat, s.data.toList = putL n ++ s.data.toList.drop (putL n).length ∧ v = (n : Int) ∧ m = ((putL n).length : Int) ∧ n < 2 ^ 64 ∧ (putL n).length ≤ s.size ∧ (putL n).length ≤ 10 := by
  rw [H.uintS_list] at h
  obtain ⟨n, h1, h2, h3, _, h5⟩ := H.uL_only 10 0 0 _ v m rfl h
  refine ⟨n, h1, by simpa using h2, by simpa using h3, h5, ?_, putL_len' n 10 (by simp at h5 ⊢; omega) (by omega)⟩
  have := congrArg List.length h1
  rw [List.length_append, Array.length_toList] at this
  have e : s.data.size = s.size := rfl
  omega
theorem uint_ok {s : ByteArray} {v m : Int} (h : uintS s = (v, m, 0)) : 0 ≤ v ∧ v < 18446744073709551616 ∧ 1 ≤ m ∧ m ≤ s.size ∧ m ≤ 10 := by
  obtain ⟨n, _, rfl, rfl, h3, h4, h5⟩ := uint_read h
  have := putL_pos n
  simp at h3
  omega
theorem wrap64_id2 (x : Int) (h0 : -9223372036854775808 ≤ x) (h1 : x ≤ 9223372036854775807) : wrap64 x = x := by unfold wrap64; omega
/-- A byte field. -/
def fieldS (s : ByteArray) (most : Nat) : ByteArray × Int × Int :=
  if (uintS s).2.2 = 0 then
    if (uintS s).1 > most then (⟨#[]⟩, 0, 3)
    else if (uintS s).1 > s.size - (uintS s).2.1 then (⟨#[]⟩, 0, 6)
    else (s.extract (uintS s).2.1.toNat ((uintS s).2.1 + (uintS s).1).toNat, (uintS s).2.1 + (uintS s).1, 0)
  else (⟨#[]⟩, 0, (uintS s).2.2)
theorem field_bad (s : ByteArray) (most : Nat) (h : (fieldS s most).2.2 ≠ 0) : (fieldS s most).1 = ⟨#[]⟩ ∧ (fieldS s most).2.1 = 0 := by
  unfold fieldS at h ⊢
  by_cases h1 : (uintS s).2.2 = 0
  · rw [if_pos h1] at h ⊢
    by_cases h2 : (uintS s).1 > most
    · rw [if_pos h2]; simp
    · rw [if_neg h2] at h ⊢
      by_cases h3 : (uintS s).1 > s.size - (uintS s).2.1
      · rw [if_pos h3]; simp
      · rw [if_neg h3] at h; simp at h
  · rw [if_neg h1]; simp
theorem field_ok (s : ByteArray) (most : Nat) (h : (fieldS s most).2.2 = 0) : 1 ≤ (fieldS s most).2.1 ∧ (fieldS s most).2.1 ≤ s.size ∧ (fieldS s most).2.1 ≤ most + 10 := by
  unfold fieldS at h ⊢
  rcases hu : uintS s with ⟨v, m, e⟩
  rw [hu] at h
  simp only at h ⊢
  by_cases h1 : e = 0
  · subst h1
    have := uint_ok hu
    rw [if_pos rfl] at h ⊢
    by_cases h2 : v > most
    · rw [if_pos h2] at h; simp at h
    · rw [if_neg h2] at h ⊢
      by_cases h3 : v > s.size - m
      · rw [if_pos h3] at h; simp at h
      · rw [if_neg h3]
        simp only
        omega
  · rw [if_neg h1] at h
    exact absurd h h1
theorem ev_fieldj (s : ByteArray) (v m : Int) (hs : s.size ≤ 4611686018427387904) (hu : uintS s = (v, m, 0)) (most : Nat) (j : Nat → Bool → Option (ByteArray × Int × Int))
    (hj : ∀ k b, j (k + 1) b = if b = true then (some ((⟨#[]⟩ : ByteArray), 0, 3)) else (if v > (IntKind.u64.wrap (wrap64 ((s.size : Int) - m))) then (some ((⟨#[]⟩ : ByteArray), 0, 6)) else (if 0 ≤ m then (if m ≤ (wrap64 (m + (wrap64 (v)))) then (if (wrap64 (m + (wrap64 (v)))) ≤ (s.size : Int) then (some (s.extract (m : Int).toNat ((wrap64 (m + (wrap64 (v)))) : Int).toNat, wrap64 (m + (wrap64 (v))), 0)) else (none)) else (none)) else (none)))) :
    Ev (fun k => j k (decide (v > (most : Int)))) (fieldS s most) := by
  have ho := uint_ok hu
  refine Ev.step (f := fun _ => some (fieldS s most)) (fun k => ?_) (Ev.now _)
  rw [hj]
  unfold fieldS
  rw [hu]
  simp only
  rw [if_pos trivial]
  have e1 : IntKind.u64.wrap (wrap64 ((s.size : Int) - m)) = (s.size : Int) - m := by
    rw [wrap64_id2 _ (by omega) (by omega), IntKind.wrap_u64]; omega
  rw [e1]
  by_cases h1 : v > (most : Int)
  · rw [if_pos (decide_eq_true h1), if_pos h1]
  · rw [if_neg (by simpa using h1), if_neg h1]
    by_cases h2 : v > (s.size : Int) - m
    · rw [if_pos h2, if_pos h2]
    · rw [if_neg h2, if_neg h2, wrap64_id2 v (by omega) (by omega), wrap64_id2 (m + v) (by omega) (by omega), if_pos (by omega), if_pos (by omega), if_pos (by omega)]
theorem ev_Field (s : ByteArray) (most : Nat) (hm : most ≤ 100000) (hs : s.size ≤ 4611686018427387904) : Ev (fun k => code_Field.f k s most) (fieldS s most) := by
  rcases hu : uintS s with ⟨v, m, e⟩
  have e1 : IntKind.u64.wrap (most : Int) = most := by rw [IntKind.wrap_u64]; omega
  by_cases h : e = 0
  · subst h
    refine Ev.congr (f := fun k => code_Field.j0 k s v m (decide (v > (most : Int)))) (fun k => ?_) (ev_fieldj s v m hs hu most (fun k b => code_Field.j0 k s v m b) (fun k b => by rw [code_Field.j0]))
    rw [code_Field.f, code_Uint.f, hu, Option.bind_some, if_pos rfl, if_neg (by omega), e1]
  · refine Ev.congr (f := fun _ => some (fieldS s most)) (fun k => ?_) (Ev.now _)
    rw [code_Field.f, code_Uint.f, fieldS, hu, Option.bind_some, if_neg h]
    simp only
    rw [if_neg h]
theorem ev_rField (s : ByteArray) (most : Nat) (hm : most ≤ 100000) (hs : s.size ≤ 4611686018427387904) (hU : Ev (fun k => freshetref02_Uint.f k s) (uintS s)) : Ev (fun k => freshetref02_Field.f k s most) (fieldS s most) := by
  rcases hu : uintS s with ⟨v, m, e⟩
  rw [hu] at hU
  have e1 : IntKind.u64.wrap (most : Int) = most := by rw [IntKind.wrap_u64]; omega
  refine Ev.bind hU ?_
  by_cases h : e = 0
  · subst h
    refine Ev.congr (f := fun k => freshetref02_Field.j0 k s v m (decide (v > (most : Int)))) (fun k => ?_) (ev_fieldj s v m hs hu most (fun k b => freshetref02_Field.j0 k s v m b) (fun k b => by rw [freshetref02_Field.j0]))
    simp only
    rw [if_pos trivial, if_neg (by omega), e1]
  · refine Ev.congr (f := fun _ => some (fieldS s most)) (fun k => ?_) (Ev.now _)
    simp only
    rw [if_neg h, fieldS, hu]
    simp only
    rw [if_neg h]
theorem drop_drop (s : ByteArray) (p q : Nat) : (s.extract p s.size).extract q (s.extract p s.size).size = s.extract (p + q) s.size := by
  rw [ByteArray.extract_extract, ByteArray.size_extract]
  congr 1
  omega
theorem drop_size (s : ByteArray) (p : Nat) : (s.extract p s.size).size = s.size - p := by
  rw [ByteArray.size_extract]
  omega
/-- One write read, and the bytes it took. -/
def writeS (s : ByteArray) : Option (S72 × Nat) :=
  if s.size = 0 then none
  else if bt s 0 = 0 ∨ 3 ≤ bt s 0 then none
  else if (fieldS (s.extract 1 s.size) 520).2.2 = 0 then
    if bt s 0 = 1 then
      if (fieldS (s.extract (1 + (fieldS (s.extract 1 s.size) 520).2.1).toNat s.size) 2048).2.2 = 0 then
        some (⟨1, (fieldS (s.extract 1 s.size) 520).1, (fieldS (s.extract (1 + (fieldS (s.extract 1 s.size) 520).2.1).toNat s.size) 2048).1⟩, (1 + (fieldS (s.extract 1 s.size) 520).2.1 + (fieldS (s.extract (1 + (fieldS (s.extract 1 s.size) 520).2.1).toNat s.size) 2048).2.1).toNat)
      else none
    else some (⟨2, (fieldS (s.extract 1 s.size) 520).1, ⟨#[]⟩⟩, (1 + (fieldS (s.extract 1 s.size) 520).2.1).toNat)
  else none
def decS : Nat → ByteArray → Option (List S72)
  | 0, s => if s.size = 0 then some [] else none
  | m + 1, s => (writeS s).bind fun x => (decS m (s.extract x.2 s.size)).map (x.1 :: ·)
theorem write_ok {s : ByteArray} {x : S72} {n : Nat} (h : writeS s = some (x, n)) : 2 ≤ n ∧ n ≤ s.size := by
  unfold writeS at h
  by_cases h0 : s.size = 0
  · rw [if_pos h0] at h; cases h
  rw [if_neg h0] at h
  by_cases h1 : bt s 0 = 0 ∨ 3 ≤ bt s 0
  · rw [if_pos h1] at h; cases h
  rw [if_neg h1] at h
  by_cases h2 : (fieldS (s.extract 1 s.size) 520).2.2 = 0
  · rw [if_pos h2] at h
    have o1 := field_ok _ _ h2
    rw [drop_size] at o1
    generalize fieldS (s.extract 1 s.size) 520 = X at h o1
    by_cases h3 : bt s 0 = 1
    · rw [if_pos h3] at h
      by_cases h4 : (fieldS (s.extract (1 + X.2.1).toNat s.size) 2048).2.2 = 0
      · rw [if_pos h4] at h
        have o2 := field_ok _ _ h4
        rw [drop_size] at o2
        generalize fieldS (s.extract (1 + X.2.1).toNat s.size) 2048 = Y at h o2
        simp only [Option.some.injEq, Prod.mk.injEq] at h
        omega
      · rw [if_neg h4] at h; cases h
    · rw [if_neg h3] at h
      simp only [Option.some.injEq, Prod.mk.injEq] at h
      omega
  · rw [if_neg h2] at h; cases h
/-- What a reading of the writes answers. -/
def endS (seq : Int) (l : List S72) : Int × List S72 × Int := if checkS seq l = 0 then (seq, l, 0) else (0, [], 7)
def restS (seq : Int) (acc : List S72) : Option (List S72) → Int × List S72 × Int
  | some l => endS seq (acc ++ l)
  | none => (0, [], 7)
theorem ev_step1 (s : ByteArray) (hs : s.size ≤ 4611686018427387904) (seq many : Int) (acc : List S72) (hm : (acc.length : Int) < many) (ha : acc.length ≤ 1000) (r : Int × List S72 × Int)
    (next : ∀ x n, writeS s = some (x, n) → ∃ K, ∀ k j, K ≤ k → K ≤ j → batch_Decode.l0 k j seq many (s.extract n s.size) (acc ++ [x]) = some r) (bad : writeS s = none → r = (0, [], 7)) :
    ∃ K, ∀ k j, K ≤ k → K ≤ j → batch_Decode.l0 k j seq many s acc = some r := by
  have hne : ¬ (acc.length : Int) = many := by omega
  have B : writeS s = none → r = (0, [], 7) := bad
  unfold writeS at next bad
  by_cases h0 : s.size = 0
  · rw [if_pos h0] at bad
    refine ⟨1, fun k j _ hj => ?_⟩
    obtain ⟨j, rfl⟩ : ∃ i, j = i + 1 := ⟨j - 1, by omega⟩
    rw [batch_Decode.l0, if_neg hne, if_pos h0, bad rfl]
  rw [if_neg h0] at bad next
  by_cases h1 : bt s 0 = 0 ∨ 3 ≤ bt s 0
  · rw [if_pos h1] at bad
    refine ⟨1, fun k j _ hj => ?_⟩
    obtain ⟨j, rfl⟩ : ∃ i, j = i + 1 := ⟨j - 1, by omega⟩
    rw [batch_Decode.l0, if_neg hne, if_neg h0, if_pos h1, bad rfl]
  rw [if_neg h1] at bad next
  obtain ⟨K1, hK1⟩ := ev_Field (s.extract 1 s.size) 520 (by omega) (by rw [drop_size]; omega)
  by_cases h2 : (fieldS (s.extract 1 s.size) 520).2.2 = 0
  · rw [if_pos h2] at bad next
    have o1 := field_ok _ _ h2
    rw [drop_size] at o1
    have hK1' : ∀ k, K1 ≤ k → code_Field.f k (s.extract 1 s.size) 520 = some (fieldS (s.extract 1 s.size) 520) := hK1
    generalize fieldS (s.extract 1 s.size) 520 = X at bad next o1 hK1' h2
    have c1 : 0 ≤ X.2.1 ∧ 1 + X.2.1 ≤ s.size ∧ X.2.1 ≤ 100000 := by omega
    by_cases h3 : bt s 0 = 1
    · rw [if_pos h3] at bad next
      obtain ⟨K2, hK2⟩ := ev_Field (s.extract (1 + X.2.1).toNat s.size) 2048 (by omega) (by rw [drop_size]; omega)
      have hK2' : ∀ k, K2 ≤ k → code_Field.f k (s.extract (1 + X.2.1).toNat s.size) 2048 = some (fieldS (s.extract (1 + X.2.1).toNat s.size) 2048) := hK2
      by_cases h4 : (fieldS (s.extract (1 + X.2.1).toNat s.size) 2048).2.2 = 0
      · rw [if_pos h4] at next
        have o2 := field_ok _ _ h4
        rw [drop_size] at o2
        generalize fieldS (s.extract (1 + X.2.1).toNat s.size) 2048 = Y at next o2 hK2' h4
        obtain ⟨K3, hK3⟩ := next _ _ rfl
        refine ⟨K1 + K2 + K3 + 1, fun k j hk hj => ?_⟩
        obtain ⟨j, rfl⟩ : ∃ i, j = i + 1 := ⟨j - 1, by omega⟩
        rw [batch_Decode.l0, if_neg hne, if_neg h0, if_neg h1, hK1' k (by omega), Option.bind_some, if_pos h2, if_pos c1, batch_readOf, if_pos h3, hK2' k (by omega), Option.bind_some, if_pos h4, if_pos (by omega), h3]
        exact hK3 k j (by omega) (by omega)
      · rw [if_neg h4] at bad
        refine ⟨K1 + K2 + 1, fun k j hk hj => ?_⟩
        obtain ⟨j, rfl⟩ : ∃ i, j = i + 1 := ⟨j - 1, by omega⟩
        rw [batch_Decode.l0, if_neg hne, if_neg h0, if_neg h1, hK1' k (by omega), Option.bind_some, if_pos h2, if_pos c1, batch_readOf, if_pos h3, hK2' k (by omega), Option.bind_some, if_neg h4, bad rfl]
    · rw [if_neg h3] at next
      have h4 : bt s 0 = 2 := by have := bt_range s 0; omega
      obtain ⟨K3, hK3⟩ := next _ _ rfl
      refine ⟨K1 + K3 + 1, fun k j hk hj => ?_⟩
      obtain ⟨j, rfl⟩ : ∃ i, j = i + 1 := ⟨j - 1, by omega⟩
      rw [batch_Decode.l0, if_neg hne, if_neg h0, if_neg h1, hK1' k (by omega), Option.bind_some, if_pos h2, if_pos c1, batch_readOf, if_neg h3, if_pos h4, Option.bind_some, if_pos rfl, if_pos (by simp only; omega), h4]
      have := hK3 k j (by omega) (by omega)
      simp only [Int.add_zero]
      exact this
  · rw [if_neg h2] at bad
    refine ⟨K1 + 1, fun k j hk hj => ?_⟩
    obtain ⟨j, rfl⟩ : ∃ i, j = i + 1 := ⟨j - 1, by omega⟩
    have := hK1 k (by omega)
    rw [batch_Decode.l0, if_neg hne, if_neg h0, if_neg h1]
    rw [show code_Field.f k (s.extract 1 s.size) 520 = _ from this, Option.bind_some, if_neg h2, bad rfl]
theorem ev_decl (seq : Int) : ∀ (m : Nat) (s : ByteArray) (acc : List S72), s.size ≤ 4611686018427387904 → acc.length + m ≤ 1000 →
    ∃ K, ∀ k j, K ≤ k → K ≤ j → batch_Decode.l0 k j seq ((acc.length + m : Nat) : Int) s acc = some (restS seq acc (decS m s))
  | 0, s, acc, hs, ha => by
    obtain ⟨K, hK⟩ := ev_Check seq acc (by omega)
    refine ⟨K + 1, fun k j hk hj => ?_⟩
    obtain ⟨j, rfl⟩ : ∃ i, j = i + 1 := ⟨j - 1, by omega⟩
    rw [batch_Decode.l0, if_pos (by omega), decS]
    by_cases h : s.size = 0
    · rw [if_pos h, if_pos h, show batch_Check.f k seq acc = _ from hK k (by omega), Option.bind_some, restS, List.append_nil, endS]
      by_cases h2 : checkS seq acc = 0
      · rw [if_pos h2, if_pos h2]
      · rw [if_neg h2, if_neg h2]
    · rw [if_neg h, if_neg h]; rfl
  | m + 1, s, acc, hs, ha => by
    refine ev_step1 s hs seq _ acc (by omega) (by omega) _ (fun x n hw => ?_) (fun hw => ?_)
    · obtain ⟨K, hK⟩ := ev_decl seq m (s.extract n s.size) (acc ++ [x]) (by rw [drop_size]; omega) (by simp; omega)
      refine ⟨K, fun k j hk hj => ?_⟩
      have := hK k j hk hj
      rw [List.length_append, List.length_singleton, show acc.length + 1 + m = acc.length + (m + 1) from by omega] at this
      rw [this, decS, hw, Option.bind_some]
      cases decS m (s.extract n s.size) with
      | none => rfl
      | some l => simp [restS]
    · rw [decS, hw]; rfl
/-- What reading a batch answers. -/
def decodeS (s : ByteArray) : Int × List S72 × Int :=
  if (uintS s).2.2 = 0 ∧ (uintS (s.extract (uintS s).2.1.toNat s.size)).2.2 = 0 ∧ (uintS (s.extract (uintS s).2.1.toNat s.size)).1 ≤ 64 then
    restS (uintS s).1 [] (decS (uintS (s.extract (uintS s).2.1.toNat s.size)).1.toNat (s.extract ((uintS s).2.1 + (uintS (s.extract (uintS s).2.1.toNat s.size)).2.1).toNat s.size))
  else (0, [], 7)
theorem uint_m (s : ByteArray) : 0 ≤ (uintS s).2.1 ∧ (uintS s).2.1 ≤ s.size ∧ (uintS s).2.1 ≤ 10 ∧ 0 ≤ (uintS s).1 := by
  rcases hu : uintS s with ⟨v, m, e⟩
  simp only
  by_cases h : e = 0
  · subst h
    have := uint_ok hu
    omega
  · obtain ⟨rfl, rfl⟩ := uint_bad hu h
    omega
theorem ev_Decode (s : ByteArray) (hs : s.size ≤ 4611686018427387904) : Ev (fun k => batch_Decode.f k s) (decodeS s) := by
  have b1 := uint_m s
  have b2 := uint_m (s.extract (uintS s).2.1.toNat s.size)
  rw [drop_size] at b2
  unfold decodeS
  by_cases h : (uintS s).2.2 = 0 ∧ (uintS (s.extract (uintS s).2.1.toNat s.size)).2.2 = 0 ∧ (uintS (s.extract (uintS s).2.1.toNat s.size)).1 ≤ 64
  · rw [if_pos h]
    obtain ⟨K, hK⟩ := ev_decl (uintS s).1 (uintS (s.extract (uintS s).2.1.toNat s.size)).1.toNat (s.extract ((uintS s).2.1 + (uintS (s.extract (uintS s).2.1.toNat s.size)).2.1).toNat s.size) [] (by rw [drop_size]; omega) (by simp; omega)
    refine ⟨K, fun k hk => ?_⟩
    have := hK k k hk hk
    rw [List.length_nil, Nat.zero_add, Int.toNat_of_nonneg b2.2.2.2] at this
    show batch_Decode.f k s = _
    rw [batch_Decode.f, code_Uint.f, Option.bind_some, if_pos ⟨b1.1, b1.2.1⟩, code_Uint.f, Option.bind_some, if_pos h, if_pos (by omega)]
    exact this
  · rw [if_neg h]
    refine ⟨0, fun k _ => ?_⟩
    show batch_Decode.f k s = _
    rw [batch_Decode.f, code_Uint.f, Option.bind_some, if_pos ⟨b1.1, b1.2.1⟩, code_Uint.f, Option.bind_some, if_neg h]
end Go.Proofs.Ytfemebenkbobnaa.PB06
