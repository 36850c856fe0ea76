import Derived.Test.YtkjepfofiegcdaaVP1Y
import Derived.Test.YtkjepfofiegcdaaPE5
/- code.Field and the reference's Uint and Field, in the plain. -/
namespace Go.Proofs.Ytkjepfofiegcdaa.V
set_option linter.unusedVariables false
set_option linter.unusedSimpArgs false
open Go.RowKit Go.Proofs.YtkjepfofiegcdaaW.PrintWords Go.Proofs.YtkjepfofiegcdaaW.PrintLast Go.Proofs.YtkjepfofiegcdaaW.PrintMore Go.Proofs.Ytkjepfofiegcdaa.PB14
open H (uintS uL putL)
theorem wrap64_id (x : Int) (h0 : -9223372036854775808 ≤ x) (h1 : x ≤ 9223372036854775807) : wrap64 x = x := by unfold wrap64; omega
/-- The first m bytes' number. -/
def tN (s : ByteArray) : Nat → Nat
  | 0 => 0
  | m + 1 => tN s m + (bt s (m : Int)).toNat % 128 * 2 ^ (7 * m)
theorem tN_lt (s : ByteArray) : ∀ m, tN s m < 2 ^ (7 * m)
  | 0 => by simp [tN]
  | m + 1 => by
    have := tN_lt s m
    have hp : (2 : Nat) ^ (7 * (m + 1)) = 128 * 2 ^ (7 * m) := by rw [Nat.mul_add, Nat.pow_add]; omega
    rw [tN, hp]
    have h2 : (bt s (m : Int)).toNat % 128 * 2 ^ (7 * m) ≤ 127 * 2 ^ (7 * m) := Nat.mul_le_mul_right _ (by omega)
    omega
theorem uint_fwd (s : ByteArray) (K : Nat) (hK : K ≤ 9) (hb : ∀ i, i < K → i < s.size ∧ 128 ≤ bt s (i : Int)) : ∀ i, i ≤ K → uintS s = H.uintGo s (10 - i) i (tN s i : Nat)
  | 0, _ => rfl
  | i + 1, hi => by
    rw [uint_fwd s K hK hb i (by omega)]
    obtain ⟨h1, h2⟩ := hb i (by omega)
    have hr := bt_range s (i : Int)
    rw [show 10 - i = (10 - (i + 1)) + 1 from by omega, H.uintGo, if_pos h1, if_neg (by omega), if_neg (by omega), tN]
    congr 1
    have : ((bt s (i : Int)).toNat % 128 : Nat) = (bt s (i : Int) % 128).toNat := by omega
    rw [this]
    have h3 : 0 ≤ bt s (i : Int) % 128 := by omega
    simp [Int.toNat_of_nonneg h3]
theorem find_K (s : ByteArray) : ∀ n, n ≤ 10 → ∃ K, K ≤ n ∧ (∀ i, i < K → i < s.size ∧ 128 ≤ bt s (i : Int)) ∧ (K = n ∨ K = s.size ∨ (K < s.size ∧ bt s (K : Int) < 128))
  | 0, _ => ⟨0, by omega, fun i h => by omega, .inl rfl⟩
  | n + 1, hn => by
    obtain ⟨K, h1, h2, h3⟩ := find_K s n (by omega)
    rcases h3 with rfl | h3 | h3
    · by_cases h4 : K < s.size
      · by_cases h5 : 128 ≤ bt s (K : Int)
        · refine ⟨K + 1, by omega, fun i hi => ?_, .inl rfl⟩
          rcases Nat.lt_or_ge i K with h | h
          · exact h2 i h
          · obtain rfl : i = K := by omega
            exact ⟨h4, h5⟩
        · exact ⟨K, by omega, h2, .inr (.inr ⟨h4, by omega⟩)⟩
      · rcases Nat.eq_or_lt_of_le (Nat.not_lt.1 h4) with h | h
        · exact ⟨K, by omega, h2, .inr (.inl h.symm)⟩
        · exfalso
          have := (h2 s.size h).1
          omega
    · exact ⟨K, by omega, h2, .inr (.inl h3)⟩
    · exact ⟨K, by omega, h2, .inr (.inr h3)⟩
theorem ev_down (s : ByteArray) (K : Nat) (hK : K ≤ 9) : ∀ (m : Nat) (x6 : Nat), m < s.size → m ≤ K → x6 * 2 ^ (7 * (m + 1)) + tN s (m + 1) < 2 ^ 64 →
    Ev (fun k => freshetref02_Uint.l1 k s (K : Int) (x6 : Int) (m : Int)) (((x6 * 2 ^ (7 * (m + 1)) + tN s (m + 1) : Nat) : Int), (K : Int) + 1, 0) := by
  intro m
  induction m with
  | zero =>
    intro x6 hm hmK hb
    have hr := bt_range s 0
    have e : x6 * 2 ^ (7 * (0 + 1)) + tN s (0 + 1) = x6 * 128 + (bt s 0).toNat % 128 := by simp [tN]
    rw [e] at hb ⊢
    refine Ev.step (f := fun k => freshetref02_Uint.l1 k s (K : Int) ((x6 * 128 + (bt s 0).toNat % 128 : Nat) : Int) (-1)) (fun k => ?_) ?_
    · have e1 : IntKind.u64.wrap ((IntKind.u64.wrap ((x6 : Int) * 128)) + (IntKind.u64.wrap (Int.tmod (bt s 0) 128))) = ((x6 * 128 + (bt s 0).toNat % 128 : Nat) : Int) := by
        rw [Int.tmod_eq_emod_of_nonneg hr.1, IntKind.wrap_u64, IntKind.wrap_u64, IntKind.wrap_u64]
        omega
      rw [freshetref02_Uint.l1, if_pos (by omega), if_pos (by omega), if_pos (by omega)]
      rw [show ((0 : Nat) : Int) = 0 from rfl, e1, wrap64_id _ (by omega) (by omega)]
      rfl
    · refine Ev.step (f := fun _ => some _) (fun k => ?_) (Ev.now _)
      rw [freshetref02_Uint.l1, if_neg (by omega), wrap64_id _ (by omega) (by omega)]
  | succ m ih =>
    intro x6 hm hmK hb
    have hr := bt_range s ((m + 1 : Nat) : Int)
    have hp : (2 : Nat) ^ (7 * (m + 1 + 1)) = 128 * 2 ^ (7 * (m + 1)) := by rw [Nat.mul_add, Nat.pow_add]; omega
    have hpos : 0 < 2 ^ (7 * (m + 1)) := Nat.two_pow_pos _
    have e : x6 * 2 ^ (7 * (m + 1 + 1)) + tN s (m + 1 + 1) = (x6 * 128 + (bt s ((m + 1 : Nat) : Int)).toNat % 128) * 2 ^ (7 * (m + 1)) + tN s (m + 1) := by
      rw [hp, tN, Nat.add_mul, Nat.mul_assoc]
      omega
    rw [e] at hb ⊢
    have hx : x6 * 128 + (bt s ((m + 1 : Nat) : Int)).toNat % 128 < 2 ^ 64 := by
      have h1 : x6 * 128 + (bt s ((m + 1 : Nat) : Int)).toNat % 128 ≤ (x6 * 128 + (bt s ((m + 1 : Nat) : Int)).toNat % 128) * 2 ^ (7 * (m + 1)) := Nat.le_mul_of_pos_right _ hpos
      omega
    refine Ev.step (f := fun k => freshetref02_Uint.l1 k s (K : Int) ((x6 * 128 + (bt s ((m + 1 : Nat) : Int)).toNat % 128 : Nat) : Int) (m : Int)) (fun k => ?_) (ih _ (by omega) (by omega) hb)
    have e1 : IntKind.u64.wrap ((IntKind.u64.wrap ((x6 : Int) * 128)) + (IntKind.u64.wrap (Int.tmod (bt s ((m + 1 : Nat) : Int)) 128))) = ((x6 * 128 + (bt s ((m + 1 : Nat) : Int)).toNat % 128 : Nat) : Int) := by
      rw [Int.tmod_eq_emod_of_nonneg hr.1, IntKind.wrap_u64, IntKind.wrap_u64, IntKind.wrap_u64]
      omega
    rw [freshetref02_Uint.l1, if_pos (by omega), if_pos (by omega), if_pos (by omega), e1, wrap64_id _ (by omega) (by omega), show ((m + 1 : Nat) : Int) - 1 = (m : Int) from by omega]
theorem ev_to_K (s : ByteArray) (K : Nat) (hK : K ≤ 10) (hb : ∀ i, i < K → i < s.size ∧ 128 ≤ bt s (i : Int)) (hend : K = 10 ∨ K = s.size ∨ (K < s.size ∧ bt s (K : Int) < 128)) {r : Int × Int × Int} (h : Ev (fun k => freshetref02_Uint.j1 k s (K : Int)) r) : ∀ c i, i + c = K → Ev (fun k => freshetref02_Uint.l0 k s (i : Int)) r
  | 0, i, hi => by
    obtain rfl : i = K := by omega
    refine Ev.step (f := fun k => freshetref02_Uint.j1 k s (i : Int)) (fun k => ?_) h
    rw [freshetref02_Uint.l0]
    rcases hend with h1 | h1 | ⟨h1, h2⟩
    · by_cases h3 : (i : Int) < (s.size : Int)
      · rw [if_pos h3, if_neg (by omega)]
      · rw [if_neg h3]
    · rw [if_neg (by omega)]
    · rw [if_pos (by omega)]
      by_cases h3 : (i : Int) < 10
      · rw [if_pos h3, if_pos (by omega), if_neg (by omega)]
      · rw [if_neg h3]
  | c + 1, i, hi => by
    obtain ⟨h1, h2⟩ := hb i (by omega)
    refine Ev.step (f := fun k => freshetref02_Uint.l0 k s ((i + 1 : Nat) : Int)) (fun k => ?_) (ev_to_K s K hK hb hend h c (i + 1) (by omega))
    rw [freshetref02_Uint.l0, if_pos (by omega), if_pos (by omega), if_pos (by omega), if_pos (by omega), wrap64_id _ (by omega) (by omega)]
    rfl
theorem ev_rUint (s : ByteArray) : Ev (fun k => freshetref02_Uint.f k s) (uintS s) := by
  obtain ⟨K, hK, hb, hend⟩ := find_K s 10 (by omega)
  have hgo : Ev (fun k => freshetref02_Uint.j1 k s (K : Int)) (uintS s) := by
    by_cases h10 : K = 10
    · subst h10
      have hu : uintS s = (0, 0, 7) := by
        rw [uint_fwd s 9 (by omega) (fun i hi => hb i (by omega)) 9 (by omega)]
        obtain ⟨h1, h2⟩ := hb 9 (by omega)
        rw [show 10 - 9 = 0 + 1 from rfl, H.uintGo, if_pos h1, if_pos ⟨rfl, by omega⟩]
      rw [hu]
      have key : Ev (fun k => freshetref02_Uint.j2 k s ((10 : Nat) : Int) false) (0, 0, 7) := by
        refine Ev.step (f := fun k => freshetref02_Uint.j3 k s ((10 : Nat) : Int) true) (fun k => ?_) (Ev.step (f := fun _ => some (0, 0, 7)) (fun k => ?_) (Ev.now _))
        · rw [freshetref02_Uint.j2, if_neg (by simp), if_pos (by rfl)]
        · rw [freshetref02_Uint.j3, if_pos rfl]
      refine Ev.step (f := fun k => freshetref02_Uint.j2 k s ((10 : Nat) : Int) false) (fun k => ?_) key
      rw [freshetref02_Uint.j1]
      by_cases h : ((10 : Nat) : Int) = (s.size : Int)
      · rw [if_pos h]; rfl
      · rw [if_neg h]
    · have hK9 : K ≤ 9 := by omega
      have hu := uint_fwd s K hK9 hb K (Nat.le_refl _)
      by_cases hs : K = s.size
      · have : uintS s = (0, 0, 6) := by
          rw [hu, show 10 - K = (9 - K) + 1 from by omega, H.uintGo, if_neg (by omega)]
        rw [this]
        refine Ev.step (f := fun k => freshetref02_Uint.j2 k s (K : Int) true) (fun k => ?_) (Ev.step (f := fun _ => some (0, 0, 6)) (fun k => ?_) (Ev.now _))
        · rw [freshetref02_Uint.j1, if_pos (by omega), decide_eq_true (by omega : (K : Int) < 10)]
        · rw [freshetref02_Uint.j2, if_pos rfl]
      · have hlt : K < s.size ∧ bt s (K : Int) < 128 := by
          rcases hend with h | h | h
          · exact absurd h h10
          · exact absurd h hs
          · exact h
        obtain ⟨hlt, h128⟩ := hlt
        have hr := bt_range s (K : Int)
        rw [show 10 - K = (9 - K) + 1 from by omega, H.uintGo, if_pos hlt] at hu
        refine Ev.step (f := fun k => freshetref02_Uint.j2 k s (K : Int) false) (fun k => by rw [freshetref02_Uint.j1, if_neg (by omega)]) ?_
        have down : ¬ (K = 9 ∧ 1 < bt s (K : Int)) → Ev (fun k => freshetref02_Uint.l1 k s (K : Int) 0 (K : Int)) (((tN s (K + 1) : Nat) : Int), (K : Int) + 1, 0) := by
          intro h9
          have hlt64 : 0 * 2 ^ (7 * (K + 1)) + tN s (K + 1) < 2 ^ 64 := by
            rw [Nat.zero_mul, Nat.zero_add]
            by_cases h8 : K ≤ 8
            · exact Nat.lt_of_lt_of_le (tN_lt s (K + 1)) (Nat.pow_le_pow_right (by omega) (by omega))
            · obtain rfl : K = 9 := by omega
              have h63 := tN_lt s 9
              rw [tN]
              have hb1 : (bt s ((9 : Nat) : Int)).toNat % 128 ≤ 1 := by omega
              have hm : (bt s ((9 : Nat) : Int)).toNat % 128 * 2 ^ (7 * 9) ≤ 1 * 2 ^ (7 * 9) := Nat.mul_le_mul_right _ hb1
              simp only [Nat.reduceMul, Nat.reducePow] at h63 hm ⊢
              omega
          have := ev_down s K hK9 K 0 hlt (Nat.le_refl _) hlt64
          simpa using this
        have bad : Ev (fun k => freshetref02_Uint.j3 k s (K : Int) true) (0, 0, 7) := Ev.step (f := fun _ => some (0, 0, 7)) (fun k => by rw [freshetref02_Uint.j3, if_pos rfl]) (Ev.now _)
        have val : ((tN s (K + 1) : Nat) : Int) = ((tN s K : Nat) : Int) + bt s (K : Int) % 128 * 2 ^ (7 * K) := by
          rw [tN]
          have : ((bt s (K : Int)).toNat % 128 : Nat) = (bt s (K : Int) % 128).toNat := by omega
          rw [this]
          have h3 : 0 ≤ bt s (K : Int) % 128 := by omega
          simp [Int.toNat_of_nonneg h3]
        by_cases h9 : K = 9 ∧ 1 < bt s (K : Int)
        · rw [if_pos h9] at hu
          rw [hu]
          refine Ev.step (f := fun k => freshetref02_Uint.j3 k s (K : Int) true) (fun k => ?_) bad
          rw [freshetref02_Uint.j2, if_neg (by simp), if_neg (by omega), if_pos (by omega), if_pos (by omega), if_pos (by omega), if_neg (by omega), if_pos (by omega), decide_eq_true (by omega : bt s (K : Int) > 1)]
        · rw [if_neg h9, if_pos h128] at hu
          by_cases h0 : bt s (K : Int) = 0 ∧ 0 < K
          · rw [if_pos h0] at hu
            rw [hu]
            refine Ev.step (f := fun k => freshetref02_Uint.j3 k s (K : Int) true) (fun k => ?_) bad
            rw [freshetref02_Uint.j2, if_neg (by simp), if_neg (by omega), if_pos (by omega), if_pos (by omega), if_pos (by omega), if_pos (by omega)]
          · rw [if_neg h0, ← val] at hu
            rw [hu]
            have good : Ev (fun k => freshetref02_Uint.j3 k s (K : Int) false) (((tN s (K + 1) : Nat) : Int), (K : Int) + 1, 0) :=
              Ev.step (f := fun k => freshetref02_Uint.l1 k s (K : Int) 0 (K : Int)) (fun k => by rw [freshetref02_Uint.j3, if_neg (by simp)]) (down h9)
            refine Ev.step (f := fun k => freshetref02_Uint.j3 k s (K : Int) false) (fun k => ?_) good
            rw [freshetref02_Uint.j2, if_neg (by simp), if_neg (by omega)]
            by_cases hp : (K : Int) > 0
            · rw [if_pos hp, if_pos (by omega), if_pos (by omega), if_neg (by omega)]
              by_cases h9' : (K : Int) = 9
              · rw [if_pos h9', decide_eq_false (by omega : ¬ bt s (K : Int) > 1)]
              · rw [if_neg h9']
            · rw [if_neg hp, if_neg (by omega)]
  have := ev_to_K s K hK hb hend hgo K 0 (by omega)
  exact this
theorem putL_len' (n : Nat) : ∀ j, n < 128 ^ j → 1 ≤ j → (H.putL n).length ≤ j := by
  intro j
  induction j generalizing n with
  | zero => intro _ h; omega
  | succ j ih =>
    intro h _
    by_cases hn : n < 128
    · rw [H.putL_small n hn]; simp
    · rw [H.putL_big n hn, List.length_cons]
      have hj : 1 ≤ j := by
        rcases Nat.eq_zero_or_pos j with rfl | h1
        · simp at h; omega
        · exact h1
      have := ih (n / 128) (by rw [Nat.pow_succ] at h; exact Nat.div_lt_of_lt_mul (by omega)) hj
      omega
theorem uint_read {s : ByteArray} {v m : Int} (h : uintS s = (v, m, 0)) : ∃ n : Nat, s.data.toList = putL n ++ s.data.toList.drop (putL n).length ∧ v = (n : Int) ∧ m = ((putL n).length : Int) ∧ n < 2 ^ 64 ∧ (putL n).length ≤ s.size ∧ (putL n).length ≤ 10 := by
  rw [H.uintS_list] at h
  obtain ⟨n, h1, h2, h3, _, h5⟩ := H.uL_only 10 0 0 _ v m rfl h
  refine ⟨n, h1, by simpa using h2, by simpa using h3, h5, ?_, putL_len' n 10 (by simp at h5 ⊢; omega) (by omega)⟩
  have := congrArg List.length h1
  rw [List.length_append, Array.length_toList] at this
  have e : s.data.size = s.size := rfl
  omega
theorem uint_ok {s : ByteArray} {v m : Int} (h : uintS s = (v, m, 0)) : 0 ≤ v ∧ v < 18446744073709551616 ∧ 1 ≤ m ∧ m ≤ s.size ∧ m ≤ 10 := by
  obtain ⟨n, _, rfl, rfl, h3, h4, h5⟩ := uint_read h
  have := putL_pos n
  simp at h3
  omega
theorem wrap64_id2 (x : Int) (h0 : -9223372036854775808 ≤ x) (h1 : x ≤ 9223372036854775807) : wrap64 x = x := by unfold wrap64; omega
/-- A byte field. -/
def fieldS (s : ByteArray) (most : Nat) : ByteArray × Int × Int :=
  if (uintS s).2.2 = 0 then
    if (uintS s).1 > most then (⟨#[]⟩, 0, 3)
    else if (uintS s).1 > s.size - (uintS s).2.1 then (⟨#[]⟩, 0, 6)
    else (s.extract (uintS s).2.1.toNat ((uintS s).2.1 + (uintS s).1).toNat, (uintS s).2.1 + (uintS s).1, 0)
  else (⟨#[]⟩, 0, (uintS s).2.2)
theorem field_ok (s : ByteArray) (most : Nat) (h : (fieldS s most).2.2 = 0) : 1 ≤ (fieldS s most).2.1 ∧ (fieldS s most).2.1 ≤ s.size ∧ (fieldS s most).2.1 ≤ most + 10 := by
  unfold fieldS at h ⊢
  rcases hu : uintS s with ⟨v, m, e⟩
  rw [hu] at h
  simp only at h ⊢
  by_cases h1 : e = 0
  · subst h1
    have := uint_ok hu
    rw [if_pos rfl] at h ⊢
    by_cases h2 : v > most
    · rw [if_pos h2] at h; simp at h
    · rw [if_neg h2] at h ⊢
      by_cases h3 : v > s.size - m
      · rw [if_pos h3] at h; simp at h
      · rw [if_neg h3]
        simp only
        omega
  · rw [if_neg h1] at h
    exact absurd h h1
theorem ev_fieldj (s : ByteArray) (v m : Int) (hs : s.size ≤ 4611686018427387904) (hu : uintS s = (v, m, 0)) (most : Nat) (j : Nat → Bool → Option (ByteArray × Int × Int))
    (hj : ∀ k b, j (k + 1) b = if b = true then (some ((⟨#[]⟩ : ByteArray), 0, 3)) else (if v > (IntKind.u64.wrap (wrap64 ((s.size : Int) - m))) then (some ((⟨#[]⟩ : ByteArray), 0, 6)) else (if 0 ≤ m then (if m ≤ (wrap64 (m + (wrap64 (v)))) then (if (wrap64 (m + (wrap64 (v)))) ≤ (s.size : Int) then (some (s.extract (m : Int).toNat ((wrap64 (m + (wrap64 (v)))) : Int).toNat, wrap64 (m + (wrap64 (v))), 0)) else (none)) else (none)) else (none)))) :
    Ev (fun k => j k (decide (v > (most : Int)))) (fieldS s most) := by
  have ho := uint_ok hu
  refine Ev.step (f := fun _ => some (fieldS s most)) (fun k => ?_) (Ev.now _)
  rw [hj]
  unfold fieldS
  rw [hu]
  simp only
  rw [if_pos trivial]
  have e1 : IntKind.u64.wrap (wrap64 ((s.size : Int) - m)) = (s.size : Int) - m := by
    rw [wrap64_id2 _ (by omega) (by omega), IntKind.wrap_u64]; omega
  rw [e1]
  by_cases h1 : v > (most : Int)
  · rw [if_pos (decide_eq_true h1), if_pos h1]
  · rw [if_neg (by simpa using h1), if_neg h1]
    by_cases h2 : v > (s.size : Int) - m
    · rw [if_pos h2, if_pos h2]
    · rw [if_neg h2, if_neg h2, wrap64_id2 v (by omega) (by omega), wrap64_id2 (m + v) (by omega) (by omega), if_pos (by omega), if_pos (by omega), if_pos (by omega)]
theorem ev_Field (s : ByteArray) (most : Nat) (hm : most ≤ 100000) (hs : s.size ≤ 4611686018427387904) : Ev (fun k => code_Field.f k s most) (fieldS s most) := by
  rcases hu : uintS s with ⟨v, m, e⟩
  have e1 : IntKind.u64.wrap (most : Int) = most := by rw [IntKind.wrap_u64]; omega
  by_cases h : e = 0
  · subst h
    refine Ev.congr (f := fun k => code_Field.j0 k s v m (decide (v > (most : Int)))) (fun k => ?_) (ev_fieldj s v m hs hu most (fun k b => code_Field.j0 k s v m b) (fun k b => by rw [code_Field.j0]))
    rw [code_Field.f, code_Uint.f, hu, Option.bind_some, if_pos rfl, if_neg (by omega), e1]
  · refine Ev.congr (f := fun _ => some (fieldS s most)) (fun k => ?_) (Ev.now _)
    rw [code_Field.f, code_Uint.f, fieldS, hu, Option.bind_some, if_neg h]
    simp only
    rw [if_neg h]
theorem ev_rField (s : ByteArray) (most : Nat) (hm : most ≤ 100000) (hs : s.size ≤ 4611686018427387904) (hU : Ev (fun k => freshetref02_Uint.f k s) (uintS s)) : Ev (fun k => freshetref02_Field.f k s most) (fieldS s most) := by
  rcases hu : uintS s with ⟨v, m, e⟩
  rw [hu] at hU
  have e1 : IntKind.u64.wrap (most : Int) = most := by rw [IntKind.wrap_u64]; omega
  refine Ev.bind hU ?_
  by_cases h : e = 0
  · subst h
    refine Ev.congr (f := fun k => freshetref02_Field.j0 k s v m (decide (v > (most : Int)))) (fun k => ?_) (ev_fieldj s v m hs hu most (fun k b => freshetref02_Field.j0 k s v m b) (fun k b => by rw [freshetref02_Field.j0]))
    simp only
    rw [if_pos trivial, if_neg (by omega), e1]
  · refine Ev.congr (f := fun _ => some (fieldS s most)) (fun k => ?_) (Ev.now _)
    simp only
    rw [if_neg h, fieldS, hu]
    simp only
    rw [if_neg h]
theorem drop_drop (s : ByteArray) (p q : Nat) : (s.extract p s.size).extract q (s.extract p s.size).size = s.extract (p + q) s.size := by
  rw [ByteArray.extract_extract, ByteArray.size_extract]
  congr 1
  omega
theorem drop_size (s : ByteArray) (p : Nat) : (s.extract p s.size).size = s.size - p := by
  rw [ByteArray.size_extract]
  omega
theorem field_calls (w : World) (s : ByteArray) (hs : s.size ≤ 4611686018427387904) : Calls Try.prog 133 #[.string s, .int .i64 520] w fun e w' => e = .returned (.tuple #[.string (fieldS s 520).1, .int .i64 (fieldS s 520).2.1, .int .i64 (fieldS s 520).2.2]) ∧ Below w.heap.size w w' := by
  obtain ⟨k, hk⟩ := (ev_Field s 520 (by decide) hs).rounds
  exact code_Field.calls k s 520 _ _ _ w hk
theorem uint_calls (w : World) (s : ByteArray) : Calls Try.prog 134 #[.string s] w fun e w' => e = .returned (.tuple #[.int .u64 (uintS s).1, .int .i64 (uintS s).2.1, .int .i64 (uintS s).2.2]) ∧ Below w.heap.size w w' := code_Uint.calls s _ _ _ w rfl
end Go.Proofs.Ytkjepfofiegcdaa.V
