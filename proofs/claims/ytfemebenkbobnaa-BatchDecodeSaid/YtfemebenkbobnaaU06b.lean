import Derived.Test.YtfemebenkbobnaaU06a
import Derived.Test.YtfemebenkbobnaaPB0611
namespace Go.Proofs.Ytfemebenkbobnaa.PB06
open Go.RowKit Go.Proofs.YtfemebenkbobnaaW.PrintWords Go.Proofs.YtfemebenkbobnaaW.PrintLast Go.Proofs.YtfemebenkbobnaaW.PrintMore
open H (uintS uL putL)
/-- The reference's answer for one write. -/
def writeR (s : ByteArray) : Int × ByteArray × ByteArray × Int := match writeS s with
  | some (x, n) => (x.f0, x.f1, x.f2, n)
  | none => (0, ⟨#[]⟩, ⟨#[]⟩, 0)
theorem ev_rwrite (s : ByteArray) (hs : s.size ≤ 4611686018427387904) : Ev (fun k => freshetref06_write.f k s) (writeR s) := by
  have bad : writeS s = none → writeR s = (0, ⟨#[]⟩, ⟨#[]⟩, 0) := fun h => by rw [writeR, h]
  have good : ∀ x n, writeS s = some (x, n) → writeR s = (x.f0, x.f1, x.f2, (n : Int)) := fun x n h => by rw [writeR, h]
  have jt : Ev (fun k => freshetref06_write.j0 k s true) (0, ⟨#[]⟩, ⟨#[]⟩, 0) :=
    Ev.step (f := fun _ => some (0, ⟨#[]⟩, ⟨#[]⟩, 0)) (fun k => by rw [freshetref06_write.j0, if_pos rfl]) (Ev.now _)
  unfold writeS at bad good
  by_cases h0 : s.size = 0
  · rw [if_pos h0] at bad
    rw [bad rfl]
    exact Ev.congr (f := fun k => freshetref06_write.j0 k s true) (fun k => by rw [freshetref06_write.f, if_pos (by omega)]) jt
  rw [if_neg h0] at bad good
  have hr := bt_range s 0
  by_cases h1 : bt s 0 = 0 ∨ 3 ≤ bt s 0
  · rw [if_pos h1] at bad
    rw [bad rfl]
    refine Ev.congr (f := fun k => freshetref06_write.j0 k s true) (fun k => ?_) jt
    rw [freshetref06_write.f, if_neg (by omega), if_pos (by omega), if_neg (by omega)]
    have : (bt s 0 != 2) = true := bne_iff_ne.mpr (by omega)
    rw [this]
  rw [if_neg h1] at bad good
  refine Ev.congr (f := fun k => freshetref06_write.j0 k s false) (fun k => ?_) ?_
  · rw [freshetref06_write.f, if_neg (by omega), if_pos (by omega)]
    by_cases h2 : bt s 0 = 1
    · rw [if_pos h2]
    · rw [if_neg h2]
      have : (bt s 0 != 2) = false := bne_eq_false_iff_eq.mpr (by omega)
      rw [this]
  have e0 : wrap64 (bt s 0) = bt s 0 := wrap64_id _ (by omega) (by omega)
  refine Ev.step (f := fun k => (freshetref02_Field.f k (s.extract 1 s.size) (520 : Nat)).bind fun bt209 => (if bt209.2.2 = 0 then (if (wrap64 (bt s 0)) = 1 then (if 0 ≤ (wrap64 (1 + bt209.2.1)) then (if (wrap64 (1 + bt209.2.1)) ≤ (s.size : Int) then ((freshetref02_Field.f k (s.extract ((wrap64 (1 + bt209.2.1)) : Int).toNat s.size) (2048 : Nat)).bind fun bt212 => (if bt212.2.2 = 0 then (some (wrap64 (bt s 0), bt209.1, bt212.1, wrap64 ((wrap64 (1 + bt209.2.1)) + bt212.2.1))) else (some (0, (⟨#[]⟩ : ByteArray), (⟨#[]⟩ : ByteArray), 0)))) else (none)) else (none)) else (some (wrap64 (bt s 0), bt209.1, (⟨#[]⟩ : ByteArray), wrap64 (1 + bt209.2.1)))) else (some (0, (⟨#[]⟩ : ByteArray), (⟨#[]⟩ : ByteArray), 0)))) (fun k => ?_) ?_
  · rw [freshetref06_write.j0, if_neg (by simp), if_pos (by omega), if_pos (by omega)]
    rfl
  refine Ev.bind (ev_rField (s.extract 1 s.size) 520 (by omega) (by rw [drop_size]; omega) (ev_rUint _)) ?_
  by_cases h2 : (fieldS (s.extract 1 s.size) 520).2.2 = 0
  · rw [if_pos h2] at bad good
    have o1 := field_ok _ _ h2
    rw [drop_size] at o1
    generalize fieldS (s.extract 1 s.size) 520 = X at bad good o1 h2 ⊢
    have e1 : wrap64 (1 + X.2.1) = 1 + X.2.1 := wrap64_id _ (by omega) (by omega)
    simp only [e0, e1, if_pos h2]
    by_cases h3 : bt s 0 = 1
    · rw [if_pos h3] at bad good
      refine Ev.congr (f := fun k => (freshetref02_Field.f k (s.extract (1 + X.2.1).toNat s.size) (2048 : Nat)).bind fun bt212 => (if bt212.2.2 = 0 then (some (bt s 0, X.1, bt212.1, wrap64 (1 + X.2.1 + bt212.2.1))) else (some (0, (⟨#[]⟩ : ByteArray), (⟨#[]⟩ : ByteArray), 0)))) (fun k => by rw [if_pos h3, if_pos (by omega), if_pos (by omega)]) ?_
      refine Ev.bind (ev_rField (s.extract (1 + X.2.1).toNat s.size) 2048 (by omega) (by rw [drop_size]; omega) (ev_rUint _)) ?_
      by_cases h4 : (fieldS (s.extract (1 + X.2.1).toNat s.size) 2048).2.2 = 0
      · rw [if_pos h4] at good
        have o2 := field_ok _ _ h4
        rw [drop_size] at o2
        generalize fieldS (s.extract (1 + X.2.1).toNat s.size) 2048 = Y at good o2 h4 ⊢
        have e2 : wrap64 (1 + X.2.1 + Y.2.1) = 1 + X.2.1 + Y.2.1 := wrap64_id _ (by omega) (by omega)
        have := good _ _ rfl
        rw [this, if_pos h4, e2, h3, Int.toNat_of_nonneg (by omega)]
        exact Ev.now _
      · rw [if_neg h4] at bad
        rw [bad rfl, if_neg h4]
        exact Ev.now _
    · rw [if_neg h3] at good
      have h4 : bt s 0 = 2 := by omega
      have := good _ _ rfl
      rw [this, Int.toNat_of_nonneg (by omega)]
      simp only [if_neg h3]
      rw [h4]
      exact Ev.now _
  · rw [if_neg h2] at bad
    rw [bad rfl]
    simp only [if_neg h2]
    exact Ev.now _
theorem ev_rdl (s : ByteArray) (hs : s.size ≤ 4611686018427387904) (seq : Int) : ∀ (m : Nat) (p : Nat) (acc : List S72), p ≤ s.size → acc.length + m ≤ 1000 →
    Ev (fun k => freshetref06_Decode.l0 k s ((acc.length + m : Nat) : Int) (p : Int) (acc.length : Int) seq acc) (restS seq acc (decS m (s.extract p s.size)))
  | 0, p, acc, hp, ha => by
    refine Ev.step (f := fun k => if (p : Int) = (s.size : Int) then ((freshetref06_Check.f k seq acc).bind fun t231 => (if t231 = 0 then (some (seq, acc, 0)) else (some (0, ([] : List (S72)), 7)))) else (some (0, ([] : List (S72)), 7))) (fun k => ?_) ?_
    · rw [freshetref06_Decode.l0, if_neg (by omega)]
    · rw [decS, drop_size]
      by_cases h : p = s.size
      · rw [if_pos (by omega : s.size - p = 0), restS, List.append_nil, endS]
        refine Ev.congr (f := fun k => (freshetref06_Check.f k seq acc).bind fun t231 => (if t231 = 0 then (some (seq, acc, 0)) else (some (0, ([] : List (S72)), 7)))) (fun k => by rw [if_pos (by omega)]) ?_
        refine Ev.bind (ev_rCheck seq acc (by omega)) ?_
        by_cases h2 : checkS seq acc = 0
        · rw [if_pos h2, if_pos h2]; exact Ev.now _
        · rw [if_neg h2, if_neg h2]; exact Ev.now _
      · rw [if_neg (by omega)]
        refine Ev.congr (f := fun k => some (0, ([] : List (S72)), 7)) (fun k => by rw [if_neg (by omega)]) (Ev.now _)
  | m + 1, p, acc, hp, ha => by
    refine Ev.step (f := fun k => (freshetref06_write.f k (s.extract p s.size)).bind fun bt223 => (if bt223.2.2.2 = 0 then (some (0, ([] : List (S72)), 7)) else (if acc.length < 3518437208883 then (freshetref06_Decode.l0 k s ((acc.length + (m + 1) : Nat) : Int) (wrap64 ((p : Int) + bt223.2.2.2)) (IntKind.u64.wrap ((acc.length : Int) + 1)) seq (acc ++ [(⟨bt223.1, bt223.2.1, bt223.2.2.1⟩ : S72)])) else (none)))) (fun k => ?_) ?_
    · rw [freshetref06_Decode.l0, if_pos (by omega), if_pos (by omega), if_pos (by omega), Int.toNat_natCast]
    · refine Ev.bind (ev_rwrite (s.extract p s.size) (by rw [drop_size]; omega)) ?_
      rw [decS, writeR]
      cases hw : writeS (s.extract p s.size) with
      | none =>
        simp only
        simp only [if_true]
        exact Ev.now _
      | some y =>
        obtain ⟨x, n⟩ := y
        have hn := write_ok hw
        rw [drop_size] at hn
        simp only [Option.bind_some]
        have ih := ev_rdl s hs seq m (p + n) (acc ++ [x]) (by omega) (by simp; omega)
        rw [drop_drop]
        have e1 : wrap64 ((p : Int) + (n : Int)) = ((p + n : Nat) : Int) := by rw [wrap64_id _ (by omega) (by omega)]; rfl
        have e2 : IntKind.u64.wrap ((acc.length : Int) + 1) = ((acc ++ [x]).length : Int) := by rw [IntKind.wrap_u64, List.length_append, List.length_singleton]; omega
        have e3 : restS seq acc ((decS m (s.extract (p + n) s.size)).map (x :: ·)) = restS seq (acc ++ [x]) (decS m (s.extract (p + n) s.size)) := by
          cases decS m (s.extract (p + n) s.size) with
          | none => rfl
          | some l => simp [restS]
        rw [e3, e1, e2]
        refine Ev.congr (fun k => ?_) ih
        rw [if_neg (by omega), if_pos (by omega), List.length_append, List.length_singleton, show acc.length + 1 + m = acc.length + (m + 1) from by omega]
theorem ev_rDecode (s : ByteArray) (hs : s.size ≤ 4611686018427387904) : Ev (fun k => freshetref06_Decode.f k s) (decodeS s) := by
  have b1 := uint_m s
  have b2 := uint_m (s.extract (uintS s).2.1.toNat s.size)
  rw [drop_size] at b2
  have jt : ∀ a b c d, Ev (fun k => freshetref06_Decode.j0 k s a b c d true) (0, [], 7) := fun a b c d =>
    Ev.step (f := fun _ => some (0, [], 7)) (fun k => by rw [freshetref06_Decode.j0, if_pos rfl]) (Ev.now _)
  refine Ev.bind (ev_rUint s) ?_
  unfold decodeS
  by_cases h1 : (uintS s).2.2 = 0
  · refine Ev.congr (f := fun k => (freshetref02_Uint.f k (s.extract ((uintS s).2.1 : Int).toNat s.size)).bind fun bt219 => (if bt219.2.2 = 0 then (freshetref06_Decode.j0 k s (uintS s).1 (uintS s).2.1 bt219.1 bt219.2.1 (decide (bt219.1 > 64))) else (freshetref06_Decode.j0 k s (uintS s).1 (uintS s).2.1 bt219.1 bt219.2.1 true))) (fun k => by rw [if_pos h1, if_pos b1.1, if_pos b1.2.1]) ?_
    refine Ev.bind (ev_rUint _) ?_
    have hd := drop_drop s (uintS s).2.1.toNat (uintS (s.extract (uintS s).2.1.toNat s.size)).2.1.toNat
    generalize hV : uintS (s.extract (uintS s).2.1.toNat s.size) = V at b2 hd ⊢
    generalize uintS s = U at b1 h1 b2 hd hV ⊢
    by_cases h2 : V.2.2 = 0
    · simp only [if_pos h2]
      by_cases h3 : V.1 ≤ 64
      · rw [if_pos ⟨h1, h2, h3⟩, decide_eq_false (by omega)]
        refine Ev.step (f := fun k => freshetref06_Decode.l0 k s V.1 (wrap64 (U.2.1 + V.2.1)) 0 U.1 []) (fun k => by rw [freshetref06_Decode.j0, if_neg (by simp)]) ?_
        have := ev_rdl s hs U.1 V.1.toNat (U.2.1 + V.2.1).toNat [] (by omega) (by simp; omega)
        rw [List.length_nil, Nat.zero_add, Int.toNat_of_nonneg b2.2.2.2, Int.toNat_of_nonneg (by omega)] at this
        rw [wrap64_id _ (by omega) (by omega)]
        exact this
      · rw [if_neg (fun h => h3 h.2.2), decide_eq_true (by omega)]
        exact jt _ _ _ _
    · simp only [if_neg h2]
      rw [if_neg (fun h => h2 h.2.1)]
      exact jt _ _ _ _
  · simp only [if_neg h1]
    rw [if_neg (fun h => h1 h.1)]
    exact Ev.now _
/-! A batch is the same as itself. -/
theorem ev_same_l (n : Int) (xs : List S72) (hx : xs.length ≤ 4611686018427387904) : ∀ c i, i + c = xs.length → Ev (fun k => freshetref06_Same.l0 k (i : Int) n xs n xs) true
  | 0, i, hi => by
    refine Ev.step (f := fun _ => some true) (fun k => ?_) (Ev.now _)
    rw [freshetref06_Same.l0, if_neg (by omega)]
  | c + 1, i, hi => by
    refine Ev.step (f := fun k => freshetref06_Same.l0 k ((i + 1 : Nat) : Int) n xs n xs) (fun k => ?_) (ev_same_l n xs hx c (i + 1) (by omega))
    rw [freshetref06_Same.l0, if_pos (by omega), if_pos (by omega), if_pos (by omega), if_neg (by simp), wrap64_id _ (by omega) (by omega)]
    rfl
theorem ev_same (n : Int) (xs : List S72) (hx : xs.length ≤ 4611686018427387904) : Ev (fun k => freshetref06_Same.f k n xs n xs) true := by
  refine Ev.congr (f := fun k => freshetref06_Same.j0 k false n xs n xs) (fun k => ?_) ?_
  · rw [freshetref06_Same.f, if_pos rfl]
    congr 1
    simp
  · exact Ev.step (f := fun k => freshetref06_Same.l0 k 0 n xs n xs) (fun k => by rw [freshetref06_Same.j0, if_neg (by simp)]) (ev_same_l n xs hx xs.length 0 (by omega))
theorem decS_len : ∀ m s l, decS m s = some l → l.length = m
  | 0, s, l, h => by
    rw [decS] at h
    by_cases h0 : s.size = 0
    · rw [if_pos h0] at h; cases h; rfl
    · rw [if_neg h0] at h; cases h
  | m + 1, s, l, h => by
    rw [decS] at h
    obtain ⟨x, _, h⟩ := Option.bind_eq_some_iff.mp h
    obtain ⟨l', h1, rfl⟩ := Option.map_eq_some_iff.mp h
    rw [List.length_cons, decS_len m _ l' h1]
theorem decode_len (s : ByteArray) : (decodeS s).2.1.length ≤ 64 := by
  have b2 := uint_m (s.extract (uintS s).2.1.toNat s.size)
  unfold decodeS
  by_cases h : (uintS s).2.2 = 0 ∧ (uintS (s.extract (uintS s).2.1.toNat s.size)).2.2 = 0 ∧ (uintS (s.extract (uintS s).2.1.toNat s.size)).1 ≤ 64
  · rw [if_pos h]
    generalize hd : decS _ _ = d
    cases d with
    | none => simp [restS]
    | some l =>
      have := decS_len _ _ _ hd
      rw [restS, endS]
      by_cases h2 : checkS (uintS s).1 ([] ++ l) = 0
      · rw [if_pos h2]; simp only [List.nil_append]; omega
      · rw [if_neg h2]; simp
  · rw [if_neg h]; simp
theorem awake_true : Ev freshetlaw06_awake.f true := Ev.of (fun k => freshetlaw06_awake.mono k) (k := 30) (by decide +kernel)
theorem ev_BatchDecode (s : ByteArray) (hs : s.size ≤ 4611686018427387904) : Ev (fun k => freshetlaw06_BatchDecode.f k s) true := by
  refine Ev.bind (ev_Decode s hs) (Ev.bind (ev_rDecode s hs) (Ev.bind (ev_same _ _ (by have := decode_len s; omega)) ?_))
  refine Ev.congr (f := fun k => (freshetlaw06_awake.f k).bind fun t249 => some t249) (fun k => by rw [if_pos rfl, if_pos rfl]) ?_
  exact Ev.bind awake_true (Ev.now _)
end Go.Proofs.Ytfemebenkbobnaa.PB06
