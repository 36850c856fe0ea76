import Derived.Test.YtkjepfofiegcdaaVR2Y
/- What Encode writes, Decode reads; what Decode reads was written so: in the plain. -/
namespace Go.Proofs.Ytkjepfofiegcdaa.V
set_option linter.unusedVariables false
set_option linter.unusedSimpArgs false
open Go.RowKit Go.Proofs.YtkjepfofiegcdaaW.PrintWords Go.Proofs.YtkjepfofiegcdaaW.PrintLast Go.Proofs.YtkjepfofiegcdaaW.PrintMore Go.Proofs.Ytkjepfofiegcdaa.PB14
open H (uintS uL putL)
theorem ext_list (s : ByteArray) (a b : Nat) : (s.extract a b).data.toList = (s.data.toList.take b).drop a := by
  rw [ByteArray.data_extract, Array.toList_extract, List.extract, List.drop_take]
theorem drop_list (s : ByteArray) (p : Nat) : (s.extract p s.size).data.toList = s.data.toList.drop p := by
  rw [ext_list, List.take_of_length_le (by rw [data_len]; omega)]
theorem field_read (s : ByteArray) (most : Nat) (h : (fieldS s most).2.2 = 0) : s.data.toList = fieldL (fieldS s most).1 ++ s.data.toList.drop (fieldS s most).2.1.toNat := by
  unfold fieldS at h ⊢
  rcases hu : uintS s with ⟨v, m, e⟩
  rw [hu] at h
  simp only at h ⊢
  by_cases h1 : e = 0
  · subst h1
    obtain ⟨n, r1, rfl, rfl, r2, r3, r4⟩ := uint_read hu
    rw [if_pos rfl] at h ⊢
    by_cases h2 : (n : Int) > most
    · rw [if_pos h2] at h; simp at h
    · rw [if_neg h2] at h ⊢
      by_cases h3 : (n : Int) > s.size - ((putL n).length : Int)
      · rw [if_pos h3] at h; simp at h
      · rw [if_neg h3]
        simp only
        have e1 : (((putL n).length : Int) + (n : Int)).toNat = (putL n).length + n := by omega
        rw [e1, Int.toNat_natCast, fieldL, ByteArray.size_extract, ext_list]
        have e2 : min ((putL n).length + n) s.size - (putL n).length = n := by omega
        rw [e2, List.append_assoc]
        have e3 : (s.data.toList.take ((putL n).length + n)).drop (putL n).length ++ s.data.toList.drop ((putL n).length + n) = s.data.toList.drop (putL n).length := by
          rw [List.drop_take, Nat.add_sub_cancel_left, ← List.drop_drop, List.take_append_drop]
        rw [e3]
        exact r1
  · rw [if_neg h1] at h
    exact absurd h h1
theorem uint_put (n : Nat) (hn : n < 2 ^ 64) (rest : List UInt8) : uintS (bA (putL n ++ rest)) = ((n : Int), ((putL n).length : Int), 0) := by
  rw [H.uintS_list, bA_list, H.uL_put 10 0 n 0 rest rfl (by simpa using hn) (.inr rfl)]
  simp
theorem bA_drop (a b : List UInt8) (p : Nat) (hp : p = a.length) : (bA (a ++ b)).extract p (bA (a ++ b)).size = bA b := by
  apply Go.WideShapes.bytes_inj
  rw [drop_list, bA_list, bA_list, hp, List.drop_left]
theorem field_put (x : ByteArray) (most : Nat) (hx : x.size ≤ most) (hm : most ≤ 100000) (rest : List UInt8) : fieldS (bA (fieldL x ++ rest)) most = (x, ((fieldL x).length : Int), 0) := by
  have hu : uintS (bA (fieldL x ++ rest)) = ((x.size : Int), ((putL x.size).length : Int), 0) := by
    rw [fieldL, List.append_assoc]
    exact uint_put x.size (by omega) _
  have hl : (fieldL x).length = (putL x.size).length + x.size := by rw [fieldL, List.length_append, data_len]
  unfold fieldS
  rw [hu]
  simp only
  rw [if_pos trivial, if_neg (by omega), if_neg (by rw [bA_size, List.length_append]; omega)]
  congr 1
  · apply Go.WideShapes.bytes_inj
    rw [ext_list, bA_list, Int.toNat_natCast, show (((putL x.size).length : Int) + (x.size : Int)).toNat = (fieldL x).length from by omega, List.take_left, fieldL, List.drop_left]
  · congr 1
    omega
/-! Reading what is written. -/
theorem numO_put {x most : Int} (h : U64 x) (hm : x ≤ most) (rest : List UInt8) : numO (some (bA (putL x.toNat ++ rest))) most = (x, some (bA rest)) := by
  have hu := uint_put x.toNat (nat_u h.1 h.2) rest
  rw [Int.toNat_of_nonneg h.1] at hu
  rw [numO_good (by rw [hu]; exact ⟨rfl, hm⟩), hu]
  dsimp only
  rw [Int.toNat_natCast, bA_drop _ _ _ rfl]
theorem texO_put (x : ByteArray) (hx : x.size ≤ 520) (rest : List UInt8) : texO (some (bA (fieldL x ++ rest))) = (x, some (bA rest)) := by
  have hu := field_put x 520 hx (by decide) rest
  rw [texO_good (by rw [hu]), hu]
  dsimp only
  rw [Int.toNat_natCast, bA_drop _ _ _ rfl]
theorem U64.le {x : Int} (h : U64 x) : x ≤ mxU := by have := h.2; show x ≤ 18446744073709551615; omega
theorem goneO_put {x : S84} (h0 : 0 ≤ x.f0 ∧ x.f0 < 4) (h1 : U64 x.f1) (rest : List UInt8) : goneO (some (bA (gBy x ++ rest))) = (x, some (bA rest)) := by
  have hx : U64 x.f0 := ⟨h0.1, by omega⟩
  have e : gBy x ++ rest = putL x.f0.toNat ++ (putL x.f1.toNat ++ rest) := by simp [gBy, putsL]
  unfold goneO
  rw [e, numO_put hx (by omega)]
  dsimp only
  rw [numO_put h1 h1.le]
theorem addO_put {x : S82} (h : addOk x) (rest : List UInt8) : addO (some (bA (aBy x ++ rest))) = (x, some (bA rest)) := by
  obtain ⟨u0, u1, u2, u3, u5, u6, z3, z4⟩ := add_nums h
  obtain ⟨⟨a0, a1⟩, b0, b1, b2, b3, b4, b5, b6, b7, b8, b9, b10, b11, b12⟩ := h
  have e : aBy x ++ rest = putL x.f0.toNat ++ (putL x.f1.f0.toNat ++ (putL x.f1.f1.toNat ++ (putL x.f1.f2.toNat ++ (fieldL x.f1.f3 ++ (fieldL x.f1.f4 ++ (putL x.f1.f5.toNat ++ (putL x.f1.f6.toNat ++ rest))))))) := by simp [aBy, aBy1, aBy2, aBy3, putsL]
  unfold addO
  rw [e, numO_put u0 (by omega)]
  dsimp only
  rw [numO_put u1 (by omega)]
  dsimp only
  rw [numO_put u2 (by omega)]
  dsimp only
  rw [numO_put u3 (by omega)]
  dsimp only
  rw [texO_put _ (by omega)]
  dsimp only
  rw [texO_put _ (by omega)]
  dsimp only
  rw [numO_put u5 u5.le]
  dsimp only
  rw [numO_put u6 u6.le]
theorem cA_put (lg nx sq : Int) (g : List S84) : ∀ (l acc : List S82), (∀ x, x ∈ l → addOk x) → cA lg nx sq g l.length acc (bA (aBys l)) = finE lg nx sq g (acc ++ l) (bA [])
  | [], acc, _ => by rw [List.append_nil]; rfl
  | x :: r, acc, h => by
    have h1 := addO_put (h x (List.mem_cons_self ..)) (aBys r)
    have ih := cA_put lg nx sq g r (acc ++ [x]) (fun y hy => h y (List.mem_cons_of_mem _ hy))
    rw [List.append_assoc] at ih
    rw [List.length_cons, cA, aBys, h1]
    exact ih
theorem cG_put (lg nx sq : Int) (a : List S82) (ha : ∀ x, x ∈ a → addOk x) (hl : a.length ≤ 256) : ∀ (l acc : List S84), (∀ x, x ∈ l → goneOk x ∧ U64 x.f1) → cG lg nx sq l.length acc (bA (gBys l ++ (putsL [(a.length : Int)] ++ aBys a))) = finE lg nx sq (acc ++ l) a (bA [])
  | [], acc, _ => by
    have h1 := numO_put (x := (a.length : Int)) (most := 256) ⟨by omega, by omega⟩ (by omega) (aBys a)
    rw [List.append_nil, List.length_nil, cG, gBys, List.nil_append, putsL, putsL, List.append_nil, h1]
    dsimp only
    rw [Int.toNat_natCast]
    have h2 := cA_put lg nx sq acc a [] ha
    rw [List.nil_append] at h2
    exact h2
  | x :: r, acc, h => by
    have h0 := h x (List.mem_cons_self ..)
    have h1 := goneO_put h0.1 h0.2 (gBys r ++ (putsL [(a.length : Int)] ++ aBys a))
    have ih := cG_put lg nx sq a ha hl r (acc ++ [x]) (fun y hy => h y (List.mem_cons_of_mem _ hy))
    rw [List.append_assoc] at ih
    rw [List.length_cons, cG, gBys, List.append_assoc, h1]
    exact ih
theorem decE_put {e : Edt} (hu : EU e) (hl : listedP e) (h1 : e.gone.length ≤ 256) (h2 : e.added.length ≤ 256) : decE (bA (encB e)) = some e := by
  have e1 : encB e = putL e.log.toNat ++ (putL e.next.toNat ++ (putL e.seq.toNat ++ (putL ((e.gone.length : Int)).toNat ++ (gBys e.gone ++ (putsL [(e.added.length : Int)] ++ aBys e.added))))) := by simp [encB, putsL]
  unfold decE
  rw [e1, numO_put hu.1.1 hu.1.1.le]
  dsimp only
  rw [numO_put hu.1.2.1 hu.1.2.1.le]
  dsimp only
  rw [numO_put hu.1.2.2 hu.1.2.2.le]
  dsimp only
  rw [numO_put (x := (e.gone.length : Int)) ⟨by omega, by omega⟩ (by omega)]
  dsimp only
  rw [Int.toNat_natCast, Option.bind_some, cG_put e.log e.next e.seq e.added hl.2 h2 e.gone [] (fun x hx => ⟨hl.1 x hx, hu.2 x hx⟩), List.nil_append]
  exact finE_yes rfl hl
/-! What is read was written so. -/
theorem numO_read {s r : ByteArray} {most n : Int} (h : numO (some s) most = (n, some r)) : s.data.toList = putL n.toNat ++ r.data.toList ∧ U64 n ∧ n ≤ most := by
  by_cases hc : (uintS s).2.2 = 0 ∧ (uintS s).1 ≤ most
  · rw [numO_good hc] at h
    rcases hu : uintS s with ⟨v, m, er⟩
    rw [hu] at h hc
    dsimp only at h hc
    obtain ⟨he, hm⟩ := hc
    subst he
    injection h with h1 h2
    injection h2 with h2
    subst h1
    subst h2
    obtain ⟨k, hk, hv, hmm, hlt, _⟩ := uint_read hu
    have hok := uint_ok hu
    refine ⟨?_, ⟨hok.1, hok.2.1⟩, hm⟩
    subst hv
    rw [drop_list, Int.toNat_natCast, hmm, Int.toNat_natCast]
    exact hk
  · rw [numO_bad hc] at h
    cases h
theorem texO_read {s r x : ByteArray} (h : texO (some s) = (x, some r)) : s.data.toList = fieldL x ++ r.data.toList := by
  by_cases hc : (fieldS s 520).2.2 = 0
  · rw [texO_good hc] at h
    injection h with h1 h2
    injection h2 with h2
    subst h1
    subst h2
    rw [drop_list]
    exact field_read s 520 hc
  · rw [texO_bad hc] at h
    cases h
theorem num_some {st : Option ByteArray} {most : Int} {r : ByteArray} (h : (numO st most).2 = some r) : ∃ s, st = some s := by
  cases st with
  | none => cases h
  | some s => exact ⟨s, rfl⟩
theorem tex_some {st : Option ByteArray} {r : ByteArray} (h : (texO st).2 = some r) : ∃ s, st = some s := by
  cases st with
  | none => cases h
  | some s => exact ⟨s, rfl⟩
theorem numO_rd {s r : ByteArray} {most : Int} (h : (numO (some s) most).2 = some r) : s.data.toList = putL (numO (some s) most).1.toNat ++ r.data.toList ∧ U64 (numO (some s) most).1 ∧ (numO (some s) most).1 ≤ most := numO_read (by rw [← h])
theorem texO_rd {s r : ByteArray} (h : (texO (some s)).2 = some r) : s.data.toList = fieldL (texO (some s)).1 ++ r.data.toList := texO_read (by rw [← h])
theorem goneO_rd {s r : ByteArray} (h : (goneO (some s)).2 = some r) : s.data.toList = gBy (goneO (some s)).1 ++ r.data.toList ∧ U64 (goneO (some s)).1.f1 := by
  unfold goneO at h ⊢
  dsimp only at h ⊢
  obtain ⟨s1, e1⟩ := num_some h
  have r1 := numO_rd e1
  rw [e1] at h ⊢
  have r2 := numO_rd h
  refine ⟨?_, r2.2.1⟩
  rw [r1.1, r2.1]
  simp [gBy, putsL]
theorem addO_rd {s r : ByteArray} (h : (addO (some s)).2 = some r) : s.data.toList = aBy (addO (some s)).1 ++ r.data.toList := by
  unfold addO at h ⊢
  dsimp only at h ⊢
  obtain ⟨s7, e7⟩ := num_some h
  obtain ⟨s6, e6⟩ := num_some e7
  obtain ⟨s5, e5⟩ := tex_some e6
  obtain ⟨s4, e4⟩ := tex_some e5
  obtain ⟨s3, e3⟩ := num_some e4
  obtain ⟨s2, e2⟩ := num_some e3
  obtain ⟨s1, e1⟩ := num_some e2
  have r1 := numO_rd e1
  rw [e1] at e2 e3 e4 e5 e6 e7 h ⊢
  have r2 := numO_rd e2
  rw [e2] at e3 e4 e5 e6 e7 h ⊢
  have r3 := numO_rd e3
  rw [e3] at e4 e5 e6 e7 h ⊢
  have r4 := numO_rd e4
  rw [e4] at e5 e6 e7 h ⊢
  have r5 := texO_rd e5
  rw [e5] at e6 e7 h ⊢
  have r6 := texO_rd e6
  rw [e6] at e7 h ⊢
  have r7 := numO_rd e7
  rw [e7] at h ⊢
  have r8 := numO_rd h
  rw [r1.1, r2.1, r3.1, r4.1, r5, r6, r7.1, r8.1]
  simp [aBy, aBy1, aBy2, aBy3, putsL]
theorem bind_some' {α β : Type} {st : Option α} {f : α → Option β} {b : β} (h : st.bind f = some b) : ∃ x, st = some x ∧ f x = some b := Option.bind_eq_some_iff.mp h
theorem finE_of {lg nx sq : Int} {g : List S84} {a : List S82} {s : ByteArray} {e : Edt} (h : finE lg nx sq g a s = some e) : s.data.toList = [] ∧ listedP e ∧ e = ⟨lg, nx, sq, g, a⟩ := by
  by_cases hc : s.size = 0 ∧ listedP ⟨lg, nx, sq, g, a⟩
  · rw [finE_yes hc.1 hc.2] at h
    injection h with h
    subst h
    exact ⟨by rw [← List.length_eq_zero_iff, data_len]; exact hc.1, hc.2, rfl⟩
  · rw [finE_no hc] at h
    cases h
theorem cA_rd {lg nx sq : Int} {g : List S84} {e : Edt} : ∀ (n : Nat) (acc : List S82) (s : ByteArray), cA lg nx sq g n acc s = some e → ∃ l, l.length = n ∧ e = ⟨lg, nx, sq, g, acc ++ l⟩ ∧ s.data.toList = aBys l ∧ listedP e
  | 0, acc, s, h => by
    obtain ⟨h1, h2, h3⟩ := finE_of h
    exact ⟨[], rfl, by rw [List.append_nil]; exact h3, h1, h2⟩
  | n + 1, acc, s, h => by
    obtain ⟨r, h1, h2⟩ := bind_some' h
    obtain ⟨l, e1, e2, e3, e4⟩ := cA_rd n _ r h2
    have h3 := addO_rd h1
    exact ⟨(addO (some s)).1 :: l, by rw [List.length_cons, e1], by rw [e2, List.append_assoc]; rfl, by rw [h3, e3, aBys], e4⟩
theorem cG_rd {lg nx sq : Int} {e : Edt} : ∀ (n : Nat) (acc : List S84) (s : ByteArray), cG lg nx sq n acc s = some e → ∃ (l : List S84) (a : List S82), l.length = n ∧ a.length ≤ 256 ∧ e = ⟨lg, nx, sq, acc ++ l, a⟩ ∧ s.data.toList = gBys l ++ (putsL [(a.length : Int)] ++ aBys a) ∧ listedP e ∧ ∀ x, x ∈ l → U64 x.f1
  | 0, acc, s, h => by
    obtain ⟨r, h1, h2⟩ := bind_some' h
    obtain ⟨a, e1, e2, e3, e4⟩ := cA_rd _ _ r h2
    have h3 := numO_rd h1
    have hn : ((a.length : Nat) : Int) = (numO (some s) 256).1 := by rw [e1]; exact Int.toNat_of_nonneg h3.2.1.1
    refine ⟨[], a, rfl, by have := h3.2.2; omega, by rw [List.append_nil]; rw [List.nil_append] at e2; exact e2, ?_, e4, fun x hx => by cases hx⟩
    rw [h3.1, e3, gBys, List.nil_append, hn, putsL, putsL, List.append_nil]
  | n + 1, acc, s, h => by
    obtain ⟨r, h1, h2⟩ := bind_some' h
    obtain ⟨l, a, e1, e2, e3, e4, e5, e6⟩ := cG_rd n _ r h2
    have h3 := goneO_rd h1
    exact ⟨(goneO (some s)).1 :: l, a, by rw [List.length_cons, e1], e2, by rw [e3, List.append_assoc]; rfl, by rw [h3.1, e4, gBys, List.append_assoc], e5, fun x hx => by
      rcases List.mem_cons.mp hx with rfl | hx
      · exact h3.2
      · exact e6 x hx⟩
theorem decE_rd {s : ByteArray} {e : Edt} (h : decE s = some e) : s.data.toList = encB e ∧ EU e ∧ listedP e ∧ e.gone.length ≤ 256 ∧ e.added.length ≤ 256 := by
  unfold decE at h
  dsimp only at h
  obtain ⟨s4, h4, h5⟩ := bind_some' h
  obtain ⟨s3, e3⟩ := num_some h4
  obtain ⟨s2, e2⟩ := num_some e3
  obtain ⟨s1, e1⟩ := num_some e2
  have r1 := numO_rd e1
  rw [e1] at e2 e3 h4 h5
  have r2 := numO_rd e2
  rw [e2] at e3 h4 h5
  have r3 := numO_rd e3
  rw [e3] at h4 h5
  have r4 := numO_rd h4
  obtain ⟨l, a, q1, q2, q3, q4, q5, q6⟩ := cG_rd _ _ s4 h5
  rw [List.nil_append] at q3
  have hn : ((l.length : Nat) : Int) = (numO (some s3) 256).1 := by rw [q1]; exact Int.toNat_of_nonneg r4.2.1.1
  subst q3
  refine ⟨?_, ⟨⟨r1.2.1, r2.2.1, r3.2.1⟩, q6⟩, q5, by have := r4.2.2; show l.length ≤ 256; omega, q2⟩
  rw [r1.1, r2.1, r3.1, r4.1, q4]
  simp [encB, putsL, ← hn]
theorem encV_ok {e : Edt} (h : (encV e).2 = 0) : listedP e ∧ e.gone.length ≤ 256 ∧ e.added.length ≤ 256 ∧ encV e = (bA (encB e), 0) := by
  unfold encV at h ⊢
  by_cases hl : listedP e
  · by_cases hg : 256 < e.gone.length ∨ 256 < e.added.length
    · rw [if_pos hl, if_pos hg] at h; exact absurd h (by decide)
    · exact ⟨hl, by omega, by omega, by rw [if_pos hl, if_neg hg]⟩
  · rw [if_neg hl] at h; exact absurd h (by decide)
/-- What is written is read back. -/
theorem dec_enc {e : Edt} (hu : EU e) (h : (encV e).2 = 0) : decV (encV e).1 = (e, 0) := by
  obtain ⟨h1, h2, h3, h4⟩ := encV_ok h
  rw [h4]
  exact decE_some (decE_put hu h1 h2 h3)
/-- What is read is written so. -/
theorem enc_dec {s : ByteArray} (h : (decV s).2 = 0) : encV (decV s).1 = (s, 0) ∧ EU (decV s).1 := by
  cases hd : decE s with
  | none => rw [decE_none hd] at h; exact absurd h (by decide)
  | some e =>
    rw [decE_some hd]
    obtain ⟨h1, h2, h3, h4, h5⟩ := decE_rd hd
    refine ⟨?_, h2⟩
    show encV e = (s, 0)
    unfold encV
    rw [if_pos h3, if_neg (by omega), ← h1, bA_of]
/-- Two edits have two texts. -/
theorem enc_two {a b : Edt} (ha : EU a) (hb : EU b) (h1 : (encV a).2 = 0) (h2 : (encV b).2 = 0) : (encV a).1 = (encV b).1 ↔ a = b := by
  constructor
  · intro h
    have e1 := dec_enc ha h1
    have e2 := dec_enc hb h2
    rw [h, e2] at e1
    injection e1 with e1
    exact e1.symm
  · intro h; rw [h]
theorem encV_size {e : Edt} (hu : EU e) : (encV e).1.size ≤ 4611686018427387904 := by
  by_cases h : (encV e).2 = 0
  · obtain ⟨h1, h2, h3, h4⟩ := encV_ok h
    rw [h4, bA_size]
    have g := gBys_len e.gone (fun x hx => ⟨⟨(h1.1 x hx).1, by have := (h1.1 x hx).2; omega⟩, hu.2 x hx⟩)
    have a := aBys_len e.added h1.2
    have p1 := putsL_len [e.log, e.next, e.seq, (e.gone.length : Int)] (puts4 ⟨hu.1.1, hu.1.2.1, hu.1.2.2, ⟨by omega, by omega⟩⟩)
    have p2 := putsL_len [(e.added.length : Int)] (puts1 ⟨by omega, by omega⟩)
    simp only [encB, List.length_append, List.length_cons, List.length_nil] at p1 p2 ⊢
    omega
  · have : (encV e).1 = ⟨#[]⟩ := by
      unfold encV at h ⊢
      by_cases hl : listedP e
      · rw [if_pos hl] at h ⊢
        by_cases hg : 256 < e.gone.length ∨ 256 < e.added.length
        · rw [if_pos hg]
        · rw [if_neg hg] at h; exact absurd rfl h
      · rw [if_neg hl]
    rw [this]
    exact Nat.zero_le _
end Go.Proofs.Ytkjepfofiegcdaa.V
