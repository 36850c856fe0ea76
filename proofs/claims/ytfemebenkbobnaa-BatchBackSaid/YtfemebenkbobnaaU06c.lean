import Derived.Test.YtfemebenkbobnaaU06a
import Derived.Test.YtfemebenkbobnaaPB0614
/- What batch.Encode writes; what batch.Decode reads was written so; the law BatchOnly, in the plain. -/
namespace Go.Proofs.Ytfemebenkbobnaa.PB06
open Go.RowKit Go.Proofs.YtfemebenkbobnaaW.PrintWords Go.Proofs.YtfemebenkbobnaaW.PrintLast Go.Proofs.YtfemebenkbobnaaW.PrintMore
open H (uintS uL putL)
def fieldL (s : ByteArray) : List UInt8 := putL s.size ++ s.data.toList
def rowL (x : S72) : List UInt8 := UInt8.ofNat x.f0.toNat :: (fieldL x.f1 ++ if x.f0 = 1 then fieldL x.f2 else [])
def encL : List S72 → List UInt8
  | [] => []
  | x :: r => rowL x ++ encL r
theorem ev_PutField (s : ByteArray) (hs : s.size ≤ 1000000) : Ev (fun k => code_PutField.f k s) (bA (fieldL s)) := by
  have e : IntKind.u64.wrap (s.size : Int) = (s.size : Int) := by rw [IntKind.wrap_u64]; omega
  have h64 : s.size < 2 ^ 64 := by omega
  refine Ev.bind (g := fun k => code_PutUint.f k (IntKind.u64.wrap (s.size : Int))) (by rw [e]; exact ev_PutUint s.size h64) ?_
  have hl := putL_le s.size h64
  rw [bA_size, if_pos (by omega), show bA (putL s.size) ++ s = bA (putL s.size) ++ bA s.data.toList from by rw [bA_of], bA_append]
  exact Ev.now _
theorem fieldL_len (s : ByteArray) (hs : s.size ≤ 1000000) : (fieldL s).length ≤ s.size + 10 := by
  have hl := putL_le s.size (by omega)
  rw [fieldL, List.length_append, data_length]
  omega
theorem bytesOf_back (s : ByteArray) : (bytesOf s).map (fun n => UInt8.ofNat n.toNat) = s.data.toList := by
  rw [bytesOf, List.map_map]
  have : ((fun n : Int => UInt8.ofNat n.toNat) ∘ fun b : UInt8 => (b.toNat : Int)) = id := by funext b; simp
  rw [this, List.map_id]
theorem ev_encl : ∀ (l : List S72) (out : List Int) (acc : List UInt8), (∀ x ∈ l, badW x = false ∧ bigW x = false) → out.map (fun n => UInt8.ofNat n.toNat) = acc → out.length + 3000 * l.length ≤ 1000000 →
    Ev (fun k => batch_Encode.l0 k l out) (bA (acc ++ encL l))
  | [], out, acc, _, ho, _ => by
    refine Ev.congr (f := fun _ => some (bA (acc ++ encL []))) (fun k => ?_) (Ev.now _)
    rw [batch_Encode.l0, str_bA, ho, encL, List.append_nil]
  | x :: r, out, acc, hb, ho, hl => by
    obtain ⟨h1, h2⟩ := hb x List.mem_cons_self
    simp only [bigW, Bool.or_eq_false_iff, decide_eq_false_iff_not] at h2
    have hk : x.f0 = 1 ∨ x.f0 = 2 := by
      simp only [badW, Bool.or_eq_false_iff, Bool.not_eq_false', Bool.or_eq_true, beq_iff_eq] at h1
      exact h1.1.1
    refine Ev.congr (f := fun k => (code_PutField.f k x.f1).bind fun a => (batch_putOf k x).bind fun b => if a.size + b.size ≤ 1000000 ∧ out.length ≤ 1000000000 then batch_Encode.l0 k r ((out ++ [x.f0 % 256]) ++ bytesOf (a ++ b)) else none) (fun k => by rw [batch_Encode.l0]) ?_
    refine Ev.bind (ev_PutField x.f1 (by omega)) ?_
    have hp : Ev (fun k => batch_putOf k x) (bA (if x.f0 = 1 then fieldL x.f2 else [])) := by
      rcases hk with hk | hk
      · rw [if_pos hk]
        exact Ev.congr (f := fun k => code_PutField.f k x.f2) (fun k => by rw [batch_putOf, if_pos hk]) (ev_PutField x.f2 (by omega))
      · rw [if_neg (by omega)]
        exact Ev.congr (f := fun k => some ⟨#[]⟩) (fun k => by rw [batch_putOf, if_neg (by omega), if_pos hk]) (Ev.now _)
    refine Ev.bind hp ?_
    have f1 := fieldL_len x.f1 (by omega)
    have f2 := fieldL_len x.f2 (by omega)
    have f3 : (if x.f0 = 1 then fieldL x.f2 else []).length ≤ x.f2.size + 10 := by
      by_cases h : x.f0 = 1
      · rw [if_pos h]; exact f2
      · rw [if_neg h]; simp
    rw [List.length_cons] at hl
    have ih := ev_encl r ((out ++ [x.f0 % 256]) ++ bytesOf (bA (fieldL x.f1) ++ bA (if x.f0 = 1 then fieldL x.f2 else []))) (acc ++ rowL x) (fun y hy => hb y (List.mem_cons_of_mem _ hy)) (by
      rw [List.map_append, List.map_append, ho, bytesOf_back, bA_append, bA_list, List.map_singleton, rowL, List.append_assoc]
      congr 3
      rcases hk with hk | hk <;> rw [hk] <;> rfl) (by
      rw [List.length_append, List.length_append, bytesOf_length, bA_append, bA_size, List.length_append, List.length_singleton]
      omega)
    refine Ev.congr (fun k => ?_) (by rw [encL, ← List.append_assoc]; exact ih)
    rw [if_pos (by rw [bA_size, bA_size]; omega)]
theorem check_ok {n : Int} {l : List S72} (h : checkS n l = 0) : 1 ≤ n ∧ n ≤ 72057594037927872 ∧ 1 ≤ l.length ∧ l.length ≤ 64 ∧ ∀ x ∈ l, badW x = false ∧ bigW x = false := by
  unfold checkS at h
  by_cases h1 : l.length = 0 ∨ n < 1 ∨ n > 72057594037927872 ∨ l.any badW = true
  · rw [if_pos h1] at h; cases h
  · rw [if_neg h1] at h
    by_cases h2 : l.length > 64 ∨ l.any bigW = true
    · rw [if_pos h2] at h; cases h
    · have h3 : l.any badW = false := by simpa using fun hh => h1 (.inr (.inr (.inr hh)))
      have h4 : l.any bigW = false := by simpa using fun hh => h2 (.inr hh)
      rw [List.any_eq_false] at h3 h4
      refine ⟨by omega, by omega, by omega, by omega, fun x hx => ⟨by simpa using h3 x hx, by simpa using h4 x hx⟩⟩
def encodeL (n : Nat) (l : List S72) : List UInt8 := putL n ++ putL l.length ++ encL l
theorem ev_Encode (n : Nat) (l : List S72) (h : checkS (n : Int) l = 0) : Ev (fun k => batch_Encode.f k (n : Int) l) (bA (encodeL n l), 0) := by
  obtain ⟨h1, h2, h3, h4, h5⟩ := check_ok h
  refine Ev.bind (g := fun k => batch_Check.f k (n : Int) l) (ev_Check (n : Int) l (by omega)) ?_
  rw [h]
  simp only [if_true]
  refine Ev.bind (ev_PutUint n (by omega)) ?_
  have e : IntKind.u64.wrap (l.length : Int) = (l.length : Int) := by rw [IntKind.wrap_u64]; omega
  refine Ev.bind (g := fun k => code_PutUint.f k (IntKind.u64.wrap (l.length : Int))) (by rw [e]; exact ev_PutUint l.length (by omega)) ?_
  have l1 := putL_le n (by omega)
  have l2 := putL_le l.length (by omega)
  refine Ev.congr (f := fun k => (batch_Encode.l0 k l (bytesOf (bA (putL n) ++ bA (putL l.length)))).bind fun s => some (s, 0)) (fun k => by rw [if_pos (by rw [bA_size, bA_size]; omega)]) ?_
  have := ev_encl l (bytesOf (bA (putL n) ++ bA (putL l.length))) (putL n ++ putL l.length) h5 (by rw [bytesOf_back, bA_append, bA_list]) (by rw [bytesOf_length, bA_append, bA_size, List.length_append]; omega)
  exact Ev.bind this (Ev.now _)
theorem decS_len_ : ∀ m s l, decS m s = some l → l.length = m
  | 0, s, l, h => by
    rw [decS] at h
    by_cases h0 : s.size = 0
    · rw [if_pos h0] at h; cases h; rfl
    · rw [if_neg h0] at h; cases h
  | m + 1, s, l, h => by
    rw [decS] at h
    obtain ⟨x, _, h⟩ := Option.bind_eq_some_iff.mp h
    obtain ⟨l', h1, rfl⟩ := Option.map_eq_some_iff.mp h
    rw [List.length_cons, decS_len_ m _ l' h1]
theorem ext_list (s : ByteArray) (a b : Nat) : (s.extract a b).data.toList = (s.data.toList.take b).drop a := by
  rw [ByteArray.data_extract, Array.toList_extract, List.extract, List.drop_take]
theorem drop_list (s : ByteArray) (p : Nat) : (s.extract p s.size).data.toList = s.data.toList.drop p := by
  rw [ext_list, List.take_of_length_le (by rw [data_length]; omega)]
theorem field_read (s : ByteArray) (most : Nat) (h : (fieldS s most).2.2 = 0) : s.data.toList = fieldL (fieldS s most).1 ++ s.data.toList.drop (fieldS s most).2.1.toNat := by
  unfold fieldS at h ⊢
  rcases hu : uintS s with ⟨v, m, e⟩
  rw [hu] at h
  simp only at h ⊢
  by_cases h1 : e = 0
  · subst h1
    obtain ⟨n, r1, rfl, rfl, r2, r3, r4⟩ := uint_read hu
    rw [if_pos rfl] at h ⊢
    by_cases h2 : (n : Int) > most
    · rw [if_pos h2] at h; simp at h
    · rw [if_neg h2] at h ⊢
      by_cases h3 : (n : Int) > s.size - ((putL n).length : Int)
      · rw [if_pos h3] at h; simp at h
      · rw [if_neg h3]
        simp only
        have e1 : (((putL n).length : Int) + (n : Int)).toNat = (putL n).length + n := by omega
        rw [e1, Int.toNat_natCast, fieldL, ByteArray.size_extract, ext_list]
        have e2 : min ((putL n).length + n) s.size - (putL n).length = n := by omega
        rw [e2, List.append_assoc]
        have e3 : (s.data.toList.take ((putL n).length + n)).drop (putL n).length ++ s.data.toList.drop ((putL n).length + n) = s.data.toList.drop (putL n).length := by
          rw [List.drop_take, Nat.add_sub_cancel_left, ← List.drop_drop, List.take_append_drop]
        rw [e3]
        exact r1
  · rw [if_neg h1] at h
    exact absurd h h1
theorem bt_cons (s : ByteArray) (h : s.size ≠ 0) : s.data.toList = UInt8.ofNat (bt s 0).toNat :: s.data.toList.drop 1 := by
  have := H.drop_cons s 0 (by omega)
  rw [List.drop_zero] at this
  have hb := H.bt_list s 0 (by omega)
  rw [show ((0 : Nat) : Int) = 0 from rfl] at hb
  rw [hb, Int.toNat_natCast, UInt8.ofNat_toNat]
  exact this
theorem write_read {s : ByteArray} {x : S72} {n : Nat} (h : writeS s = some (x, n)) : s.data.toList = rowL x ++ s.data.toList.drop n := by
  unfold writeS at h
  by_cases h0 : s.size = 0
  · rw [if_pos h0] at h; cases h
  rw [if_neg h0] at h
  have hc := bt_cons s h0
  by_cases h1 : bt s 0 = 0 ∨ 3 ≤ bt s 0
  · rw [if_pos h1] at h; cases h
  rw [if_neg h1] at h
  by_cases h2 : (fieldS (s.extract 1 s.size) 520).2.2 = 0
  · rw [if_pos h2] at h
    have o1 := field_ok _ _ h2
    have r1 := field_read _ _ h2
    rw [drop_size] at o1
    rw [drop_list, List.drop_drop] at r1
    generalize fieldS (s.extract 1 s.size) 520 = X at h o1 r1
    by_cases h3 : bt s 0 = 1
    · rw [if_pos h3] at h
      by_cases h4 : (fieldS (s.extract (1 + X.2.1).toNat s.size) 2048).2.2 = 0
      · rw [if_pos h4] at h
        have o2 := field_ok _ _ h4
        have r2 := field_read _ _ h4
        rw [drop_size] at o2
        rw [drop_list, List.drop_drop] at r2
        generalize fieldS (s.extract (1 + X.2.1).toNat s.size) 2048 = Y at h o2 r2
        simp only [Option.some.injEq, Prod.mk.injEq] at h
        obtain ⟨rfl, rfl⟩ := h
        rw [rowL]
        simp only [if_true]
        rw [show (1 + X.2.1).toNat + Y.2.1.toNat = (1 + X.2.1 + Y.2.1).toNat from by omega] at r2
        rw [show 1 + X.2.1.toNat = (1 + X.2.1).toNat from by omega] at r1
        rw [List.cons_append, List.append_assoc, ← r2, ← r1]
        rw [h3] at hc
        exact hc
      · rw [if_neg h4] at h; cases h
    · rw [if_neg h3] at h
      simp only [Option.some.injEq, Prod.mk.injEq] at h
      obtain ⟨rfl, rfl⟩ := h
      have h4 : bt s 0 = 2 := by have := bt_range s 0; omega
      rw [rowL]
      simp only
      rw [if_neg (by omega), List.append_nil]
      rw [show 1 + X.2.1.toNat = (1 + X.2.1).toNat from by omega] at r1
      rw [List.cons_append, ← r1]
      rw [h4] at hc
      exact hc
  · rw [if_neg h2] at h; cases h
theorem decS_read : ∀ (m : Nat) (s : ByteArray) (l : List S72), decS m s = some l → s.data.toList = encL l
  | 0, s, l, h => by
    rw [decS] at h
    by_cases h0 : s.size = 0
    · rw [if_pos h0] at h
      cases h
      rw [encL]
      exact List.eq_nil_of_length_eq_zero (by rw [data_length]; exact h0)
    · rw [if_neg h0] at h; cases h
  | m + 1, s, l, h => by
    rw [decS] at h
    obtain ⟨⟨x, n⟩, hw, h⟩ := Option.bind_eq_some_iff.mp h
    obtain ⟨l', h1, rfl⟩ := Option.map_eq_some_iff.mp h
    have := decS_read m _ l' h1
    rw [drop_list] at this
    rw [encL, ← this]
    exact write_read hw
theorem decode_read (s : ByteArray) (h : (decodeS s).2.2 = 0) : ∃ n : Nat, (decodeS s).1 = (n : Int) ∧ checkS (n : Int) (decodeS s).2.1 = 0 ∧ s.data.toList = encodeL n (decodeS s).2.1 := by
  have b1 := uint_m s
  have b2 := uint_m (s.extract (uintS s).2.1.toNat s.size)
  unfold decodeS at h ⊢
  by_cases hh : (uintS s).2.2 = 0 ∧ (uintS (s.extract (uintS s).2.1.toNat s.size)).2.2 = 0 ∧ (uintS (s.extract (uintS s).2.1.toNat s.size)).1 ≤ 64
  · rw [if_pos hh] at h ⊢
    obtain ⟨e1, e2, _⟩ := hh
    rcases hu : uintS s with ⟨v, m, e⟩
    rw [hu] at e1 h b1 b2 e2
    simp only at e1 h b1 b2 e2 ⊢
    subst e1
    rcases hv : uintS (s.extract m.toNat s.size) with ⟨v2, m2, e'⟩
    rw [hv] at e2 h b2
    simp only at e2 h b2 ⊢
    subst e2
    obtain ⟨n, r1, rfl, rfl, r2, r3, r4⟩ := uint_read hu
    obtain ⟨n2, q1, rfl, rfl, q2, q3, q4⟩ := uint_read hv
    rw [Int.toNat_natCast, drop_list, List.drop_drop] at q1
    have et : (((putL n).length : Int) + ((putL n2).length : Int)).toNat = (putL n).length + (putL n2).length := by omega
    rw [et, Int.toNat_natCast] at h ⊢
    cases hd : decS n2 (s.extract ((putL n).length + (putL n2).length) s.size) with
    | none => rw [hd] at h; simp [restS] at h
    | some l =>
      rw [hd] at h
      have hl := decS_len_ _ _ _ hd
      have hr := decS_read _ _ _ hd
      rw [drop_list] at hr
      simp only [restS, List.nil_append, endS] at h ⊢
      by_cases hc : checkS (n : Int) l = 0
      · rw [if_pos hc]
        refine ⟨n, rfl, hc, ?_⟩
        simp only
        rw [encodeL, hl, ← hr, List.append_assoc, ← q1]
        exact r1
      · rw [if_neg hc] at h; simp at h
  · rw [if_neg hh] at h; simp at h
theorem decodeS_bad (s : ByteArray) (h : (decodeS s).2.2 ≠ 0) : decodeS s = (0, [], 7) := by
  unfold decodeS at h ⊢
  by_cases hh : (uintS s).2.2 = 0 ∧ (uintS (s.extract (uintS s).2.1.toNat s.size)).2.2 = 0 ∧ (uintS (s.extract (uintS s).2.1.toNat s.size)).1 ≤ 64
  · rw [if_pos hh] at h ⊢
    generalize decS _ _ = d at h ⊢
    cases d with
    | none => rfl
    | some l =>
      simp only [restS, endS] at h ⊢
      by_cases hc : checkS (uintS s).1 ([] ++ l) = 0
      · rw [if_pos hc] at h; simp at h
      · rw [if_neg hc]
  · rw [if_neg hh]
theorem ev_rowsl (n : Int) (l : List S72) (hl : l.length ≤ 64) : ∀ c i (acc : List S28), i + c = l.length → acc.length = i → ∃ r : List S28, r.length = l.length ∧ Ev (fun k => batch_Rows.l0 k acc l (l.length : Int) (i : Int) n l) r
  | 0, i, acc, hi, ha => ⟨acc, by omega, Ev.step (f := fun _ => some acc) (fun k => by rw [batch_Rows.l0, if_neg (by omega)]) (Ev.now _)⟩
  | c + 1, i, acc, hi, ha => by
    obtain ⟨r, hr, h⟩ := ev_rowsl n l hl c (i + 1) (acc ++ [(⟨(rd_T72 l (i : Int)).f1, IntKind.u64.wrap (n + (IntKind.u64.wrap ((i : Int)))), (rd_T72 l (i : Int)).f0, (rd_T72 l (i : Int)).f2⟩ : S28)]) (by omega) (by simp [ha])
    refine ⟨r, hr, Ev.step (fun k => ?_) h⟩
    rw [batch_Rows.l0, if_pos (by omega), if_pos (by omega), if_pos (by omega), if_pos (by omega), wrap64_id _ (by omega) (by omega)]
    rfl
theorem ev_Rows (n : Int) (l : List S72) (h : checkS n l = 0) : ∃ r : List S28, r.length = l.length ∧ Ev (fun k => batch_Rows.f k n l) r := by
  obtain ⟨h1, h2, h3, h4, h5⟩ := check_ok h
  obtain ⟨r, hr, hh⟩ := ev_rowsl n l h4 l.length 0 [] (by omega) rfl
  refine ⟨r, hr, Ev.bind (ev_Check n l (by omega)) ?_⟩
  rw [h]
  exact hh
theorem awake_true_ : Ev freshetlaw06_awake.f true := Ev.of (fun k => freshetlaw06_awake.mono k) (k := 30) (by decide +kernel)
theorem ev_BatchOnly (s : ByteArray) (hs : s.size ≤ 4611686018427387904) : Ev (fun k => freshetlaw06_BatchOnly.f k s) true := by
  have aw : Ev (fun k => (freshetlaw06_awake.f k).bind fun t322 => some t322) true := Ev.bind awake_true_ (Ev.now _)
  refine Ev.bind (ev_Decode s hs) ?_
  by_cases h : (decodeS s).2.2 = 0
  · obtain ⟨n, h1, h2, h3⟩ := decode_read s h
    simp only [if_pos h, h1]
    refine Ev.bind (ev_Encode n _ h2) ?_
    have e : (bA (encodeL n (decodeS s).2.1)).toList = s.toList := by rw [ByteArray.toList_eq, ByteArray.toList_eq, bA_list, h3]
    obtain ⟨r, hr, hR⟩ := ev_Rows (n : Int) (decodeS s).2.1 h2
    simp only [if_pos e, if_true]
    refine Ev.bind hR ?_
    refine Ev.congr (fun k => ?_) aw
    rw [if_pos (by rw [hr])]
  · rw [decodeS_bad s h]
    exact Ev.congr (fun k => rfl) aw
end Go.Proofs.Ytfemebenkbobnaa.PB06
