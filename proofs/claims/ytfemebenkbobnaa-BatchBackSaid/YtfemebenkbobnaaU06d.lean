import Derived.Test.YtfemebenkbobnaaU06c
import Derived.Test.YtfemebenkbobnaaPB067
/- What Encode writes, Decode reads; no batch begins another; the law BatchBack, in the plain. -/
namespace Go.Proofs.Ytfemebenkbobnaa.PB06
open Go.RowKit Go.Proofs.YtfemebenkbobnaaW.PrintWords Go.Proofs.YtfemebenkbobnaaW.PrintLast Go.Proofs.YtfemebenkbobnaaW.PrintMore
open H (uintS uL putL)
theorem uint_put (n : Nat) (hn : n < 2 ^ 64) (rest : List UInt8) : uintS (bA (putL n ++ rest)) = ((n : Int), ((putL n).length : Int), 0) := by
  rw [H.uintS_list, bA_list, H.uL_put 10 0 n 0 rest rfl (by simpa using hn) (.inr rfl)]
  simp
theorem bA_drop (a b : List UInt8) (p : Nat) (hp : p = a.length) : (bA (a ++ b)).extract p (bA (a ++ b)).size = bA b := by
  apply Go.WideShapes.bytes_inj
  rw [drop_list, bA_list, bA_list, hp, List.drop_left]
theorem bA_inj {a b : List UInt8} (h : bA a = bA b) : a = b := by
  rw [← bA_list a, ← bA_list b, h]
theorem field_put (x : ByteArray) (most : Nat) (hx : x.size ≤ most) (hm : most ≤ 100000) (rest : List UInt8) : fieldS (bA (fieldL x ++ rest)) most = (x, ((fieldL x).length : Int), 0) := by
  have hu : uintS (bA (fieldL x ++ rest)) = ((x.size : Int), ((putL x.size).length : Int), 0) := by
    rw [fieldL, List.append_assoc]
    exact uint_put x.size (by omega) _
  have hl : (fieldL x).length = (putL x.size).length + x.size := by rw [fieldL, List.length_append, data_length]
  unfold fieldS
  rw [hu]
  simp only
  rw [if_pos trivial, if_neg (by omega), if_neg (by rw [bA_size, List.length_append]; omega)]
  congr 1
  · apply Go.WideShapes.bytes_inj
    rw [ext_list, bA_list, Int.toNat_natCast, show (((putL x.size).length : Int) + (x.size : Int)).toNat = (fieldL x).length from by omega, List.take_left, fieldL, List.drop_left]
  · congr 1
    omega
theorem write_put (x : S72) (h1 : badW x = false) (h2 : bigW x = false) (rest : List UInt8) : writeS (bA (rowL x ++ rest)) = some (x, (rowL x).length) := by
  simp only [bigW, Bool.or_eq_false_iff, decide_eq_false_iff_not] at h2
  have h3 : (x.f0 = 1 ∨ x.f0 = 2) ∧ (x.f0 = 2 → x.f2.size = 0) := by
    simp only [badW, Bool.or_eq_false_iff, Bool.not_eq_false', Bool.or_eq_true, beq_iff_eq, Bool.and_eq_false_iff, beq_eq_false_iff_ne, bne_eq_false_iff_eq] at h1
    exact ⟨h1.1.1, fun h => h1.2.elim (fun h' => absurd h h') id⟩
  obtain ⟨hk, hv⟩ := h3
  have hb : bt (bA (rowL x ++ rest)) 0 = x.f0 := by
    have := H.bt_list (bA (rowL x ++ rest)) 0 (by rw [bA_size, rowL]; simp)
    rw [show ((0 : Nat) : Int) = 0 from rfl] at this
    rw [this]
    rcases hk with hk | hk <;> simp [bA_list, rowL, hk]
  have hs : ¬ (bA (rowL x ++ rest)).size = 0 := by rw [bA_size, rowL]; simp
  have e1 : (bA (rowL x ++ rest)).extract 1 (bA (rowL x ++ rest)).size = bA (fieldL x.f1 ++ ((if x.f0 = 1 then fieldL x.f2 else []) ++ rest)) := by
    have : rowL x ++ rest = [UInt8.ofNat x.f0.toNat] ++ (fieldL x.f1 ++ ((if x.f0 = 1 then fieldL x.f2 else []) ++ rest)) := by simp [rowL]
    rw [this]
    exact bA_drop _ _ 1 rfl
  have f1 := field_put x.f1 520 (by omega) (by omega) ((if x.f0 = 1 then fieldL x.f2 else []) ++ rest)
  have e2 : (bA (rowL x ++ rest)).extract (1 + ((fieldL x.f1).length : Int)).toNat (bA (rowL x ++ rest)).size = bA ((if x.f0 = 1 then fieldL x.f2 else []) ++ rest) := by
    have : rowL x ++ rest = ([UInt8.ofNat x.f0.toNat] ++ fieldL x.f1) ++ ((if x.f0 = 1 then fieldL x.f2 else []) ++ rest) := by simp [rowL]
    rw [this]
    exact bA_drop _ _ _ (by rw [List.length_append, List.length_singleton]; omega)
  unfold writeS
  rw [if_neg hs, hb, if_neg (by omega), e1, f1]
  simp only
  rw [if_pos trivial, e2]
  rcases hk with hk | hk
  · rw [if_pos hk] at e2 ⊢
    rw [if_pos hk, field_put x.f2 2048 (by omega) (by omega) rest]
    simp only
    rw [if_pos trivial]
    obtain ⟨a, b, c⟩ := x
    simp only at hk
    subst hk
    simp only [Option.some.injEq, Prod.mk.injEq, true_and]
    simp only [rowL, if_true, List.length_cons, List.length_append]
    omega
  · rw [if_neg (by omega)]
    have hz := hv hk
    obtain ⟨a, b, c⟩ := x
    simp only at hk hz ⊢
    subst hk
    have : c = ⟨#[]⟩ := by
      apply Go.WideShapes.bytes_inj
      exact List.eq_nil_of_length_eq_zero (by rw [data_length]; exact hz)
    subst this
    simp only [Option.some.injEq, Prod.mk.injEq, true_and]
    simp only [rowL, List.length_cons, List.length_append]
    rw [if_neg (by omega)]
    simp only [List.length_nil]
    omega
theorem decS_put : ∀ l : List S72, (∀ x ∈ l, badW x = false ∧ bigW x = false) → decS l.length (bA (encL l)) = some l
  | [], _ => by
    rw [List.length_nil, decS, encL, if_pos (by rw [bA_size]; rfl)]
  | x :: r, h => by
    obtain ⟨h1, h2⟩ := h x List.mem_cons_self
    rw [List.length_cons, decS, encL, write_put x h1 h2, Option.bind_some, bA_drop _ _ _ rfl, decS_put r (fun y hy => h y (List.mem_cons_of_mem _ hy))]
    rfl
theorem decode_put (n : Nat) (l : List S72) (h : checkS (n : Int) l = 0) : decodeS (bA (encodeL n l)) = ((n : Int), l, 0) := by
  obtain ⟨h1, h2, h3, h4, h5⟩ := check_ok h
  have hu : uintS (bA (encodeL n l)) = ((n : Int), ((putL n).length : Int), 0) := by
    rw [encodeL, List.append_assoc]; exact uint_put n (by omega) _
  have e1 : (bA (encodeL n l)).extract (putL n).length (bA (encodeL n l)).size = bA (putL l.length ++ encL l) := by
    rw [encodeL, List.append_assoc]; exact bA_drop _ _ _ rfl
  have hv : uintS (bA (putL l.length ++ encL l)) = ((l.length : Int), ((putL l.length).length : Int), 0) := uint_put l.length (by omega) _
  have e2 : (bA (encodeL n l)).extract (((putL n).length : Int) + ((putL l.length).length : Int)).toNat (bA (encodeL n l)).size = bA (encL l) := by
    rw [encodeL]; exact bA_drop _ _ _ (by rw [List.length_append]; omega)
  unfold decodeS
  rw [hu]
  simp only [Int.toNat_natCast]
  rw [e1, hv]
  simp only [Int.toNat_natCast]
  rw [if_pos ⟨trivial, trivial, by omega⟩, e2, decS_put l h5, restS, List.nil_append, endS, if_pos h]
/-! No batch's bytes begin another's. -/
theorem put_free {n m : Nat} (hn : n < 2 ^ 64) (hm : m < 2 ^ 64) {a b : List UInt8} (h : putL n ++ a = putL m ++ b) : n = m ∧ a = b := by
  have h1 := uint_put n hn a
  rw [h, uint_put m hm b] at h1
  simp only [Prod.mk.injEq] at h1
  have e : n = m := by omega
  subst e
  exact ⟨rfl, List.append_cancel_left h⟩
theorem row_free {x y : S72} (hx : badW x = false ∧ bigW x = false) (hy : badW y = false ∧ bigW y = false) {a b : List UInt8} (h : rowL x ++ a = rowL y ++ b) : x = y ∧ a = b := by
  have h1 := write_put x hx.1 hx.2 a
  rw [h, write_put y hy.1 hy.2 b] at h1
  simp only [Option.some.injEq, Prod.mk.injEq] at h1
  obtain ⟨e, _⟩ := h1
  subst e
  exact ⟨rfl, List.append_cancel_left h⟩
theorem enc_free : ∀ (l r : List S72) (a b : List UInt8), l.length = r.length → (∀ x ∈ l, badW x = false ∧ bigW x = false) → (∀ x ∈ r, badW x = false ∧ bigW x = false) → encL l ++ a = encL r ++ b → l = r ∧ a = b
  | [], [], a, b, _, _, _, h => ⟨rfl, by simpa [encL] using h⟩
  | x :: l, y :: r, a, b, hl, hx, hy, h => by
    rw [encL, encL, List.append_assoc, List.append_assoc] at h
    obtain ⟨e1, h'⟩ := row_free (hx x List.mem_cons_self) (hy y List.mem_cons_self) h
    obtain ⟨e2, h''⟩ := enc_free l r a b (by simpa using hl) (fun z hz => hx z (List.mem_cons_of_mem _ hz)) (fun z hz => hy z (List.mem_cons_of_mem _ hz)) h'
    exact ⟨by rw [e1, e2], h''⟩
  | [], _ :: _, _, _, hl, _, _, _ => by simp at hl
  | _ :: _, [], _, _, hl, _, _, _ => by simp at hl
theorem encode_free {n m : Nat} {l r : List S72} (hl : checkS (n : Int) l = 0) (hr : checkS (m : Int) r = 0) {a b : List UInt8} (h : encodeL n l ++ a = encodeL m r ++ b) : n = m ∧ l = r ∧ a = b := by
  obtain ⟨h1, h2, h3, h4, h5⟩ := check_ok hl
  obtain ⟨g1, g2, g3, g4, g5⟩ := check_ok hr
  rw [encodeL, encodeL] at h
  simp only [List.append_assoc] at h
  obtain ⟨e0, h'⟩ := put_free (by omega) (by omega) h
  obtain ⟨e, h''⟩ := put_free (by omega) (by omega) h'
  obtain ⟨e2, h3⟩ := enc_free l r a b e h5 g5 h''
  exact ⟨e0, e2, h3⟩
theorem toList_inj {a b : ByteArray} (h : a.toList = b.toList) : a = b := by
  rw [ByteArray.toList_eq, ByteArray.toList_eq] at h
  exact Go.WideShapes.bytes_inj h
instance : DecidableEq S72 := fun x y =>
  if h : x.f0 = y.f0 ∧ x.f1.data.toList = y.f1.data.toList ∧ x.f2.data.toList = y.f2.data.toList then
    isTrue (by
      obtain ⟨h0, h1, h2⟩ := h
      cases x
      cases y
      simp only at h0 h1 h2
      rw [h0, Go.WideShapes.bytes_inj h1, Go.WideShapes.bytes_inj h2])
  else isFalse (fun e => h (by subst e; exact ⟨rfl, rfl, rfl⟩))
theorem row_eq (x y : S72) : ((!((x.f0) == (y.f0)) || (!((x.f1).toList == (y.f1).toList) || (!((x.f2).toList == (y.f2).toList)))) = true) ↔ x ≠ y := by
  constructor
  · intro h e
    subst e
    simp at h
  · intro h
    by_cases h0 : x.f0 = y.f0
    · by_cases h1 : x.f1 = y.f1
      · by_cases h2 : x.f2 = y.f2
        · exact absurd (by cases x; cases y; simp_all) h
        · have : ¬ x.f2.toList = y.f2.toList := fun e => h2 (toList_inj e)
          simp [this]
      · have : ¬ x.f1.toList = y.f1.toList := fun e => h1 (toList_inj e)
        simp [this]
    · simp [h0]
theorem ev_writes (l r : List S72) (hl : l.length = r.length) (hb : l.length ≤ 4611686018427387904) : ∀ c i, i + c = l.length → Ev (fun k => api_Write.l0 k l r (l.length : Int) (i : Int)) (decide (l.drop i = r.drop i))
  | 0, i, hi => by
    rw [List.drop_eq_nil_of_le (by omega), List.drop_eq_nil_of_le (by omega), decide_eq_true rfl]
    exact Ev.step (f := fun _ => some true) (fun k => by rw [api_Write.l0, if_neg (by omega)]) (Ev.now _)
  | c + 1, i, hi => by
    rw [rd_at l i (by omega), rd_at r i (by omega)]
    by_cases h : rd_T72 l (i : Int) = rd_T72 r (i : Int)
    · have e : decide (rd_T72 l (i : Int) :: l.drop (i + 1) = rd_T72 r (i : Int) :: r.drop (i + 1)) = decide (l.drop (i + 1) = r.drop (i + 1)) := by simp [h]
      rw [e]
      refine Ev.step (f := fun k => api_Write.l0 k l r (l.length : Int) ((i + 1 : Nat) : Int)) (fun k => ?_) (ev_writes l r hl hb c (i + 1) (by omega))
      rw [api_Write.l0, if_pos (by omega), if_pos (by omega), if_pos (by omega), if_pos (by omega), if_neg (fun hh => (row_eq _ _).mp hh h), wrap64_id _ (by omega) (by omega)]
      rfl
    · have e : decide (rd_T72 l (i : Int) :: l.drop (i + 1) = rd_T72 r (i : Int) :: r.drop (i + 1)) = false := by simp [h]
      rw [e]
      refine Ev.step (f := fun _ => some false) (fun k => ?_) (Ev.now _)
      rw [api_Write.l0, if_pos (by omega), if_pos (by omega), if_pos (by omega), if_pos (by omega), if_pos ((row_eq _ _).mpr h)]
theorem ev_bSame (n m : Int) (l r : List S72) (hb : l.length ≤ 4611686018427387904) : Ev (fun k => batch_Same.f k n l m r) (decide (n = m ∧ l = r)) := by
  by_cases h : n = m
  · refine Ev.congr (f := fun k => (api_Write.f k l r).bind fun t132 => some t132) (fun k => by rw [batch_Same.f, if_pos h]) ?_
    refine Ev.bind (a := decide (l = r)) ?_ (by
      have : decide (n = m ∧ l = r) = decide (l = r) := by simp [h]
      rw [this]; exact Ev.now _)
    by_cases hl : l.length = r.length
    · refine Ev.congr (f := fun k => api_Write.l0 k l r (l.length : Int) 0) (fun k => by rw [api_Write.f, if_pos (by omega)]) ?_
      have := ev_writes l r hl hb l.length 0 (by omega)
      rw [List.drop_zero, List.drop_zero] at this
      exact this
    · have : decide (l = r) = false := decide_eq_false (fun e => hl (by rw [e]))
      rw [this]
      exact Ev.congr (f := fun _ => some false) (fun k => by rw [api_Write.f, if_neg (by omega)]) (Ev.now _)
  · have : decide (n = m ∧ l = r) = false := decide_eq_false (fun e => h e.1)
    rw [this]
    exact Ev.congr (f := fun _ => some false) (fun k => by rw [batch_Same.f, if_neg h]) (Ev.now _)
/-- What batch.Encode answers. -/
def encS (n : Int) (l : List S72) : ByteArray × Int := if checkS n l = 0 then (bA (encodeL n.toNat l), 0) else (⟨#[]⟩, checkS n l)
theorem ev_EncodeAny (n : Int) (l : List S72) (hb : l.length ≤ 4611686018427387904) : Ev (fun k => batch_Encode.f k n l) (encS n l) := by
  unfold encS
  by_cases h : checkS n l = 0
  · rw [if_pos h]
    have h1 := (check_ok h).1
    have e : ((n.toNat : Nat) : Int) = n := by omega
    have := ev_Encode n.toNat l (by rw [e]; exact h)
    rw [e] at this
    exact this
  · rw [if_neg h]
    refine Ev.bind (ev_Check n l hb) ?_
    simp only [if_neg h]
    exact Ev.now _
theorem encL_len : ∀ l : List S72, (∀ x ∈ l, badW x = false ∧ bigW x = false) → (encL l).length ≤ 3000 * l.length
  | [], _ => by simp [encL]
  | x :: r, h => by
    have h2 := (h x List.mem_cons_self).2
    simp only [bigW, Bool.or_eq_false_iff, decide_eq_false_iff_not] at h2
    have ih := encL_len r (fun y hy => h y (List.mem_cons_of_mem _ hy))
    have f1 := fieldL_len x.f1 (by omega)
    have f2 := fieldL_len x.f2 (by omega)
    have f3 : (if x.f0 = 1 then fieldL x.f2 else []).length ≤ x.f2.size + 10 := by
      by_cases h : x.f0 = 1
      · rw [if_pos h]; exact f2
      · rw [if_neg h]; simp
    rw [encL, rowL, List.length_append, List.length_cons, List.length_append, List.length_cons]
    omega
theorem ev_BatchBack (n m : Int) (l r : List S72) (hl : l.length ≤ 4611686018427387904) (hr : r.length ≤ 4611686018427387904) : Ev (fun k => freshetlaw06_BatchBack.f k n l m r) true := by
  have aw : Ev (fun k => (freshetlaw06_awake.f k).bind fun t322 => some t322) true := Ev.bind awake_true_ (Ev.now _)
  have j2t : ∀ a b, Ev (fun k => freshetlaw06_BatchBack.j2 k a b true n l m r) true := fun a b =>
    Ev.step (fun k => by rw [freshetlaw06_BatchBack.j2, if_pos rfl]) aw
  have j1 : Ev (fun k => freshetlaw06_BatchBack.j1 k (encS n l).1 (encS n l).2 (encS m r).1 (encS m r).2 n l m r) true := by
    by_cases h1 : checkS n l = 0
    · have e1 : encS n l = (bA (encodeL n.toNat l), 0) := by rw [encS, if_pos h1]
      by_cases h2 : checkS m r = 0
      · have e2 : encS m r = (bA (encodeL m.toNat r), 0) := by rw [encS, if_pos h2]
        rw [e1, e2]
        refine Ev.step (f := fun k => freshetlaw06_BatchBack.j2 k (bA (encodeL n.toNat l)) (bA (encodeL m.toNat r)) false n l m r) (fun k => by rw [freshetlaw06_BatchBack.j1, if_pos rfl]; rfl) ?_
        have hn : ((n.toNat : Nat) : Int) = n := by have := (check_ok h1).1; omega
        have hm : ((m.toNat : Nat) : Int) = m := by have := (check_ok h2).1; omega
        by_cases hs : (encodeL n.toNat l).length ≤ (encodeL m.toNat r).length
        · refine Ev.step (f := fun k => (batch_Same.f k n l m r).bind fun t148 => (if ((((bA (encodeL m.toNat r)).extract 0 (bA (encodeL n.toNat l)).size).toList == (bA (encodeL n.toNat l)).toList) == t148) = true then ((freshetlaw06_awake.f k).bind fun t149 => (some t149)) else (some false))) (fun k => ?_) ?_
          · rw [freshetlaw06_BatchBack.j2, if_neg (by simp), if_pos (by rw [bA_size, bA_size]; omega), if_pos (by omega), Int.toNat_natCast]
          · refine Ev.bind (ev_bSame n m l r hl) ?_
            have key : ((((bA (encodeL m.toNat r)).extract 0 (bA (encodeL n.toNat l)).size).toList == (bA (encodeL n.toNat l)).toList) == decide (n = m ∧ l = r)) = true := by
              rw [ByteArray.toList_eq, ByteArray.toList_eq, ext_list, bA_list, bA_list, List.drop_zero, bA_size, beq_iff_eq]
              by_cases he : n = m ∧ l = r
              · obtain ⟨rfl, rfl⟩ := he
                simp
              · rw [decide_eq_false he, beq_eq_false_iff_ne]
                intro hp
                have hq : encodeL n.toNat l ++ (encodeL m.toNat r).drop (encodeL n.toNat l).length = encodeL m.toNat r ++ [] := by
                  have := List.take_append_drop (encodeL n.toNat l).length (encodeL m.toNat r)
                  rw [hp] at this
                  rw [List.append_nil]
                  exact this
                obtain ⟨a, b, _⟩ := encode_free (by rw [hn]; exact h1) (by rw [hm]; exact h2) hq
                exact he ⟨by omega, b⟩
            simp only [if_pos key]
            exact aw
        · refine Ev.step (f := fun k => (batch_Same.f k n l m r).bind fun t150 => (if (false == t150) = true then ((freshetlaw06_awake.f k).bind fun t151 => (some t151)) else (some false))) (fun k => ?_) ?_
          · rw [freshetlaw06_BatchBack.j2, if_neg (by simp), if_neg (by rw [bA_size, bA_size]; omega)]
          · refine Ev.bind (ev_bSame n m l r hl) ?_
            have he : ¬ (n = m ∧ l = r) := by rintro ⟨rfl, rfl⟩; omega
            simp only [decide_eq_false he, beq_self_eq_true, if_true]
            exact aw
      · refine Ev.step (f := fun k => freshetlaw06_BatchBack.j2 k (encS n l).1 (encS m r).1 true n l m r) (fun k => ?_) (j2t _ _)
        have e2 : (encS m r).2 = checkS m r := by rw [encS, if_neg h2]
        have e3 : ((encS m r).2 != 0) = true := by rw [e2]; exact bne_iff_ne.mpr h2
        rw [freshetlaw06_BatchBack.j1, if_pos (by rw [e1]), e3]
    · refine Ev.step (f := fun k => freshetlaw06_BatchBack.j2 k (encS n l).1 (encS m r).1 true n l m r) (fun k => ?_) (j2t _ _)
      have e1 : (encS n l).2 = checkS n l := by rw [encS, if_neg h1]
      rw [freshetlaw06_BatchBack.j1, if_neg (by rw [e1]; exact h1)]
  have j0 : ∀ b, Ev (fun k => freshetlaw06_BatchBack.j0 k b n l m r) true := fun b => by
    cases b with
    | true => exact Ev.step (fun k => by rw [freshetlaw06_BatchBack.j0, if_pos rfl]) aw
    | false =>
      refine Ev.step (fun k => by rw [freshetlaw06_BatchBack.j0, if_neg (by simp)]) ?_
      refine Ev.bind (ev_EncodeAny n l hl) (Ev.bind (ev_EncodeAny m r hr) ?_)
      by_cases h1 : checkS n l = 0
      · have e1 : encS n l = (bA (encodeL n.toNat l), 0) := by rw [encS, if_pos h1]
        have hn : ((n.toNat : Nat) : Int) = n := by have := (check_ok h1).1; omega
        have hd := decode_put n.toNat l (by rw [hn]; exact h1)
        rw [hn] at hd
        simp only [if_pos (show (encS n l).2 = 0 by rw [e1])]
        refine Ev.bind (a := (n, l, 0)) ?_ ?_
        · rw [e1, ← hd]
          refine ev_Decode _ ?_
          have c := check_ok h1
          have : (encodeL n.toNat l).length ≤ 4611686018427387904 := by
            have c1 := putL_le n.toNat (by omega)
            have c2 := putL_le l.length (by omega)
            have c3 := encL_len l c.2.2.2.2
            rw [encodeL, List.length_append, List.length_append]
            omega
          rw [bA_size]; exact this
        · simp only [if_true]
          refine Ev.bind (ev_bSame n n l l hl) ?_
          simp only []
          exact j1
      · have e1 : (encS n l).2 = checkS n l := by rw [encS, if_neg h1]
        simp only [if_neg (show ¬ (encS n l).2 = 0 by rw [e1]; exact h1)]
        exact j1
  by_cases h : (l.length : Int) > 300
  · exact Ev.congr (fun k => by rw [freshetlaw06_BatchBack.f, if_pos h]) (j0 true)
  · exact Ev.congr (fun k => by rw [freshetlaw06_BatchBack.f, if_neg h]) (j0 _)
end Go.Proofs.Ytfemebenkbobnaa.PB06
