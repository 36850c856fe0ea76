import Derived.Test.YtfemebenkbobnaaSKM
/- The document's skip list in the plain: what Place, There, Height and Steps tell. Conditions: at most 2 to the 61st rows, in order. -/
namespace Go.Proofs.Ytfemebenkbobnaa.SK
set_option linter.unusedVariables false
set_option linter.unusedSimpArgs false
open Go.RowKit Go.Shelf Go.Proofs.YtfemebenkbobnaaW.PrintWords Go.Proofs.YtfemebenkbobnaaW.PrintLast Go.Proofs.YtfemebenkbobnaaW.PrintMore Go.Proofs.Ytfemebenkbobnaa.PB06
theorem ahead08_f (key : ByteArray) (seq : Int) (r : S28) : freshetref08_Ahead.f r.f0 r.f1 r.f2 r.f3 key seq = some (aheadB key seq r) := ahead_f key seq r
theorem wrap_succ {i : Nat} (h : i ≤ 4611686018427387904) : wrap64 ((i : Int) + 1) = ((i + 1 : Nat) : Int) := by unfold wrap64; omega
theorem place_l {key : ByteArray} {seq : Int} {L : List S28} (hs : SortedR L) (hl : L.length ≤ 2305843009213693952) : ∀ c i, i + c = (ahdR key seq L).length → freshetref08_Place.l0 (c + 1) L key seq (i : Int) = some ((ahdR key seq L).length : Int) := by
  have hn := len_ahd key seq L
  intro c
  induction c with
  | zero =>
    intro i hi
    rw [freshetref08_Place.l0]
    by_cases hL : i < L.length
    · rw [if_pos (by omega), if_pos (by omega)]
      have e : rd_T28 L (i : Int) = L.getD i z28 := rfl
      rw [e, ahead08_f, at_ahd hs hL, decide_eq_false (by omega)]
      show some ((i : Nat) : Int) = _
      rw [show i = (ahdR key seq L).length by omega]
    · rw [if_neg (by omega)]
      rw [show i = (ahdR key seq L).length by omega]
  | succ c ih =>
    intro i hi
    rw [freshetref08_Place.l0, if_pos (by omega), if_pos (by omega)]
    have e : rd_T28 L (i : Int) = L.getD i z28 := rfl
    rw [e, ahead08_f, at_ahd hs (by omega), decide_eq_true (by omega), wrap_succ (by omega)]
    show freshetref08_Place.l0 (c + 1) L key seq ((i + 1 : Nat) : Int) = _
    exact ih (i + 1) (by omega)
theorem place_f {key : ByteArray} {seq : Int} {L : List S28} (hs : SortedR L) (hl : L.length ≤ 2305843009213693952) : freshetref08_Place.f ((ahdR key seq L).length + 1) L key seq = some ((ahdR key seq L).length : Int) :=
  place_l hs hl _ 0 (by omega)
theorem toList_inj {a b : ByteArray} (h : a.toList = b.toList) : a = b := Go.WideShapes.bytes_inj (by rw [ByteArray.toList_eq, ByteArray.toList_eq] at h; exact h)
theorem there_f {r : S28} {L : List S28} (hs : SortedR L) (hl : L.length ≤ 2305843009213693952) : freshetref08_There.f ((ahdR r.f0 r.f1 L).length + 1) L r.f0 r.f1 = some (takenR r L) := by
  have hn := len_ahd r.f0 r.f1 L
  have hd := drop_ahd r.f0 r.f1 L
  unfold freshetref08_There.f
  rw [place_f hs hl]
  show (if ((ahdR r.f0 r.f1 L).length : Int) < (L.length : Int) then _ else _) = _
  unfold takenR
  by_cases hL : (ahdR r.f0 r.f1 L).length < L.length
  · rw [if_pos (by omega), if_pos (by omega)]
    have e : rd_T28 L ((ahdR r.f0 r.f1 L).length : Int) = L[(ahdR r.f0 r.f1 L).length] := by
      show L.getD (ahdR r.f0 r.f1 L).length z28 = _
      rw [List.getD_eq_getElem?_getD, List.getElem?_eq_getElem hL]; rfl
    rw [e, ← hd, List.drop_eq_getElem_cons hL]
    generalize L[(ahdR r.f0 r.f1 L).length] = y
    show _ = some (decide (y.f0 = r.f0) && decide (y.f1 = r.f1))
    by_cases c : y.f0.toList = r.f0.toList
    · rw [if_pos c, decide_eq_true (toList_inj c), Bool.true_and]
      rfl
    · rw [if_neg c, decide_eq_false (fun h => c (by rw [h])), Bool.false_and]
  · rw [if_neg (by omega), ← hd, List.drop_eq_nil_of_le (by omega)]
theorem up_f {α : Type} {f : Nat → Option α} (hm : ∀ k, LeO (f k) (f (k + 1))) {k : Nat} {r : α} (h : f k = some r) {m : Nat} (hk : k ≤ m) : f m = some r := by
  obtain ⟨d, rfl⟩ := Nat.exists_eq_add_of_le hk
  exact more_rounds hm k d r h
def hmaxL : List Nat → Nat
  | [] => 0
  | x :: r => max x (hmaxL r)
theorem hmax_L (rs : List Nd) : hmax rs = hmaxL (rs.map (·.h)) := by
  induction rs with
  | nil => rfl
  | cons x r ih => rw [hmax, List.map_cons, hmaxL, ih]
theorem height_l (rows : List S28) (H : List Nat) (hl : H.length ≤ 2305843009213693952) : ∀ c i m, i + c = H.length → freshetref08_Height.l0 (c + 1) (m : Nat) (i : Nat) rows (H.map (Int.ofNat ·)) = some ((max m (hmaxL (H.drop i)) : Nat) : Int) := by
  intro c
  induction c with
  | zero =>
    intro i m hi
    rw [freshetref08_Height.l0, if_neg (by rw [List.length_map]; omega), List.drop_eq_nil_of_le (by omega)]
    simp [hmaxL]
  | succ c ih =>
    intro i m hi
    have h1 : i < H.length := by omega
    have e : rd (H.map (Int.ofNat ·)) (i : Int) = (H[i] : Int) := by
      show (H.map (Int.ofNat ·)).getD i 0 = _
      rw [List.getD_eq_getElem?_getD, List.getElem?_map, List.getElem?_eq_getElem h1]; rfl
    rw [freshetref08_Height.l0, if_pos (by rw [List.length_map]; omega), if_pos (by omega), e, wrap_succ (by omega), List.drop_eq_getElem_cons h1, hmaxL]
    by_cases c1 : (H[i] : Int) > (m : Int)
    · rw [if_pos c1, ih (i + 1) H[i] (by omega)]
      congr 2
      omega
    · rw [if_neg c1, ih (i + 1) m (by omega)]
      congr 2
      omega
theorem height_f (rows : List S28) (H : List Nat) (hl : H.length ≤ 2305843009213693952) : freshetref08_Height.f (H.length + 1) rows (H.map (Int.ofNat ·)) = some ((hmaxL H : Nat) : Int) := by
  have h := height_l rows H hl H.length 0 0 (by omega)
  rw [List.drop_zero, Nat.zero_max] at h
  exact h
/-- The inner round of Steps. -/
theorem steps_in {rows : List S28} {H : List Nat} {n : Nat} (hn : n ≤ H.length) (hl : H.length ≤ 2305843009213693952) (h : Nat) (hh : h + 1 ≤ 12)
    (hout : ∀ at_ s, at_ ≤ n → s ≤ at_ → ∃ k, freshetref08_Steps.l0 k (n : Int) (at_ : Nat) (s : Nat) (h : Nat) rows (H.map (Int.ofNat ·)) = some ((s + stepsN h ((H.take n).drop at_) : Nat) : Int)) :
    ∀ c i at_ s, i + c = n → at_ ≤ i → s ≤ at_ → (∀ x, x ∈ ((H.take n).drop at_).take (i - at_) → x ≤ h) →
      ∃ k, freshetref08_Steps.l1 k (n : Int) (at_ : Nat) (s : Nat) ((h + 1 : Nat) : Int) (i : Nat) rows (H.map (Int.ofNat ·)) = some ((s + stepsN (h + 1) ((H.take n).drop at_) : Nat) : Int) := by
  intro c
  induction c with
  | zero =>
    intro i at_ s hi hai hs hx
    obtain ⟨k, hk⟩ := hout at_ s (by omega) hs
    refine ⟨k + 1, ?_⟩
    rw [freshetref08_Steps.l1, if_neg (by omega), show wrap64 (((h + 1 : Nat) : Int) - 1) = ((h : Nat) : Int) by unfold wrap64; omega, hk, steps_end]
    intro x hx2
    refine hx x ?_
    rw [List.take_of_length_le (by rw [List.length_drop, List.length_take]; omega)]
    exact hx2
  | succ c ih =>
    intro i at_ s hi hai hs hx
    have h1 : i < H.length := by omega
    have e : rd (H.map (Int.ofNat ·)) (i : Int) = (H[i] : Int) := by
      show (H.map (Int.ofNat ·)).getD i 0 = _
      rw [List.getD_eq_getElem?_getD, List.getElem?_map, List.getElem?_eq_getElem h1]; rfl
    have e2 : (H.take n).drop at_ = ((H.take n).drop at_).take (i - at_) ++ H[i] :: (H.take n).drop (i + 1) := by
      have e3 : ((H.take n).drop at_).drop (i - at_) = H[i] :: (H.take n).drop (i + 1) := by
        rw [List.drop_drop, show at_ + (i - at_) = i by omega, List.drop_eq_getElem_cons (by rw [List.length_take]; omega), List.getElem_take]
      rw [← e3, List.take_append_drop]
    by_cases c1 : (H[i] : Int) ≥ ((h + 1 : Nat) : Int)
    · obtain ⟨k, hk⟩ := ih (i + 1) (i + 1) (s + 1) (by omega) (by omega) (by omega) (by intro x hx2; simp at hx2)
      refine ⟨k + 1, ?_⟩
      rw [freshetref08_Steps.l1, if_pos (by omega), if_pos (by omega), if_pos (by rw [List.length_map]; omega), e, if_pos c1, wrap_succ (by omega), wrap_succ (by omega), hk, e2, steps_go (by omega) hx]
      congr 2
      omega
    · obtain ⟨k, hk⟩ := ih (i + 1) at_ s (by omega) (by omega) (by omega) (by
        intro x hx2
        rw [show i + 1 - at_ = (i - at_) + 1 by omega, List.take_add_one] at hx2
        rcases List.mem_append.mp hx2 with hx2 | hx2
        · exact hx x hx2
        · rw [List.getElem?_drop, show at_ + (i - at_) = i by omega, List.getElem?_take, if_pos (by omega), List.getElem?_eq_getElem h1] at hx2
          simp at hx2
          omega)
      refine ⟨k + 1, ?_⟩
      rw [freshetref08_Steps.l1, if_pos (by omega), if_pos (by omega), if_pos (by rw [List.length_map]; omega), e, if_neg c1, wrap_succ (by omega), hk]
theorem steps_out {rows : List S28} {H : List Nat} {n : Nat} (hn : n ≤ H.length) (hl : H.length ≤ 2305843009213693952) : ∀ h, h ≤ 12 → ∀ at_ s, at_ ≤ n → s ≤ at_ →
    ∃ k, freshetref08_Steps.l0 k (n : Int) (at_ : Nat) (s : Nat) (h : Nat) rows (H.map (Int.ofNat ·)) = some ((s + stepsN h ((H.take n).drop at_) : Nat) : Int) := by
  intro h
  induction h with
  | zero =>
    intro _ at_ s _ _
    refine ⟨1, ?_⟩
    rw [freshetref08_Steps.l0, if_neg (by omega), stepsN]
    rfl
  | succ h ih =>
    intro hh at_ s ha hs
    obtain ⟨k, hk⟩ := steps_in (rows := rows) hn hl h hh (fun a t h1 h2 => ih (by omega) a t h1 h2) (n - at_) at_ at_ s (by omega) (Nat.le_refl _) hs (by intro x hx; simp at hx)
    refine ⟨k + 1, ?_⟩
    rw [freshetref08_Steps.l0, if_pos (by omega), hk]
theorem steps_f {key : ByteArray} {seq : Int} {l : List RH} (hs : SortedR (l.map (·.1))) (hl : l.length ≤ 2305843009213693952) : ∃ k, freshetref08_Steps.f k (l.map (·.1)) (l.map (fun x => (x.2 : Int))) key seq = some ((stepsN 12 ((ahdV key seq l).map (·.2)) : Nat) : Int) := by
  have hA := rows_ahd key seq l
  have hlen : (ahdR key seq (l.map (·.1))).length = (ahdV key seq l).length := by rw [← hA, List.length_map]
  have hp : (ahdV key seq l).length ≤ l.length := (List.takeWhile_prefix _).length_le
  have ht : l.take (ahdV key seq l).length = ahdV key seq l := (List.prefix_iff_eq_take.mp (List.takeWhile_prefix (fun x : RH => aheadB key seq x.1))).symm
  obtain ⟨k, hk⟩ := steps_out (rows := l.map (·.1)) (H := l.map (·.2)) (n := (ahdV key seq l).length) (by rw [List.length_map]; exact hp) (by rw [List.length_map]; exact hl) 12 (Nat.le_refl _) 0 0 (by omega) (by omega)
  have h1 := place_f (key := key) (seq := seq) hs (by rw [List.length_map]; exact hl)
  rw [List.drop_zero, ← List.map_take, ht, Nat.zero_add] at hk
  refine ⟨max k ((ahdR key seq (l.map (·.1))).length + 1), ?_⟩
  have e : l.map (fun x => (x.2 : Int)) = (l.map (·.2)).map (Int.ofNat ·) := by rw [List.map_map]; rfl
  unfold freshetref08_Steps.f
  rw [up_f (fun k => freshetref08_Place.mono _ _ _ k) h1 (Nat.le_max_right _ _), hlen, e]
  show freshetref08_Steps.l0 _ _ _ _ _ _ _ = _
  exact up_f (f := fun k => freshetref08_Steps.l0 k ((ahdV key seq l).length : Int) 0 0 12 (l.map (·.1)) ((l.map (·.2)).map (Int.ofNat ·))) (fun k => (freshetref08_Steps.mono_l k).1 _ _ _ _ _ _) hk (Nat.le_max_left _ _)
/-! ### What ref08.Put makes -/
def zRH : RH := (z28, 0)
def outP (l : List RH) (n : Nat) (p : RH) : Nat → List RH
  | 0 => []
  | i + 1 => (if i = n then outP l n p i ++ [p] else outP l n p i) ++ [l.getD i zRH]
theorem getD_RH {l : List RH} {i : Nat} (h : i < l.length) : l.getD i zRH = l[i] := by rw [List.getD_eq_getElem?_getD, List.getElem?_eq_getElem h]; rfl
theorem outP_le {l : List RH} {n : Nat} {p : RH} : ∀ {i : Nat}, i ≤ n → i ≤ l.length → outP l n p i = l.take i
  | 0, _, _ => by simp [outP]
  | i + 1, h, hl => by
    rw [outP, if_neg (by omega), outP_le (by omega) (by omega), getD_RH (by omega), List.take_add_one, List.getElem?_eq_getElem (by omega)]
    rfl
theorem outP_gt {l : List RH} {n : Nat} {p : RH} : ∀ {i : Nat}, n < i → i ≤ l.length → outP l n p i = l.take n ++ p :: (l.drop n).take (i - n)
  | 0, h, _ => by omega
  | i + 1, h, hl => by
    rw [outP, getD_RH (by omega)]
    by_cases c : i = n
    · subst c
      rw [if_pos rfl, outP_le (Nat.le_refl _) (by omega), List.append_assoc, show i + 1 - i = 1 by omega, List.drop_eq_getElem_cons (show i < l.length by omega)]
      rfl
    · rw [if_neg c, outP_gt (by omega) (by omega), List.append_assoc, show i + 1 - n = (i - n) + 1 by omega, List.take_add_one, List.getElem?_drop, show n + (i - n) = i by omega, List.getElem?_eq_getElem (by omega)]
      rfl
theorem outP_len (l : List RH) (n : Nat) (p : RH) : ∀ i, (outP l n p i).length ≤ i + (if n < i then 1 else 0)
  | 0 => by simp [outP]
  | i + 1 => by
    have ih := outP_len l n p i
    rw [outP, List.length_append]
    by_cases c : i = n
    · rw [if_pos c, List.length_append, if_pos (by omega)]
      rw [if_neg (by omega)] at ih
      simp
      omega
    · rw [if_neg c]
      by_cases d : n < i
      · rw [if_pos d] at ih; rw [if_pos (by omega)]; simp; omega
      · rw [if_neg d] at ih; rw [if_neg (by omega)]; simp; omega
theorem outP_ins {r : S28} {h : Nat} {l : List RH} (hn : (ahdV r.f0 r.f1 l).length < l.length) : outP l (ahdV r.f0 r.f1 l).length (r, h) l.length = insV r h l := by
  have ht : l.take (ahdV r.f0 r.f1 l).length = ahdV r.f0 r.f1 l := (List.prefix_iff_eq_take.mp (List.takeWhile_prefix (fun x : RH => aheadB r.f0 r.f1 x.1))).symm
  have hd : l.drop (ahdV r.f0 r.f1 l).length = behV r.f0 r.f1 l := by
    have h1 : ahdV r.f0 r.f1 l ++ behV r.f0 r.f1 l = l := List.takeWhile_append_dropWhile
    have h2 : ∀ A B : List RH, A ++ B = l → l.drop A.length = B := fun A B e => by rw [← e, List.drop_left]
    exact h2 _ _ h1
  rw [outP_gt hn (Nat.le_refl _), ht, hd, insV, List.take_of_length_le]
  rw [← hd, List.length_drop]
  exact Nat.le_refl _
theorem outP_end {r : S28} {h : Nat} {l : List RH} (hn : (ahdV r.f0 r.f1 l).length = l.length) : outP l (ahdV r.f0 r.f1 l).length (r, h) l.length ++ [(r, h)] = insV r h l := by
  have h1 : ahdV r.f0 r.f1 l ++ behV r.f0 r.f1 l = l := List.takeWhile_append_dropWhile
  have h3 : (behV r.f0 r.f1 l).length = 0 := by have := congrArg List.length h1; rw [List.length_append] at this; omega
  have h4 : ahdV r.f0 r.f1 l = l := by rw [List.eq_nil_of_length_eq_zero h3, List.append_nil] at h1; exact h1
  rw [outP_le (by omega) (Nat.le_refl _), List.take_length, insV, List.eq_nil_of_length_eq_zero h3, h4]
end Go.Proofs.Ytfemebenkbobnaa.SK
