import Derived.Test.YtfemebenkbobnaaME8
import Derived.Test.YtfemebenkbobnaaK09b
/- The document's table of rows in the plain: what With, Get, Range, Room, Ends, Place, There tell. Conditions: at most a million rows, in order. -/
namespace Go.Proofs.Ytfemebenkbobnaa.SM
set_option linter.unusedVariables false
set_option linter.unusedSimpArgs false
open Go.RowKit Go.Shelf Go.Proofs.YtfemebenkbobnaaW.PrintWords Go.Proofs.YtfemebenkbobnaaW.PrintLast Go.Proofs.YtfemebenkbobnaaW.PrintMore Go.Proofs.Ytfemebenkbobnaa.PB06
theorem ahd_behR (key : ByteArray) (seq : Int) (L : List S28) : ahdR key seq L ++ behR key seq L = L := List.takeWhile_append_dropWhile
theorem drop_ahd (key : ByteArray) (seq : Int) (L : List S28) : L.drop (ahdR key seq L).length = behR key seq L := by
  have h : ∀ A B : List S28, A ++ B = L → L.drop A.length = B := fun A B e => by rw [← e, List.drop_left]
  exact h _ _ (ahd_behR key seq L)
theorem len_ahd (key : ByteArray) (seq : Int) (L : List S28) : (ahdR key seq L).length + (behR key seq L).length = L.length := by
  rw [← List.length_append, ahd_behR]
theorem self_not (x : S28) : aheadB x.f0 x.f1 x = false := by
  rw [← Bool.not_eq_true, ahead_iff, less_irr]
  rintro (h | ⟨_, h⟩)
  · cases h
  · omega
theorem at_ahd {key : ByteArray} {seq : Int} {L : List S28} (hs : SortedR L) {i : Nat} (hi : i < L.length) : aheadB key seq (L.getD i z28) = decide (i < (ahdR key seq L).length) := by
  have e : L.getD i z28 = L[i] := by rw [List.getD_eq_getElem?_getD, List.getElem?_eq_getElem hi]; rfl
  rw [e]
  have hL := ahd_behR key seq L
  by_cases c : i < (ahdR key seq L).length
  · rw [decide_eq_true c]
    have : L[i] = (ahdR key seq L)[i] := by
      have h2 : (ahdR key seq L ++ behR key seq L)[i]'(by rw [hL]; exact hi) = (ahdR key seq L)[i] := List.getElem_append_left c
      simpa [hL] using h2
    rw [this]
    exact List.all_eq_true.mp (List.all_takeWhile (p := fun x => aheadB key seq x) (l := L)) _ (List.getElem_mem _)
  · rw [decide_eq_false c]
    have hlen := len_ahd key seq L
    have hd : behR key seq L = L.drop (ahdR key seq L).length := (drop_ahd key seq L).symm
    have hn : (ahdR key seq L).length < L.length := by omega
    have hh : aheadB key seq (L[(ahdR key seq L).length]) = false := by
      have h1 := List.head?_dropWhile_not (fun x : S28 => aheadB key seq x) L
      have h2 : (L.dropWhile fun x : S28 => aheadB key seq x).head? = some (L[(ahdR key seq L).length]) := by
        show (behR key seq L).head? = _
        rw [hd, List.head?_drop, List.getElem?_eq_getElem hn]
      rw [h2] at h1
      exact h1
    cases hq : aheadB key seq L[i] with
    | false => rfl
    | true =>
      by_cases hie : i = (ahdR key seq L).length
      · subst hie
        rw [hh] at hq; cases hq
      · have hb := List.pairwise_iff_getElem.mp hs (ahdR key seq L).length i hn hi (by omega)
        rw [bef_ahead hb hq] at hh
        cases hh
theorem ahead08_f (key : ByteArray) (seq : Int) (r : S28) : freshetref08_Ahead.f r.f0 r.f1 r.f2 r.f3 key seq = some (aheadB key seq r) := ahead_f key seq r
theorem wrap_succ {i : Nat} (h : i ≤ 4611686018427387904) : wrap64 ((i : Int) + 1) = ((i + 1 : Nat) : Int) := by unfold wrap64; omega
theorem place_l {key : ByteArray} {seq : Int} {L : List S28} (hs : SortedR L) (hl : L.length ≤ 2305843009213693952) : ∀ c i, i + c = (ahdR key seq L).length → freshetref08_Place.l0 (c + 1) L key seq (i : Int) = some ((ahdR key seq L).length : Int) := by
  have hn := len_ahd key seq L
  intro c
  induction c with
  | zero =>
    intro i hi
    rw [freshetref08_Place.l0]
    by_cases hL : i < L.length
    · rw [if_pos (by omega), if_pos (by omega)]
      have e : rd_T28 L (i : Int) = L.getD i z28 := rfl
      rw [e, ahead08_f, at_ahd hs hL, decide_eq_false (by omega)]
      show some ((i : Nat) : Int) = _
      rw [show i = (ahdR key seq L).length by omega]
    · rw [if_neg (by omega)]
      rw [show i = (ahdR key seq L).length by omega]
  | succ c ih =>
    intro i hi
    rw [freshetref08_Place.l0, if_pos (by omega), if_pos (by omega)]
    have e : rd_T28 L (i : Int) = L.getD i z28 := rfl
    rw [e, ahead08_f, at_ahd hs (by omega), decide_eq_true (by omega), wrap_succ (by omega)]
    show freshetref08_Place.l0 (c + 1) L key seq ((i + 1 : Nat) : Int) = _
    exact ih (i + 1) (by omega)
theorem place_f {key : ByteArray} {seq : Int} {L : List S28} (hs : SortedR L) (hl : L.length ≤ 2305843009213693952) : freshetref08_Place.f ((ahdR key seq L).length + 1) L key seq = some ((ahdR key seq L).length : Int) :=
  place_l hs hl _ 0 (by omega)
theorem toList_inj {a b : ByteArray} (h : a.toList = b.toList) : a = b := Go.WideShapes.bytes_inj (by rw [ByteArray.toList_eq, ByteArray.toList_eq] at h; exact h)
theorem there_f {r : S28} {L : List S28} (hs : SortedR L) (hl : L.length ≤ 2305843009213693952) : freshetref08_There.f ((ahdR r.f0 r.f1 L).length + 1) L r.f0 r.f1 = some (takenR r L) := by
  have hn := len_ahd r.f0 r.f1 L
  have hd := drop_ahd r.f0 r.f1 L
  unfold freshetref08_There.f
  rw [place_f hs hl]
  show (if ((ahdR r.f0 r.f1 L).length : Int) < (L.length : Int) then _ else _) = _
  unfold takenR
  by_cases hL : (ahdR r.f0 r.f1 L).length < L.length
  · rw [if_pos (by omega), if_pos (by omega)]
    have e : rd_T28 L ((ahdR r.f0 r.f1 L).length : Int) = L[(ahdR r.f0 r.f1 L).length] := by
      show L.getD (ahdR r.f0 r.f1 L).length z28 = _
      rw [List.getD_eq_getElem?_getD, List.getElem?_eq_getElem hL]; rfl
    rw [e, ← hd, List.drop_eq_getElem_cons hL]
    generalize L[(ahdR r.f0 r.f1 L).length] = y
    show _ = some (decide (y.f0 = r.f0) && decide (y.f1 = r.f1))
    by_cases c : y.f0.toList = r.f0.toList
    · rw [if_pos c, decide_eq_true (toList_inj c), Bool.true_and]
      rfl
    · rw [if_neg c, decide_eq_false (fun h => c (by rw [h])), Bool.false_and]
  · rw [if_neg (by omega), ← hd, List.drop_eq_nil_of_le (by omega)]
theorem up_f {α : Type} {f : Nat → Option α} (hm : ∀ k, LeO (f k) (f (k + 1))) {k : Nat} {r : α} (h : f k = some r) {m : Nat} (hk : k ≤ m) : f m = some r := by
  obtain ⟨d, rfl⟩ := Nat.exists_eq_add_of_le hk
  exact more_rounds hm k d r h
theorem with_f {r : S28} {L : List S28} (hs : SortedR L) (hl : L.length ≤ 1000000) (ht : takenR r L = false) : freshetref09_With.f ((ahdR r.f0 r.f1 L).length + 1) L r.f0 r.f1 r.f2 r.f3 = some (putR r L) := by
  have hn := len_ahd r.f0 r.f1 L
  have hd := drop_ahd r.f0 r.f1 L
  have htk : L.take (ahdR r.f0 r.f1 L).length = ahdR r.f0 r.f1 L := (List.prefix_iff_eq_take.mp (List.takeWhile_prefix (fun x : S28 => aheadB r.f0 r.f1 x))).symm
  unfold freshetref09_With.f
  rw [place_f hs (by omega)]
  simp only [Option.bind_some]
  rw [if_pos (by omega), if_pos (by omega), Int.toNat_natCast, htk, hd, if_pos (by simp; omega), if_pos (by simp; omega), if_pos (by simp; omega), putR, if_neg (by rw [ht]; decide)]
  simp
theorem w64 {x : Int} {n : Nat} (h : x = (n : Int)) (hn : n ≤ 4611686018427387904) : wrap64 x = (n : Int) := by rw [h]; unfold wrap64; omega
theorem roomS_drop {L : List S28} {i : Nat} (h : i < L.length) : roomS (L.drop i) = ((L.getD i z28).f0.size + (L.getD i z28).f3.size + 16) + roomS (L.drop (i + 1)) := by
  rw [List.drop_eq_getElem_cons h, roomS, List.getD_eq_getElem?_getD, List.getElem?_eq_getElem h]
  rfl
theorem room_l {L : List S28} (hl : L.length ≤ 1000000) : ∀ c i (a : Nat), i + c = L.length → a + roomS (L.drop i) ≤ 1000000000000 → freshetref09_Room.l0 (c + 1) L (a : Int) (i : Int) = some ((a + roomS (L.drop i) : Nat) : Int)
  | 0, i, a, hi, ha => by
    rw [freshetref09_Room.l0, if_neg (by omega), List.drop_eq_nil_of_le (by omega)]
    rfl
  | c + 1, i, a, hi, ha => by
    have hd := roomS_drop (L := L) (i := i) (by omega)
    have e : rd_T28 L (i : Int) = L.getD i z28 := rfl
    have ih := room_l hl c (i + 1) (a + (L.getD i z28).f0.size + (L.getD i z28).f3.size + 16) (by omega) (by omega)
    rw [freshetref09_Room.l0, if_pos (by omega), if_pos (by omega), e, wrap_succ (by omega)]
    generalize (L.getD i z28).f0.size = p at *
    generalize (L.getD i z28).f3.size = q at *
    rw [w64 (x := (a : Int) + (p : Int)) (n := a + p) (by omega) (by omega), w64 (x := ((a + p : Nat) : Int) + (q : Int)) (n := a + p + q) (by omega) (by omega), w64 (x := ((a + p + q : Nat) : Int) + 16) (n := a + p + q + 16) (by omega) (by omega), ih, hd]
    congr 2
    omega
theorem room_f {L : List S28} (hl : L.length ≤ 1000000) (hr : roomS L ≤ 1000000000000) : freshetref09_Room.f (L.length + 1) L = some (roomS L : Int) := by
  have h := room_l hl L.length 0 0 (by omega) (by rw [List.drop_zero]; omega)
  rw [List.drop_zero, Nat.zero_add] at h
  exact h
/-- The rows of a range, one by one. -/
def rangeF (from_ to_ : ByteArray) (L : List S28) : List S28 := L.filter fun x => !Op.bytesLess x.f0.toList from_.toList && within to_ x
theorem range_l {from_ to_ : ByteArray} {L : List S28} (hl : L.length ≤ 1000000) : ∀ c i acc, i + c = L.length → acc.length ≤ i → freshetref09_Range.l0 (c + 1) L from_ to_ acc (i : Int) = some (acc ++ rangeF from_ to_ (L.drop i))
  | 0, i, acc, hi, ha => by
    rw [freshetref09_Range.l0, if_neg (by omega), List.drop_eq_nil_of_le (by omega)]
    simp [rangeF]
  | c + 1, i, acc, hi, ha => by
    have hi2 : i < L.length := by omega
    have e : rd_T28 L (i : Int) = L[i] := by
      show L.getD i z28 = _
      rw [List.getD_eq_getElem?_getD, List.getElem?_eq_getElem hi2]; rfl
    have ih1 := range_l (from_ := from_) (to_ := to_) hl c (i + 1) acc (by omega) (by omega)
    have ih2 := range_l (from_ := from_) (to_ := to_) hl c (i + 1) (acc ++ [L[i]]) (by omega) (by simp; omega)
    rw [freshetref09_Range.l0, if_pos (by omega), if_pos (by omega), e, wrap_succ (by omega), List.drop_eq_getElem_cons hi2]
    by_cases c1 : Op.bytesLess L[i].f0.toList from_.toList = true
    · rw [if_pos c1, ih1, rangeF, rangeF, List.filter_cons_of_neg (by rw [c1]; simp)]
    · rw [if_neg c1]
      rw [Bool.not_eq_true] at c1
      by_cases c2 : to_.toList = []
      · rw [if_pos c2, if_pos (by omega)]
        have e2 : within to_ L[i] = true := by unfold within; rw [c2]; rfl
        rw [ih2, rangeF, rangeF, List.filter_cons_of_pos (by rw [c1, e2]; rfl), List.append_assoc]
        rfl
      · rw [if_neg c2]
        have e2 : within to_ L[i] = Op.bytesLess L[i].f0.toList to_.toList := by
          unfold within
          rw [show to_.toList.isEmpty = false from by cases hq : to_.toList with | nil => exact absurd hq c2 | cons a b => rfl, Bool.false_or]
        by_cases c3 : Op.bytesLess L[i].f0.toList to_.toList = true
        · rw [if_pos c3, if_pos (by omega), ih2, rangeF, rangeF, List.filter_cons_of_pos (by rw [c1, e2, c3]; rfl), List.append_assoc]
          rfl
        · rw [if_neg c3, ih1, rangeF, rangeF, List.filter_cons_of_neg (by rw [e2, Bool.eq_false_iff.mpr c3]; simp)]
theorem range_f {from_ to_ : ByteArray} {L : List S28} (hl : L.length ≤ 1000000) : freshetref09_Range.f (L.length + 1) L from_ to_ = some (rangeF from_ to_ L) := by
  have h := range_l (from_ := from_) (to_ := to_) hl L.length 0 [] (by omega) (by simp)
  rw [List.drop_zero, List.nil_append] at h
  exact h
theorem drop_filter {α : Type} {p : α → Bool} : ∀ {l : List α}, l.Pairwise (fun x y => p y = true → p x = true) → l.dropWhile p = l.filter (fun x => !p x)
  | [], _ => rfl
  | x :: r, h => by
    obtain ⟨h1, h2⟩ := List.pairwise_cons.mp h
    by_cases c : p x = true
    · rw [List.dropWhile_cons_of_pos c, List.filter_cons_of_neg (by rw [c]; simp), drop_filter h2]
    · rw [List.dropWhile_cons_of_neg c, List.filter_cons_of_pos (by rw [Bool.eq_false_iff.mpr c]; rfl)]
      congr 1
      symm
      rw [List.filter_eq_self]
      intro y hy
      rw [Bool.eq_false_iff.mpr (fun hq => c (h1 y hy hq))]
      rfl
theorem take_filter {α : Type} {p : α → Bool} : ∀ {l : List α}, l.Pairwise (fun x y => p y = true → p x = true) → l.takeWhile p = l.filter p
  | [], _ => rfl
  | x :: r, h => by
    obtain ⟨h1, h2⟩ := List.pairwise_cons.mp h
    by_cases c : p x = true
    · rw [List.takeWhile_cons_of_pos c, List.filter_cons_of_pos c, take_filter h2]
    · rw [List.takeWhile_cons_of_neg c, List.filter_cons_of_neg c]
      symm
      rw [List.filter_eq_nil_iff]
      intro y hy hq
      exact c (h1 y hy hq)
theorem bef_key {x y : S28} (h : bef x y) : Op.bytesLess x.f0.toList y.f0.toList = true ∨ x.f0.toList = y.f0.toList := by
  unfold bef at h
  rw [ahead_iff] at h
  exact h.imp id (·.1)
theorem less_bef {x y : S28} {k : List UInt8} (h : bef x y) (hy : Op.bytesLess y.f0.toList k = true) : Op.bytesLess x.f0.toList k = true := by
  rcases bef_key h with h | h
  · exact less_trans h hy
  · rw [h]; exact hy
/-- A range, one by one, is the one that is told. -/
theorem rangeF_is {from_ to_ : ByteArray} {L : List S28} (hs : SortedR L) (hu : ∀ x, x ∈ L → x.f1 ≤ 18446744073709551615) : rangeF from_ to_ L = rangeR to_ (behR from_ 18446744073709551615 L) := by
  have h1 : L.Pairwise fun x y => Op.bytesLess y.f0.toList from_.toList = true → Op.bytesLess x.f0.toList from_.toList = true := hs.imp fun hb hy => less_bef hb hy
  have h2 : L.Pairwise fun x y => within to_ y = true → within to_ x = true := hs.imp fun hb hy => by
    unfold within at hy ⊢
    rw [Bool.or_eq_true] at hy ⊢
    exact hy.imp id (less_bef hb)
  rw [behR_max hu, drop_filter (p := fun x : S28 => Op.bytesLess x.f0.toList from_.toList) h1]
  unfold rangeR rangeF
  rw [take_filter (p := fun x => within to_ x) (h2.sublist (List.filter_sublist)), List.filter_filter]
  congr 1
  funext x
  exact Bool.and_comm _ _
/-- What a key has at a number, one by one. -/
def getF (key : ByteArray) (seq : Int) (L : List S28) : Option S28 := L.find? fun x => decide (x.f0 = key) && decide (x.f1 ≤ seq)
def getV (o : Option S28) : ByteArray × Int × Int × ByteArray × Bool := match o with
  | none => (⟨#[]⟩, 0, 0, ⟨#[]⟩, false)
  | some x => (x.f0, x.f1, x.f2, x.f3, true)
theorem get_l {key : ByteArray} {seq : Int} {L : List S28} (hl : L.length ≤ 1000000) : ∀ c i, i + c = L.length → freshetref09_Get.l0 (c + 1) L key seq (i : Int) = some (getV (getF key seq (L.drop i)))
  | 0, i, hi => by
    rw [freshetref09_Get.l0, if_neg (by omega), List.drop_eq_nil_of_le (by omega)]
    rfl
  | c + 1, i, hi => by
    have hi2 : i < L.length := by omega
    have e : rd_T28 L (i : Int) = L[i] := by
      show L.getD i z28 = _
      rw [List.getD_eq_getElem?_getD, List.getElem?_eq_getElem hi2]; rfl
    have ih := get_l (key := key) (seq := seq) hl c (i + 1) (by omega)
    rw [freshetref09_Get.l0, if_pos (by omega), if_pos (by omega), e, wrap_succ (by omega), List.drop_eq_getElem_cons hi2]
    generalize L[i] = x at *
    unfold getF at ih ⊢
    by_cases c1 : x.f0.toList = key.toList
    · rw [if_pos c1]
      by_cases c2 : x.f1 ≤ seq
      · rw [if_pos c2, List.find?_cons_of_pos (by rw [decide_eq_true (toList_inj c1), decide_eq_true c2]; rfl)]
        rfl
      · rw [if_neg c2, ih, List.find?_cons_of_neg (by rw [decide_eq_false c2, Bool.and_false]; decide)]
    · rw [if_neg c1, ih, List.find?_cons_of_neg (by rw [decide_eq_false (fun h => c1 (by rw [h])), Bool.false_and]; decide)]
theorem get_f {key : ByteArray} {seq : Int} {L : List S28} (hl : L.length ≤ 1000000) : freshetref09_Get.f (L.length + 1) L key seq = some (getV (getF key seq L)) := by
  have h := get_l (key := key) (seq := seq) hl L.length 0 (by omega)
  rw [List.drop_zero] at h
  exact h
/-- The search of a key at a number finds just that row. -/
theorem getF_is {key : ByteArray} {seq : Int} {L : List S28} (hs : SortedR L) : getF key seq L = match behR key seq L with
    | [] => none
    | y :: _ => if y.f0 = key then some y else none := by
  have e := ahdR_beh key seq L
  have hA : (ahdR key seq L).find? (fun x => decide (x.f0 = key) && decide (x.f1 ≤ seq)) = none := by
    rw [List.find?_eq_none]
    intro x hx hc
    have h1 := ahdR_all x hx
    rw [ahead_iff] at h1
    rw [Bool.and_eq_true, decide_eq_true_eq, decide_eq_true_eq] at hc
    rcases h1 with h1 | h1
    · rw [hc.1, less_irr] at h1; cases h1
    · omega
  have hfa : getF key seq L = (behR key seq L).find? (fun x => decide (x.f0 = key) && decide (x.f1 ≤ seq)) := by
    have h2 : getF key seq (ahdR key seq L ++ behR key seq L) = (behR key seq L).find? (fun x => decide (x.f0 = key) && decide (x.f1 ≤ seq)) := by
      unfold getF
      rw [List.find?_append, hA]
      rfl
    rw [e] at h2
    exact h2
  rw [hfa]
  have hh := behR_head (key := key) (seq := seq) (l := L)
  have hso : (behR key seq L).Pairwise bef := hs.sublist (List.dropWhile_sublist _)
  cases hq : behR key seq L with
  | nil => rfl
  | cons y T =>
    rw [hq] at hh hso
    have hy := hh y rfl
    rw [← Bool.not_eq_true, ahead_iff] at hy
    by_cases c : y.f0 = key
    · have c2 : y.f1 ≤ seq := by
        by_cases c3 : y.f1 > seq
        · exact absurd (.inr ⟨by rw [c], c3⟩) hy
        · omega
      show _ = if y.f0 = key then some y else none
      rw [if_pos c, List.find?_cons_of_pos (by rw [decide_eq_true c, decide_eq_true c2]; rfl)]
    · show _ = if y.f0 = key then some y else none
      rw [if_neg c, List.find?_eq_none]
      have hlt : Op.bytesLess key.toList y.f0.toList = true := less_total (by cases hz : Op.bytesLess y.f0.toList key.toList with | false => rfl | true => exact absurd (.inl hz) hy) (fun h => c (toList_inj h))
      intro x hx hc
      rw [Bool.and_eq_true, decide_eq_true_eq, decide_eq_true_eq] at hc
      rcases List.mem_cons.mp hx with rfl | hx
      · exact c hc.1
      · rcases bef_key ((List.pairwise_cons.mp hso).1 x hx) with h | h
        · have h3 := less_trans hlt h
          rw [hc.1, less_irr] at h3; cases h3
        · exact c (toList_inj (h.trans (by rw [hc.1])))
/-! ### The least and the greatest number -/
structure IsLeast (L : List S28) (m : Int) : Prop where
  le : ∀ x, x ∈ L → m ≤ x.f1
  is : (L = [] ∧ m = 0) ∨ ∃ x, x ∈ L ∧ x.f1 = m
structure IsGreat (L : List S28) (m : Int) : Prop where
  ge : ∀ x, x ∈ L → x.f1 ≤ m
  lo : 0 ≤ m
  is : m = 0 ∨ ∃ x, x ∈ L ∧ x.f1 = m
theorem IsLeast.one {L L' : List S28} {m m' : Int} (h : IsLeast L m) (h' : IsLeast L' m') (e : ∀ x, x ∈ L ↔ x ∈ L') : m = m' := by
  rcases h.is with ⟨rfl, rfl⟩ | ⟨x, hx, rfl⟩
  · rcases h'.is with ⟨_, rfl⟩ | ⟨y, hy, _⟩
    · rfl
    · have := (e y).mpr hy
      simp at this
  · rcases h'.is with ⟨rfl, rfl⟩ | ⟨y, hy, rfl⟩
    · have := (e x).mp hx
      simp at this
    · have h1 := h.le y ((e y).mpr hy)
      have h2 := h'.le x ((e x).mp hx)
      omega
theorem IsGreat.one {L L' : List S28} {m m' : Int} (h : IsGreat L m) (h' : IsGreat L' m') (e : ∀ x, x ∈ L ↔ x ∈ L') : m = m' := by
  have a : m ≤ m' := by
    rcases h.is with rfl | ⟨x, hx, rfl⟩
    · exact h'.lo
    · exact h'.ge x ((e x).mp hx)
  have b : m' ≤ m := by
    rcases h'.is with rfl | ⟨x, hx, rfl⟩
    · exact h.lo
    · exact h.ge x ((e x).mpr hx)
  omega
theorem IsLeast.add {L L' : List S28} {m : Int} {r : S28} (h : IsLeast L m) (h1 : ∀ x, x ∈ L → 1 ≤ x.f1) (hm : ∀ x, x ∈ L' ↔ x ∈ L ∨ x = r) : IsLeast L' (mn (if m = 0 then r.f1 else m) r.f1) := by
  have hr : r ∈ L' := (hm r).mpr (.inr rfl)
  unfold mn
  rcases h.is with ⟨rfl, rfl⟩ | ⟨x, hx, rfl⟩
  · rw [if_pos rfl, if_neg (by omega)]
    refine ⟨fun x hx => ?_, .inr ⟨r, hr, rfl⟩⟩
    rcases (hm x).mp hx with hx | rfl
    · simp at hx
    · exact Int.le_refl _
  · have h2 := h1 x hx
    have e0 : (if x.f1 = 0 then r.f1 else x.f1) = x.f1 := if_neg (by omega)
    simp only [e0]
    by_cases c : r.f1 < x.f1
    · rw [if_pos c]
      refine ⟨fun y hy => ?_, .inr ⟨r, hr, rfl⟩⟩
      rcases (hm y).mp hy with hy | rfl
      · have := h.le y hy; omega
      · exact Int.le_refl _
    · rw [if_neg c]
      refine ⟨fun y hy => ?_, .inr ⟨x, (hm x).mpr (.inl hx), rfl⟩⟩
      rcases (hm y).mp hy with hy | rfl
      · exact h.le y hy
      · omega
theorem IsGreat.add {L L' : List S28} {m : Int} {r : S28} (h : IsGreat L m) (hm : ∀ x, x ∈ L' ↔ x ∈ L ∨ x = r) : IsGreat L' (mx m r.f1) := by
  have hr : r ∈ L' := (hm r).mpr (.inr rfl)
  have hlo := h.lo
  unfold mx
  by_cases c : m < r.f1
  · rw [if_pos c]
    refine ⟨fun y hy => ?_, by omega, .inr ⟨r, hr, rfl⟩⟩
    rcases (hm y).mp hy with hy | rfl
    · have := h.ge y hy; omega
    · exact Int.le_refl _
  · rw [if_neg c]
    refine ⟨fun y hy => ?_, hlo, ?_⟩
    · rcases (hm y).mp hy with hy | rfl
      · exact h.ge y hy
      · omega
    · rcases h.is with h2 | ⟨x, hx, h2⟩
      · exact .inl h2
      · exact .inr ⟨x, (hm x).mpr (.inl hx), h2⟩
theorem take_mem {L : List S28} {i : Nat} (h : i < L.length) (x : S28) : x ∈ L.take (i + 1) ↔ x ∈ L.take i ∨ x = L[i] := by
  rw [List.take_add_one, List.getElem?_eq_getElem h, List.mem_append]
  simp
theorem ends_l {L : List S28} (hl : L.length ≤ 1000000) (h1 : ∀ x, x ∈ L → 1 ≤ x.f1) : ∀ c i m g, i + c = L.length → IsLeast (L.take i) m → IsGreat (L.take i) g → ∃ k m' g', freshetref09_Ends.l0 k L m g (i : Int) = some (m', g') ∧ IsLeast L m' ∧ IsGreat L g'
  | 0, i, m, g, hi, hm, hg => by
    rw [List.take_of_length_le (by omega)] at hm hg
    exact ⟨1, m, g, by rw [freshetref09_Ends.l0, if_neg (by omega)], hm, hg⟩
  | c + 1, i, m, g, hi, hm, hg => by
    have hi2 : i < L.length := by omega
    have e : rd_T28 L (i : Int) = L[i] := by
      show L.getD i z28 = _
      rw [List.getD_eq_getElem?_getD, List.getElem?_eq_getElem hi2]; rfl
    have hlo : ∀ x, x ∈ L.take i → 1 ≤ x.f1 := fun x hx => h1 x (List.mem_of_mem_take hx)
    have hm2 := hm.add hlo (take_mem hi2)
    have hg2 := hg.add (take_mem hi2)
    obtain ⟨k, m', g', hk, hm3, hg3⟩ := ends_l hl h1 c (i + 1) _ _ (by omega) hm2 hg2
    refine ⟨k + 2, m', g', ?_, hm3, hg3⟩
    rw [← hk]
    have hx1 : 1 ≤ L[i].f1 := h1 _ (List.getElem_mem _)
    have hgr : mx g L[i].f1 = if L[i].f1 > g then L[i].f1 else g := by unfold mx; rfl
    rw [freshetref09_Ends.l0, if_pos (by omega)]
    by_cases c0 : (i : Int) = 0
    · have hi0 : i = 0 := by omega
      subst hi0
      have hmz : m = 0 := by
        rcases hm.is with ⟨_, h⟩ | ⟨x, hx, _⟩
        · exact h
        · simp at hx
      rw [if_pos c0, freshetref09_Ends.j1, if_pos rfl, if_pos (by omega), if_pos (by omega), e, hmz, wrap_succ (by omega), hgr]
      have hmn : mn (if (0 : Int) = 0 then L[0].f1 else 0) L[0].f1 = L[0].f1 := by unfold mn; simp
      rw [hmn]
      by_cases c2 : L[0].f1 > g
      · rw [if_pos c2, if_pos c2]
      · rw [if_neg c2, if_neg c2]
    · rw [if_neg c0, if_pos (by omega), e]
      have hmne : m ≠ 0 := by
        rcases hm.is with ⟨h, _⟩ | ⟨x, hx, h⟩
        · have h5 : (L.take i).length = 0 := by rw [h]; rfl
          rw [List.length_take] at h5
          omega
        · have := hlo x hx
          omega
      have hmn : mn (if m = 0 then L[i].f1 else m) L[i].f1 = if L[i].f1 < m then L[i].f1 else m := by rw [if_neg hmne]; rfl
      rw [hmn, hgr, freshetref09_Ends.j1]
      by_cases c1 : L[i].f1 < m
      · rw [decide_eq_true c1, if_pos rfl, if_pos (by omega), if_pos (by omega), e, wrap_succ (by omega), if_pos c1]
        by_cases c2 : L[i].f1 > g
        · rw [if_pos c2, if_pos c2]
        · rw [if_neg c2, if_neg c2]
      · rw [decide_eq_false c1, if_neg (by simp), if_pos (by omega), if_pos (by omega), e, wrap_succ (by omega), if_neg c1]
        by_cases c2 : L[i].f1 > g
        · rw [if_pos c2, if_pos c2]
        · rw [if_neg c2, if_neg c2]
theorem ends_f {L : List S28} (hl : L.length ≤ 1000000) (h1 : ∀ x, x ∈ L → 1 ≤ x.f1) : ∃ k m g, freshetref09_Ends.f k L = some (m, g) ∧ IsLeast L m ∧ IsGreat L g :=
  ends_l hl h1 L.length 0 0 0 (by omega) ⟨fun x hx => by simp at hx, .inl ⟨rfl, rfl⟩⟩ ⟨fun x hx => by simp at hx, Int.le_refl _, .inl rfl⟩
end Go.Proofs.Ytfemebenkbobnaa.SM
