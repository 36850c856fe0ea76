import Derived.Test.YtfemebenkbobnaaME8
/- Batches in a row, in the plain: their numbers, what tables of them hold, and what a key has there. Conditions: each batch may be (Check). -/
namespace Go.Proofs.Ytfemebenkbobnaa.SM
set_option linter.unusedVariables false
set_option linter.unusedSimpArgs false
open Go.RowKit Go.Shelf Go.Proofs.YtfemebenkbobnaaW.PrintWords Go.Proofs.YtfemebenkbobnaaW.PrintLast Go.Proofs.YtfemebenkbobnaaW.PrintMore Go.Proofs.Ytfemebenkbobnaa.PB06
/-! ### Get, as a search -/
def pG (key : ByteArray) (seq : Int) (x : S28) : Bool := decide (x.f0 = key) && decide (x.f1 ≤ seq)
def getG (key : ByteArray) (seq : Int) (L : List S28) : Option S28 := L.find? (pG key seq)
theorem pG_iff {key : ByteArray} {seq : Int} {x : S28} : pG key seq x = true ↔ x.f0 = key ∧ x.f1 ≤ seq := by
  unfold pG
  rw [Bool.and_eq_true, decide_eq_true_eq, decide_eq_true_eq]
theorem bytesEq {a b : ByteArray} (h : a.toList = b.toList) : a = b := Go.WideShapes.bytes_inj (by rw [ByteArray.toList_eq, ByteArray.toList_eq] at h; exact h)
theorem getG_is {key : ByteArray} {seq : Int} {L : List S28} (hs : SortedR L) : getG key seq L = match behR key seq L with
    | [] => none
    | y :: _ => if y.f0 = key then some y else none := by
  have e := ahdR_beh key seq L
  have hA : (ahdR key seq L).find? (pG key seq) = none := by
    rw [List.find?_eq_none]
    intro x hx hc
    have h1 := ahdR_all x hx
    rw [ahead_iff] at h1
    rw [pG_iff] at hc
    rcases h1 with h1 | h1
    · rw [hc.1, less_irr] at h1; cases h1
    · omega
  have hfa : getG key seq L = (behR key seq L).find? (pG key seq) := by
    have h2 : getG key seq (ahdR key seq L ++ behR key seq L) = (behR key seq L).find? (pG key seq) := by
      unfold getG
      rw [List.find?_append, hA]
      rfl
    rw [e] at h2
    exact h2
  rw [hfa]
  have hh := behR_head (key := key) (seq := seq) (l := L)
  have hso : (behR key seq L).Pairwise bef := hs.sublist (List.dropWhile_sublist _)
  cases hq : behR key seq L with
  | nil => rfl
  | cons y T =>
    rw [hq] at hh hso
    have hy := hh y rfl
    rw [← Bool.not_eq_true, ahead_iff] at hy
    by_cases c : y.f0 = key
    · have c2 : y.f1 ≤ seq := by
        by_cases c3 : y.f1 > seq
        · exact absurd (.inr ⟨by rw [c], c3⟩) hy
        · omega
      show _ = if y.f0 = key then some y else none
      rw [if_pos c, List.find?_cons_of_pos (pG_iff.mpr ⟨c, c2⟩)]
    · show _ = if y.f0 = key then some y else none
      rw [if_neg c, List.find?_eq_none]
      have hlt : Op.bytesLess key.toList y.f0.toList = true := less_total (by cases hz : Op.bytesLess y.f0.toList key.toList with | false => rfl | true => exact absurd (.inl hz) hy) (fun h => c (bytesEq h))
      intro x hx hc
      rw [pG_iff] at hc
      rcases List.mem_cons.mp hx with rfl | hx
      · exact c hc.1
      · have hb := (List.pairwise_cons.mp hso).1 x hx
        unfold bef at hb
        rw [ahead_iff] at hb
        rcases hb with h | h
        · have h3 := less_trans hlt h
          rw [hc.1, less_irr] at h3; cases h3
        · exact c (bytesEq (h.1.trans (by rw [hc.1])))
theorem get_valsG (key : ByteArray) (seq : Int) {rs : List Nd} {L : List S28} (hL : (vals rs).map (·.1) = L) (hs : SortedR L) : getRow key seq rs = (getG key seq L).getD zrow ∧ getIs key seq rs = (getG key seq L).isSome := by
  have e : behR key seq L = (behV key seq (vals rs)).map (·.1) := by
    rw [← hL]
    unfold behR behV
    rw [List.dropWhile_map]
    rfl
  rw [getG_is hs, e, getRow_v, getIs_v]
  unfold getRowV getIsV
  cases behV key seq (vals rs) with
  | nil => exact ⟨rfl, rfl⟩
  | cons y T =>
    show (if y.1.f0 = key then y.1 else zrow) = (if y.1.f0 = key then some y.1 else none).getD zrow ∧ decide (y.1.f0 = key) = (if y.1.f0 = key then some y.1 else none).isSome
    by_cases c : y.1.f0 = key
    · rw [if_pos c, if_pos c, decide_eq_true c]
      exact ⟨rfl, rfl⟩
    · rw [if_neg c, if_neg c, decide_eq_false c]
      exact ⟨rfl, rfl⟩
theorem getG_congr {key : ByteArray} {s1 s2 : Int} {L1 L2 : List S28} (h1 : SortedR L1) (h2 : SortedR L2) (e : ∀ x, (x ∈ L1 ∧ x.f0 = key ∧ x.f1 ≤ s1) ↔ (x ∈ L2 ∧ x.f0 = key ∧ x.f1 ≤ s2)) : getG key s1 L1 = getG key s2 L2 := by
  unfold getG
  rw [← List.head?_filter, ← List.head?_filter]
  congr 1
  refine sorted_ext (h1.sublist List.filter_sublist) (h2.sublist List.filter_sublist) (fun x => ?_)
  rw [List.mem_filter, List.mem_filter, pG_iff, pG_iff]
  exact e x
theorem getG_some {key : ByteArray} {seq : Int} {L : List S28} {x : S28} (h : getG key seq L = some x) : x.f0 = key ∧ x.f1 ≤ seq := pG_iff.mp (List.find?_some h)
/-! ### Numbers -/
def seqN (ls : List (List S72)) : Nat → Nat
  | 0 => 1
  | j + 1 => seqN ls j + (ls.getD j []).length
def RJ (ls : List (List S72)) (j : Nat) : List S28 := rowsL (seqN ls j : Int) 0 (ls.getD j [])
theorem seqN_mono (ls : List (List S72)) {i j : Nat} (h : i ≤ j) : seqN ls i ≤ seqN ls j := by
  obtain ⟨d, rfl⟩ := Nat.exists_eq_add_of_le h
  clear h
  induction d with
  | zero => exact Nat.le_refl _
  | succ d ih => show seqN ls i ≤ seqN ls (i + d) + _; omega
theorem seqN_pos (ls : List (List S72)) (i : Nat) : 1 ≤ seqN ls i := seqN_mono ls (i := 0) (Nat.zero_le _)
theorem seqN_le {ls : List (List S72)} : ∀ i, (∀ j, j < i → (ls.getD j []).length ≤ 20) → seqN ls i ≤ 1 + 20 * i
  | 0, _ => Nat.le_refl _
  | i + 1, h => by
    have h1 := seqN_le i (fun j hj => h j (by omega))
    have h2 := h i (by omega)
    show seqN ls i + _ ≤ _
    omega
theorem RJ_num {ls : List (List S72)} {j : Nat} {x : S28} (h : x ∈ RJ ls j) : (seqN ls j : Int) ≤ x.f1 ∧ x.f1 < (seqN ls (j + 1) : Int) := by
  obtain ⟨k, y, hy, hk, rfl⟩ := rowsL_mem h
  show (seqN ls j : Int) ≤ (seqN ls j : Int) + (k : Int) ∧ (seqN ls j : Int) + (k : Int) < ((seqN ls j + (ls.getD j []).length : Nat) : Int)
  omega
/-- A table holds just the batches lo, .., hi - 1. -/
def Has (ls : List (List S72)) (lo hi : Nat) (t : Ts) : Prop := ∀ x, x ∈ t.l.map (·.1) ↔ ∃ j, lo ≤ j ∧ j < hi ∧ x ∈ RJ ls j
theorem has_nil (ls : List (List S72)) (j : Nat) : Has ls j j ⟨[], 0, 0, 0⟩ := fun x => ⟨fun h => by simp at h, fun ⟨k, h1, h2, _⟩ => by omega⟩
theorem free_num {r : S28} {L : List S28} (h : ∀ y, y ∈ L → y.f1 ≠ r.f1) : takenR r L = false := not_taken fun y hy hs => h y hy hs.2
theorem addT_has {hs : List Int} {n : Int} {l : List S72} {t : Ts} (hc : checkS n l = 0) (hn : ∀ y, y ∈ t.l.map (·.1) → y.f1 < n ∨ n + (l.length : Int) ≤ y.f1) : (∀ r, r ∈ rowsL n 0 l → takenV r t.l = false) ∧ ∀ x, x ∈ (addT hs n l t).l.map (·.1) ↔ x ∈ t.l.map (·.1) ∨ x ∈ rowsL n 0 l := by
  have hlen : (rowsL n 0 l).length = l.length := rowsL_len n 0 l
  have g : ∀ j (hj : j < l.length), (rowsL n 0 l).getD j z28 = row1 n j l[j] := fun j hj => by
    rw [List.getD_eq_getElem?_getD, rowsL_get n 0 j l hj, Nat.zero_add]; rfl
  have gn : ∀ j, j < l.length → ((rowsL n 0 l).getD j z28).f1 = n + (j : Int) := fun j hj => by rw [g j hj]; rfl
  have hfree : ∀ r, r ∈ rowsL n 0 l → takenV r t.l = false := fun r hr => by
    obtain ⟨k, y, hy, hk, rfl⟩ := rowsL_mem hr
    rw [rows_taken]
    refine free_num fun z hz => ?_
    have := hn z hz
    show z.f1 ≠ n + (k : Int)
    omega
  have hm : ∀ i, i ≤ l.length → ∀ x, x ∈ (runT (rowsL n 0 l) hs t i).l.map (·.1) ↔ x ∈ t.l.map (·.1) ∨ ∃ j, j < i ∧ x = (rowsL n 0 l).getD j z28 := by
    intro i
    induction i with
    | zero => exact fun _ x => ⟨.inl, fun h => h.elim id (fun ⟨j, hj, _⟩ => by omega)⟩
    | succ i ih =>
      intro hi x
      have ih := ih (by omega)
      have hf : takenR ((rowsL n 0 l).getD i z28) ((runT (rowsL n 0 l) hs t i).l.map (·.1)) = false := free_num fun y hy => by
        rw [gn i (by omega)]
        rcases (ih y).mp hy with hy | ⟨j, hj, rfl⟩
        · have := hn y hy; omega
        · rw [gn j (by omega)]; omega
      rw [runT, stepT]
      show x ∈ (putV _ _ _).map _ ↔ _
      rw [rows_put, putR_mem hf, ih]
      constructor
      · rintro ((h | ⟨j, hj, h⟩) | h)
        · exact .inl h
        · exact .inr ⟨j, by omega, h⟩
        · exact .inr ⟨i, by omega, h⟩
      · rintro (h | ⟨j, hj, h⟩)
        · exact .inl (.inl h)
        · by_cases c : j = i
          · subst c; exact .inr h
          · exact .inl (.inr ⟨j, by omega, h⟩)
  refine ⟨hfree, fun x => ?_⟩
  rw [addT, if_pos ⟨hc, hfree⟩, hlen, hm l.length (Nat.le_refl _)]
  refine or_congr Iff.rfl ⟨?_, fun h => ?_⟩
  · rintro ⟨j, hj, rfl⟩
    rw [List.getD_eq_getElem?_getD, List.getElem?_eq_getElem (by omega)]
    exact List.getElem_mem _
  · obtain ⟨j, hj, rfl⟩ := List.mem_iff_getElem.mp h
    refine ⟨j, by omega, ?_⟩
    rw [List.getD_eq_getElem?_getD, List.getElem?_eq_getElem hj]
    rfl
theorem Has.up {ls : List (List S72)} {lo hi : Nat} {t : Ts} {hs : List Int} (h : Has ls lo hi t) (hlo : lo ≤ hi) (hc : checkS (seqN ls hi : Int) (ls.getD hi []) = 0) : (∀ r, r ∈ RJ ls hi → takenV r t.l = false) ∧ Has ls lo (hi + 1) (addT hs (seqN ls hi : Int) (ls.getD hi []) t) := by
  obtain ⟨h1, h2⟩ := addT_has (hs := hs) (t := t) hc (fun y hy => by
    obtain ⟨j, _, hj, hy⟩ := (h y).mp hy
    have h1 := (RJ_num hy).2
    have h2 := seqN_mono ls (i := j + 1) (j := hi) (by omega)
    omega)
  refine ⟨h1, fun x => ?_⟩
  rw [h2, h]
  constructor
  · rintro (⟨j, a, b, c⟩ | c)
    · exact ⟨j, a, by omega, c⟩
    · exact ⟨hi, hlo, by omega, c⟩
  · rintro ⟨j, a, b, c⟩
    by_cases e : j = hi
    · subst e; exact .inr c
    · exact .inl ⟨j, a, by omega, c⟩
theorem Has.down {ls : List (List S72)} {lo hi : Nat} {t : Ts} {hs : List Int} (h : Has ls (lo + 1) hi t) (hlo : lo < hi) (hc : checkS (seqN ls lo : Int) (ls.getD lo []) = 0) : (∀ r, r ∈ RJ ls lo → takenV r t.l = false) ∧ Has ls lo hi (addT hs (seqN ls lo : Int) (ls.getD lo []) t) := by
  obtain ⟨h1, h2⟩ := addT_has (hs := hs) (t := t) hc (fun y hy => by
    obtain ⟨j, hj, _, hy⟩ := (h y).mp hy
    have h1 := (RJ_num hy).1
    have h2 := seqN_mono ls (i := lo + 1) (j := j) (by omega)
    have h3 : seqN ls (lo + 1) = seqN ls lo + (ls.getD lo []).length := rfl
    omega)
  refine ⟨h1, fun x => ?_⟩
  rw [h2, h]
  constructor
  · rintro (⟨j, a, b, c⟩ | c)
    · exact ⟨j, by omega, b, c⟩
    · exact ⟨lo, Nat.le_refl _, hlo, c⟩
  · rintro ⟨j, a, b, c⟩
    by_cases e : j = lo
    · subst e; exact .inr c
    · exact .inl ⟨j, by omega, b, c⟩
/-- The row that a key has at the n-th batch's end: in the first n, in all, and in the first n at any number. -/
theorem Has.gets {ls : List (List S72)} {n m : Nat} {t1 t2 : Ts} (hn : n ≤ m) (h1 : Has ls 0 n t1) (h2 : Has ls 0 m t2) (s1 : SortedR (t1.l.map (·.1))) (s2 : SortedR (t2.l.map (·.1))) (key : ByteArray) (at_ : Int) (hat : at_ = (seqN ls n : Int) - 1) (big : Int) (hb : at_ ≤ big) :
    getG key at_ (t2.l.map (·.1)) = getG key at_ (t1.l.map (·.1)) ∧ getG key big (t1.l.map (·.1)) = getG key at_ (t1.l.map (·.1)) := by
  have hle : ∀ x, x ∈ t1.l.map (·.1) → x.f1 ≤ at_ := fun x hx => by
    obtain ⟨j, _, hj, hx⟩ := (h1 x).mp hx
    have h3 := (RJ_num hx).2
    have h4 := seqN_mono ls (i := j + 1) (j := n) (by omega)
    omega
  refine ⟨getG_congr s2 s1 fun x => ⟨fun ⟨hx, hk, hs⟩ => ⟨?_, hk, hs⟩, fun ⟨hx, hk, hs⟩ => ⟨?_, hk, hs⟩⟩, getG_congr s1 s1 fun x => ⟨fun ⟨hx, hk, hs⟩ => ⟨hx, hk, hle x hx⟩, fun ⟨hx, hk, hs⟩ => ⟨hx, hk, by omega⟩⟩⟩
  · obtain ⟨j, h0, hj, hx⟩ := (h2 x).mp hx
    refine (h1 x).mpr ⟨j, h0, ?_, hx⟩
    have h3 := (RJ_num hx).1
    by_cases c : j < n
    · exact c
    · have h4 := seqN_mono ls (i := n) (j := j) (by omega)
      omega
  · obtain ⟨j, h0, hj, hx⟩ := (h1 x).mp hx
    exact (h2 x).mpr ⟨j, h0, by omega, hx⟩
end Go.Proofs.Ytfemebenkbobnaa.SM
