import Derived.Test.YtfemebenkbobnaaSMD
/- Lists of rows in order: two that have the same rows are the same; what comes of rows that are put in whatever order. Conditions: none. -/
namespace Go.Proofs.Ytfemebenkbobnaa.SM
set_option linter.unusedVariables false
set_option linter.unusedSimpArgs false
open Go.RowKit Go.Proofs.YtfemebenkbobnaaW.PrintWords Go.Proofs.YtfemebenkbobnaaW.PrintLast Go.Proofs.YtfemebenkbobnaaW.PrintMore Go.Proofs.Ytfemebenkbobnaa.PB06
variable {TL : Tl}
def Same (x y : S28) : Prop := x.f0 = y.f0 ∧ x.f1 = y.f1
theorem bef_not_same {x y : S28} (h : bef x y) : ¬ Same x y := by
  rintro ⟨h1, h2⟩
  unfold bef at h
  rw [ahead_iff, h1, less_irr] at h
  rcases h with h | ⟨_, h⟩
  · cases h
  · omega
theorem bef_irr (x : S28) : ¬ bef x x := fun h => bef_not_same h ⟨rfl, rfl⟩
def SortedR (l : List S28) : Prop := l.Pairwise bef
theorem sorted_ext : ∀ {a b : List S28}, SortedR a → SortedR b → (∀ x, x ∈ a ↔ x ∈ b) → a = b
  | [], [], _, _, _ => rfl
  | [], y :: b, _, _, h => by have := (h y).mpr List.mem_cons_self; simp at this
  | x :: a, [], _, _, h => by have := (h x).mp List.mem_cons_self; simp at this
  | x :: a, y :: b, ha, hb, h => by
    obtain ⟨a1, a2⟩ := List.pairwise_cons.mp ha
    obtain ⟨b1, b2⟩ := List.pairwise_cons.mp hb
    have exy : x = y := by
      rcases List.mem_cons.mp ((h x).mp List.mem_cons_self) with e | hx
      · exact e
      · rcases List.mem_cons.mp ((h y).mpr List.mem_cons_self) with e | hy
        · exact e.symm
        · exact absurd (bef_trans (b1 x hx) (a1 y hy)) (bef_irr y)
    subst exy
    have : a = b := sorted_ext a2 b2 fun z => by
      constructor
      · intro hz
        rcases List.mem_cons.mp ((h z).mp (List.mem_cons_of_mem _ hz)) with e | hz2
        · subst e; exact absurd (a1 z hz) (bef_irr z)
        · exact hz2
      · intro hz
        rcases List.mem_cons.mp ((h z).mpr (List.mem_cons_of_mem _ hz)) with e | hz2
        · subst e; exact absurd (b1 z hz) (bef_irr z)
        · exact hz2
    rw [this]
theorem ahdR_beh (key : ByteArray) (seq : Int) (l : List S28) : ahdR key seq l ++ behR key seq l = l := List.takeWhile_append_dropWhile
theorem ahdR_all {key : ByteArray} {seq : Int} {l : List S28} : ∀ x, x ∈ ahdR key seq l → aheadB key seq x = true := fun x hx => List.all_eq_true.mp (List.all_takeWhile) x hx
theorem behR_head {key : ByteArray} {seq : Int} {l : List S28} : ∀ y, (behR key seq l).head? = some y → aheadB key seq y = false := fun y hy => by
  have := List.head?_dropWhile_not (fun x : S28 => aheadB key seq x) l
  rw [behR] at hy
  rw [hy] at this
  simpa using this
/-- A row that is taken stands there. -/
theorem taken_mem {r : S28} {l : List S28} (h : takenR r l = true) : ∃ y, y ∈ l ∧ Same y r := by
  unfold takenR at h
  have e := ahdR_beh r.f0 r.f1 l
  cases hq : behR r.f0 r.f1 l with
  | nil => rw [hq] at h; cases h
  | cons y R =>
    rw [hq] at h e
    simp only [Bool.and_eq_true, decide_eq_true_eq] at h
    exact ⟨y, by rw [← e]; simp, h⟩
theorem not_taken {r : S28} {l : List S28} (h : ∀ y, y ∈ l → ¬ Same y r) : takenR r l = false := by
  cases hq : takenR r l with
  | false => rfl
  | true => obtain ⟨y, hy, hs⟩ := taken_mem hq; exact absurd hs (h y hy)
/-- Where a row is not taken, no row has its place. -/
theorem free_all {r : S28} {l : List S28} (hs : SortedR l) (h : takenR r l = false) : ∀ y, y ∈ l → ¬ Same y r := by
  intro y hy hsm
  have e := ahdR_beh r.f0 r.f1 l
  have hh := behR_head (key := r.f0) (seq := r.f1) (l := l)
  unfold SortedR at hs
  rw [← e] at hy hs
  rcases List.mem_append.mp hy with hy | hy
  · exact bef_not_same (x := y) (y := r) (ahdR_all y hy) hsm
  · unfold takenR at h
    cases hq : behR r.f0 r.f1 l with
    | nil => rw [hq] at hy; simp at hy
    | cons z R =>
      rw [hq] at hy h hh hs
      have hz : bef r z := bef_other (hh z rfl) (fun hc => by simp [hc.1, hc.2] at h)
      rcases List.mem_cons.mp hy with rfl | hy
      · exact bef_not_same hz ⟨hsm.1.symm, hsm.2.symm⟩
      · have := (List.pairwise_cons.mp (List.pairwise_append.mp hs).2.1).1 y hy
        exact bef_not_same (bef_trans hz this) ⟨hsm.1.symm, hsm.2.symm⟩
theorem putR_mem {r : S28} {l : List S28} (h : takenR r l = false) (x : S28) : x ∈ putR r l ↔ x ∈ l ∨ x = r := by
  have e := ahdR_beh r.f0 r.f1 l
  unfold putR
  rw [if_neg (by rw [h]; simp)]
  conv => rhs; rw [← e]
  simp only [List.mem_append, List.mem_cons]
  constructor
  · rintro (h | h | h)
    · exact .inl (.inl h)
    · exact .inr h
    · exact .inl (.inr h)
  · rintro ((h | h) | h)
    · exact .inl h
    · exact .inr (.inr h)
    · exact .inr (.inl h)
theorem putR_len {r : S28} {l : List S28} (h : takenR r l = false) : (putR r l).length = l.length + 1 := by
  have e := congrArg List.length (ahdR_beh r.f0 r.f1 l)
  rw [List.length_append] at e
  unfold putR
  rw [if_neg (by rw [h]; simp), List.length_append, List.length_cons]
  omega
/-- The rows of a list. -/
def rowsN (rs : List Nd) : List S28 := rs.map (·.row)
theorem Sk.sorted {w : World} {g : Nat} {rs : List Nd} (h : Sk TL w g rs) : SortedR (rowsN rs) := by
  unfold SortedR rowsN
  rw [List.pairwise_map]
  exact h.ord
theorem rowsN_vals (rs : List Nd) : rowsN rs = (vals rs).map (·.1) := (vals_rows rs).symm
theorem Put.rows {w w' : World} {g : Nat} {rs rs' : List Nd} {r : S28} {h : Nat} (hp : Put TL w w' g rs r h rs') : rowsN rs' = putR r (rowsN rs) := by
  rw [rowsN_vals, hp.val, rows_put, rowsN_vals]
theorem taken_rowsN (r : S28) (rs : List Nd) : takenV r (vals rs) = takenR r (rowsN rs) := by rw [rows_taken, rowsN_vals]
/-- What was put so far, of a list: they stand in it, and no two have one place. -/
structure Puts (rs : List Nd) (p : List S28) : Prop where
  mem : ∀ x, x ∈ rowsN rs ↔ x ∈ p
  len : rs.length = p.length
  apart : p.Pairwise fun x y => ¬ Same x y
theorem Puts.nil : Puts [] [] := ⟨fun x => by simp [rowsN], rfl, List.Pairwise.nil⟩
theorem Puts.snoc {w w' : World} {g : Nat} {rs rs' : List Nd} {r : S28} {h : Nat} {p : List S28} (hs : Sk TL w g rs) (hp : Put TL w w' g rs r h rs') (hq : Puts rs p) (ht : takenR r (rowsN rs) = false) : Puts rs' (p ++ [r]) := by
  refine ⟨fun x => ?_, ?_, ?_⟩
  · rw [hp.rows, putR_mem ht, hq.mem]
    simp
  · have := congrArg List.length hp.rows
    rw [putR_len ht] at this
    simp only [rowsN, List.length_map] at this
    rw [this, hq.len, List.length_append]
    rfl
  · rw [List.pairwise_append]
    refine ⟨hq.apart, by simp, fun x hx y hy => ?_⟩
    rw [List.mem_singleton] at hy
    subst hy
    exact free_all hs.sorted ht x ((hq.mem x).mpr hx)
theorem Puts.same {w w' : World} {g : Nat} {rs rs' : List Nd} {r : S28} {h : Nat} {p : List S28} (hp : Put TL w w' g rs r h rs') (hq : Puts rs p) (ht : takenR r (rowsN rs) = true) : Puts rs' p := by
  have e : rowsN rs' = rowsN rs := by rw [hp.rows, putR, if_pos ht]
  refine ⟨fun x => by rw [e]; exact hq.mem x, ?_, hq.apart⟩
  have := congrArg List.length e
  simp only [rowsN, List.length_map] at this
  rw [this]; exact hq.len
/-- Two rows of p at two places. -/
theorem apart_at {p : List S28} (h : p.Pairwise fun x y => ¬ Same x y) {i j : Nat} (hi : i < p.length) (hj : j < p.length) (hne : i ≠ j) : ¬ Same (p.getD i z28) (p.getD j z28) := by
  rw [List.getD_eq_getElem?_getD, List.getD_eq_getElem?_getD, List.getElem?_eq_getElem hi, List.getElem?_eq_getElem hj]
  simp only [Option.getD_some]
  rcases Nat.lt_or_gt_of_ne hne with h1 | h1
  · exact List.pairwise_iff_getElem.mp h i j hi hj h1
  · intro hs
    exact List.pairwise_iff_getElem.mp h j i hj hi h1 ⟨hs.1.symm, hs.2.symm⟩
/-- What was put of p in the order f, after i steps. -/
def ordF (p : List S28) (f : Nat → Nat) (i : Nat) : List S28 := (List.range i).map fun j => p.getD (f j) z28
theorem ordF_succ (p : List S28) (f : Nat → Nat) (i : Nat) : ordF p f (i + 1) = ordF p f i ++ [p.getD (f i) z28] := by simp [ordF, List.range_succ]
theorem ordF_free {p : List S28} {f : Nat → Nat} {i : Nat} {rs : List Nd} (ha : p.Pairwise fun x y => ¬ Same x y) (hf : ∀ j, j < p.length → f j < p.length) (hinj : ∀ j k, j < p.length → k < p.length → f j = f k → j = k) (hi : i < p.length) (hq : Puts rs (ordF p f i)) : takenR (p.getD (f i) z28) (rowsN rs) = false := by
  refine not_taken fun y hy => ?_
  have hy2 := (hq.mem y).mp hy
  unfold ordF at hy2
  obtain ⟨j, hj, rfl⟩ := List.mem_map.mp hy2
  rw [List.mem_range] at hj
  exact apart_at ha (hf j (by omega)) (hf i hi) (fun e => by have := hinj j i (by omega) hi e; omega)
theorem ordF_mem {p : List S28} {f : Nat → Nat} (hf : ∀ j, j < p.length → f j < p.length) (hsur : ∀ t, t < p.length → ∃ j, j < p.length ∧ f j = t) (x : S28) : x ∈ ordF p f p.length ↔ x ∈ p := by
  unfold ordF
  rw [List.mem_map]
  constructor
  · rintro ⟨j, hj, rfl⟩
    rw [List.mem_range] at hj
    rw [List.getD_eq_getElem?_getD, List.getElem?_eq_getElem (hf j hj)]
    exact List.getElem_mem _
  · intro hx
    obtain ⟨t, ht⟩ := List.mem_iff_getElem?.mp hx
    have htl := (List.getElem?_eq_some_iff.mp ht).1
    obtain ⟨j, hj, hjt⟩ := hsur t htl
    exact ⟨j, List.mem_range.mpr hj, by rw [hjt, List.getD_eq_getElem?_getD, ht]; rfl⟩
/-- Two lists of the same rows hand on the same. -/
theorem rows_same {w w2 : World} {ga gb : Nat} {ra rb : List Nd} {p q : List S28} (ha : Sk TL w ga ra) (hb : Sk TL w2 gb rb) (pa : Puts ra p) (pb : Puts rb q) (h : ∀ x, x ∈ q ↔ x ∈ p) : rowsN ra = rowsN rb :=
  sorted_ext ha.sorted hb.sorted fun x => by rw [pa.mem, pb.mem, h]
theorem rev_ok {n : Nat} : (∀ j, j < n → n - 1 - j < n) ∧ (∀ j k, j < n → k < n → n - 1 - j = n - 1 - k → j = k) ∧ (∀ t, t < n → ∃ j, j < n ∧ n - 1 - j = t) :=
  ⟨fun j hj => by omega, fun j k hj hk e => by omega, fun t ht => ⟨n - 1 - t, by omega, by omega⟩⟩
theorem rot_ok {n k : Nat} (hk : k < n) : (∀ j, j < n → (j + k) % n < n) ∧ (∀ i j, i < n → j < n → (i + k) % n = (j + k) % n → i = j) ∧ (∀ t, t < n → ∃ j, j < n ∧ (j + k) % n = t) := by
  have key : ∀ j, j < n → (j + k) % n = if j + k < n then j + k else j + k - n := fun j hj => by
    by_cases c : j + k < n
    · rw [if_pos c, Nat.mod_eq_of_lt c]
    · rw [if_neg c, Nat.mod_eq_sub_mod (by omega), Nat.mod_eq_of_lt (by omega)]
  refine ⟨fun j hj => Nat.mod_lt _ (by omega), fun i j hi hj e => ?_, fun t ht => ?_⟩
  · rw [key i hi, key j hj] at e
    split at e <;> split at e <;> omega
  · refine ⟨if k ≤ t then t - k else t + n - k, by split <;> omega, ?_⟩
    rw [key _ (by split <;> omega)]
    split <;> split <;> omega
/-- A list hands on all its rows. -/
theorem whole_all {rs : List Nd} (h : ∀ x, x ∈ rs → x.row.f1 ≤ 18446744073709551615) : (beh ⟨#[]⟩ 18446744073709551615 rs).map (·.row) = rowsN rs := by
  have : beh ⟨#[]⟩ 18446744073709551615 rs = rs := by
    unfold beh
    cases rs with
    | nil => rfl
    | cons x r =>
      rw [List.dropWhile_cons, if_neg]
      rw [Bool.not_eq_true]
      have h1 := h x List.mem_cons_self
      unfold aheadB
      rw [Bool.or_eq_false_iff]
      refine ⟨?_, ?_⟩
      · have : (⟨#[]⟩ : ByteArray).toList = [] := by decide +kernel
        rw [this]
        cases x.row.f0.toList <;> rfl
      · rw [decide_eq_false (show ¬ x.row.f1 > 18446744073709551615 by omega), Bool.and_false]
  rw [this]
  rfl
end Go.Proofs.Ytfemebenkbobnaa.SM
