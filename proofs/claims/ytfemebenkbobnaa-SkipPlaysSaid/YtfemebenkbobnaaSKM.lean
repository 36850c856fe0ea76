import Derived.Test.YtfemebenkbobnaaSKG
/- The law SkipFrom, walked. Conditions: the rows' numbers are uint64s. -/
namespace Go.Proofs.Ytfemebenkbobnaa.SK
set_option linter.unusedVariables false
set_option linter.unusedSimpArgs false
open Go.RowKit Go.Shelf Go.Proofs.YtfemebenkbobnaaW.PrintWords Go.Proofs.YtfemebenkbobnaaW.PrintLast Go.Proofs.YtfemebenkbobnaaW.PrintMore Go.Proofs.Ytfemebenkbobnaa.PB06
theorem beh_rows (key : ByteArray) (seq : Int) (rs : List Nd) : (beh key seq rs).map (·.row) = behR key seq (rowsN rs) := by
  unfold beh behR rowsN
  rw [List.dropWhile_map]
  rfl
theorem seek_one {key : ByteArray} {seq : Int} {rs : List Nd} {x : S28} {R : List S28} (h : behR key seq (rowsN rs) = x :: R) : seekRow key seq rs = x ∧ seekOk key seq rs = true := by
  rw [← beh_rows] at h
  unfold seekRow seekOk
  cases hb : beh key seq rs with
  | nil => rw [hb] at h; cases h
  | cons y T => rw [hb] at h; simp at h; exact ⟨h.1, rfl⟩
theorem seek_none {key : ByteArray} {seq : Int} {rs : List Nd} (h : behR key seq (rowsN rs) = []) : seekRow key seq rs = zrow ∧ seekOk key seq rs = false := by
  rw [← beh_rows] at h
  unfold seekRow seekOk
  cases hb : beh key seq rs with
  | nil => exact ⟨rfl, rfl⟩
  | cons y T => rw [hb] at h; cases h
theorem ahd_behR (key : ByteArray) (seq : Int) (L : List S28) : ahdR key seq L ++ behR key seq L = L := List.takeWhile_append_dropWhile
theorem drop_ahd (key : ByteArray) (seq : Int) (L : List S28) : L.drop (ahdR key seq L).length = behR key seq L := by
  have h : ∀ A B : List S28, A ++ B = L → L.drop A.length = B := fun A B e => by rw [← e, List.drop_left]
  exact h _ _ (ahd_behR key seq L)
theorem len_ahd (key : ByteArray) (seq : Int) (L : List S28) : (ahdR key seq L).length + (behR key seq L).length = L.length := by
  rw [← List.length_append, ahd_behR]
theorem self_not (x : S28) : aheadB x.f0 x.f1 x = false := by
  rw [← Bool.not_eq_true, ahead_iff, less_irr]
  rintro (h | ⟨_, h⟩)
  · cases h
  · omega
theorem at_ahd {key : ByteArray} {seq : Int} {L : List S28} (hs : SortedR L) {i : Nat} (hi : i < L.length) : aheadB key seq (L.getD i z28) = decide (i < (ahdR key seq L).length) := by
  have e : L.getD i z28 = L[i] := by rw [List.getD_eq_getElem?_getD, List.getElem?_eq_getElem hi]; rfl
  rw [e]
  have hL := ahd_behR key seq L
  by_cases c : i < (ahdR key seq L).length
  · rw [decide_eq_true c]
    have : L[i] = (ahdR key seq L)[i] := by
      have h2 : (ahdR key seq L ++ behR key seq L)[i]'(by rw [hL]; exact hi) = (ahdR key seq L)[i] := List.getElem_append_left c
      simpa [hL] using h2
    rw [this]
    exact List.all_eq_true.mp (List.all_takeWhile (p := fun x => aheadB key seq x) (l := L)) _ (List.getElem_mem _)
  · rw [decide_eq_false c]
    have hlen := len_ahd key seq L
    have hd : behR key seq L = L.drop (ahdR key seq L).length := (drop_ahd key seq L).symm
    have hn : (ahdR key seq L).length < L.length := by omega
    have hh : aheadB key seq (L[(ahdR key seq L).length]) = false := by
      have h1 := List.head?_dropWhile_not (fun x : S28 => aheadB key seq x) L
      have h2 : (L.dropWhile fun x : S28 => aheadB key seq x).head? = some (L[(ahdR key seq L).length]) := by
        show (behR key seq L).head? = _
        rw [hd, List.head?_drop, List.getElem?_eq_getElem hn]
      rw [h2] at h1
      exact h1
    cases hq : aheadB key seq L[i] with
    | false => rfl
    | true =>
      by_cases hie : i = (ahdR key seq L).length
      · subst hie
        rw [hh] at hq; cases hq
      · have hb := List.pairwise_iff_getElem.mp hs (ahdR key seq L).length i hn hi (by omega)
        rw [bef_ahead hb hq] at hh
        cases hh
theorem own_place {L : List S28} (hs : SortedR L) {i : Nat} (hi : i < L.length) : behR (L.getD i z28).f0 (L.getD i z28).f1 L = L.getD i z28 :: L.drop (i + 1) := by
  have g : ∀ m (hm : m < L.length), L.getD m z28 = L[m] := fun m hm => by rw [List.getD_eq_getElem?_getD, List.getElem?_eq_getElem hm]; rfl
  have e := g i hi
  have h0 : ∀ m, m < i → aheadB (L.getD i z28).f0 (L.getD i z28).f1 (L.getD m z28) = true := fun m hm => by
    have h2 := List.pairwise_iff_getElem.mp hs m i (by omega) hi hm
    rw [← e, ← g m (by omega)] at h2
    exact h2
  have h1 := self_not (L.getD i z28)
  have hA : ∀ m (hm : m < L.length), aheadB (L.getD i z28).f0 (L.getD i z28).f1 (L.getD m z28) = decide (m < (ahdR (L.getD i z28).f0 (L.getD i z28).f1 L).length) := fun m hm => at_ahd hs hm
  have hd := drop_ahd (L.getD i z28).f0 (L.getD i z28).f1 L
  have hlen := len_ahd (L.getD i z28).f0 (L.getD i z28).f1 L
  have hn : (ahdR (L.getD i z28).f0 (L.getD i z28).f1 L).length = i := by
    generalize (ahdR (L.getD i z28).f0 (L.getD i z28).f1 L).length = n at *
    have h2 := hA i hi
    rw [h1] at h2
    have h3 := of_decide_eq_false h2.symm
    by_cases c : n < i
    · have h4 := hA n (by omega)
      rw [h0 n c] at h4
      have := of_decide_eq_true h4.symm
      omega
    · omega
  rw [← hd, hn, List.drop_eq_getElem_cons hi, e]
theorem take_all {L : List S28} (h : L.length ≤ 200) : takeM 200 L = L := by
  unfold takeM
  split
  · exact List.take_of_length_le (by omega)
  · rfl
theorem ahead_parts {key : ByteArray} {seq : Int} {x : S28} {b : Bool} (h : aheadB key seq x = b) :
    (b = true ∧ Op.bytesLess x.f0.toList key.toList = true) ∨ (b = true ∧ Op.bytesLess x.f0.toList key.toList = false ∧ (x.f0.toList == key.toList) = true ∧ decide (x.f1 > seq) = true ∧ decide (seq < x.f1) = true) ∨
    (b = false ∧ Op.bytesLess x.f0.toList key.toList = false ∧ (x.f0.toList == key.toList) = false) ∨ (b = false ∧ Op.bytesLess x.f0.toList key.toList = false ∧ (x.f0.toList == key.toList) = true ∧ decide (x.f1 > seq) = false ∧ decide (seq < x.f1) = false) := by
  subst h
  cases h1 : Op.bytesLess x.f0.toList key.toList with
  | true => exact .inl ⟨ahead_iff.mpr (.inl h1), rfl⟩
  | false =>
    cases h2 : (x.f0.toList == key.toList) with
    | false =>
      refine .inr (.inr (.inl ⟨?_, rfl, rfl⟩))
      rw [← Bool.not_eq_true, ahead_iff, h1]
      rintro (h | ⟨h, _⟩)
      · cases h
      · rw [beq_eq_false_iff_ne] at h2; exact h2 h
    | true =>
      have h3 := beq_iff_eq.mp h2
      by_cases c : x.f1 > seq
      · exact .inr (.inl ⟨ahead_iff.mpr (.inr ⟨h3, c⟩), rfl, rfl, decide_eq_true c, decide_eq_true c⟩)
      · refine .inr (.inr (.inr ⟨?_, rfl, rfl, decide_eq_false c, decide_eq_false c⟩))
        rw [← Bool.not_eq_true, ahead_iff, h1]
        rintro (h | ⟨_, h⟩)
        · cases h
        · exact c h
theorem putR_sub {r x : S28} {l : List S28} (h : x ∈ putR r l) : x ∈ l ∨ x = r := by
  cases ht : takenR r l with
  | true => rw [putR, if_pos ht] at h; exact .inl h
  | false => exact (putR_mem ht x).mp h
theorem put_sub {w w' : World} {g : Nat} {rs rs' : List Nd} {r : S28} {h : Nat} (hp : Put w w' g rs r h rs') {x : S28} (hx : x ∈ rowsN rs') : x ∈ rowsN rs ∨ x = r := by
  rw [hp.rows] at hx
  exact putR_sub hx
theorem put_len {w w' : World} {g : Nat} {rs rs' : List Nd} {r : S28} {h : Nat} (hp : Put w w' g rs r h rs') : rs'.length ≤ rs.length + 1 := by
  have h1 := putV_len r h (vals rs)
  rw [← hp.val, vals_len, vals_len] at h1
  exact h1
theorem sub_bound {rs : List Nd} {rows : List S28} (hsub : ∀ x, x ∈ rowsN rs → x ∈ rows) (hw : ∀ x, x ∈ rows → x.f1 ≤ 18446744073709551615) : ∀ x, x ∈ rs → x.row.f1 ≤ 18446744073709551615 := fun x hx =>
  hw _ (hsub _ (List.mem_map.mpr ⟨x, hx, rfl⟩))
section
variable {P : Program} {ops : Array Oper} {Q : Exit → Act → World → Prop}
/-- A whole row stored into its block, in a region that draws its order. -/
theorem store_ {oi : Oper} {a : Act} {w : World} {K : Act → World → Prop} (hw : Region.wanted oi (yielded ops a.tmps) = true) (hN : oi.dst = none) (ty : TypeId) (x y : Operand) (ho : oi.op = .store ty x y) (g t : Nat) (hx : a.eval x = .pointer (some ⟨g, 0, none⟩)) (cells : Array Value) (hy : a.eval y = .agg cells) (old : Array Value) (hg : w.heap[g]? = some (.cells old t (0, 0)))
    (hi : (P.info? ty).map (·.size) = some cells.size) (hs : old.size = cells.size) (h1 : cells.all (·.oneCell') = true)
    (h : ∀ w1 : World, w1.heap[g]? = some (.cells cells t (0, 0)) → (∀ B w0, Below B w0 w → B ≤ g → Below B w0 w1) → (∀ k, k ≠ g → w1.heap[k]? = w.heap[k]?) → w1.heap.size = w.heap.size → K a w1) : if Region.wanted oi (yielded ops a.tmps) = true then Oper.wp P oi a w K Q else K (a.put none undef) w := by
  refine skip_ hw hN ?_ (h _ (setRow_heap w g old cells t (0, 0) hg) (fun B w0 hb hle => below_setRow hb hle cells) (fun k hk => setRow_other w g k cells hk) (setRow_size w g cells))
  unfold execOp
  simp only [ho, hx, hy, Instr.storeAt, Instr.sureAddr, Sem.run_bind, Sem.run_pure, Result.andThen_ok, run_storeVar_row w g t ty old cells hg hi hs h1]
end
end Go.Proofs.Ytfemebenkbobnaa.SK
