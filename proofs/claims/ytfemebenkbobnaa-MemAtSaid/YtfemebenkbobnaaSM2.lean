import Derived.Test.YtfemebenkbobnaaSM1
/- What an insertion does to the skip list in memory: one link at a time. Conditions: heights of at most 12. -/
namespace Go.Proofs.Ytfemebenkbobnaa.SM
set_option linter.unusedVariables false
set_option linter.unusedSimpArgs false
open Go.RowKit Go.Proofs.YtfemebenkbobnaaW.PrintWords Go.Proofs.YtfemebenkbobnaaW.PrintLast Go.Proofs.YtfemebenkbobnaaW.PrintMore Go.Proofs.Ytfemebenkbobnaa.PB06
variable {TL : Tl}
/-- The lists with the new node so high. -/
theorem nxt_other {i k nb : Nat} {r : S28} {R : List Nd} (h : i ≠ k) : ∀ T : List Nd, nxt i (T ++ ⟨nb, r, k⟩ :: R) = nxt i (T ++ ⟨nb, r, k + 1⟩ :: R)
  | [] => by
    simp only [List.nil_append, nxt]
    by_cases c : i < k
    · rw [if_pos c, if_pos (by omega)]
    · rw [if_neg c, if_neg (by omega)]
  | x :: T => by
    rw [List.cons_append, List.cons_append, nxt, nxt, nxt_other h T]
theorem links_same {h : Nat} {r r' : List Nd} (he : ∀ i, i < 12 → i < h → nxt i r = nxt i r') : links h r = links h r' := by
  unfold links
  apply List.map_congr_left
  intro i hi
  by_cases c : i < h
  · rw [if_pos c, if_pos c, he i (List.mem_range.mp hi) c]
  · rw [if_neg c, if_neg c]
theorem links_set {h k : Nat} {r r' : List Nd} {v : Option Nat} (hk : k < 12) (hh : k < h) (he : ∀ i, i < 12 → i ≠ k → nxt i r = nxt i r') (hv : nxt k r' = v) : (links h r).set k (pv v) = links h r' := by
  apply List.ext_getElem?
  intro i
  rcases Nat.lt_or_ge i 12 with hi | hi
  · rw [links_get h r' i hi]
    by_cases c : i = k
    · subst c
      rw [List.getElem?_set_self (by rw [links_len]; exact hk), if_pos hh, hv]
    · rw [List.getElem?_set_ne (fun e => c e.symm), links_get h r i hi, he i hi c]
  · rw [List.getElem?_eq_none (by rw [List.length_set, links_len]; exact hi), List.getElem?_eq_none (by rw [links_len]; exact hi)]
theorem links_new {k : Nat} {R : List Nd} (hk : k < 12) : (links k R).set k (pv (nxt k R)) = links (k + 1) R := by
  apply List.ext_getElem?
  intro i
  rcases Nat.lt_or_ge i 12 with hi | hi
  · rw [links_get (k + 1) R i hi]
    by_cases c : i = k
    · subst c
      rw [List.getElem?_set_self (by rw [links_len]; exact hk), if_pos (by omega)]
    · rw [List.getElem?_set_ne (fun e => c e.symm), links_get k R i hi]
      by_cases d : i < k
      · rw [if_pos d, if_pos (by omega)]
      · rw [if_neg d, if_neg (by omega)]
  · rw [List.getElem?_eq_none (by rw [List.length_set, links_len]; exact hi), List.getElem?_eq_none (by rw [links_len]; exact hi)]
theorem cellsN_set {x x' : Nd} {r r' : List Nd} {k : Nat} {v : Value} (hr : x'.row = x.row) (hl : (links x.h r).set k v = links x'.h r') : (cellsN x r).set (4 + k) v = cellsN x' r' := by
  rw [cellsN, cellsN, hr, ← hl, List.set_append_right _ _ (by simp [rowC])]
  simp [rowC]
theorem cellsH_set {ln ht : Int} {r r' : List Nd} {k : Nat} {v : Value} (hk : k < 12) (hl : (links 12 r).set k v = links 12 r') : (cellsH TL ln ht r).set (4 + k) v = cellsH TL ln ht r' := by
  rw [cellsH, cellsH, ← hl, List.append_assoc, List.append_assoc, List.set_append_right _ _ (by simp [rowC]), List.set_append_left _ _ (by simp [rowC, links_len]; omega)]
  simp [rowC]
theorem toArray_set {l l' : List Value} {i : Nat} {v : Value} (h : l.set i v = l') : l.toArray.setIfInBounds i v = l'.toArray := by
  rw [← h]; simp
section
variable {w w2 : World} {g nb k : Nat} {r : S28} {A P A2 R : List Nd}
/-- The nodes behind the end of P, and the new one: the chain with the new node one higher. -/
theorem chain_behind (hk : k < 12) (hch : Chain w (A2 ++ ⟨nb, r, k⟩ :: R)) (hlo : ∀ x, x ∈ A2 → x.h ≤ k) (hnb : w2.heap[nb]? = some (.cells (cellsN ⟨nb, r, k + 1⟩ R).toArray 32 (0, 0))) (hsame : ∀ x, x ∈ A2 ++ R → w2.heap[x.blk]? = w.heap[x.blk]?) : Chain w2 (A2 ++ ⟨nb, r, k + 1⟩ :: R) := by
  induction A2 with
  | nil => exact ⟨hnb, Chain.keep hch.2 (fun x hx => hsame x hx)⟩
  | cons x T ih =>
    have h1 : w.heap[x.blk]? = some (.cells (cellsN x (T ++ ⟨nb, r, k⟩ :: R)).toArray 32 (0, 0)) := hch.1
    refine ⟨(show w2.heap[x.blk]? = some (.cells (cellsN x (T ++ ⟨nb, r, k + 1⟩ :: R)).toArray 32 (0, 0)) from ?_), ih hch.2 (fun y hy => hlo y (List.mem_cons_of_mem _ hy)) (fun y hy => hsame y (List.mem_cons_of_mem _ hy))⟩
    have : cellsN x (T ++ ⟨nb, r, k⟩ :: R) = cellsN x (T ++ ⟨nb, r, k + 1⟩ :: R) := by
      rw [cellsN, cellsN, links_same fun i hi h => nxt_other (by have := hlo x List.mem_cons_self; omega) T]
    rw [hsame x List.mem_cons_self, h1, this]
theorem chain_step (hk : k < 12) (hlo : ∀ x, x ∈ A2 → x.h ≤ k) (hnb : w2.heap[nb]? = some (.cells (cellsN ⟨nb, r, k + 1⟩ R).toArray 32 (0, 0))) : ∀ P : List Nd, Chain w (P ++ (A2 ++ ⟨nb, r, k⟩ :: R)) → High k P →
    (∀ x, x ∈ P ++ (A2 ++ R) → P.getLast? ≠ some x → w2.heap[x.blk]? = w.heap[x.blk]?) → (∀ x, P.getLast? = some x → ∀ cs, w.heap[x.blk]? = some (.cells cs 32 (0, 0)) → w2.heap[x.blk]? = some (.cells (cs.setIfInBounds (4 + k) (pv (some nb))) 32 (0, 0))) →
    (∀ x, x ∈ A2 ++ R → P.getLast? ≠ some x) → (P.map (·.blk)).Nodup → Chain w2 (P ++ (A2 ++ ⟨nb, r, k + 1⟩ :: R))
  | [], hch, _, hs, _, _, _ => chain_behind hk hch hlo hnb (fun x hx => hs x hx (by simp))
  | [x], hch, hh, hs, hl, hne, _ => by
    have h1 : w.heap[x.blk]? = some (.cells (cellsN x (A2 ++ ⟨nb, r, k⟩ :: R)).toArray 32 (0, 0)) := hch.1
    refine ⟨(show w2.heap[x.blk]? = some (.cells (cellsN x (A2 ++ ⟨nb, r, k + 1⟩ :: R)).toArray 32 (0, 0)) from ?_), chain_behind hk hch.2 hlo hnb (fun y hy => hs y (List.mem_cons_of_mem _ hy) (hne y hy))⟩
    rw [hl x (by simp) _ h1, toArray_set (cellsN_set (x' := x) rfl (links_set hk (hh x (by simp)) (fun i _ hi => nxt_other hi A2) (by rw [nxt_skip _ hlo, nxt, if_pos (Nat.lt_succ_self k)])))]
  | x :: y :: P', hch, hh, hs, hl, hne, hnd => by
    have e : (x :: y :: P').getLast? = (y :: P').getLast? := by simp [List.getLast?_cons_cons]
    have ih := chain_step hk hlo hnb (y :: P') hch.2 (fun z hz => hh z (by rw [e]; exact hz)) (fun z hz hz2 => hs z (List.mem_cons_of_mem _ hz) (by rw [e]; exact hz2)) (fun z hz => hl z (by rw [e]; exact hz)) (fun z hz => by rw [← e]; exact hne z hz) (List.nodup_cons.mp hnd).2
    have h1 : w.heap[x.blk]? = some (.cells (cellsN x ((y :: P') ++ (A2 ++ ⟨nb, r, k⟩ :: R))).toArray 32 (0, 0)) := hch.1
    refine ⟨(show w2.heap[x.blk]? = some (.cells (cellsN x ((y :: P') ++ (A2 ++ ⟨nb, r, k + 1⟩ :: R))).toArray 32 (0, 0)) from ?_), ih⟩
    have hx : (x :: y :: P').getLast? ≠ some x := by
      rw [e]
      intro h
      have hm := List.mem_of_getLast? h
      exact (List.nodup_cons.mp hnd).1 (List.mem_map.mpr ⟨x, hm, rfl⟩)
    obtain ⟨z, hz⟩ : ∃ z, (y :: P').getLast? = some z := by
      cases hq : (y :: P').getLast? with
      | none => simp at hq
      | some z => exact ⟨z, rfl⟩
    have : cellsN x ((y :: P') ++ (A2 ++ ⟨nb, r, k⟩ :: R)) = cellsN x ((y :: P') ++ (A2 ++ ⟨nb, r, k + 1⟩ :: R)) := by
      rw [cellsN, cellsN, links_same fun i hi h => ?_]
      by_cases c : i = k
      · subst c
        exact nxt_found _ _ ⟨z, List.mem_of_getLast? hz, hh z (by rw [e]; exact hz)⟩
      · rw [← List.append_assoc, ← List.append_assoc]
        exact nxt_other c _
    rw [hs x List.mem_cons_self hx, h1, this]
theorem blk_setOther {w : World} {b j : Nat} {v : Value} {o : Option Obj} {q : Nat} (h : w.heap[q]? = o) (hne : q ≠ b) : (w.setCell ⟨b, j, none⟩ v).heap[q]? = o := (Below.heap_setCell w ⟨b, j, none⟩ v q hne).trans h
/-- One link of the new node, and one to it. -/
theorem SL.link {ln ht : Int} (h : SL TL w g ln ht (A ++ ⟨nb, r, k⟩ :: R)) (hk : k < 12) (hA : A = P ++ A2) (hh : High k P) (hlo : ∀ x, x ∈ A2 → x.h ≤ k) :
    SL TL ((w.setCell ⟨nb, 4 + k, none⟩ (pv (nxt k R))).setCell ⟨endB g P, 4 + k, none⟩ (pv (some nb))) g ln ht (A ++ ⟨nb, r, k + 1⟩ :: R) := by
  subst hA
  have hnd := h.nodup
  have hmem : (⟨nb, r, k⟩ : Nd) ∈ P ++ A2 ++ ⟨nb, r, k⟩ :: R := by simp
  have hgn : nb ≠ g := h.apart _ hmem
  have hnd1 := hnd
  simp only [List.map_append, List.map_cons, List.nodup_append, List.nodup_cons, List.append_assoc] at hnd1
  obtain ⟨ndP, ⟨ndA2, ⟨nbR, ndR⟩, dA2⟩, dP⟩ := hnd1
  have hPn : ∀ x, x ∈ P → x.blk ≠ nb := fun x hx => dP _ (List.mem_map.mpr ⟨x, hx, rfl⟩) _ (by simp)
  have hPr : ∀ x, x ∈ P → ∀ y, y ∈ A2 ++ R → x.blk ≠ y.blk := fun x hx y hy => dP _ (List.mem_map.mpr ⟨x, hx, rfl⟩) _ (by
    rcases List.mem_append.mp hy with hy | hy
    · exact List.mem_append_left _ (List.mem_map.mpr ⟨y, hy, rfl⟩)
    · exact List.mem_append_right _ (List.mem_cons_of_mem _ (List.mem_map.mpr ⟨y, hy, rfl⟩)))
  have hXn : ∀ x, x ∈ A2 ++ R → x.blk ≠ nb := fun x hx => by
    rcases List.mem_append.mp hx with hx | hx
    · exact dA2 _ (List.mem_map.mpr ⟨x, hx, rfl⟩) _ (by simp)
    · intro e
      exact nbR (List.mem_map.mpr ⟨x, hx, e⟩)
  have hall : ∀ x, x ∈ P ++ (A2 ++ R) → x.blk ≠ g := fun x hx => h.apart x (by
    rcases List.mem_append.mp hx with hx | hx
    · simp [hx]
    · rcases List.mem_append.mp hx with hx | hx
      · simp [hx]
      · simp [hx])
  have hend : endB g P ≠ nb := by
    rcases List.eq_nil_or_concat P with rfl | ⟨P', x, rfl⟩
    · exact fun e => hgn e.symm
    · rw [List.concat_eq_append, endB_snoc]
      exact hPn x (by simp)
  have hch : Chain w (P ++ (A2 ++ ⟨nb, r, k⟩ :: R)) := by have := h.chain; rw [List.append_assoc] at this; exact this
  have hb0 : w.heap[nb]? = some (.cells (cellsN ⟨nb, r, k⟩ R).toArray 32 (0, 0)) := (Chain.drop (P := A2) (Chain.drop hch)).1
  have hb1 : (w.setCell ⟨nb, 4 + k, none⟩ (pv (nxt k R))).heap[nb]? = some (.cells (cellsN ⟨nb, r, k + 1⟩ R).toArray 32 (0, 0)) := blk_put hb0 (4 + k) _ (toArray_set (cellsN_set (x := ⟨nb, r, k⟩) (x' := ⟨nb, r, k + 1⟩) rfl (links_new hk)))
  refine ⟨?_, ?_, ?_, ?_⟩
  · rcases List.eq_nil_or_concat P with rfl | ⟨P', x, rfl⟩
    · have h0 := blk_setOther (b := nb) (j := 4 + k) (v := pv (nxt k R)) h.head (fun e => hgn e.symm)
      refine blk_put h0 (4 + k) _ (toArray_set (cellsH_set hk (links_set hk hk (fun i _ hi => ?_) ?_)))
      · exact nxt_other hi _
      · rw [List.nil_append, nxt_skip _ hlo, nxt, if_pos (Nat.lt_succ_self k)]
    · have h0 := blk_setOther (b := nb) (j := 4 + k) (v := pv (nxt k R)) h.head (fun e => hgn e.symm)
      rw [List.concat_eq_append, endB_snoc]
      have h2 := blk_setOther (b := x.blk) (j := 4 + k) (v := pv (some nb)) h0 (fun e => hall x (by simp) e.symm)
      rw [h2]
      have : cellsH TL ln ht (P' ++ [x] ++ A2 ++ ⟨nb, r, k⟩ :: R) = cellsH TL ln ht (P' ++ [x] ++ A2 ++ ⟨nb, r, k + 1⟩ :: R) := by
        rw [cellsH, cellsH, links_same fun i hi h12 => ?_]
        by_cases c : i = k
        · subst c
          exact nxt_found _ _ ⟨x, by simp, hh x (by simp)⟩
        · exact nxt_other c _
      rw [List.concat_eq_append] at *
      rw [this]
  · rw [List.append_assoc]
    refine chain_step (w := w) hk hlo (blk_setOther hb1 (fun e => hend e.symm)) P hch hh ?_ ?_ ?_ ndP
    · intro x hx hl
      refine blk_setOther (blk_setOther rfl ?_) ?_
      · rcases List.mem_append.mp hx with hx | hx
        · exact hPn x hx
        · exact hXn x hx
      · rcases List.eq_nil_or_concat P with rfl | ⟨P', y, rfl⟩
        · exact hall x hx
        · rw [List.concat_eq_append, endB_snoc]
          rw [List.concat_eq_append] at hx hl ndP hPr
          rcases List.mem_append.mp hx with hx | hx
          · rcases List.mem_append.mp hx with hx | hx
            · simp only [List.map_append, List.nodup_append] at ndP
              exact ndP.2.2 _ (List.mem_map.mpr ⟨x, hx, rfl⟩) _ (by simp)
            · rw [List.mem_singleton] at hx
              subst hx
              exact absurd (by simp) hl
          · exact fun e => hPr y (by simp) x hx e.symm
    · intro x hx cs hcs
      rcases List.eq_nil_or_concat P with rfl | ⟨P', y, rfl⟩
      · simp at hx
      · rw [List.concat_eq_append] at hx hPn ⊢
        rw [endB_snoc]
        simp at hx
        subst hx
        exact blk_put (blk_setOther hcs (hPn y (by simp))) (4 + k) _ rfl
    · intro x hx hl
      exact hPr x (List.mem_of_getLast? hl) x hx rfl
  · simpa using hnd
  · intro x hx
    rcases List.mem_append.mp hx with hx | hx
    · exact h.top x (List.mem_append_left _ hx)
    · rcases List.mem_cons.mp hx with rfl | hx
      · show k + 1 ≤ 12; omega
      · exact h.top x (List.mem_append_right _ (List.mem_cons_of_mem _ hx))
/-- The new node, so far without links. -/
theorem nxt_zero {i nb : Nat} {r : S28} {R : List Nd} : ∀ A : List Nd, nxt i (A ++ ⟨nb, r, 0⟩ :: R) = nxt i (A ++ R)
  | [] => by simp [nxt]
  | x :: A => by rw [List.cons_append, List.cons_append, nxt, nxt, nxt_zero A]
theorem chain_zero {w2 : World} (hnb : w2.heap[nb]? = some (.cells (cellsN ⟨nb, r, 0⟩ R).toArray 32 (0, 0))) (hs : ∀ x, x ∈ A ++ R → w2.heap[x.blk]? = w.heap[x.blk]?) (hc : Chain w (A ++ R)) : Chain w2 (A ++ ⟨nb, r, 0⟩ :: R) := by
  induction A with
  | nil => exact ⟨hnb, Chain.keep hc (fun x hx => hs x hx)⟩
  | cons x A ih =>
    have h1 : w.heap[x.blk]? = some (.cells (cellsN x (A ++ R)).toArray 32 (0, 0)) := hc.1
    refine ⟨(show w2.heap[x.blk]? = some (.cells (cellsN x (A ++ ⟨nb, r, 0⟩ :: R)).toArray 32 (0, 0)) from ?_), ih (fun y hy => hs y (List.mem_cons_of_mem _ hy)) hc.2⟩
    rw [hs x List.mem_cons_self, h1, cellsN, cellsN, links_same fun i _ _ => (nxt_zero (i := i) A).symm]
theorem SL.zero {ln ht : Int} {w2 : World} (h : SL TL w g ln ht (A ++ R)) (hb : Below w.heap.size w w2) (hnb : w2.heap[nb]? = some (.cells (cellsN ⟨nb, r, 0⟩ R).toArray 32 (0, 0))) (hge : w.heap.size ≤ nb) : SL TL w2 g ln ht (A ++ ⟨nb, r, 0⟩ :: R) := by
  have hlt := h.lt
  refine ⟨?_, chain_zero hnb (fun x hx => hb.block _ (hlt _ (.inr (List.mem_map.mpr ⟨x, hx, rfl⟩)))) h.chain, ?_, ?_⟩
  · rw [hb.block g (hlt g (.inl rfl)), h.head, cellsH, cellsH, links_same fun i _ _ => (nxt_zero (i := i) A).symm]
  · have hn : nb ∉ (A ++ R).map (·.blk) := fun hm => by have := hlt nb (.inr hm); omega
    have := h.nodup
    simp only [List.map_append, List.map_cons] at this hn ⊢
    rw [List.nodup_append] at this ⊢
    refine ⟨this.1, List.nodup_cons.mpr ⟨fun hm => hn (List.mem_append_right _ hm), this.2.1⟩, fun a ha b hb2 => ?_⟩
    rcases List.mem_cons.mp hb2 with rfl | hb2
    · exact fun e => hn (List.mem_append_left _ (e ▸ ha))
    · exact this.2.2 a ha b hb2
  · intro x hx
    rcases List.mem_append.mp hx with hx | hx
    · exact h.top x (List.mem_append_left _ hx)
    · rcases List.mem_cons.mp hx with rfl | hx
      · exact Nat.zero_le _
      · exact h.top x (List.mem_append_right _ hx)
end
end Go.Proofs.Ytfemebenkbobnaa.SM
