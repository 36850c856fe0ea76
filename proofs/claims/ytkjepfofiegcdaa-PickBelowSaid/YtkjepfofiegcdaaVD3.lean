import Derived.Test.YtkjepfofiegcdaaVC2
/- The span of tables and what overlaps it, in the plain. Conditions: none. -/
namespace Go.Proofs.Ytkjepfofiegcdaa.V
set_option linter.unusedVariables false
set_option linter.unusedSimpArgs false
open Go.RowKit Go.Proofs.YtkjepfofiegcdaaW.PrintWords Go.Proofs.YtkjepfofiegcdaaW.PrintLast Go.Proofs.YtkjepfofiegcdaaW.PrintMore Go.Proofs.Ytkjepfofiegcdaa.PB14
/-- a ≤ b -/
abbrev leB (a b : ByteArray) : Prop := Op.bytesLess b.toList a.toList = false
theorem leB_refl (a : ByteArray) : leB a a := less_irr _
theorem leB_trans {a b c : ByteArray} (h1 : leB a b) (h2 : leB b c) : leB a c := by
  unfold leB at *
  rw [← le_less] at h1 h2 ⊢
  rcases h1 with h1 | h1
  · rcases h2 with h2 | h2
    · exact .inl (less_trans h1 h2)
    · exact .inl (h2 ▸ h1)
  · rw [h1]; exact h2
theorem leB_of_less {a b : ByteArray} (h : Op.bytesLess a.toList b.toList = true) : leB a b := le_less.mp (.inl h)
theorem smn_l (x y : ByteArray) : leB (smn x y) x := by
  unfold smn
  split
  · rename_i h; exact leB_of_less h
  · exact leB_refl _
theorem smn_r (x y : ByteArray) : leB (smn x y) y := by
  unfold smn
  split
  · exact leB_refl _
  · rename_i h; exact eq_false_of_ne_true h
theorem smx_l (x y : ByteArray) : leB x (smx x y) := by
  unfold smx
  split
  · rename_i h; exact leB_of_less h
  · exact leB_refl _
theorem smx_r (x y : ByteArray) : leB y (smx x y) := by
  unfold smx
  split
  · exact leB_refl _
  · rename_i h; exact eq_false_of_ne_true h
theorem snoc_ind {α : Type} {P : List α → Prop} (h0 : P []) (h1 : ∀ L x, P L → P (L ++ [x])) : ∀ L, P L := by
  intro L
  have h : ∀ n, ∀ L : List α, L.length = n → P L := by
    intro n
    induction n with
    | zero => intro L hL; rw [List.eq_nil_of_length_eq_zero hL]; exact h0
    | succ n ih =>
      intro L hL
      rcases List.eq_nil_or_concat L with rfl | ⟨M, x, rfl⟩
      · exact h0
      · rw [List.concat_eq_append] at hL ⊢
        exact h1 M x (ih M (by simp at hL; omega))
  exact h _ L rfl
theorem span_in (L : List S58) : ∀ m : S58, m ∈ L → leB (spanM L).f3 m.f3 ∧ leB m.f4 (spanM L).f4 := by
  induction L using snoc_ind with
  | h0 => intro m hm; cases hm
  | h1 L x ih =>
    intro m hm
    unfold spanM
    rw [spanO_snoc]
    cases hs : spanO L with
    | none =>
      have hL : L = [] := by
        have h0 : ¬ L ≠ [] := fun h => by
          have := (spanO_some L).mpr h
          rw [hs] at this
          cases this
        simpa using h0
      subst hL
      simp at hm
      subst hm
      exact ⟨leB_refl _, leB_refl _⟩
    | some q =>
      have e : spanM L = ⟨0, 0, 0, q.1, q.2, 0, 0⟩ := by unfold spanM; rw [hs]; rfl
      rcases List.mem_append.mp hm with hm | hm
      · obtain ⟨h1, h2⟩ := ih m hm
        rw [e] at h1 h2
        exact ⟨leB_trans (smn_l _ _) h1, leB_trans h2 (smx_l _ _)⟩
      · simp at hm
        subst hm
        exact ⟨smn_r _ _, smx_r _ _⟩
theorem over_span {L : List S58} {a m : S58} (hm : m ∈ L) (h : overB a (spanM L) = false) : overB a m = false := by
  obtain ⟨h1, h2⟩ := span_in L m hm
  cases hq : overB a m with
  | false => rfl
  | true =>
    unfold overB at h hq
    simp only [Bool.and_eq_true, Bool.not_eq_true', Bool.and_eq_false_iff, Bool.not_eq_false'] at h hq
    rcases h with h | h
    · have h3 : leB (spanM L).f3 a.f4 := leB_trans h1 hq.1
      unfold leB at h3
      rw [h] at h3
      cases h3
    · have h3 : leB a.f3 (spanM L).f4 := leB_trans (show leB a.f3 m.f4 from hq.2) h2
      unfold leB at h3
      rw [h] at h3
      cases h3
theorem overB_congr {a s t : S58} (h3 : s.f3 = t.f3) (h4 : s.f4 = t.f4) : overB a s = overB a t := by unfold overB; rw [h3, h4]
/-- The state of a law's own span behind i tables. -/
def spK (L : List S58) (i : Nat) : Option (ByteArray × ByteArray) := spanO (L.take (max i 1))
theorem spK_zero {L : List S58} (h : 0 < L.length) : spK L 0 = some ((L.getD 0 z58).f3, (L.getD 0 z58).f4) := by
  unfold spK
  rw [show max 0 1 = 0 + 1 from rfl, take_snoc L z58 h]
  simp [spanO, spanS]
theorem spK_succ {L : List S58} {i : Nat} (h : i < L.length) : spK L (i + 1) = some (smn (spF (spK L i)) (L.getD i z58).f3, smx (spL (spK L i)) (L.getD i z58).f4) := by
  cases i with
  | zero =>
    rw [spK_zero h]
    show spanO (L.take (0 + 1)) = _
    rw [take_snoc L z58 h]
    simp [spanO, spanS, spF, spL, smn_self, smx_self]
  | succ i =>
    unfold spK
    rw [show max (i + 1 + 1) 1 = (i + 1) + 1 by omega, show max (i + 1) 1 = i + 1 by omega, take_snoc L z58 h, spanO_snoc, take_snoc L z58 (Nat.lt_of_succ_lt h), spanO_snoc]
    simp [spanS, spF, spL]
theorem spK_some {L : List S58} {i : Nat} (h : 0 < L.length) : ∃ q, spK L i = some q := by
  have : (spK L i).isSome = true := by
    unfold spK
    rw [spanO_some]
    intro e
    have h1 := congrArg List.length e
    rw [List.length_take, List.length_nil] at h1
    omega
  exact Option.isSome_iff_exists.mp this
theorem spK_all {L : List S58} (h : 0 < L.length) : spK L L.length = spanO L := by unfold spK; rw [show max L.length 1 = L.length by omega, List.take_length]
end Go.Proofs.Ytkjepfofiegcdaa.V
