import Derived.Test.YtkjepfofiegcdaaVM3Y
import Derived.Test.YtkjepfofiegcdaaVM1Y
import Derived.Test.YtkjepfofiegcdaaVF2Y
/- What a compaction that is picked takes away, in the plain: its edit may be applied, and what is left is a right version of fewer tables. Conditions: none. -/
namespace Go.Proofs.Ytkjepfofiegcdaa.V
set_option linter.unusedVariables false
set_option linter.unusedSimpArgs false
open Go.RowKit Go.Proofs.YtkjepfofiegcdaaW.PrintWords Go.Proofs.YtkjepfofiegcdaaW.PrintLast Go.Proofs.YtkjepfofiegcdaaW.PrintMore Go.Proofs.Ytkjepfofiegcdaa.PB14
def gapR (i : Nat) (a b : S58) : Prop := gapP i a b ∧ mayP a ∧ mayP b
theorem gapR_trans (i : Nat) (a b c : S58) (h1 : gapR i a b) (h2 : gapR i b c) : gapR i a c := by
 refine ⟨?_, h1.2.1, h2.2.2⟩
 have g1 := h1.1
 have g2 := h2.1
 unfold gapP at *
 by_cases e : i = 0
 ·rw [if_pos e] at *; omega
 ·rw [if_neg e] at *
  have h3 : Op.bytesLess b.f4.toList b.f3.toList = false := h1.2.2.2.2.2.2.2.2.2.2.2.1
  rcases le_less.mpr h3 with h4 | h4
  ·exact less_trans g1 (less_trans h4 g2)
  ·rw [h4] at g1; exact less_trans g1 g2
theorem right_gap {v : Ver} (h : rightP v) {i : Nat} (hi : i < 4) : (v.lv i).Pairwise (gapR i) :=
 pair_of (gapR_trans i) fun k hk => ⟨h.2.2 i hi k hk, right_mem h hi (getD_mem _ _ (by omega)), right_mem h hi (getD_mem _ _ (by omega))⟩
theorem ord_of_pair {i : Nat} {l : List S58} (h : l.Pairwise (gapR i)) : ∀ k, k < l.length - 1 → gapP i (l.getD k z58) (l.getD (k + 1) z58) := fun k hk => by
 have h2 := List.pairwise_iff_getElem.mp h k (k + 1) (by omega) (by omega) (by omega)
 rw [List.getD_eq_getElem?_getD, List.getD_eq_getElem?_getD, List.getElem?_eq_getElem (show k < l.length by omega), List.getElem?_eq_getElem (show k + 1 < l.length by omega)]
 exact h2.1
theorem cat_mem {y : Ver} {m : S58} (h : m ∈ catV y 4) : ∃ i, i < 4 ∧ m ∈ y.lv i := by
 rw [catV4] at h
 rcases List.mem_append.mp h with h | h
 ·rcases List.mem_append.mp h with h | h
  ·rcases List.mem_append.mp h with h | h
   ·exact ⟨0, by omega, h⟩
   ·exact ⟨1, by omega, h⟩
  ·exact ⟨2, by omega, h⟩
 ·exact ⟨3, by omega, h⟩
theorem mem_cat {y : Ver} {m : S58} {i : Nat} (hi : i < 4) (h : m ∈ y.lv i) : m ∈ catV y 4 := by
 rw [catV4]
 rcases (by omega : i = 0 ∨ i = 1 ∨ i = 2 ∨ i = 3) with rfl | rfl | rfl | rfl <;> simp [h]
theorem cnt_sub {v y : Ver} (hs : ∀ i, i < 4 → (y.lv i).Sublist (v.lv i)) (n : Int) : cntV y n ≤ cntV v n := by
 have k : ∀ i, i < 4 → (nums (y.lv i)).count n ≤ (nums (v.lv i)).count n := fun i hi => List.Sublist.count_le n (List.Sublist.map _ (hs i hi))
 rw [lv_cnt, lv_cnt]
 have k0 := k 0 (by omega)
 have k1 := k 1 (by omega)
 have k2 := k 2 (by omega)
 have k3 := k 3 (by omega)
 omega
/-! The tables of a compaction that is picked. -/
theorem minK_mem (l : List S58) (h : 0 < l.length) : ∀ k, k ≤ l.length → minK l k ∈ l
 | 0, _ => getD_mem l z58 h
 | k + 1, hk => by
  unfold minK
  split
  ·exact getD_mem l z58 (by omega)
  ·exact minK_mem l h k (by omega)
theorem due_sub {v : Ver} {many base times : Int} (hO : optP many base times) {lev : Nat} (hl : lev < 3) (hd : dueL v many base times lev ≠ []) : (dueL v many base times lev).Sublist (v.lv lev) := by
 rcases (by omega : lev = 0 ∨ 0 < lev) with rfl | h0
 ·show (if (v.l0.length : Int) < many then [] else v.l0).Sublist v.l0
  split
  ·exact List.nil_sublist _
  ·exact List.Sublist.refl _
 ·obtain ⟨h1, h2⟩ := due_min v many base times hO lev h0 hl hd
  rw [h1]
  exact List.singleton_sublist.mpr (minK_mem _ h2 _ (Nat.le_refl _))
theorem ovr_sub (v : Ver) (lev : Nat) (In : List S58) : (ovrL v lev In).Sublist (v.lv (lev + 1)) := List.filter_sublist
theorem range_getD {α : Type} (l : List α) (z : α) : (List.range l.length).map (fun i => l.getD i z) = l := by
 apply List.ext_getElem
 ·simp
 ·intro i h1 h2
  simp [List.getD_eq_getElem?_getD, List.getElem?_eq_getElem h2]
theorem gone_nums (lev : Int) (In Ov : List S58) : (goneL lev In Ov (In ++ Ov).length).map (·.f1) = nums (In ++ Ov) := by
 unfold goneL nums
 rw [List.map_map]
 conv => rhs; rw [← range_getD (In ++ Ov) z58, List.map_map]
 rfl
theorem lvOf_cases (lev : Nat) (In : List S58) (i : Nat) : (lvOf (lev : Int) In i = (lev : Int) ∧ i < In.length) ∨ (lvOf (lev : Int) In i = ((lev + 1 : Nat) : Int) ∧ In.length ≤ i) := by
 unfold lvOf
 by_cases h : i < In.length
 ·rw [if_pos h]; exact .inl ⟨rfl, h⟩
 ·rw [if_neg h]; exact .inr ⟨by omega, by omega⟩
theorem both_at {lev : Nat} {In Ov A B : List S58} (h1 : In.Sublist A) (h2 : Ov.Sublist B) {i : Nat} (hi : i < (In ++ Ov).length) : (i < In.length ∧ (In ++ Ov).getD i z58 ∈ A) ∨ (In.length ≤ i ∧ (In ++ Ov).getD i z58 ∈ B) := by
 rw [List.getD_eq_getElem?_getD]
 by_cases h : i < In.length
 ·rw [List.getElem?_append_left h, List.getElem?_eq_getElem h]
  exact .inl ⟨h, h1.subset (List.getElem_mem h)⟩
 ·rw [List.length_append] at hi
  rw [List.getElem?_append_right (by omega), List.getElem?_eq_getElem (by omega)]
  exact .inr ⟨by omega, h2.subset (List.getElem_mem _)⟩
theorem two_cnt {v : Ver} {lev : Nat} (hl : lev < 3) (n : Int) : (nums (v.lv lev)).count n + (nums (v.lv (lev + 1))).count n ≤ cntV v n := by
 rw [lv_cnt]
 rcases (by omega : lev = 0 ∨ lev = 1 ∨ lev = 2) with rfl | rfl | rfl <;> (simp only [Nat.zero_add, Nat.reduceAdd]; omega)
theorem both_nodup {v : Ver} (h : apV v) {lev : Nat} (hl : lev < 3) {In Ov : List S58} (h1 : In.Sublist (v.lv lev)) (h2 : Ov.Sublist (v.lv (lev + 1))) : (nums (In ++ Ov)).Nodup := by
 rw [List.nodup_iff_count]
 intro n
 have a1 : (nums In).count n ≤ (nums (v.lv lev)).count n := List.Sublist.count_le n (List.Sublist.map _ h1)
 have a2 : (nums Ov).count n ≤ (nums (v.lv (lev + 1))).count n := List.Sublist.count_le n (List.Sublist.map _ h2)
 have a3 := two_cnt (v := v) hl n
 have a4 := h n
 have a5 : (nums (In ++ Ov)).count n = (nums In).count n + (nums Ov).count n := by unfold nums; rw [List.map_append, List.count_append]
 omega
theorem gone_ok {v : Ver} (h : rightP v) {lev : Nat} (hl : lev < 3) {In Ov : List S58} (h1 : In.Sublist (v.lv lev)) (h2 : Ov.Sublist (v.lv (lev + 1))) : goneP v (lev : Int) In Ov (In ++ Ov).length := by
 refine ⟨fun i hi => ?_, ?_⟩
 ·rcases lvOf_cases lev In i with ⟨e, h3⟩ | ⟨e, h3⟩
  ·rw [e, Int.toNat_natCast]
   rcases both_at (lev := lev) h1 h2 hi with h4 | h4
   ·exact h4.2
   ·omega
  ·rw [e, Int.toNat_natCast]
   rcases both_at (lev := lev) h1 h2 hi with h4 | h4
   ·omega
   ·exact h4.2
 ·rw [List.take_length]
  exact both_nodup (right_ap h) hl h1 h2
end Go.Proofs.Ytkjepfofiegcdaa.V
namespace Go.Proofs.Ytkjepfofiegcdaa.V
set_option linter.unusedVariables false
set_option linter.unusedSimpArgs false
open Go.RowKit Go.Proofs.YtkjepfofiegcdaaW.PrintWords Go.Proofs.YtkjepfofiegcdaaW.PrintLast Go.Proofs.YtkjepfofiegcdaaW.PrintMore Go.Proofs.Ytkjepfofiegcdaa.PB14
attribute [local go_sem] max_two min_two min2_str max2_str
def okF (v : Ver) (L : List S58) (m : S58) : Prop := mayP m ∧ v.next ≤ m.f0 ∧ m.f6 ≤ v.seq ∧ Op.bytesLess m.f3.toList (spF (spanO L)).toList = false ∧ Op.bytesLess (spL (spanO L)).toList m.f4.toList = false
def FK (v : Ver) (L out : List S58) (k : Nat) : Prop := (∀ i, i < k → okF v L (out.getD i z58)) ∧ (∀ i, i + 1 < k → Op.bytesLess (out.getD i z58).f4.toList (out.getD (i + 1) z58).f3.toList = true) ∧ (nums (out.take k)).Nodup
def fitsP (v : Ver) (lev : Nat) (In Ov out : List S58) : Prop := FK v (In ++ Ov) out out.length ∧ (v.lv (lev + 1)).length - Ov.length + out.length ≤ 64
def FitPost (w w' : World) (x : Ending) (v : Ver) (lev : Nat) (In Ov out : List S58) : Prop := ∃ b : Bool, x = .returned (.bool b) ∧ (b = true → fitsP v lev In Ov out) ∧ Below w.heap.size w w'
theorem span_some {L : List S58} (h : L ≠ []) : ∃ q, spanO L = some q := by
 rcases List.eq_nil_or_concat L with e | ⟨l, x, e⟩
 ·exact absurd e h
 ·rw [e, List.concat_eq_append, spanO_snoc]
  exact ⟨_, rfl⟩
theorem spF_snoc {L : List S58} (h : L ≠ []) (m : S58) : spF (spanO (L ++ [m])) = smn (spF (spanO L)) m.f3 := by
 obtain ⟨q, hq⟩ := span_some h
 rw [spanO_snoc, hq]
 rfl
theorem spL_snoc {L : List S58} (h : L ≠ []) (m : S58) : spL (spanO (L ++ [m])) = smx (spL (spanO L)) m.f4 := by
 obtain ⟨q, hq⟩ := span_some h
 rw [spanO_snoc, hq]
 rfl
theorem take_nn {L : List S58} {k : Nat} (h : L ≠ []) (hk : 0 < k) : L.take k ≠ [] := fun e => by
 have h1 := congrArg List.length e
 rw [List.length_take, List.length_nil] at h1
 have h2 : 0 < L.length := List.length_pos_iff.mpr h
 omega
theorem in_step {In : List S58} {i : Nat} (hi : i < In.length) : smn (spF (spanO (In.take (max i 1)))) (In.getD i z58).f3 = spF (spanO (In.take (max (i + 1) 1))) ∧ smx (spL (spanO (In.take (max i 1)))) (In.getD i z58).f4 = spL (spanO (In.take (max (i + 1) 1))) := by
 have hne : In ≠ [] := fun e => by rw [e] at hi; simp at hi
 have h1 : max (i + 1) 1 = i + 1 := by omega
 rw [h1]
 by_cases h0 : i = 0
 ·subst h0
  have e : In.take 1 = [In.getD 0 z58] := by have := take_snoc In z58 (k := 0) (by omega); simpa using this
  have h2 : max 0 1 = 1 := by decide
  rw [h2, show 0 + 1 = 1 from rfl, e]
  exact ⟨smn_self _, smx_self _⟩
 ·have h2 : max i 1 = i := by omega
  rw [h2, take_snoc In z58 hi, spF_snoc (take_nn hne (by omega)), spL_snoc (take_nn hne (by omega))]
  exact ⟨rfl, rfl⟩
theorem ov_step {In Ov : List S58} {i : Nat} (hne : In ≠ []) (hi : i < Ov.length) : smn (spF (spanO (In ++ Ov.take i))) (Ov.getD i z58).f3 = spF (spanO (In ++ Ov.take (i + 1))) ∧ smx (spL (spanO (In ++ Ov.take i))) (Ov.getD i z58).f4 = spL (spanO (In ++ Ov.take (i + 1))) := by
 have h : In ++ Ov.take i ≠ [] := fun e => hne (List.append_eq_nil_iff.mp e).1
 rw [take_snoc Ov z58 hi, ← List.append_assoc, spF_snoc h, spL_snoc h]
 exact ⟨rfl, rfl⟩
theorem FK_zero (v : Ver) (L out : List S58) : FK v L out 0 := ⟨fun i hi => absurd hi (by omega), fun i hi => absurd hi (by omega), by rw [List.take_zero]; exact List.nodup_nil⟩
theorem FK_succ {v : Ver} {L out : List S58} {k : Nat} (h : FK v L out k) (hk : k < out.length) (ho : okF v L (out.getD k z58)) (hg : 0 < k → Op.bytesLess (out.getD (k - 1) z58).f4.toList (out.getD k z58).f3.toList = true) (hn : ∀ j, j < k → ¬ (out.getD j z58).f0 = (out.getD k z58).f0) : FK v L out (k + 1) := by
 refine ⟨fun i hi => ?_, fun i hi => ?_, ?_⟩
 ·by_cases e : i = k
  ·subst e; exact ho
  ·exact h.1 i (by omega)
 ·by_cases e : i + 1 = k
  ·subst e; exact hg (by omega)
  ·exact h.2.1 i (by omega)
 ·rw [take_snoc out z58 hk, nodup_snoc]
  refine ⟨h.2.2, fun hm => ?_⟩
  obtain ⟨x, hx, hf⟩ := mem_nums.mp hm
  obtain ⟨j, hj, e⟩ := List.getElem_of_mem hx
  rw [List.length_take] at hj
  refine hn j (by omega) ?_
  rw [List.getElem_take] at e
  rw [List.getD_eq_getElem?_getD, List.getElem?_eq_getElem (by omega), Option.getD_some, e, hf]
set_option maxHeartbeats 8000000 in
set_option maxRecDepth 100000 in
theorem fits_calls (w : World) (v : Ver) (p : Pl) (hC : VC w v p) (lev : Nat) (hl : lev < 3) (Ai : Option Addr) (ci : Nat) (In : List S58) (Ao : Option Addr) (co : Nat) (Ov : List S58) (A2 : Option Addr) (c2 : Nat) (out : List S58) (h1 : k58.C w Ai In.length In) (h2 : k58.C w Ao Ov.length Ov) (h5 : k58.C w A2 out.length out) (hne : In ≠ [])
  (l1 : In.length ≤ 80) (l2 : Ov.length ≤ 80) (l5 : out.length ≤ 80) (lv1 : ∀ i, i < 4 → (v.lv i).length ≤ 80) (lo : Ov.length ≤ (v.lv (lev + 1)).length) :
  Calls Try.prog 70 #[.agg (vCs v p), .agg #[.int .i64 (lev : Int), .slice Ai In.length ci, .slice Ao Ov.length co], .slice A2 out.length c2] w fun x w' => FitPost w w' x v lev In Ov out := by
 have hpos : 0 < In.length := List.length_pos_iff.mpr hne
 obtain ⟨adI, ei, _⟩ := at_T58 h1 0 (by omega) (by omega)
 subst ei
 have HC := Aside0.mk hC
 have CI := Aside0.mk h1
 have CO := Aside0.mk h2
 have C5 := Aside0.mk h5
 have NE := Aside0.mk hne
 have LI := Aside0.mk l1
 have LO := Aside0.mk l2
 have L5 := Aside0.mk l5
 have LV1 := Aside0.mk lv1
 have LOV := Aside0.mk lo
 have HL := Aside0.mk hl
 have HB1 := Aside0.mk (below_alloc ((Below.refl w.heap.size w).alloc (Nat.le_refl _) (.cells (vCs v p) 26)) (.cells #[.int .i64 (lev : Int), .slice (some adI) In.length ci, .slice Ao Ov.length co] 52))
 have X1 := Aside0.mk (blk_alloc (blk_new w (.cells (vCs v p) 26)) (.cells #[.int .i64 (lev : Int), .slice (some adI) In.length ci, .slice Ao Ov.length co] 52))
 have X4 := Aside0.mk (blk_new (w.alloc (.cells (vCs v p) 26)) (.cells #[.int .i64 (lev : Int), .slice (some adI) In.length ci, .slice Ao Ov.length co] 52))
 have d9 : decide ((In.length : Int) = 0) = false := decide_eq_false (by omega)
 have d8 : decide (In.length = 0) = false := decide_eq_false (by omega)
 have d7 : ((In.length : Int) == 0) = false := beq_eq_false_iff_ne.mpr (by omega)
 have HP := Aside0.mk hpos
 clear hC h1 h2 h5 hne l1 l2 l5 lv1 lo hl
 go_enter Try.func70, Try.ntmps70
 go_upto_region 1 with (fail)
 generalize hg4 : (w.alloc (.cells (vCs v p) 26)).heap.size = g4 at *
 have e4_ : w.heap.size + 1 = g4 := by rw [← hg4]; simp
 try rw [e4_]
 clear hg4 e4_
 generalize (w.alloc (.cells (vCs v p) 26)).alloc (.cells #[.int .i64 (lev : Int), .slice (some adI) In.length ci, .slice Ao Ov.length co] 52) = w1 at *
 have k0 : w1.cell? ⟨g4, 0, none⟩ = some (.int .i64 (lev : Int)) := (blk_cell X4.out 0).trans rfl
 have k1 : w1.cell? ⟨g4, 1, none⟩ = some (.slice (some adI) In.length ci) := (blk_cell X4.out 1).trans rfl
 have k2 : w1.cell? ⟨g4, 2, none⟩ = some (.slice Ao Ov.length co) := (blk_cell X4.out 2).trans rfl
 have hp1 : (0 : Int) < (In.length : Int) := by omega
 obtain ⟨ad, ea, ha0, ha1, ha2, ha3, ha4, ha5, ha6⟩ := at_T58 (Kd.C_below CI.out HB1.out) 0 (by omega) hp1
 obtain rfl : adI = ad := by injection ea
 have az : adI.add (Int.toNat 0 * 7) = adI := by show adI.add 0 = adI; unfold Addr.add; rw [if_pos rfl]
 rw [az] at ha0 ha1 ha2 ha3 ha4 ha5 ha6
 have EM0 := Aside0.mk (show rd_T58 In 0 = In.getD 0 z58 from rfl)
 generalize rd_T58 In 0 = m0 at *
 have S0 := Aside0.mk (show spF (spanO (In.take (max 0 1))) = m0.f3 ∧ spL (spanO (In.take (max 0 1))) = m0.f4 by
  have e : In.take 1 = [In.getD 0 z58] := by have := take_snoc In z58 (k := 0) (List.length_pos_iff.mpr NE.out); simpa using this
  rw [show max 0 1 = 1 from rfl, e, ← EM0.out]
  exact ⟨rfl, rfl⟩)
 clear ea hpos
 go_wp2_with fail
 go_quiet (fail)
 go_wp2_with fail
 clear ha0 ha1 ha2 ha3 ha4 ha5 ha6 hp1 d7 d8 d9 k0 k1 k2
 go_loopg [7, 8, 9] In.length (fun kq v7 v8 v9 w' => ∃ i : Nat, v9 = .int .i64 (i : Int) ∧ v7 = .string (spF (spanO (In.take (max i 1)))) ∧ v8 = .string (spL (spanO (In.take (max i 1)))) ∧ Aside0 (kq + i = In.length) ∧ Aside0 (Below w1.heap.size w1 w'))
 case atStart => exact ⟨0, rfl, by rw [S0.out.1], by rw [S0.out.2], ⟨by omega⟩, ⟨pw_below_drewN (Below.refl _ _) nq⟩⟩
 case round =>
  obtain ⟨i, rfl, rfl, rfl, HK, HBW⟩ := hrel
  have X4r := Aside0.mk (blk_below X4.out HBW.out)
  have k0 : wr.cell? ⟨g4, 0, none⟩ = some (.int .i64 (lev : Int)) := (blk_cell X4r.out 0).trans rfl
  have k1 : wr.cell? ⟨g4, 1, none⟩ = some (.slice (some adI) In.length ci) := (blk_cell X4r.out 1).trans rfl
  have k2 : wr.cell? ⟨g4, 2, none⟩ = some (.slice Ao Ov.length co) := (blk_cell X4r.out 2).trans rfl
  cases gk with
  | zero =>
   have ei : i = In.length := by have := HK.out; omega
   subst ei
   have d0 : decide ((In.length : Int) < (In.length : Int)) = false := by simp
   have EL := Aside0.mk (show In.take (max In.length 1) = In ++ Ov.take 0 by rw [show max In.length 1 = In.length by have := HP.out; omega, List.take_length, List.take_zero, List.append_nil])
   rw [EL.out]
   clear EL
   go_wp2_with fail
   clear k0 k1 k2
   go_loopg [7, 8, 10] Ov.length (fun kq v7 v8 v10 w' => ∃ i : Nat, v10 = .int .i64 (i : Int) ∧ v7 = .string (spF (spanO (In ++ Ov.take i))) ∧ v8 = .string (spL (spanO (In ++ Ov.take i))) ∧ Aside0 (kq + i = Ov.length) ∧ Aside0 (Below w1.heap.size w1 w'))
   case atStart => exact ⟨0, rfl, rfl, rfl, ⟨by omega⟩, HBW⟩
   case round =>
    clear HBW X4r HK
    obtain ⟨i, rfl, rfl, rfl, HK, HBW⟩ := hrel
    have X4r := Aside0.mk (blk_below X4.out HBW.out)
    have k0 : wr.cell? ⟨g4, 0, none⟩ = some (.int .i64 (lev : Int)) := (blk_cell X4r.out 0).trans rfl
    have k1 : wr.cell? ⟨g4, 1, none⟩ = some (.slice (some adI) In.length ci) := (blk_cell X4r.out 1).trans rfl
    have k2 : wr.cell? ⟨g4, 2, none⟩ = some (.slice Ao Ov.length co) := (blk_cell X4r.out 2).trans rfl
    cases gk with
    | zero =>
     have ei : i = Ov.length := by have := HK.out; omega
     subst ei
     have d0 : decide ((Ov.length : Int) < (Ov.length : Int)) = false := by simp
     rw [List.take_length]
     go_wp2_with fail
     clear k0 k1 k2
     obtain ⟨aF, haF⟩ : ∃ a, a = spF (spanO (In ++ Ov)) := ⟨_, rfl⟩
     obtain ⟨aL, haL⟩ : ∃ a, a = spL (spanO (In ++ Ov)) := ⟨_, rfl⟩
     rw [← haF, ← haL]
     have FE := Aside0.mk haF
     have LE := Aside0.mk haL
     clear haF haL
     go_loopg [11, 12, 13] out.length (fun kq v11 v12 v13 w' => ∃ k : Nat, v11 = .int .i64 (k : Int) ∧ Aside0 (kq + k = out.length) ∧ Aside0 (Below w1.heap.size w1 w') ∧ Aside0 (FK v (In ++ Ov) out k))
     case atStart => exact ⟨0, rfl, ⟨by omega⟩, HBW, ⟨FK_zero _ _ _⟩⟩
     case round =>
      clear HBW X4r HK
      obtain ⟨k, rfl, HK3, HBW, FKK⟩ := hrel
      have X4r := Aside0.mk (blk_below X4.out HBW.out)
      have X1r := Aside0.mk (blk_below X1.out HBW.out)
      have HB9 := Aside0.mk (below_step HB1.out HBW.out)
      cases gk with
      | zero =>
       have ek : k = out.length := by have := HK3.out; omega
       subst ek
       have d0 : decide ((out.length : Int) < (out.length : Int)) = false := by simp
       have k0 : wr.cell? ⟨g4, 0, none⟩ = some (.int .i64 (lev : Int)) := (blk_cell X4r.out 0).trans rfl
       have k1 : wr.cell? ⟨g4, 1, none⟩ = some (.slice (some adI) In.length ci) := (blk_cell X4r.out 1).trans rfl
       have k2 : wr.cell? ⟨g4, 2, none⟩ = some (.slice Ao Ov.length co) := (blk_cell X4r.out 2).trans rfl
       go_upto_region 25 with (fail)
       have LT := Aside0.mk (show lev = 0 ∨ lev = 1 ∨ lev = 2 by have := HL.out; omega)
       rcases LT.out with rfl | rfl | rfl
       ·have kk : wr.cell? ⟨g4, 0, none⟩ = some (.int .i64 0) := (blk_cell X4r.out 0).trans rfl
        have bb : wr.cell? ⟨w.heap.size, 4, none⟩ = some (.slice p.a1 v.l1.length p.c1) := (blk_cell X1r.out 4).trans rfl
        clear k0
        go_quiet (fail)
        go_wp2_with fail
        go_ret
        refine ⟨_, rfl, fun h => ⟨FKK.out, ?_⟩, pw_below_drewN HB9.out nq⟩
        have h2 := of_decide_eq_true h
        have e1 : (v.lv (0 + 1)).length = v.l1.length := rfl
        have e2 := LOV.out
        have e3 := LV1.out (0 + 1) (by omega)
        have e4 := LO.out
        have e5 := L5.out
        unfold wrap64 at h2
        omega
       ·have kk : wr.cell? ⟨g4, 0, none⟩ = some (.int .i64 1) := (blk_cell X4r.out 0).trans rfl
        have bb : wr.cell? ⟨w.heap.size, 5, none⟩ = some (.slice p.a2 v.l2.length p.c2) := (blk_cell X1r.out 5).trans rfl
        clear k0
        go_quiet (fail)
        go_wp2_with fail
        go_ret
        refine ⟨_, rfl, fun h => ⟨FKK.out, ?_⟩, pw_below_drewN HB9.out nq⟩
        have h2 := of_decide_eq_true h
        have e1 : (v.lv (1 + 1)).length = v.l2.length := rfl
        have e2 := LOV.out
        have e3 := LV1.out (1 + 1) (by omega)
        have e4 := LO.out
        have e5 := L5.out
        unfold wrap64 at h2
        omega
       ·have kk : wr.cell? ⟨g4, 0, none⟩ = some (.int .i64 2) := (blk_cell X4r.out 0).trans rfl
        have bb : wr.cell? ⟨w.heap.size, 6, none⟩ = some (.slice p.a3 v.l3.length p.c3) := (blk_cell X1r.out 6).trans rfl
        clear k0
        go_quiet (fail)
        go_wp2_with fail
        go_ret
        refine ⟨_, rfl, fun h => ⟨FKK.out, ?_⟩, pw_below_drewN HB9.out nq⟩
        have h2 := of_decide_eq_true h
        have e1 : (v.lv (2 + 1)).length = v.l3.length := rfl
        have e2 := LOV.out
        have e3 := LV1.out (2 + 1) (by omega)
        have e4 := LO.out
        have e5 := L5.out
        unfold wrap64 at h2
        omega
      | succ z3 =>
       have KL := Aside0.mk (show k < out.length by have := HK3.out; omega)
       have d0 : decide ((k : Int) < (out.length : Int)) = true := decide_eq_true (by have := KL.out; omega)
       have d1 : decide (k < out.length) = true := decide_eq_true KL.out
       have p0 : 0 ≤ (k : Int) := Int.natCast_nonneg _
       have p1 : (k : Int) < (out.length : Int) := by have := KL.out; omega
       have C5r := Aside0.mk (Kd.C_below (Kd.C_below C5.out HB1.out) HBW.out)
       obtain ⟨ad, ea, ha0, ha1, ha2, ha3, ha4, ha5, ha6⟩ := at_T58 C5r.out (k : Int) p0 p1
       rw [Int.toNat_natCast] at ha0 ha1 ha2 ha3 ha4 ha5 ha6
       have EM := Aside0.mk (show rd_T58 out (k : Int) = out.getD k z58 by unfold rd_T58; rw [Int.toNat_natCast])
       generalize rd_T58 out (k : Int) = m at *
       rw [ea]
       have HAX := Aside0.mk ea
       clear ea
       have hb1 := Aside0.mk ((Below.refl wr.heap.size wr).alloc (Nat.le_refl _) (.cells (mCs m) 58))
       have HB5 := Aside0.mk (below_step HB9.out hb1.out)
       have HBW5 := Aside0.mk (below_step HBW.out hb1.out)
       have X15 := Aside0.mk (blk_below X1r.out hb1.out)
       have BM5 := Aside0.mk (blk_new wr (.cells (mCs m) 58))
       have C55 := Aside0.mk (Kd.C_below C5r.out hb1.out)
       go_upto_region 16 with (fail)
       clear hb1 ha0 ha1 ha2 ha3 ha4 ha5 ha6
       generalize wr.heap.size = g12 at *
       generalize wr.alloc (.cells (mCs m) 58) = w5 at *
       have y0 : w5.cell? ⟨g12, 0, none⟩ = some (.int .u64 m.f0) := (blk_cell BM5.out 0).trans rfl
       have y1 : w5.cell? ⟨g12, 1, none⟩ = some (.int .i64 m.f1) := (blk_cell BM5.out 1).trans rfl
       have y2 : w5.cell? ⟨g12, 2, none⟩ = some (.int .i64 m.f2) := (blk_cell BM5.out 2).trans rfl
       have y3 : w5.cell? ⟨g12, 3, none⟩ = some (.string m.f3) := (blk_cell BM5.out 3).trans rfl
       have y4 : w5.cell? ⟨g12, 4, none⟩ = some (.string m.f4) := (blk_cell BM5.out 4).trans rfl
       have y5 : w5.cell? ⟨g12, 5, none⟩ = some (.int .u64 m.f5) := (blk_cell BM5.out 5).trans rfl
       have y6 : w5.cell? ⟨g12, 6, none⟩ = some (.int .u64 m.f6) := (blk_cell BM5.out 6).trans rfl
       go_wp2_with fail
       refine (mayR_calls _ m).mono ?_
       rintro x w6 ⟨rfl, hb⟩
       have HB6 := Aside0.mk (below_step HB5.out hb)
       have HBW6 := Aside0.mk (below_step HBW5.out hb)
       have X16 := Aside0.mk (blk_below X15.out hb)
       have BM6 := Aside0.mk (blk_below BM5.out hb)
       have C56 := Aside0.mk (Kd.C_below C55.out hb)
       clear hb y0 y1 y2 y3 y4 y5 y6
       have y0 : w6.cell? ⟨g12, 0, none⟩ = some (.int .u64 m.f0) := (blk_cell BM6.out 0).trans rfl
       have y1 : w6.cell? ⟨g12, 1, none⟩ = some (.int .i64 m.f1) := (blk_cell BM6.out 1).trans rfl
       have y2 : w6.cell? ⟨g12, 2, none⟩ = some (.int .i64 m.f2) := (blk_cell BM6.out 2).trans rfl
       have y3 : w6.cell? ⟨g12, 3, none⟩ = some (.string m.f3) := (blk_cell BM6.out 3).trans rfl
       have y4 : w6.cell? ⟨g12, 4, none⟩ = some (.string m.f4) := (blk_cell BM6.out 4).trans rfl
       have y5 : w6.cell? ⟨g12, 5, none⟩ = some (.int .u64 m.f5) := (blk_cell BM6.out 5).trans rfl
       have y6 : w6.cell? ⟨g12, 6, none⟩ = some (.int .u64 m.f6) := (blk_cell BM6.out 6).trans rfl
       have b1 : w6.cell? ⟨w.heap.size, 1, none⟩ = some (.int .u64 v.next) := (blk_cell X16.out 1).trans rfl
       have b2 : w6.cell? ⟨w.heap.size, 2, none⟩ = some (.int .u64 v.seq) := (blk_cell X16.out 2).trans rfl
       by_cases hmp : mayP m
       ·rw [decide_eq_true hmp]
        have MPP := Aside0.mk hmp
        clear hmp
        by_cases c1 : m.f0 < v.next
        ·have t1 : decide (m.f0 < v.next) = true := decide_eq_true c1
         clear c1
         go_wp2_with fail
         go_ret
         exact ⟨false, rfl, (fun h => by cases h), HB6.out⟩
        ·have t1 : decide (m.f0 < v.next) = false := decide_eq_false c1
         have G1 := Aside0.mk c1
         clear c1
         by_cases c2 : v.seq < m.f6
         ·have t2 : decide (v.seq < m.f6) = true := decide_eq_true c2
          clear c2
          go_wp2_with fail
          go_ret
          exact ⟨false, rfl, (fun h => by cases h), HB6.out⟩
         ·have t2 : decide (v.seq < m.f6) = false := decide_eq_false c2
          have G2 := Aside0.mk c2
          clear c2
          cases c3 : Op.bytesLess m.f3.toList aF.toList with
          | true =>
           go_wp2_with fail
           go_ret
           exact ⟨false, rfl, (fun h => by cases h), HB6.out⟩
          | false =>
           have G3 := Aside0.mk c3
           cases c4 : Op.bytesLess aL.toList m.f4.toList with
           | true =>
            have p8 : ¬ (Op.bytesLess m.f4.toList aL.toList = true ∨ m.f4.toList = aL.toList) := fun h_ => by rw [le_less] at h_; rw [h_] at c4; cases c4
            have s8 : Op.bytesLess m.f4.toList aL.toList = false := by cases hq : Op.bytesLess m.f4.toList aL.toList with | false => rfl | true => exact absurd (.inl hq) p8
            have t8 : ¬ m.f4.toList = aL.toList := fun h_ => p8 (.inr h_)
            have u8 : (m.f4.toList == aL.toList) = false := beq_eq_false_iff_ne.mpr t8
            have r8 : (Op.bytesLess m.f4.toList aL.toList || m.f4.toList == aL.toList) = false := by rw [s8, u8]; rfl
            go_wp2_with fail
            go_ret
            exact ⟨false, rfl, (fun h => by cases h), HB6.out⟩
           | false =>
            have G4 := Aside0.mk c4
            have p8 : Op.bytesLess m.f4.toList aL.toList = true ∨ m.f4.toList = aL.toList := le_less.mpr c4
            rcases p8 with c5 | c6
            ·go_upto_region 18 with (fail)
             have OKM := Aside0.mk (show okF v (In ++ Ov) m from ⟨MPP.out, by have := G1.out; omega, by have := G2.out; omega, by rw [← FE.out]; exact G3.out, by rw [← LE.out]; exact G4.out⟩)
             clear b1 b2
             clear c3 c4 c5 t1 t2
             by_cases hk0 : k = 0
             ·have t0 : decide (0 < (k : Int)) = false := decide_eq_false (by omega)
              have t1 : decide (0 < k) = false := decide_eq_false (by omega)
              have GAP := Aside0.mk (show 0 < k → Op.bytesLess (out.getD (k - 1) z58).f4.toList (out.getD k z58).f3.toList = true from fun h => absurd h (by omega))
              clear hk0
              go_quiet (fail)
              go_wp2_with fail
              go_loopg [13] k (fun kq v13 w' => ∃ j : Nat, v13 = .int .i64 (j : Int) ∧ Aside0 (kq + j = k) ∧ Aside0 (Below w6.heap.size w6 w') ∧ Aside0 (∀ i, i < j → ¬ (out.getD i z58).f0 = m.f0))
              case atStart => exact ⟨0, rfl, ⟨by omega⟩, ⟨pw_below_drewN (Below.refl _ _) nq⟩, ⟨fun i hi => by omega⟩⟩
              case round =>
               obtain ⟨j, rfl, HK4, HBX, HJ⟩ := hrel
               have BMr := Aside0.mk (blk_below BM6.out HBX.out)
               have y0 : wr.cell? ⟨g12, 0, none⟩ = some (.int .u64 m.f0) := (blk_cell BMr.out 0).trans rfl
               have HB9 := Aside0.mk (below_step HB6.out HBX.out)
               cases gk with
               | zero =>
                have ej : j = k := by have := HK4.out; omega
                subst ej
                have d2 : decide ((j : Int) < (j : Int)) = false := by simp
                go_wp2_with fail
                have ew : wrap64 ((j : Int) + 1) = ((j + 1 : Nat) : Int) := by have h1 := L5.out; have h2 := KL.out; unfold wrap64; omega
                try rw [ew]
                rw [← HAX.out]
                clear ew y0
                go_roundg z3
                case measure => omega
                case rel => exact ⟨j + 1, rfl, ⟨by have := HK3.out; omega⟩, ⟨below_step HBW6.out HBX.out⟩, ⟨FK_succ FKK.out KL.out (by rw [← EM.out]; exact OKM.out) GAP.out (fun i hi => by rw [← EM.out]; exact HJ.out i hi)⟩⟩
               | succ q4 =>
                have hj : j < k := by have := HK4.out; omega
                have HJK := Aside0.mk hj
                have d2 : decide ((j : Int) < (k : Int)) = true := decide_eq_true (by omega)
                have d3 : decide (j < k) = true := decide_eq_true hj
                have j0 : 0 ≤ (j : Int) := Int.natCast_nonneg _
                have j1 : (j : Int) < (out.length : Int) := by have := KL.out; omega
                obtain ⟨ad2, ea2, hb0, _, _, _, _, _, _⟩ := at_T58 (Kd.C_below C56.out HBX.out) (j : Int) j0 j1
                rw [Int.toNat_natCast] at hb0
                rw [HAX.out] at ea2
                obtain rfl : ad = ad2 := by injection ea2
                have EJ := Aside0.mk (show rd_T58 out (j : Int) = out.getD j z58 by unfold rd_T58; rw [Int.toNat_natCast])
                generalize rd_T58 out (j : Int) = mj at *
                clear hj ea2
                by_cases hq : mj.f0 = m.f0
                ·have q1 : decide (mj.f0 = m.f0) = true := decide_eq_true hq
                 have q2 : (mj.f0 == m.f0) = true := beq_iff_eq.mpr hq
                 clear hq
                 go_wp2_with fail
                 go_quiet (fail)
                 go_wp2_with fail
                 go_ret
                 exact ⟨false, rfl, (fun h => by cases h), pw_below_drewN HB9.out nq⟩
                ·have q1 : decide (mj.f0 = m.f0) = false := decide_eq_false hq
                 have q2 : (mj.f0 == m.f0) = false := beq_eq_false_iff_ne.mpr hq
                 have NQ := Aside0.mk (show ¬ (out.getD j z58).f0 = m.f0 by rw [← EJ.out]; exact hq)
                 clear hq
                 go_wp2_with fail
                 go_quiet (fail)
                 go_wp2_with fail
                 have ew : wrap64 ((j : Int) + 1) = ((j + 1 : Nat) : Int) := by have h1 := L5.out; have h2 := KL.out; have h3 := HJK.out; unfold wrap64; omega
                 try rw [ew]
                 clear ew
                 go_roundg q4
                 case measure => omega
                 case rel => exact ⟨j + 1, rfl, ⟨by have := HK4.out; omega⟩, ⟨pw_below_drewN HBX.out nq⟩, ⟨fun i hi => by
                  by_cases e : i = j
                  ·subst e; exact NQ.out
                  ·exact HJ.out i (by omega)⟩⟩
             ·have t0 : decide (0 < (k : Int)) = true := decide_eq_true (by omega)
              have t1 : decide (0 < k) = true := decide_eq_true (by omega)
              obtain ⟨x, hx⟩ : ∃ x : Int, x = (k : Int) - 1 := ⟨_, rfl⟩
              have x0 : 0 ≤ x := by omega
              have x1 : x < (out.length : Int) := by have := KL.out; omega
              obtain ⟨ad3, ea3, hc0, hc1, hc2, hc3, hc4, hc5, hc6⟩ := at_T58 C56.out x x0 x1
              rw [HAX.out] at ea3
              obtain rfl : ad = ad3 := by injection ea3
              have EX := Aside0.mk (show rd_T58 out x = out.getD (k - 1) z58 by unfold rd_T58; rw [show x.toNat = k - 1 by omega])
              generalize rd_T58 out x = mx at *
              have ex1 : IntKind.i64.wrap ((k : Int) - 1) = x := by have := L5.out; have := KL.out; rw [IntKind.wrap_i64]; omega
              have ex2 : wrap64 ((k : Int) - 1) = x := by have := L5.out; have := KL.out; unfold wrap64; omega
              clear ea3 hk0 hx
              cases hgap : Op.bytesLess mx.f4.toList m.f3.toList with
              | true =>
               have p9 : ¬ (Op.bytesLess m.f3.toList mx.f4.toList = true ∨ m.f3.toList = mx.f4.toList) := fun h_ => by rw [le_less] at h_; rw [h_] at hgap; cases hgap
               have s9 : Op.bytesLess m.f3.toList mx.f4.toList = false := by cases hq : Op.bytesLess m.f3.toList mx.f4.toList with | false => rfl | true => exact absurd (.inl hq) p9
               have t9 : ¬ m.f3.toList = mx.f4.toList := fun h_ => p9 (.inr h_)
               have u9 : (m.f3.toList == mx.f4.toList) = false := beq_eq_false_iff_ne.mpr t9
               have r9 : (Op.bytesLess m.f3.toList mx.f4.toList || m.f3.toList == mx.f4.toList) = false := by rw [s9, u9]; rfl
               have GAP := Aside0.mk (show 0 < k → Op.bytesLess (out.getD (k - 1) z58).f4.toList (out.getD k z58).f3.toList = true from fun _ => by rw [← EX.out, ← EM.out]; exact hgap)
               go_quiet (fail)
               clear hc0 hc1 hc2 hc3 hc4 hc5 hc6
               go_wp2_with fail
               go_loopg [13] k (fun kq v13 w' => ∃ j : Nat, v13 = .int .i64 (j : Int) ∧ Aside0 (kq + j = k) ∧ Aside0 (Below w6.heap.size w6 w') ∧ Aside0 (∀ i, i < j → ¬ (out.getD i z58).f0 = m.f0))
               case atStart => exact ⟨0, rfl, ⟨by omega⟩, ⟨pw_below_drewN (Below.refl _ _) nq⟩, ⟨fun i hi => by omega⟩⟩
               case round =>
                obtain ⟨j, rfl, HK4, HBX, HJ⟩ := hrel
                have BMr := Aside0.mk (blk_below BM6.out HBX.out)
                have y0 : wr.cell? ⟨g12, 0, none⟩ = some (.int .u64 m.f0) := (blk_cell BMr.out 0).trans rfl
                have HB9 := Aside0.mk (below_step HB6.out HBX.out)
                cases gk with
                | zero =>
                 have ej : j = k := by have := HK4.out; omega
                 subst ej
                 have d2 : decide ((j : Int) < (j : Int)) = false := by simp
                 go_wp2_with fail
                 have ew : wrap64 ((j : Int) + 1) = ((j + 1 : Nat) : Int) := by have h1 := L5.out; have h2 := KL.out; unfold wrap64; omega
                 try rw [ew]
                 rw [← HAX.out]
                 clear ew y0
                 go_roundg z3
                 case measure => omega
                 case rel => exact ⟨j + 1, rfl, ⟨by have := HK3.out; omega⟩, ⟨below_step HBW6.out HBX.out⟩, ⟨FK_succ FKK.out KL.out (by rw [← EM.out]; exact OKM.out) GAP.out (fun i hi => by rw [← EM.out]; exact HJ.out i hi)⟩⟩
                | succ q4 =>
                 have hj : j < k := by have := HK4.out; omega
                 have HJK := Aside0.mk hj
                 have d2 : decide ((j : Int) < (k : Int)) = true := decide_eq_true (by omega)
                 have d3 : decide (j < k) = true := decide_eq_true hj
                 have j0 : 0 ≤ (j : Int) := Int.natCast_nonneg _
                 have j1 : (j : Int) < (out.length : Int) := by have := KL.out; omega
                 obtain ⟨ad2, ea2, hb0, _, _, _, _, _, _⟩ := at_T58 (Kd.C_below C56.out HBX.out) (j : Int) j0 j1
                 rw [Int.toNat_natCast] at hb0
                 rw [HAX.out] at ea2
                 obtain rfl : ad = ad2 := by injection ea2
                 have EJ := Aside0.mk (show rd_T58 out (j : Int) = out.getD j z58 by unfold rd_T58; rw [Int.toNat_natCast])
                 generalize rd_T58 out (j : Int) = mj at *
                 clear hj ea2
                 by_cases hq : mj.f0 = m.f0
                 ·have q1 : decide (mj.f0 = m.f0) = true := decide_eq_true hq
                  have q2 : (mj.f0 == m.f0) = true := beq_iff_eq.mpr hq
                  clear hq
                  go_wp2_with fail
                  go_quiet (fail)
                  go_wp2_with fail
                  go_ret
                  exact ⟨false, rfl, (fun h => by cases h), pw_below_drewN HB9.out nq⟩
                 ·have q1 : decide (mj.f0 = m.f0) = false := decide_eq_false hq
                  have q2 : (mj.f0 == m.f0) = false := beq_eq_false_iff_ne.mpr hq
                  have NQ := Aside0.mk (show ¬ (out.getD j z58).f0 = m.f0 by rw [← EJ.out]; exact hq)
                  clear hq
                  go_wp2_with fail
                  go_quiet (fail)
                  go_wp2_with fail
                  have ew : wrap64 ((j : Int) + 1) = ((j + 1 : Nat) : Int) := by have h1 := L5.out; have h2 := KL.out; have h3 := HJK.out; unfold wrap64; omega
                  try rw [ew]
                  clear ew
                  go_roundg q4
                  case measure => omega
                  case rel => exact ⟨j + 1, rfl, ⟨by have := HK4.out; omega⟩, ⟨pw_below_drewN HBX.out nq⟩, ⟨fun i hi => by
                   by_cases e : i = j
                   ·subst e; exact NQ.out
                   ·exact HJ.out i (by omega)⟩⟩
              | false =>
               have p9 : Op.bytesLess m.f3.toList mx.f4.toList = true ∨ m.f3.toList = mx.f4.toList := le_less.mpr hgap
               have r9 : (Op.bytesLess m.f3.toList mx.f4.toList || m.f3.toList == mx.f4.toList) = true := by rw [Bool.or_eq_true, beq_iff_eq]; exact p9
               go_quiet (fail)
               go_wp2_with fail
               go_ret
               exact ⟨false, rfl, (fun h => by cases h), pw_below_drewN HB6.out nq⟩
            ·have c5 : (m.f4.toList == aL.toList) = true := beq_iff_eq.mpr c6
             clear c6
             go_upto_region 18 with (fail)
             have OKM := Aside0.mk (show okF v (In ++ Ov) m from ⟨MPP.out, by have := G1.out; omega, by have := G2.out; omega, by rw [← FE.out]; exact G3.out, by rw [← LE.out]; exact G4.out⟩)
             clear b1 b2
             clear c3 c4 c5 t1 t2
             by_cases hk0 : k = 0
             ·have t0 : decide (0 < (k : Int)) = false := decide_eq_false (by omega)
              have t1 : decide (0 < k) = false := decide_eq_false (by omega)
              have GAP := Aside0.mk (show 0 < k → Op.bytesLess (out.getD (k - 1) z58).f4.toList (out.getD k z58).f3.toList = true from fun h => absurd h (by omega))
              clear hk0
              go_quiet (fail)
              go_wp2_with fail
              go_loopg [13] k (fun kq v13 w' => ∃ j : Nat, v13 = .int .i64 (j : Int) ∧ Aside0 (kq + j = k) ∧ Aside0 (Below w6.heap.size w6 w') ∧ Aside0 (∀ i, i < j → ¬ (out.getD i z58).f0 = m.f0))
              case atStart => exact ⟨0, rfl, ⟨by omega⟩, ⟨pw_below_drewN (Below.refl _ _) nq⟩, ⟨fun i hi => by omega⟩⟩
              case round =>
               obtain ⟨j, rfl, HK4, HBX, HJ⟩ := hrel
               have BMr := Aside0.mk (blk_below BM6.out HBX.out)
               have y0 : wr.cell? ⟨g12, 0, none⟩ = some (.int .u64 m.f0) := (blk_cell BMr.out 0).trans rfl
               have HB9 := Aside0.mk (below_step HB6.out HBX.out)
               cases gk with
               | zero =>
                have ej : j = k := by have := HK4.out; omega
                subst ej
                have d2 : decide ((j : Int) < (j : Int)) = false := by simp
                go_wp2_with fail
                have ew : wrap64 ((j : Int) + 1) = ((j + 1 : Nat) : Int) := by have h1 := L5.out; have h2 := KL.out; unfold wrap64; omega
                try rw [ew]
                rw [← HAX.out]
                clear ew y0
                go_roundg z3
                case measure => omega
                case rel => exact ⟨j + 1, rfl, ⟨by have := HK3.out; omega⟩, ⟨below_step HBW6.out HBX.out⟩, ⟨FK_succ FKK.out KL.out (by rw [← EM.out]; exact OKM.out) GAP.out (fun i hi => by rw [← EM.out]; exact HJ.out i hi)⟩⟩
               | succ q4 =>
                have hj : j < k := by have := HK4.out; omega
                have HJK := Aside0.mk hj
                have d2 : decide ((j : Int) < (k : Int)) = true := decide_eq_true (by omega)
                have d3 : decide (j < k) = true := decide_eq_true hj
                have j0 : 0 ≤ (j : Int) := Int.natCast_nonneg _
                have j1 : (j : Int) < (out.length : Int) := by have := KL.out; omega
                obtain ⟨ad2, ea2, hb0, _, _, _, _, _, _⟩ := at_T58 (Kd.C_below C56.out HBX.out) (j : Int) j0 j1
                rw [Int.toNat_natCast] at hb0
                rw [HAX.out] at ea2
                obtain rfl : ad = ad2 := by injection ea2
                have EJ := Aside0.mk (show rd_T58 out (j : Int) = out.getD j z58 by unfold rd_T58; rw [Int.toNat_natCast])
                generalize rd_T58 out (j : Int) = mj at *
                clear hj ea2
                by_cases hq : mj.f0 = m.f0
                ·have q1 : decide (mj.f0 = m.f0) = true := decide_eq_true hq
                 have q2 : (mj.f0 == m.f0) = true := beq_iff_eq.mpr hq
                 clear hq
                 go_wp2_with fail
                 go_quiet (fail)
                 go_wp2_with fail
                 go_ret
                 exact ⟨false, rfl, (fun h => by cases h), pw_below_drewN HB9.out nq⟩
                ·have q1 : decide (mj.f0 = m.f0) = false := decide_eq_false hq
                 have q2 : (mj.f0 == m.f0) = false := beq_eq_false_iff_ne.mpr hq
                 have NQ := Aside0.mk (show ¬ (out.getD j z58).f0 = m.f0 by rw [← EJ.out]; exact hq)
                 clear hq
                 go_wp2_with fail
                 go_quiet (fail)
                 go_wp2_with fail
                 have ew : wrap64 ((j : Int) + 1) = ((j + 1 : Nat) : Int) := by have h1 := L5.out; have h2 := KL.out; have h3 := HJK.out; unfold wrap64; omega
                 try rw [ew]
                 clear ew
                 go_roundg q4
                 case measure => omega
                 case rel => exact ⟨j + 1, rfl, ⟨by have := HK4.out; omega⟩, ⟨pw_below_drewN HBX.out nq⟩, ⟨fun i hi => by
                  by_cases e : i = j
                  ·subst e; exact NQ.out
                  ·exact HJ.out i (by omega)⟩⟩
             ·have t0 : decide (0 < (k : Int)) = true := decide_eq_true (by omega)
              have t1 : decide (0 < k) = true := decide_eq_true (by omega)
              obtain ⟨x, hx⟩ : ∃ x : Int, x = (k : Int) - 1 := ⟨_, rfl⟩
              have x0 : 0 ≤ x := by omega
              have x1 : x < (out.length : Int) := by have := KL.out; omega
              obtain ⟨ad3, ea3, hc0, hc1, hc2, hc3, hc4, hc5, hc6⟩ := at_T58 C56.out x x0 x1
              rw [HAX.out] at ea3
              obtain rfl : ad = ad3 := by injection ea3
              have EX := Aside0.mk (show rd_T58 out x = out.getD (k - 1) z58 by unfold rd_T58; rw [show x.toNat = k - 1 by omega])
              generalize rd_T58 out x = mx at *
              have ex1 : IntKind.i64.wrap ((k : Int) - 1) = x := by have := L5.out; have := KL.out; rw [IntKind.wrap_i64]; omega
              have ex2 : wrap64 ((k : Int) - 1) = x := by have := L5.out; have := KL.out; unfold wrap64; omega
              clear ea3 hk0 hx
              cases hgap : Op.bytesLess mx.f4.toList m.f3.toList with
              | true =>
               have p9 : ¬ (Op.bytesLess m.f3.toList mx.f4.toList = true ∨ m.f3.toList = mx.f4.toList) := fun h_ => by rw [le_less] at h_; rw [h_] at hgap; cases hgap
               have s9 : Op.bytesLess m.f3.toList mx.f4.toList = false := by cases hq : Op.bytesLess m.f3.toList mx.f4.toList with | false => rfl | true => exact absurd (.inl hq) p9
               have t9 : ¬ m.f3.toList = mx.f4.toList := fun h_ => p9 (.inr h_)
               have u9 : (m.f3.toList == mx.f4.toList) = false := beq_eq_false_iff_ne.mpr t9
               have r9 : (Op.bytesLess m.f3.toList mx.f4.toList || m.f3.toList == mx.f4.toList) = false := by rw [s9, u9]; rfl
               have GAP := Aside0.mk (show 0 < k → Op.bytesLess (out.getD (k - 1) z58).f4.toList (out.getD k z58).f3.toList = true from fun _ => by rw [← EX.out, ← EM.out]; exact hgap)
               go_quiet (fail)
               clear hc0 hc1 hc2 hc3 hc4 hc5 hc6
               go_wp2_with fail
               go_loopg [13] k (fun kq v13 w' => ∃ j : Nat, v13 = .int .i64 (j : Int) ∧ Aside0 (kq + j = k) ∧ Aside0 (Below w6.heap.size w6 w') ∧ Aside0 (∀ i, i < j → ¬ (out.getD i z58).f0 = m.f0))
               case atStart => exact ⟨0, rfl, ⟨by omega⟩, ⟨pw_below_drewN (Below.refl _ _) nq⟩, ⟨fun i hi => by omega⟩⟩
               case round =>
                obtain ⟨j, rfl, HK4, HBX, HJ⟩ := hrel
                have BMr := Aside0.mk (blk_below BM6.out HBX.out)
                have y0 : wr.cell? ⟨g12, 0, none⟩ = some (.int .u64 m.f0) := (blk_cell BMr.out 0).trans rfl
                have HB9 := Aside0.mk (below_step HB6.out HBX.out)
                cases gk with
                | zero =>
                 have ej : j = k := by have := HK4.out; omega
                 subst ej
                 have d2 : decide ((j : Int) < (j : Int)) = false := by simp
                 go_wp2_with fail
                 have ew : wrap64 ((j : Int) + 1) = ((j + 1 : Nat) : Int) := by have h1 := L5.out; have h2 := KL.out; unfold wrap64; omega
                 try rw [ew]
                 rw [← HAX.out]
                 clear ew y0
                 go_roundg z3
                 case measure => omega
                 case rel => exact ⟨j + 1, rfl, ⟨by have := HK3.out; omega⟩, ⟨below_step HBW6.out HBX.out⟩, ⟨FK_succ FKK.out KL.out (by rw [← EM.out]; exact OKM.out) GAP.out (fun i hi => by rw [← EM.out]; exact HJ.out i hi)⟩⟩
                | succ q4 =>
                 have hj : j < k := by have := HK4.out; omega
                 have HJK := Aside0.mk hj
                 have d2 : decide ((j : Int) < (k : Int)) = true := decide_eq_true (by omega)
                 have d3 : decide (j < k) = true := decide_eq_true hj
                 have j0 : 0 ≤ (j : Int) := Int.natCast_nonneg _
                 have j1 : (j : Int) < (out.length : Int) := by have := KL.out; omega
                 obtain ⟨ad2, ea2, hb0, _, _, _, _, _, _⟩ := at_T58 (Kd.C_below C56.out HBX.out) (j : Int) j0 j1
                 rw [Int.toNat_natCast] at hb0
                 rw [HAX.out] at ea2
                 obtain rfl : ad = ad2 := by injection ea2
                 have EJ := Aside0.mk (show rd_T58 out (j : Int) = out.getD j z58 by unfold rd_T58; rw [Int.toNat_natCast])
                 generalize rd_T58 out (j : Int) = mj at *
                 clear hj ea2
                 by_cases hq : mj.f0 = m.f0
                 ·have q1 : decide (mj.f0 = m.f0) = true := decide_eq_true hq
                  have q2 : (mj.f0 == m.f0) = true := beq_iff_eq.mpr hq
                  clear hq
                  go_wp2_with fail
                  go_quiet (fail)
                  go_wp2_with fail
                  go_ret
                  exact ⟨false, rfl, (fun h => by cases h), pw_below_drewN HB9.out nq⟩
                 ·have q1 : decide (mj.f0 = m.f0) = false := decide_eq_false hq
                  have q2 : (mj.f0 == m.f0) = false := beq_eq_false_iff_ne.mpr hq
                  have NQ := Aside0.mk (show ¬ (out.getD j z58).f0 = m.f0 by rw [← EJ.out]; exact hq)
                  clear hq
                  go_wp2_with fail
                  go_quiet (fail)
                  go_wp2_with fail
                  have ew : wrap64 ((j : Int) + 1) = ((j + 1 : Nat) : Int) := by have h1 := L5.out; have h2 := KL.out; have h3 := HJK.out; unfold wrap64; omega
                  try rw [ew]
                  clear ew
                  go_roundg q4
                  case measure => omega
                  case rel => exact ⟨j + 1, rfl, ⟨by have := HK4.out; omega⟩, ⟨pw_below_drewN HBX.out nq⟩, ⟨fun i hi => by
                   by_cases e : i = j
                   ·subst e; exact NQ.out
                   ·exact HJ.out i (by omega)⟩⟩
              | false =>
               have p9 : Op.bytesLess m.f3.toList mx.f4.toList = true ∨ m.f3.toList = mx.f4.toList := le_less.mpr hgap
               have r9 : (Op.bytesLess m.f3.toList mx.f4.toList || m.f3.toList == mx.f4.toList) = true := by rw [Bool.or_eq_true, beq_iff_eq]; exact p9
               go_quiet (fail)
               go_wp2_with fail
               go_ret
               exact ⟨false, rfl, (fun h => by cases h), pw_below_drewN HB6.out nq⟩
       ·rw [decide_eq_false hmp]
        clear hmp
        go_wp2_with fail
        go_ret
        exact ⟨false, rfl, (fun h => by cases h), HB6.out⟩
    | succ z =>
     have hk : i < Ov.length := by have := HK.out; omega
     have HI := Aside0.mk hk
     have d0 : decide ((i : Int) < (Ov.length : Int)) = true := decide_eq_true (by omega)
     have d1 : decide (i < Ov.length) = true := decide_eq_true hk
     have p0 : 0 ≤ (i : Int) := Int.natCast_nonneg _
     have p1 : (i : Int) < (Ov.length : Int) := by omega
     obtain ⟨ad, ea, ha0, ha1, ha2, ha3, ha4, ha5, ha6⟩ := at_T58 (Kd.C_below (Kd.C_below CO.out HB1.out) HBW.out) (i : Int) p0 p1
     rw [Int.toNat_natCast] at ha0 ha1 ha2 ha3 ha4 ha5 ha6
     rw [ea] at k2
     have EM := Aside0.mk (show rd_T58 Ov (i : Int) = Ov.getD i z58 by unfold rd_T58; rw [Int.toNat_natCast])
     generalize rd_T58 Ov (i : Int) = m at *
     have ew : wrap64 ((i : Int) + 1) = ((i + 1 : Nat) : Int) := by have h1 := LO.out; unfold wrap64; omega
     have ST := Aside0.mk (ov_step NE.out HI.out)
     rw [← EM.out] at ST
     clear hk ea
     obtain ⟨aF, haF⟩ : ∃ a, a = spF (spanO (In ++ Ov.take i)) := ⟨_, rfl⟩
     obtain ⟨aL, haL⟩ : ∃ a, a = spL (spanO (In ++ Ov.take i)) := ⟨_, rfl⟩
     rw [← haF, ← haL] at ST ⊢
     clear haF haL
     go_wp2_with fail
     go_quiet (fail)
     go_wp2_with fail
     try rw [ew]
     rw [ST.out.1, ST.out.2]
     clear ew k0 k1 k2 ha0 ha1 ha2 ha3 ha4 ha5 ha6
     go_roundg z
     case measure => omega
     case rel => exact ⟨i + 1, rfl, rfl, rfl, ⟨by have := HK.out; omega⟩, ⟨pw_below_drewN HBW.out nq⟩⟩
  | succ z =>
   have hk : i < In.length := by have := HK.out; omega
   have HI := Aside0.mk hk
   have d0 : decide ((i : Int) < (In.length : Int)) = true := decide_eq_true (by omega)
   have d1 : decide (i < In.length) = true := decide_eq_true hk
   have p0 : 0 ≤ (i : Int) := Int.natCast_nonneg _
   have p1 : (i : Int) < (In.length : Int) := by omega
   obtain ⟨ad, ea, ha0, ha1, ha2, ha3, ha4, ha5, ha6⟩ := at_T58 (Kd.C_below (Kd.C_below CI.out HB1.out) HBW.out) (i : Int) p0 p1
   rw [Int.toNat_natCast] at ha0 ha1 ha2 ha3 ha4 ha5 ha6
   obtain rfl : adI = ad := by injection ea
   have EM := Aside0.mk (show rd_T58 In (i : Int) = In.getD i z58 by unfold rd_T58; rw [Int.toNat_natCast])
   generalize rd_T58 In (i : Int) = m at *
   have ew : wrap64 ((i : Int) + 1) = ((i + 1 : Nat) : Int) := by have h1 := LI.out; unfold wrap64; omega
   have ST := Aside0.mk (in_step HI.out)
   rw [← EM.out] at ST
   clear hk ea
   obtain ⟨aF, haF⟩ : ∃ a, a = spF (spanO (In.take (max i 1))) := ⟨_, rfl⟩
   obtain ⟨aL, haL⟩ : ∃ a, a = spL (spanO (In.take (max i 1))) := ⟨_, rfl⟩
   rw [← haF, ← haL] at ST ⊢
   clear haF haL
   go_wp2_with fail
   go_quiet (fail)
   go_wp2_with fail
   try rw [ew]
   rw [ST.out.1, ST.out.2]
   clear ew k0 k1 k2 ha0 ha1 ha2 ha3 ha4 ha5 ha6
   go_roundg z
   case measure => omega
   case rel => exact ⟨i + 1, rfl, rfl, rfl, ⟨by have := HK.out; omega⟩, ⟨pw_below_drewN HBW.out nq⟩⟩
end Go.Proofs.Ytkjepfofiegcdaa.V
namespace Go.Proofs.Ytkjepfofiegcdaa.V
set_option linter.unusedVariables false
set_option linter.unusedSimpArgs false
open Go.RowKit Go.Proofs.YtkjepfofiegcdaaW.PrintWords Go.Proofs.YtkjepfofiegcdaaW.PrintLast Go.Proofs.YtkjepfofiegcdaaW.PrintMore Go.Proofs.Ytkjepfofiegcdaa.PB14
abbrev lsB (a b : ByteArray) : Prop := Op.bytesLess a.toList b.toList = true
theorem ls_le {a b c : ByteArray} (h1 : lsB a b) (h2 : leB b c) : lsB a c := by
 rcases le_less.mpr h2 with h | h
 ·exact less_trans h1 h
 ·unfold lsB at *; rw [← h]; exact h1
theorem le_ls {a b c : ByteArray} (h1 : leB a b) (h2 : lsB b c) : lsB a c := by
 rcases le_less.mpr h1 with h | h
 ·exact less_trans h h2
 ·unfold lsB at *; rw [h]; exact h2
theorem ls_not {a b : ByteArray} (h1 : lsB a b) (h2 : leB b a) : False := by
 have h : lsB a a := ls_le h1 h2
 unfold lsB at h
 rw [less_irr] at h
 cases h
theorem may_le {m : S58} (h : mayP m) : leB m.f3 m.f4 := h.2.2.2.2.2.2.2.2.2.1
theorem smn_or (x y : ByteArray) : smn x y = x ∨ smn x y = y := by unfold smn; split <;> simp
theorem smx_or (x y : ByteArray) : smx x y = x ∨ smx x y = y := by unfold smx; split <;> simp
theorem span_at : ∀ (L : List S58), L ≠ [] → (∃ x, x ∈ L ∧ spF (spanO L) = x.f3) ∧ ∃ x, x ∈ L ∧ spL (spanO L) = x.f4 := by
 intro L
 induction L using snoc_ind with
 | h0 => intro h; exact absurd rfl h
 | h1 L m ih =>
  intro _
  by_cases e : L = []
  ·subst e
   exact ⟨⟨m, by simp, rfl⟩, ⟨m, by simp, rfl⟩⟩
  ·obtain ⟨⟨x, hx, h1⟩, ⟨y, hy, h2⟩⟩ := ih e
   rw [spF_snoc e, spL_snoc e]
   refine ⟨?_, ?_⟩
   ·rcases smn_or (spF (spanO L)) m.f3 with h | h
    ·exact ⟨x, List.mem_append_left _ hx, by rw [h, h1]⟩
    ·exact ⟨m, by simp, h⟩
   ·rcases smx_or (spL (spanO L)) m.f4 with h | h
    ·exact ⟨y, List.mem_append_left _ hy, by rw [h, h2]⟩
    ·exact ⟨m, by simp, h⟩
theorem span_ends (L : List S58) {m : S58} (h : m ∈ L) : leB (spF (spanO L)) m.f3 ∧ leB m.f4 (spL (spanO L)) := span_in L m h
theorem part_at {p : S58 → Bool} : ∀ {l : List S58}, l.Pairwise (fun a b => p b = true → p a = true) → ∃ A B, l = A ++ B ∧ (∀ a, a ∈ A → p a = true) ∧ ∀ b, b ∈ B → p b = false
 | [], _ => ⟨[], [], rfl, (fun a h => by cases h), (fun a h => by cases h)⟩
 | x :: l, h => by
  rw [List.pairwise_cons] at h
  cases hp : p x with
  | true =>
   obtain ⟨A, B, h1, h2, h3⟩ := part_at h.2
   refine ⟨x :: A, B, by rw [h1]; rfl, fun a ha => ?_, h3⟩
   rcases List.mem_cons.mp ha with rfl | ha
   ·exact hp
   ·exact h2 a ha
  | false =>
   refine ⟨[], x :: l, rfl, (fun a h => by cases h), fun b hb => ?_⟩
   rcases List.mem_cons.mp hb with rfl | hb
   ·exact hp
   ·cases hq : p b with
    | false => rfl
    | true => have := h.1 b hb hq; rw [hp] at this; cases this
theorem wiL_mid {l' : Nat} {m : S58} {P B : List S58} (h1 : ∀ a, a ∈ P → befP (l' : Int) m a) (h2 : ∀ b, b ∈ B → ¬ befP (l' : Int) m b) : wiL (l' : Int) m (P ++ B) = P ++ m :: B := by
 have hp : plc (l' : Int) m (P ++ B) = P.length := by
  refine plc_at (by rw [List.length_append]; omega) (fun j hj => ?_) ?_
  ·rw [List.getD_eq_getElem?_getD, List.getElem?_append_left hj, List.getElem?_eq_getElem hj]
   exact h1 _ (List.getElem_mem hj)
  ·cases B with
   | nil => left; simp
   | cons b B =>
    right
    rw [List.getD_eq_getElem?_getD, List.getElem?_append_right (Nat.le_refl _), Nat.sub_self]
    exact h2 b (List.mem_cons_self ..)
 unfold wiL
 rw [hp, List.take_left, List.drop_left]
theorem ads_mid {l' : Nat} (hl : l' < 4) (B : List S58) : ∀ (out : List S58) (y : Ver) (P : List S58), y.lv l' = P ++ B → (∀ m, m ∈ out → ∀ a, a ∈ P → befP (l' : Int) m a) → (∀ m, m ∈ out → ∀ b, b ∈ B → ¬ befP (l' : Int) m b) → out.Pairwise (fun a b => befP (l' : Int) b a) → (∀ m, m ∈ out → cntV y m.f0 = 0) → (nums out).Nodup → adsV y (out.map fun m => (⟨(l' : Int), m⟩ : S82)) = some (y.set l' (P ++ out ++ B))
 | [], y, P, hy, _, _, _, _, _ => by
  rw [List.append_nil, ← hy, Ver.set_self y l' hl]
  rfl
 | m :: out, y, P, hy, h1, h2, h3, h4, h5 => by
  rw [List.pairwise_cons] at h3
  have h5' : m.f0 ∉ nums out ∧ (nums out).Nodup := by
   unfold nums at h5 ⊢
   rw [List.map_cons, List.nodup_cons] at h5
   exact h5
  have e : adV y ⟨(l' : Int), m⟩ = some (y.set l' (P ++ m :: B)) := by
   unfold adV
   rw [if_neg (by rw [h4 m (List.mem_cons_self ..)]; omega), Int.toNat_natCast, hy, wiL_mid (h1 m (List.mem_cons_self ..)) (h2 m (List.mem_cons_self ..))]
  rw [List.map_cons, adsV, e]
  show adsV (y.set l' (P ++ m :: B)) (out.map fun m => (⟨(l' : Int), m⟩ : S82)) = _
  rw [ads_mid hl B out (y.set l' (P ++ m :: B)) (P ++ [m]) (by rw [Ver.set_lv y l' l' hl hl, if_pos rfl, List.append_assoc]; rfl) (fun x hx a ha => by
   rcases List.mem_append.mp ha with ha | ha
   ·exact h1 x (List.mem_cons_of_mem _ hx) a ha
   ·rw [List.mem_singleton] at ha; subst ha; exact h3.1 x hx) (fun x hx => h2 x (List.mem_cons_of_mem _ hx)) h3.2 (fun x hx => by
   have c1 := set_cnt y l' hl (P ++ m :: B) x.f0
   have c2 := h4 x (List.mem_cons_of_mem _ hx)
   have c3 : (nums (P ++ m :: B)).count x.f0 = (nums (P ++ B)).count x.f0 := by
    unfold nums
    rw [List.map_append, List.map_append, List.count_append, List.count_append, List.map_cons, List.count_cons, if_neg]
    ·rfl
    ·intro h6
     exact h5'.1 (mem_nums.mpr ⟨x, hx, (beq_iff_eq.mp h6).symm⟩)
   rw [hy] at c1
   omega) h5'.2, Ver.set_set y l' hl]
  rw [show P ++ [m] ++ out ++ B = P ++ m :: out ++ B by simp]
theorem filt_len : ∀ {S l : List S58}, S.Sublist l → (nums l).Nodup → (l.filter fun m => decide (m.f0 ∉ nums S)).length + S.length = l.length := by
 intro S l h
 induction h with
 | slnil => intro _; rfl
 | @cons S l a h ih =>
  intro hn
  unfold nums at hn
  rw [List.map_cons, List.nodup_cons] at hn
  have h2 : a.f0 ∉ nums S := fun h3 => by
   obtain ⟨m, hm, e⟩ := mem_nums.mp h3
   exact hn.1 (mem_nums.mpr ⟨m, h.subset hm, e⟩)
  rw [List.filter_cons, if_pos (decide_eq_true h2), List.length_cons, List.length_cons]
  have := ih hn.2
  omega
 | @cons_cons S l a h ih =>
  intro hn
  unfold nums at hn
  rw [List.map_cons, List.nodup_cons] at hn
  have h2 : a.f0 ∈ nums (a :: S) := mem_nums.mpr ⟨a, List.mem_cons_self .., rfl⟩
  rw [List.filter_cons, if_neg (by simp [h2]), List.length_cons, List.length_cons]
  have h3 : (l.filter fun m => decide (m.f0 ∉ nums (a :: S))) = l.filter fun m => decide (m.f0 ∉ nums S) := List.filter_congr fun m hm => by
   have h4 : m.f0 ≠ a.f0 := fun e => hn.1 (mem_nums.mpr ⟨m, hm, e⟩)
   have h5 : (m.f0 ∈ nums (a :: S)) ↔ (m.f0 ∈ nums S) := by
    constructor
    ·intro h6
     obtain ⟨x, hx, e⟩ := mem_nums.mp h6
     rcases List.mem_cons.mp hx with rfl | hx
     ·exact absurd e.symm h4
     ·exact mem_nums.mpr ⟨x, hx, e⟩
    ·intro h6
     obtain ⟨x, hx, e⟩ := mem_nums.mp h6
     exact mem_nums.mpr ⟨x, List.mem_cons_of_mem _ hx, e⟩
   simp [h5]
  rw [h3]
  have := ih hn.2
  omega
theorem lv_apart {v : Ver} (h : apV v) {i j : Nat} (hi : i < 4) (hj : j < 4) (hij : i ≠ j) {n : Int} (h1 : n ∈ nums (v.lv i)) (h2 : n ∈ nums (v.lv j)) : False := by
 have h3 := h n
 rw [lv_cnt] at h3
 have c1 : 1 ≤ (nums (v.lv i)).count n := List.count_pos_iff.mpr h1
 have c2 : 1 ≤ (nums (v.lv j)).count n := List.count_pos_iff.mpr h2
 rcases (by omega : i = 0 ∨ i = 1 ∨ i = 2 ∨ i = 3) with rfl | rfl | rfl | rfl <;> rcases (by omega : j = 0 ∨ j = 1 ∨ j = 2 ∨ j = 3) with rfl | rfl | rfl | rfl <;> first | exact hij rfl | omega
theorem nums_app (a b : List S58) (n : Int) : n ∈ nums (a ++ b) ↔ n ∈ nums a ∨ n ∈ nums b := by unfold nums; rw [List.map_append, List.mem_append]
theorem sub_nums {a b : List S58} (h : a.Sublist b) {n : Int} (hn : n ∈ nums a) : n ∈ nums b := by
 obtain ⟨m, hm, e⟩ := mem_nums.mp hn
 exact mem_nums.mpr ⟨m, h.subset hm, e⟩
theorem left_lv {v : Ver} (h : apV v) {lev : Nat} (hl : lev < 3) {In Ov : List S58} (h1 : In.Sublist (v.lv lev)) (h2 : Ov.Sublist (v.lv (lev + 1))) {i : Nat} (hi : i < 4) : (v.lv i).filter (fun m => decide (m.f0 ∉ nums (In ++ Ov))) = if i = lev then (v.lv i).filter (fun m => decide (m.f0 ∉ nums In)) else if i = lev + 1 then (v.lv i).filter (fun m => decide (m.f0 ∉ nums Ov)) else v.lv i := by
 by_cases e1 : i = lev
 ·subst e1
  rw [if_pos rfl]
  refine List.filter_congr fun m hm => ?_
  have h3 : m.f0 ∉ nums Ov := fun h4 => lv_apart h (show i < 4 by omega) (show i + 1 < 4 by omega) (by omega) (mem_nums.mpr ⟨m, hm, rfl⟩) (sub_nums h2 h4)
  simp [nums_app, h3]
 ·rw [if_neg e1]
  by_cases e2 : i = lev + 1
  ·subst e2
   rw [if_pos rfl]
   refine List.filter_congr fun m hm => ?_
   have h3 : m.f0 ∉ nums In := fun h4 => lv_apart h (show lev < 4 by omega) (show lev + 1 < 4 by omega) (by omega) (sub_nums h1 h4) (mem_nums.mpr ⟨m, hm, rfl⟩)
   simp [nums_app, h3]
  ·rw [if_neg e2, List.filter_eq_self]
   intro m hm
   refine decide_eq_true fun h3 => ?_
   rcases (nums_app In Ov m.f0).mp h3 with h4 | h4
   ·exact lv_apart h hi (show lev < 4 by omega) e1 (mem_nums.mpr ⟨m, hm, rfl⟩) (sub_nums h1 h4)
   ·exact lv_apart h hi (show lev + 1 < 4 by omega) e2 (mem_nums.mpr ⟨m, hm, rfl⟩) (sub_nums h2 h4)
theorem mxL_ge : ∀ {L : List S58} {m : S58}, m ∈ L → m.f0 ≤ mxL L := by
 intro L
 induction L using snoc_ind with
 | h0 => intro m h; cases h
 | h1 L x ih =>
  intro m h
  rw [mxL_snoc]
  rcases List.mem_append.mp h with h | h
  ·have := ih h; split <;> omega
  ·rw [List.mem_singleton] at h; subst h; split <;> omega
theorem mxL_le {L : List S58} {n : Int} (hn : 0 ≤ n) (h : ∀ m, m ∈ L → m.f0 ≤ n) : mxL L ≤ n := by
 induction L using snoc_ind with
 | h0 => exact hn
 | h1 L x ih =>
  rw [mxL_snoc]
  have h1 := ih (fun m hm => h m (List.mem_append_left _ hm))
  have h2 := h x (by simp)
  split <;> omega
theorem FK_mem {v : Ver} {L out : List S58} (h : FK v L out out.length) {m : S58} (hm : m ∈ out) : okF v L m := by
 obtain ⟨j, hj, e⟩ := List.getElem_of_mem hm
 have h1 := h.1 j hj
 rw [List.getD_eq_getElem?_getD, List.getElem?_eq_getElem hj, Option.getD_some, e] at h1
 exact h1
theorem FK_pair {v : Ver} {L out : List S58} (h : FK v L out out.length) {i : Nat} (hi : 0 < i) : out.Pairwise (gapR i) :=
 pair_of (gapR_trans i) fun k hk => ⟨by
  unfold gapP
  rw [if_neg (by omega)]
  exact h.2.1 k (by omega), (FK_mem h (getD_mem _ _ (by omega))).1, (FK_mem h (getD_mem _ _ (by omega))).1⟩
theorem lv_two {v : Ver} (h : rightP v) {i : Nat} (hi : i < 4) (h0 : 0 < i) {a b : S58} (ha : a ∈ v.lv i) (hb : b ∈ v.lv i) (hne : a ≠ b) : lsB a.f4 b.f3 ∨ lsB b.f4 a.f3 := by
 have hp := right_gap h hi
 obtain ⟨j, hj, e1⟩ := List.getElem_of_mem ha
 obtain ⟨k, hk, e2⟩ := List.getElem_of_mem hb
 have g : ∀ x y : S58, gapR i x y → lsB x.f4 y.f3 := fun x y h => by
  have h1 := h.1
  unfold gapP at h1
  rw [if_neg (by omega)] at h1
  exact h1
 rcases Nat.lt_trichotomy j k with h1 | h1 | h1
 ·left
  have := List.pairwise_iff_getElem.mp hp j k hj hk h1
  rw [e1, e2] at this
  exact g _ _ this
 ·subst h1
  rw [e1] at e2
  exact absurd e2 hne
 ·right
  have := List.pairwise_iff_getElem.mp hp k j hk hj h1
  rw [e1, e2] at this
  exact g _ _ this
theorem left_parts {v : Ver} (h : rightP v) {lev : Nat} (hl : lev < 3) {In Ov : List S58} (hne : In ≠ []) (h1 : In.Sublist (v.lv lev)) (ho : Ov = ovrL v lev In) : ∃ A B, (v.lv (lev + 1)).filter (fun m => decide (m.f0 ∉ nums Ov)) = A ++ B ∧ (∀ a, a ∈ A → lsB a.f4 (spF (spanO (In ++ Ov)))) ∧ ∀ b, b ∈ B → lsB (spL (spanO (In ++ Ov))) b.f3 := by
 obtain ⟨K, hK⟩ : ∃ K, K = (v.lv (lev + 1)).filter (fun m => decide (m.f0 ∉ nums Ov)) := ⟨_, rfl⟩
 have hsub : K.Sublist (v.lv (lev + 1)) := by rw [hK]; exact List.filter_sublist
 have hgap : K.Pairwise (gapR (lev + 1)) := List.Pairwise.sublist hsub (right_gap h (by omega))
 have hmay : ∀ t, t ∈ v.lv (lev + 1) → mayP t := fun t ht => right_mem h (by omega) ht
 have hout : ∀ t, t ∈ K → t ∈ v.lv (lev + 1) ∧ overB t (spanM In) = false := fun t ht => by
  rw [hK] at ht
  obtain ⟨a, b⟩ := List.mem_filter.mp ht
  refine ⟨a, ?_⟩
  cases hq : overB t (spanM In) with
  | false => rfl
  | true =>
   have hto : t ∈ Ov := by rw [ho]; exact List.mem_filter.mpr ⟨a, hq⟩
   exact absurd (mem_nums.mpr ⟨t, hto, rfl⟩) (of_decide_eq_true b)
 have hin : ∀ x, x ∈ Ov → x ∈ v.lv (lev + 1) ∧ leB (spF (spanO In)) x.f4 ∧ leB x.f3 (spL (spanO In)) := fun x hx => by
  rw [ho] at hx
  obtain ⟨a, b⟩ := List.mem_filter.mp hx
  unfold overB at b
  rw [Bool.and_eq_true, Bool.not_eq_true', Bool.not_eq_true'] at b
  exact ⟨a, b.1, b.2⟩
 have hdis : ∀ t, t ∈ K → lsB t.f4 (spF (spanO In)) ∨ lsB (spL (spanO In)) t.f3 := fun t ht => by
  have h2 := (hout t ht).2
  unfold overB at h2
  rw [Bool.and_eq_false_iff, Bool.not_eq_false', Bool.not_eq_false'] at h2
  exact h2
 obtain ⟨A, B, hAB, hA, hB⟩ := part_at (p := fun t => Op.bytesLess t.f4.toList (spF (spanO In)).toList) (l := K) (hgap.imp fun {a b} hab hb => by
  have g := hab.1
  unfold gapP at g
  rw [if_neg (by omega)] at g
  exact ls_le (ls_le (b := b.f3) g (may_le hab.2.2)) (leB_of_less hb))
 refine ⟨A, B, by rw [← hK]; exact hAB, fun a ha => ?_, fun b hb => ?_⟩
 ·have haK : a ∈ K := by rw [hAB]; exact List.mem_append_left _ ha
  have ha4 : lsB a.f4 (spF (spanO In)) := hA a ha
  obtain ⟨⟨x, hx, e⟩, _⟩ := span_at (In ++ Ov) (fun e => hne (List.append_eq_nil_iff.mp e).1)
  rw [e]
  rcases List.mem_append.mp hx with hx | hx
  ·exact ls_le ha4 (span_ends In hx).1
  ·obtain ⟨x1, x2, x3⟩ := hin x hx
   have hnx : a ≠ x := fun e => by
    subst e
    exact ls_not ha4 x2
   rcases lv_two h (by omega) (by omega) (hout a haK).1 x1 hnx with h3 | h3
   ·exact h3
   ·exact absurd x2 (fun h4 => ls_not (ls_le (ls_le h3 (may_le (hmay a (hout a haK).1))) (leB_of_less ha4)) h4)
 ·have hbK : b ∈ K := by rw [hAB]; exact List.mem_append_right _ hb
  have hb3 : lsB (spL (spanO In)) b.f3 := (hdis b hbK).resolve_left (fun h3 => by have := hB b hb; unfold lsB at h3; rw [h3] at this; cases this)
  obtain ⟨_, ⟨x, hx, e⟩⟩ := span_at (In ++ Ov) (fun e => hne (List.append_eq_nil_iff.mp e).1)
  rw [e]
  rcases List.mem_append.mp hx with hx | hx
  ·exact le_ls (span_ends In hx).2 hb3
  ·obtain ⟨x1, x2, x3⟩ := hin x hx
   have hnx : b ≠ x := fun e => by
    subst e
    exact ls_not hb3 x3
   rcases lv_two h (by omega) (by omega) (hout b hbK).1 x1 hnx with h3 | h3
   ·exact absurd x3 (fun h4 => ls_not (le_ls (leB_of_less hb3) (le_ls (may_le (hmay b (hout b hbK).1)) h3)) h4)
   ·exact h3
theorem pair_app3 {R : S58 → S58 → Prop} {A M B : List S58} (h : (A ++ B).Pairwise R) (hM : M.Pairwise R) (h1 : ∀ a, a ∈ A → ∀ m, m ∈ M → R a m) (h2 : ∀ m, m ∈ M → ∀ b, b ∈ B → R m b) : (A ++ M ++ B).Pairwise R := by
 rw [List.pairwise_append] at h
 rw [List.pairwise_append, List.pairwise_append]
 refine ⟨⟨h.1, hM, h1⟩, h.2.1, fun x hx b hb => ?_⟩
 rcases List.mem_append.mp hx with hx | hx
 ·exact h.2.2 x hx b hb
 ·exact h2 x hx b hb
theorem pick_makes {v : Ver} {lev : Nat} {In Ov out : List S58} (h : rightP v) (hl : lev < 3) (hne : In ≠ []) (h1 : In.Sublist (v.lv lev)) (ho : Ov = ovrL v lev In) (hf : fitsP v lev In Ov out) (hs : 0 ≤ v.seq) :
  edE v (lev : Int) In Ov out = 0 ∧ (edV v (lev : Int) In Ov out).added.length = out.length ∧ ∃ u, applyV v (edV v (lev : Int) In Ov out) = (u, 0) ∧ u.log = v.log ∧ u.seq = v.seq ∧ (u.lv lev).length + In.length = (v.lv lev).length ∧ (u.lv (lev + 1)).length + Ov.length = (v.lv (lev + 1)).length + out.length ∧ ∀ i, i < 4 → i ≠ lev → i ≠ lev + 1 → u.lv i = v.lv i := by
 have h2 : Ov.Sublist (v.lv (lev + 1)) := by rw [ho]; exact ovr_sub v lev In
 have hLne : In ++ Ov ≠ [] := fun e => hne (List.append_eq_nil_iff.mp e).1
 have hok : ∀ m, m ∈ out → okF v (In ++ Ov) m := fun m hm => FK_mem hf.1 hm
 have hask : askP v (lev : Int) := ⟨h, by omega, by omega⟩
 have hg : edG v (lev : Int) In Ov out := ⟨gone_ok h hl h1 h2, fun m hm => ⟨hLne, (hok m hm).2.2.2.1, (hok m hm).2.2.2.2, (hok m hm).1.1, by have := (hok m hm).1.2.1; omega⟩⟩
 have hE : edV v (lev : Int) In Ov out = ⟨0, nxtL v out, 0, goneL (lev : Int) In Ov (In ++ Ov).length, addL (lev : Int) out⟩ := by unfold edV; rw [if_pos ⟨hask, hg⟩]
 have hb := h.1
 have hap := right_ap h
 have hmx : mxL out ≤ 99999998 := mxL_le (by omega) fun m hm => by have := (hok m hm).1.2.1; omega
 obtain ⟨nx, hnx⟩ : ∃ n, n = laterN v.next (nxtL v out) := ⟨_, rfl⟩
 have hn1 : v.next ≤ nx ∧ nx ≤ 99999999 ∧ (∀ m, m ∈ out → m.f0 < nx) ∧ laterB v.next (nxtL v out) = true := by
  have hge : ∀ m, m ∈ out → m.f0 ≤ mxL out := fun m hm => mxL_ge hm
  have h0 := mxL_pos out
  have hb1 := hb.2.2.1
  have hb2 := hb.2.2.2.1
  unfold laterB
  unfold laterN at hnx
  unfold nxtL at hnx ⊢
  by_cases c : v.next ≤ mxL out
  ·rw [if_pos c] at hnx ⊢
   rw [if_neg (by omega)] at hnx
   refine ⟨by omega, by omega, fun m hm => by have := hge m hm; omega, ?_⟩
   rw [Bool.or_eq_true, decide_eq_true_eq, decide_eq_true_eq]
   right; omega
  ·rw [if_neg c] at hnx ⊢
   rw [if_pos rfl] at hnx
   refine ⟨by omega, by omega, fun m hm => by have := hge m hm; have := (hok m hm).2.1; omega, ?_⟩
   rw [Bool.or_eq_true, decide_eq_true_eq, decide_eq_true_eq]
   left; rfl
 obtain ⟨vb, hvb⟩ : ∃ x, x = bndV v ⟨0, nxtL v out, 0, goneL (lev : Int) In Ov (In ++ Ov).length, addL (lev : Int) out⟩ := ⟨_, rfl⟩
 have vb1 : vb.log = v.log ∧ vb.next = nx ∧ vb.seq = v.seq := by rw [hvb, hnx]; exact ⟨rfl, rfl, rfl⟩
 have vb2 : ∀ i, i < 4 → vb.lv i = v.lv i := fun i hi => by rw [hvb]; exact bndV_lv v _ i hi
 have vb3 : apV vb := fun n => by
  have h3 := hap n
  rw [lv_cnt] at h3 ⊢
  rw [vb2 0 (by omega), vb2 1 (by omega), vb2 2 (by omega), vb2 3 (by omega)]
  exact h3
 have hgp := gone_ok h hl h1 h2
 have hlist : ∀ x, x ∈ goneL (lev : Int) In Ov (In ++ Ov).length → 0 ≤ x.f0 ∧ x.f0 < 4 := fun x hx => by
  unfold goneL at hx
  obtain ⟨i, _, rfl⟩ := List.mem_map.mp hx
  show 0 ≤ lvOf (lev : Int) In i ∧ lvOf (lev : Int) In i < 4
  rcases lvOf_cases lev In i with ⟨e, _⟩ | ⟨e, _⟩ <;> rw [e] <;> omega
 obtain ⟨y, g1, g2, g3⟩ := gos_char (goneL (lev : Int) In Ov (In ++ Ov).length) vb vb3 (fun x hx => by
  refine ⟨hlist x hx, ?_⟩
  have hr := hlist x hx
  rw [vb2 _ (by omega)]
  unfold goneL at hx
  obtain ⟨i, hi, rfl⟩ := List.mem_map.mp hx
  exact mem_nums.mpr ⟨_, hgp.1 i (List.mem_range.mp hi), rfl⟩) (by rw [gone_nums]; exact both_nodup hap hl h1 h2)
 have g4 : ∀ i, i < 4 → y.lv i = if i = lev then (v.lv i).filter (fun m => decide (m.f0 ∉ nums In)) else if i = lev + 1 then (v.lv i).filter (fun m => decide (m.f0 ∉ nums Ov)) else v.lv i := fun i hi => by
  rw [g3 i hi, gone_nums, vb2 i hi, left_lv hap hl h1 h2 hi]
 have ysub : ∀ i, i < 4 → (y.lv i).Sublist (v.lv i) := fun i hi => by
  rw [g3 i hi, vb2 i hi]; exact List.filter_sublist
 obtain ⟨A, B, hAB, hA, hB⟩ := left_parts h hl hne h1 ho
 have yl : y.lv (lev + 1) = A ++ B := by rw [g4 (lev + 1) (by omega), if_neg (by omega), if_pos rfl, hAB]
 have hmayK : ∀ t, t ∈ A ++ B → mayP t := fun t ht => right_mem h (show lev + 1 < 4 by omega) ((ysub (lev + 1) (by omega)).subset (by rw [yl]; exact ht))
 have am : ∀ a, a ∈ A → ∀ m, m ∈ out → lsB a.f4 m.f3 := fun a ha m hm => ls_le (hA a ha) (hok m hm).2.2.2.1
 have mb : ∀ m, m ∈ out → ∀ b, b ∈ B → lsB m.f4 b.f3 := fun m hm b hb => le_ls (hok m hm).2.2.2.2 (hB b hb)
 have hpo := FK_pair hf.1 (i := lev + 1) (by omega)
 have y0 : ∀ m, m ∈ out → cntV y m.f0 = 0 := fun m hm => by
  have c := cnt_sub ysub m.f0
  have c2 : cntV v m.f0 = 0 := by
   unfold cntV
   rw [List.count_eq_zero]
   intro hmem
   obtain ⟨x, hx, e⟩ := mem_nums.mp hmem
   have h3 := (h.2.1.2.1 x hx).2.1
   have h4 := (hok m hm).2.1
   omega
  omega
 have hnd : (nums out).Nodup := by have := hf.1.2.2; rwa [List.take_length] at this
 have hads : adsV y (addL (lev : Int) out) = some (y.set (lev + 1) (A ++ out ++ B)) := by
  have e : addL (lev : Int) out = out.map fun m => (⟨((lev + 1 : Nat) : Int), m⟩ : S82) := by unfold addL; rw [show (lev : Int) + 1 = ((lev + 1 : Nat) : Int) by omega]
  rw [e]
  refine ads_mid (l' := lev + 1) (by omega) B out y A yl (fun m hm a ha => .inr ⟨by omega, ?_⟩) (fun m hm b hb hbf => ?_) (hpo.imp fun {a b} hab => .inr ⟨by omega, ?_⟩) y0 hnd
  ·exact leB_of_less (le_ls (may_le (hmayK a (List.mem_append_left _ ha))) (am a ha m hm))
  ·rcases hbf with h3 | h3
   ·omega
   ·exact ls_not (le_ls (may_le (hok m hm).1) (mb m hm b hb)) h3.2
  ·have g := hab.1
   unfold gapP at g
   rw [if_neg (by omega)] at g
   exact leB_of_less (le_ls (may_le hab.2.1) g)
 obtain ⟨u, hu⟩ : ∃ u, u = y.set (lev + 1) (A ++ out ++ B) := ⟨_, rfl⟩
 have u1 : u.log = v.log ∧ u.next = nx ∧ u.seq = v.seq := by
  have : ∀ (v : Ver) (i : Nat) (l : List S58), (v.set i l).log = v.log ∧ (v.set i l).next = v.next ∧ (v.set i l).seq = v.seq := fun v i l => by
   rcases i with _ | _ | _ | i <;> exact ⟨rfl, rfl, rfl⟩
  obtain ⟨a, b, c⟩ := this y (lev + 1) (A ++ out ++ B)
  rw [hu]
  exact ⟨a.trans (g2.1.trans vb1.1), b.trans (g2.2.1.trans vb1.2.1), c.trans (g2.2.2.trans vb1.2.2)⟩
 have u2 : ∀ i, i < 4 → u.lv i = if i = lev + 1 then A ++ out ++ B else y.lv i := fun i hi => by rw [hu, Ver.set_lv y (lev + 1) i (by omega) hi]
 have llen : (A ++ B).length + Ov.length = (v.lv (lev + 1)).length := by
  rw [← yl, g4 (lev + 1) (by omega), if_neg (by omega), if_pos rfl]
  exact filt_len h2 (hap.lv (by omega))
 have ulen : (u.lv (lev + 1)).length + Ov.length = (v.lv (lev + 1)).length + out.length := by
  rw [u2 (lev + 1) (by omega), if_pos rfl]
  rw [List.length_append] at llen
  rw [List.length_append, List.length_append]
  omega
 have hright : rightP u := by
  refine ⟨?_, ⟨fun i hi => ?_, fun m hm => ?_, ?_⟩, fun i hi => ?_⟩
  ·unfold boundsP at hb ⊢
   rw [u1.1, u1.2.1, u1.2.2]
   exact ⟨hb.1, hb.2.1, by omega, hn1.2.1, hb.2.2.2.2⟩
  ·by_cases e : i = lev + 1
   ·subst e
    have := hf.2
    have := h2.length_le
    omega
   ·rw [u2 i hi, if_neg e]
    exact Nat.le_trans (ysub i hi).length_le (h.2.1.1 i hi)
  ·obtain ⟨i, hi, hm⟩ := cat_mem hm
   rw [u2 i hi] at hm
   have old : ∀ m, m ∈ v.lv i → okP u m := fun m hm => by
    have h3 := h.2.1.2.1 m (mem_cat hi hm)
    refine ⟨h3.1, ?_, ?_⟩
    ·rw [u1.2.1]; have := h3.2.1; omega
    ·rw [u1.2.2]; exact h3.2.2
   by_cases e : i = lev + 1
   ·rw [if_pos e] at hm
    rcases List.mem_append.mp hm with hm | hm
    ·rcases List.mem_append.mp hm with hm | hm
     ·exact old m ((ysub i hi).subset (by rw [e, yl]; exact List.mem_append_left _ hm))
     ·refine ⟨(hok m hm).1, ?_, ?_⟩
      ·rw [u1.2.1]; exact hn1.2.2.1 m hm
      ·rw [u1.2.2]; exact (hok m hm).2.2.1
    ·exact old m ((ysub i hi).subset (by rw [e, yl]; exact List.mem_append_right _ hm))
   ·rw [if_neg e] at hm
    exact old m ((ysub i hi).subset hm)
  ·rw [List.nodup_iff_count]
   intro n
   have c1 : cntV u n + (nums (y.lv (lev + 1))).count n = cntV y n + (nums (A ++ out ++ B)).count n := by rw [hu]; exact set_cnt y (lev + 1) (by omega) (A ++ out ++ B) n
   have c2 : (nums (A ++ out ++ B)).count n = (nums (A ++ B)).count n + (nums out).count n := by
    unfold nums
    rw [List.map_append, List.map_append, List.map_append, List.count_append, List.count_append, List.count_append]
    omega
   rw [yl] at c1
   have c3 : cntV y n ≤ 1 := Nat.le_trans (cnt_sub ysub n) (hap n)
   have c4 : (nums out).count n ≤ 1 := List.nodup_iff_count.mp hnd n
   show cntV u n ≤ 1
   by_cases c5 : n ∈ nums out
   ·obtain ⟨m, hm, e⟩ := mem_nums.mp c5
    have := y0 m hm
    rw [e] at this
    omega
   ·have := List.count_eq_zero.mpr c5
    omega
  ·rw [u2 i hi]
   by_cases e : i = lev + 1
   ·rw [if_pos e]
    subst e
    refine ord_of_pair (pair_app3 ?_ hpo (fun a ha m hm => ⟨?_, hmayK a (List.mem_append_left _ ha), (hok m hm).1⟩) (fun m hm b hb => ⟨?_, (hok m hm).1, hmayK b (List.mem_append_right _ hb)⟩))
    ·rw [← yl]; exact List.Pairwise.sublist (ysub _ hi) (right_gap h hi)
    ·unfold gapP; rw [if_neg (by omega)]; exact am a ha m hm
    ·unfold gapP; rw [if_neg (by omega)]; exact mb m hm b hb
   ·rw [if_neg e]
    exact ord_of_pair (List.Pairwise.sublist (ysub i hi) (right_gap h hi))
 refine ⟨by unfold edE; rw [if_pos hask, if_pos hg], by rw [hE]; show (addL (lev : Int) out).length = _; unfold addL; rw [List.length_map], u, ?_, u1.1, u1.2.2, ?_, ulen, fun i hi e1 e2 => ?_⟩
 ·rw [hE]
  unfold applyV
  rw [if_pos ⟨⟨h, laterB_zero _, hn1.2.2.2, laterB_zero _⟩, hlist, (fun x hx => by
   have hx' : x ∈ addL (lev : Int) out := hx
   unfold addL at hx'
   obtain ⟨m, hm, rfl⟩ := List.mem_map.mp hx'
   exact ⟨⟨by show 0 ≤ (lev : Int) + 1; omega, by show (lev : Int) + 1 < 4; omega⟩, (hok m hm).1⟩)⟩, ← hvb]
  show goneV vb (goneL _ _ _ _) (addL _ _) = _
  unfold goneV
  rw [g1]
  show comeV y (addL (lev : Int) out) = _
  unfold comeV
  rw [hads, ← hu]
  exact if_pos hright
 ·rw [u2 lev (by omega), if_neg (by omega), g4 lev (by omega), if_pos rfl]
  exact filt_len h1 (hap.lv (by omega))
 ·rw [u2 i hi, if_neg e2, g4 i hi, if_neg e1, if_neg e2]
end Go.Proofs.Ytkjepfofiegcdaa.V
namespace Go.Proofs.Ytkjepfofiegcdaa.V
set_option linter.unusedVariables false
set_option linter.unusedSimpArgs false
open Go.RowKit Go.Proofs.YtkjepfofiegcdaaW.PrintWords Go.Proofs.YtkjepfofiegcdaaW.PrintLast Go.Proofs.YtkjepfofiegcdaaW.PrintMore Go.Proofs.Ytkjepfofiegcdaa.PB14
theorem VC.other {w w' : World} {v : Ver} {p : Pl} {base : Nat} (h : Rows4 w base v p) {g t : Nat} {cs : Array Value} (hx : w.heap[g]? = some (.cells cs t (0, 0))) (ht : t ≠ 58) (hk : ∀ k, k ≠ g → w'.heap[k]? = w.heap[k]?) : VC w' v p := (RowsK.all (RowsK.other (n := 4) h hx ht hk)).vc
end Go.Proofs.Ytkjepfofiegcdaa.V
