import Derived.Test.YtkjepfofiegcdaaVM4Y
import Derived.Test.YtkjepfofiegcdaaVM1Y
import Derived.Test.YtkjepfofiegcdaaVF2Y
/- What a compaction that is picked takes away, in the plain: its edit may be applied, and what is left is a right version of fewer tables. Conditions: none. -/
namespace Go.Proofs.Ytkjepfofiegcdaa.V
set_option linter.unusedVariables false
set_option linter.unusedSimpArgs false
open Go.RowKit Go.Proofs.YtkjepfofiegcdaaW.PrintWords Go.Proofs.YtkjepfofiegcdaaW.PrintLast Go.Proofs.YtkjepfofiegcdaaW.PrintMore Go.Proofs.Ytkjepfofiegcdaa.PB14
def gapR (i : Nat) (a b : S58) : Prop := gapP i a b ∧ mayP a ∧ mayP b
theorem gapR_trans (i : Nat) (a b c : S58) (h1 : gapR i a b) (h2 : gapR i b c) : gapR i a c := by
  refine ⟨?_, h1.2.1, h2.2.2⟩
  have g1 := h1.1
  have g2 := h2.1
  unfold gapP at *
  by_cases e : i = 0
  · rw [if_pos e] at *; omega
  · rw [if_neg e] at *
    have h3 : Op.bytesLess b.f4.toList b.f3.toList = false := h1.2.2.2.2.2.2.2.2.2.2.2.1
    rcases le_less.mpr h3 with h4 | h4
    · exact less_trans g1 (less_trans h4 g2)
    · rw [h4] at g1; exact less_trans g1 g2
theorem right_gap {v : Ver} (h : rightP v) {i : Nat} (hi : i < 4) : (v.lv i).Pairwise (gapR i) :=
  pair_of (gapR_trans i) fun k hk => ⟨h.2.2 i hi k hk, right_mem h hi (getD_mem _ _ (by omega)), right_mem h hi (getD_mem _ _ (by omega))⟩
theorem ord_of_pair {i : Nat} {l : List S58} (h : l.Pairwise (gapR i)) : ∀ k, k < l.length - 1 → gapP i (l.getD k z58) (l.getD (k + 1) z58) := fun k hk => by
  have h2 := List.pairwise_iff_getElem.mp h k (k + 1) (by omega) (by omega) (by omega)
  rw [List.getD_eq_getElem?_getD, List.getD_eq_getElem?_getD, List.getElem?_eq_getElem (show k < l.length by omega), List.getElem?_eq_getElem (show k + 1 < l.length by omega)]
  exact h2.1
theorem cat_mem {y : Ver} {m : S58} (h : m ∈ catV y 4) : ∃ i, i < 4 ∧ m ∈ y.lv i := by
  rw [catV4] at h
  rcases List.mem_append.mp h with h | h
  · rcases List.mem_append.mp h with h | h
    · rcases List.mem_append.mp h with h | h
      · exact ⟨0, by omega, h⟩
      · exact ⟨1, by omega, h⟩
    · exact ⟨2, by omega, h⟩
  · exact ⟨3, by omega, h⟩
theorem mem_cat {y : Ver} {m : S58} {i : Nat} (hi : i < 4) (h : m ∈ y.lv i) : m ∈ catV y 4 := by
  rw [catV4]
  rcases (by omega : i = 0 ∨ i = 1 ∨ i = 2 ∨ i = 3) with rfl | rfl | rfl | rfl <;> simp [h]
theorem cnt_sub {v y : Ver} (hs : ∀ i, i < 4 → (y.lv i).Sublist (v.lv i)) (n : Int) : cntV y n ≤ cntV v n := by
  have k : ∀ i, i < 4 → (nums (y.lv i)).count n ≤ (nums (v.lv i)).count n := fun i hi => List.Sublist.count_le n (List.Sublist.map _ (hs i hi))
  rw [lv_cnt, lv_cnt]
  have k0 := k 0 (by omega)
  have k1 := k 1 (by omega)
  have k2 := k 2 (by omega)
  have k3 := k 3 (by omega)
  omega
/-- Tables taken away of a right version leave a right one. -/
theorem right_sub {v y : Ver} (h : rightP v) (hn : y.log = v.log ∧ y.next = v.next ∧ y.seq = v.seq) (hs : ∀ i, i < 4 → (y.lv i).Sublist (v.lv i)) : rightP y := by
  refine ⟨?_, ⟨fun i hi => Nat.le_trans (hs i hi).length_le (h.2.1.1 i hi), fun m hm => ?_, ?_⟩, fun i hi => ord_of_pair (List.Pairwise.sublist (hs i hi) (right_gap h hi))⟩
  · have hb := h.1
    unfold boundsP at hb ⊢
    rw [hn.1, hn.2.1, hn.2.2]
    exact hb
  · obtain ⟨i, hi, hm⟩ := cat_mem hm
    have hok := h.2.1.2.1 m (mem_cat hi ((hs i hi).subset hm))
    unfold okP at hok ⊢
    rw [hn.2.1, hn.2.2]
    exact hok
  · rw [List.nodup_iff_count]
    intro n
    exact Nat.le_trans (cnt_sub hs n) (right_ap h n)
/-! The tables of a compaction that is picked. -/
theorem minK_mem (l : List S58) (h : 0 < l.length) : ∀ k, k ≤ l.length → minK l k ∈ l
  | 0, _ => getD_mem l z58 h
  | k + 1, hk => by
    unfold minK
    split
    · exact getD_mem l z58 (by omega)
    · exact minK_mem l h k (by omega)
theorem due_sub {v : Ver} {many base times : Int} (hO : optP many base times) {lev : Nat} (hl : lev < 3) (hd : dueL v many base times lev ≠ []) : (dueL v many base times lev).Sublist (v.lv lev) := by
  rcases (by omega : lev = 0 ∨ 0 < lev) with rfl | h0
  · show (if (v.l0.length : Int) < many then [] else v.l0).Sublist v.l0
    split
    · exact List.nil_sublist _
    · exact List.Sublist.refl _
  · obtain ⟨h1, h2⟩ := due_min v many base times hO lev h0 hl hd
    rw [h1]
    exact List.singleton_sublist.mpr (minK_mem _ h2 _ (Nat.le_refl _))
theorem ovr_sub (v : Ver) (lev : Nat) (In : List S58) : (ovrL v lev In).Sublist (v.lv (lev + 1)) := List.filter_sublist
theorem range_getD {α : Type} (l : List α) (z : α) : (List.range l.length).map (fun i => l.getD i z) = l := by
  apply List.ext_getElem
  · simp
  · intro i h1 h2
    simp [List.getD_eq_getElem?_getD, List.getElem?_eq_getElem h2]
theorem gone_nums (lev : Int) (In Ov : List S58) : (goneL lev In Ov (In ++ Ov).length).map (·.f1) = nums (In ++ Ov) := by
  unfold goneL nums
  rw [List.map_map]
  conv => rhs; rw [← range_getD (In ++ Ov) z58, List.map_map]
  rfl
theorem lvOf_cases (lev : Nat) (In : List S58) (i : Nat) : (lvOf (lev : Int) In i = (lev : Int) ∧ i < In.length) ∨ (lvOf (lev : Int) In i = ((lev + 1 : Nat) : Int) ∧ In.length ≤ i) := by
  unfold lvOf
  by_cases h : i < In.length
  · rw [if_pos h]; exact .inl ⟨rfl, h⟩
  · rw [if_neg h]; exact .inr ⟨by omega, by omega⟩
theorem both_at {lev : Nat} {In Ov A B : List S58} (h1 : In.Sublist A) (h2 : Ov.Sublist B) {i : Nat} (hi : i < (In ++ Ov).length) : (i < In.length ∧ (In ++ Ov).getD i z58 ∈ A) ∨ (In.length ≤ i ∧ (In ++ Ov).getD i z58 ∈ B) := by
  rw [List.getD_eq_getElem?_getD]
  by_cases h : i < In.length
  · rw [List.getElem?_append_left h, List.getElem?_eq_getElem h]
    exact .inl ⟨h, h1.subset (List.getElem_mem h)⟩
  · rw [List.length_append] at hi
    rw [List.getElem?_append_right (by omega), List.getElem?_eq_getElem (by omega)]
    exact .inr ⟨by omega, h2.subset (List.getElem_mem _)⟩
theorem two_cnt {v : Ver} {lev : Nat} (hl : lev < 3) (n : Int) : (nums (v.lv lev)).count n + (nums (v.lv (lev + 1))).count n ≤ cntV v n := by
  rw [lv_cnt]
  rcases (by omega : lev = 0 ∨ lev = 1 ∨ lev = 2) with rfl | rfl | rfl <;> (simp only [Nat.zero_add, Nat.reduceAdd]; omega)
theorem both_nodup {v : Ver} (h : apV v) {lev : Nat} (hl : lev < 3) {In Ov : List S58} (h1 : In.Sublist (v.lv lev)) (h2 : Ov.Sublist (v.lv (lev + 1))) : (nums (In ++ Ov)).Nodup := by
  rw [List.nodup_iff_count]
  intro n
  have a1 : (nums In).count n ≤ (nums (v.lv lev)).count n := List.Sublist.count_le n (List.Sublist.map _ h1)
  have a2 : (nums Ov).count n ≤ (nums (v.lv (lev + 1))).count n := List.Sublist.count_le n (List.Sublist.map _ h2)
  have a3 := two_cnt (v := v) hl n
  have a4 := h n
  have a5 : (nums (In ++ Ov)).count n = (nums In).count n + (nums Ov).count n := by unfold nums; rw [List.map_append, List.count_append]
  omega
theorem gone_ok {v : Ver} (h : rightP v) {lev : Nat} (hl : lev < 3) {In Ov : List S58} (h1 : In.Sublist (v.lv lev)) (h2 : Ov.Sublist (v.lv (lev + 1))) : goneP v (lev : Int) In Ov (In ++ Ov).length := by
  refine ⟨fun i hi => ?_, ?_⟩
  · rcases lvOf_cases lev In i with ⟨e, h3⟩ | ⟨e, h3⟩
    · rw [e, Int.toNat_natCast]
      rcases both_at (lev := lev) h1 h2 hi with h4 | h4
      · exact h4.2
      · omega
    · rw [e, Int.toNat_natCast]
      rcases both_at (lev := lev) h1 h2 hi with h4 | h4
      · omega
      · exact h4.2
  · rw [List.take_length]
    exact both_nodup (right_ap h) hl h1 h2
/-- What is left behind the tables of a compaction have gone. -/
theorem gone_left {v : Ver} (h : rightP v) {lev : Nat} (hl : lev < 3) {In Ov : List S58} (h1 : In.Sublist (v.lv lev)) (h2 : Ov.Sublist (v.lv (lev + 1))) : ∃ y, gosV v (goneL (lev : Int) In Ov (In ++ Ov).length) = some y ∧ (y.log = v.log ∧ y.next = v.next ∧ y.seq = v.seq) ∧ ∀ i, i < 4 → y.lv i = (v.lv i).filter fun m => decide (m.f0 ∉ nums (In ++ Ov)) := by
  have h3 := gone_ok h hl h1 h2
  obtain ⟨y, g1, g2, g3⟩ := gos_char (goneL (lev : Int) In Ov (In ++ Ov).length) v (right_ap h) (fun x hx => by
    unfold goneL at hx
    obtain ⟨i, hi, rfl⟩ := List.mem_map.mp hx
    have hi' := List.mem_range.mp hi
    have h4 := h3.1 i hi'
    refine ⟨?_, mem_nums.mpr ⟨_, h4, rfl⟩⟩
    rcases lvOf_cases lev In i with ⟨e, _⟩ | ⟨e, _⟩
    · show 0 ≤ lvOf (lev : Int) In i ∧ lvOf (lev : Int) In i < 4
      rw [e]; omega
    · show 0 ≤ lvOf (lev : Int) In i ∧ lvOf (lev : Int) In i < 4
      rw [e]; omega) (by rw [gone_nums]; exact both_nodup (right_ap h) hl h1 h2)
  refine ⟨y, g1, g2, fun i hi => ?_⟩
  rw [g3 i hi, gone_nums]
def totV (v : Ver) : Nat := (v.lv 0).length + (v.lv 1).length + (v.lv 2).length + (v.lv 3).length
theorem tot_less {v y : Ver} (hs : ∀ i, i < 4 → (y.lv i).length ≤ (v.lv i).length) {j : Nat} (hj : j < 4) (h : (y.lv j).length < (v.lv j).length) : totV y < totV v := by
  have k0 := hs 0 (by omega)
  have k1 := hs 1 (by omega)
  have k2 := hs 2 (by omega)
  have k3 := hs 3 (by omega)
  unfold totV
  rcases (by omega : j = 0 ∨ j = 1 ∨ j = 2 ∨ j = 3) with rfl | rfl | rfl | rfl <;> omega
theorem right_tot {v : Ver} (h : rightP v) : totV v ≤ 256 := by
  have k0 := h.2.1.1 0 (by omega)
  have k1 := h.2.1.1 1 (by omega)
  have k2 := h.2.1.1 2 (by omega)
  have k3 := h.2.1.1 3 (by omega)
  unfold totV
  omega
theorem filter_less {l : List S58} {m : S58} {L : List Int} (hm : m ∈ l) (hL : m.f0 ∈ L) : (l.filter fun x => decide (x.f0 ∉ L)).length < l.length := by
  refine Nat.lt_of_le_of_ne (List.length_filter_le _ _) fun e => ?_
  have h2 := List.filter_sublist.eq_of_length e
  rw [List.filter_eq_self] at h2
  have h3 := of_decide_eq_true (h2 m hm)
  exact h3 hL
/-- A compaction that is picked, of which nothing comes: its edit makes a right version of fewer tables. -/
theorem pick_less {v : Ver} {many base times : Int} (he : pickE v many base times = 0) : ∃ lev : Nat, lev < 3 ∧ (pickC v many base times).lev = (lev : Int) ∧ edE v (pickC v many base times).lev (pickC v many base times).inn (pickC v many base times).ovr [] = 0 ∧ (∃ y, applyV v (edV v (pickC v many base times).lev (pickC v many base times).inn (pickC v many base times).ovr []) = (y, 0) ∧ totV y < totV v) ∧ rightP v ∧ (edV v (pickC v many base times).lev (pickC v many base times).inn (pickC v many base times).ovr []).added = [] ∧ (∀ m, m ∈ (pickC v many base times).inn → m ∈ v.lv lev) ∧ (∀ m, m ∈ (pickC v many base times).ovr → m ∈ v.lv (lev + 1)) ∧ (pickC v many base times).inn.length ≤ 64 ∧ (pickC v many base times).ovr.length ≤ 64 := by
  rcases pick_cases v many base times with ⟨h, _⟩ | ⟨lev, hl, hr, hO, hd, _, hc⟩
  · exact absurd he h
  rw [hc]
  have s1 := due_sub hO hl hd
  have s2 := ovr_sub v lev (dueL v many base times lev)
  have hask : askP v (lev : Int) := ⟨hr, by omega, by omega⟩
  have hg : edG v (lev : Int) (dueL v many base times lev) (ovrL v lev (dueL v many base times lev)) [] := ⟨gone_ok hr hl s1 s2, (fun m hm => by cases hm)⟩
  refine ⟨lev, hl, rfl, by unfold edE; rw [if_pos hask, if_pos hg], ?_, hr, by unfold edV; rw [if_pos ⟨hask, hg⟩]; rfl, fun m hm => s1.subset hm, fun m hm => s2.subset hm, Nat.le_trans s1.length_le (hr.2.1.1 lev (by omega)), Nat.le_trans s2.length_le (hr.2.1.1 (lev + 1) (by omega))⟩
  obtain ⟨y, g1, g2, g3⟩ := gone_left hr hl s1 s2
  have hb := hr.1
  have hn : nxtL v [] = 0 := nxtL_nil hb.2.2.1
  have hy : rightP y := right_sub hr g2 fun i hi => by rw [g3 i hi]; exact List.filter_sublist
  refine ⟨y, ?_, ?_⟩
  · unfold edV
    rw [if_pos ⟨hask, hg⟩, hn]
    unfold applyV
    rw [if_pos ⟨⟨hr, laterB_zero _, laterB_zero _, laterB_zero _⟩, (fun x hx => by
      have hx' : x ∈ goneL (lev : Int) (dueL v many base times lev) (ovrL v lev (dueL v many base times lev)) ((dueL v many base times lev) ++ (ovrL v lev (dueL v many base times lev))).length := hx
      unfold goneL at hx'
      obtain ⟨i, _, rfl⟩ := List.mem_map.mp hx'
      show 0 ≤ lvOf (lev : Int) _ i ∧ lvOf (lev : Int) _ i < 4
      rcases lvOf_cases lev (dueL v many base times lev) i with ⟨e, _⟩ | ⟨e, _⟩ <;> rw [e] <;> omega), (fun x hx => by cases hx)⟩, bnd_zero]
    show goneV v (goneL _ _ _ _) [] = _
    unfold goneV
    rw [g1]
    exact if_pos hy
  · obtain ⟨m, hm⟩ := List.exists_mem_of_ne_nil _ hd
    refine tot_less (fun i hi => by rw [g3 i hi]; exact List.length_filter_le _ _) (j := lev) (by omega) ?_
    rw [g3 lev (by omega)]
    exact filter_less (s1.subset hm) (mem_nums.mpr ⟨m, List.mem_append_left _ hm, rfl⟩)
end Go.Proofs.Ytkjepfofiegcdaa.V
/- The law PickFewer (21), walked. Conditions: numbers are such as the machine has. -/
namespace Go.Proofs.Ytkjepfofiegcdaa.V
set_option linter.unusedVariables false
set_option linter.unusedSimpArgs false
open Go.RowKit Go.Proofs.YtkjepfofiegcdaaW.PrintWords Go.Proofs.YtkjepfofiegcdaaW.PrintLast Go.Proofs.YtkjepfofiegcdaaW.PrintMore Go.Proofs.Ytkjepfofiegcdaa.PB14
theorem LWW (v : Ver) (n : Nat) (h : n ≤ 1000) (hl : ∀ i, i < 4 → (v.lv i).length ≤ n) (t : Nat) (ht : t = totV v) : wrap64 (wrap64 (wrap64 ((v.l0.length : Int) + (v.l1.length : Int)) + (v.l2.length : Int)) + (v.l3.length : Int)) = (t : Int) := by
  have h0 : v.l0.length ≤ n := hl 0 (by omega)
  have h1 : v.l1.length ≤ n := hl 1 (by omega)
  have h2 : v.l2.length ≤ n := hl 2 (by omega)
  have h3 : v.l3.length ≤ n := hl 3 (by omega)
  have h4 : t = v.l0.length + v.l1.length + v.l2.length + v.l3.length := ht
  unfold wrap64; omega
theorem VC.other {w w' : World} {v : Ver} {p : Pl} {base : Nat} (h : Rows4 w base v p) {g t : Nat} {cs : Array Value} (hx : w.heap[g]? = some (.cells cs t (0, 0))) (ht : t ≠ 58) (hk : ∀ k, k ≠ g → w'.heap[k]? = w.heap[k]?) : VC w' v p := (RowsK.all (RowsK.other (n := 4) h hx ht hk)).vc
theorem pickE_cases {v : Ver} {many base times : Int} (he : pickE v many base times ≠ 0) : (rightP v ∧ optP many base times ∧ pickE v many base times = 4) ∨ (rightP v ∧ ¬ optP many base times ∧ pickE v many base times = 2) ∨ (¬ rightP v ∧ pickE v many base times = 2) := by
  unfold pickE at he ⊢
  by_cases h : rightP v ∧ optP many base times
  · rw [if_pos h] at he ⊢
    by_cases h2 : dueAt v many base times < 3
    · rw [if_pos h2] at he; exact absurd rfl he
    · rw [if_neg h2]; exact .inl ⟨h.1, h.2, rfl⟩
  · rw [if_neg h]
    by_cases h1 : rightP v
    · exact .inr (.inl ⟨h1, fun h3 => h ⟨h1, h3⟩, rfl⟩)
    · exact .inr (.inr ⟨h1, rfl⟩)
theorem zero58 (w : World) : k58.C w none ([] : List S58).length [] := ⟨rfl, by simp, fun h => absurd h (Nat.lt_irrefl 0)⟩
set_option maxHeartbeats 8000000 in
set_option maxRecDepth 100000 in
theorem pickFewer_calls (w : World) (v : Ver) (p : Pl) (hC : VC w v p) (hW : VW v) (many base times : Int) : Calls Try.prog 21 #[.agg (vCs v p), .agg #[.int .i64 many, .int .i64 base, .int .i64 times]] w fun x w' => x = .returned (.bool true) ∧ Below w.heap.size w w' := by
  have HC := Aside0.mk hC
  have HW := Aside0.mk hW
  have HB1 := Aside0.mk (below_alloc ((Below.refl w.heap.size w).alloc (Nat.le_refl _) (.cells (vCs v p) 26)) (.cells #[.int .i64 many, .int .i64 base, .int .i64 times] 48))
  have X1 := Aside0.mk (blk_alloc (blk_new w (.cells (vCs v p) 26)) (.cells #[.int .i64 many, .int .i64 base, .int .i64 times] 48))
  have X3 := Aside0.mk (blk_new (w.alloc (.cells (vCs v p) 26)) (.cells #[.int .i64 many, .int .i64 base, .int .i64 times] 48))
  clear hC hW
  go_enter Try.func21, Try.ntmps21
  go_upto_region 1 with (fail)
  generalize hg3 : (w.alloc (.cells (vCs v p) 26)).heap.size = g3 at *
  have e3_ : w.heap.size + 1 = g3 := by rw [← hg3]; simp
  try rw [e3_]
  have N3 := Aside0.mk (show g3 ≠ w.heap.size by omega)
  clear hg3 e3_
  generalize (w.alloc (.cells (vCs v p) 26)).alloc (.cells #[.int .i64 many, .int .i64 base, .int .i64 times] 48) = w1 at *
  by_cases hm : manyP v
  · have MC := many33_calls w1 v p
    rw [decide_eq_true hm] at MC
    clear hm
    have b0 : w1.cell? ⟨w.heap.size, 0, none⟩ = some (.int .u64 v.log) := (blk_cell X1.out 0).trans rfl
    have b1 : w1.cell? ⟨w.heap.size, 1, none⟩ = some (.int .u64 v.next) := (blk_cell X1.out 1).trans rfl
    have b2 : w1.cell? ⟨w.heap.size, 2, none⟩ = some (.int .u64 v.seq) := (blk_cell X1.out 2).trans rfl
    have b3 : w1.cell? ⟨w.heap.size, 3, none⟩ = some (.slice p.a0 v.l0.length p.c0) := (blk_cell X1.out 3).trans rfl
    have b4 : w1.cell? ⟨w.heap.size, 4, none⟩ = some (.slice p.a1 v.l1.length p.c1) := (blk_cell X1.out 4).trans rfl
    have b5 : w1.cell? ⟨w.heap.size, 5, none⟩ = some (.slice p.a2 v.l2.length p.c2) := (blk_cell X1.out 5).trans rfl
    have b6 : w1.cell? ⟨w.heap.size, 6, none⟩ = some (.slice p.a3 v.l3.length p.c3) := (blk_cell X1.out 6).trans rfl
    go_wp2_with fail
    refine MC.mono ?_
    rintro x w2 ⟨rfl, hb⟩
    have HB2 := Aside0.mk (below_step HB1.out hb)
    clear hb MC b0 b1 b2 b3 b4 b5 b6
    go_wp2_with fail
    refine (awake16_calls _).mono ?_
    rintro x w9 ⟨rfl, hb⟩
    have HB9 := Aside0.mk (below_step HB2.out hb)
    clear hb
    go_wp2_with fail
    go_ret
    exact ⟨rfl, HB9.out⟩
  · have MC := many33_calls w1 v p
    rw [decide_eq_false hm] at MC
    have LY := Aside0.mk (show ∀ i, i < 4 → (v.lv i).length ≤ 80 from fun i hi => Classical.byContradiction fun h => hm ⟨i, hi, by omega⟩)
    clear hm
    have b0 : w1.cell? ⟨w.heap.size, 0, none⟩ = some (.int .u64 v.log) := (blk_cell X1.out 0).trans rfl
    have b1 : w1.cell? ⟨w.heap.size, 1, none⟩ = some (.int .u64 v.next) := (blk_cell X1.out 1).trans rfl
    have b2 : w1.cell? ⟨w.heap.size, 2, none⟩ = some (.int .u64 v.seq) := (blk_cell X1.out 2).trans rfl
    have b3 : w1.cell? ⟨w.heap.size, 3, none⟩ = some (.slice p.a0 v.l0.length p.c0) := (blk_cell X1.out 3).trans rfl
    have b4 : w1.cell? ⟨w.heap.size, 4, none⟩ = some (.slice p.a1 v.l1.length p.c1) := (blk_cell X1.out 4).trans rfl
    have b5 : w1.cell? ⟨w.heap.size, 5, none⟩ = some (.slice p.a2 v.l2.length p.c2) := (blk_cell X1.out 5).trans rfl
    have b6 : w1.cell? ⟨w.heap.size, 6, none⟩ = some (.slice p.a3 v.l3.length p.c3) := (blk_cell X1.out 6).trans rfl
    go_wp2_with fail
    refine MC.mono ?_
    rintro x w2 ⟨rfl, hb⟩
    have HB2 := Aside0.mk (below_step HB1.out hb)
    have X12 := Aside0.mk (blk_below X1.out hb)
    have X32 := Aside0.mk (blk_below X3.out hb)
    have HV2 := Aside0.mk (HC.out.below HB2.out)
    clear hb MC b0 b1 b2 b3 b4 b5 b6
    obtain ⟨ty, hty⟩ : ∃ t, t = totV v := ⟨_, rfl⟩
    have TY := Aside0.mk hty
    clear hty
    have b0 : w2.cell? ⟨w.heap.size, 0, none⟩ = some (.int .u64 v.log) := (blk_cell X12.out 0).trans rfl
    have b1 : w2.cell? ⟨w.heap.size, 1, none⟩ = some (.int .u64 v.next) := (blk_cell X12.out 1).trans rfl
    have b2 : w2.cell? ⟨w.heap.size, 2, none⟩ = some (.int .u64 v.seq) := (blk_cell X12.out 2).trans rfl
    have b3 : w2.cell? ⟨w.heap.size, 3, none⟩ = some (.slice p.a0 v.l0.length p.c0) := (blk_cell X12.out 3).trans rfl
    have b4 : w2.cell? ⟨w.heap.size, 4, none⟩ = some (.slice p.a1 v.l1.length p.c1) := (blk_cell X12.out 4).trans rfl
    have b5 : w2.cell? ⟨w.heap.size, 5, none⟩ = some (.slice p.a2 v.l2.length p.c2) := (blk_cell X12.out 5).trans rfl
    have b6 : w2.cell? ⟨w.heap.size, 6, none⟩ = some (.slice p.a3 v.l3.length p.c3) := (blk_cell X12.out 6).trans rfl
    go_wp2_with fail
    rw [LWW v 80 (by decide) LY.out ty TY.out]
    clear b0 b1 b2 b3 b4 b5 b6
    go_loopg [5, 6, 7, 8, 9, 10, 11, 12, 13] 257 (fun kq v5 v6 v7 v8 v9 v10 v11 v12 v13 w' => ∃ (i ty : Nat) (y : Ver) (q : Pl), v6 = .int .i64 (i : Int) ∧ v5 = .int .i64 (ty : Int) ∧ Aside0 (kq + i = 257) ∧ Aside0 (Below w.heap.size w w') ∧ Aside0 (w'.heap[w.heap.size]? = some (.cells (vCs y q) 26 (0, 0))) ∧ Aside0 (w'.heap[g3]? = some (.cells #[.int .i64 many, .int .i64 base, .int .i64 times] 48 (0, 0))) ∧ Aside0 (VC w' y q) ∧ Aside0 (VW y) ∧ Aside0 (ty = totV y) ∧ Aside0 (0 < i → rightP y) ∧ Aside0 (rightP y → totV y + i ≤ 256) ∧ Aside0 (∀ j, j < 4 → (y.lv j).length ≤ 80))
    case atStart => exact ⟨0, ty, v, p, rfl, rfl, ⟨by omega⟩, HB2, X12, X32, HV2, HW, TY, ⟨fun h => absurd h (by omega)⟩, ⟨fun h => right_tot h⟩, LY⟩
    case round =>
      clear HB2 X12 X32 HV2 TY LY
      obtain ⟨i, ty, y, q, rfl, rfl, HK, HB, X1, X3, HV, HWY, TY, RP, RI_, LY⟩ := hrel
      cases gk with
      | zero =>
        exfalso
        have h1 := HK.out
        have h2 := RP.out (by omega)
        have h3 := RI_.out h2
        omega
      | succ z =>
        have d0 : decide ((i : Int) ≤ 256) = true := decide_eq_true (by have := HK.out; omega)
        have d0n : decide (i ≤ 256) = true := decide_eq_true (by have := HK.out; omega)
        obtain ⟨cc, hcc⟩ : ∃ cc, cc = pickC y many base times := ⟨_, rfl⟩
        obtain ⟨ff, hff⟩ : ∃ ff, ff = pickE y many base times := ⟨_, rfl⟩
        have PC := pick_calls wr y q HV.out HWY.out many base times
        rw [← hcc, ← hff] at PC
        have CE := Aside0.mk hcc
        have FE := Aside0.mk hff
        clear hcc hff
        obtain ⟨clev, In, Ov⟩ := cc
        have b0 : wr.cell? ⟨w.heap.size, 0, none⟩ = some (.int .u64 y.log) := (blk_cell X1.out 0).trans rfl
        have b1 : wr.cell? ⟨w.heap.size, 1, none⟩ = some (.int .u64 y.next) := (blk_cell X1.out 1).trans rfl
        have b2 : wr.cell? ⟨w.heap.size, 2, none⟩ = some (.int .u64 y.seq) := (blk_cell X1.out 2).trans rfl
        have b3 : wr.cell? ⟨w.heap.size, 3, none⟩ = some (.slice q.a0 y.l0.length q.c0) := (blk_cell X1.out 3).trans rfl
        have b4 : wr.cell? ⟨w.heap.size, 4, none⟩ = some (.slice q.a1 y.l1.length q.c1) := (blk_cell X1.out 4).trans rfl
        have b5 : wr.cell? ⟨w.heap.size, 5, none⟩ = some (.slice q.a2 y.l2.length q.c2) := (blk_cell X1.out 5).trans rfl
        have b6 : wr.cell? ⟨w.heap.size, 6, none⟩ = some (.slice q.a3 y.l3.length q.c3) := (blk_cell X1.out 6).trans rfl
        have o0 : wr.cell? ⟨g3, 0, none⟩ = some (.int .i64 many) := (blk_cell X3.out 0).trans rfl
        have o1 : wr.cell? ⟨g3, 1, none⟩ = some (.int .i64 base) := (blk_cell X3.out 1).trans rfl
        have o2 : wr.cell? ⟨g3, 2, none⟩ = some (.int .i64 times) := (blk_cell X3.out 2).trans rfl
        go_wp2_with fail
        refine PC.mono ?_
        clear PC
        rintro x w4 ⟨vi, vo, rfl, hRi, hRo, hb⟩
        dsimp only at hRi hRo ⊢
        obtain ⟨Ai, ci, hvi⟩ := Kd.R_slice hRi
        subst hvi
        obtain ⟨Ao, co, hvo⟩ := Kd.R_slice hRo
        subst hvo
        have HB5 := Aside0.mk (below_alloc (below_step HB.out hb) (.cells #[.int .i64 clev, .slice Ai In.length ci, .slice Ao Ov.length co] 52))
        have X15 := Aside0.mk (blk_alloc (blk_below X1.out hb) (.cells #[.int .i64 clev, .slice Ai In.length ci, .slice Ao Ov.length co] 52))
        have X35 := Aside0.mk (blk_alloc (blk_below X3.out hb) (.cells #[.int .i64 clev, .slice Ai In.length ci, .slice Ao Ov.length co] 52))
        have X75 := Aside0.mk (blk_new w4 (.cells #[.int .i64 clev, .slice Ai In.length ci, .slice Ao Ov.length co] 52))
        have HV5 := Aside0.mk ((HV.out.below hb).below (below_alloc (Below.refl w4.heap.size w4) (.cells #[.int .i64 clev, .slice Ai In.length ci, .slice Ao Ov.length co] 52)))
        have RI := Aside0.mk (Kd.R_below hRi (below_alloc (Below.refl w4.heap.size w4) (.cells #[.int .i64 clev, .slice Ai In.length ci, .slice Ao Ov.length co] 52)))
        have RO := Aside0.mk (Kd.R_below hRo (below_alloc (Below.refl w4.heap.size w4) (.cells #[.int .i64 clev, .slice Ai In.length ci, .slice Ao Ov.length co] 52)))
        clear hb hRi hRo b0 b1 b2 b3 b4 b5 b6 o0 o1 o2 HB X1 X3 HV
        go_upto_region 8 with (fail)
        generalize w4.heap.size = g7 at *
        generalize w4.alloc (.cells #[.int .i64 clev, .slice Ai In.length ci, .slice Ao Ov.length co] 52) = w5 at *
        by_cases hf : ff = 0
        · have PL := Aside0.mk (pick_less (FE.out.symm.trans hf))
          subst hf
          obtain ⟨lev, hlv, hcl, hee, ⟨u, hu, htl⟩, hry, hadd, hin, hov, hil, hol⟩ := PL.out
          rw [← CE.out] at hcl hee hu hadd hin hov hil hol
          dsimp only at hcl hee hu hadd hin hov hil hol
          obtain ⟨e, hev⟩ : ∃ e, e = edV y clev In Ov [] := ⟨_, rfl⟩
          have EDC := edit_calls w5 y q HV5.out HWY.out clev Ai ci In Ao co Ov none 0 [] (Kd.R_reads' RI.out).2.2 (Kd.R_reads' RI.out).2.1 (Kd.R_reads' RO.out).2.2 (Kd.R_reads' RO.out).2.1 (zero58 _) (by omega) (by omega) (Nat.zero_le _) (fun m hm => HWY.out lev (by omega) m (hin m hm)) (fun m hm => HWY.out (lev + 1) (by omega) m (hov m hm))
          rw [← hev, hee] at EDC
          rw [← hev] at hu hadd
          have UF := Aside0.mk hu
          have TL := Aside0.mk htl
          have RY := Aside0.mk hry
          have EA := Aside0.mk hadd
          clear hcl hee hu htl hry hadd hin hov hil hol hev PL CE FE
          have b0 : w5.cell? ⟨w.heap.size, 0, none⟩ = some (.int .u64 y.log) := (blk_cell X15.out 0).trans rfl
          have b1 : w5.cell? ⟨w.heap.size, 1, none⟩ = some (.int .u64 y.next) := (blk_cell X15.out 1).trans rfl
          have b2 : w5.cell? ⟨w.heap.size, 2, none⟩ = some (.int .u64 y.seq) := (blk_cell X15.out 2).trans rfl
          have b3 : w5.cell? ⟨w.heap.size, 3, none⟩ = some (.slice q.a0 y.l0.length q.c0) := (blk_cell X15.out 3).trans rfl
          have b4 : w5.cell? ⟨w.heap.size, 4, none⟩ = some (.slice q.a1 y.l1.length q.c1) := (blk_cell X15.out 4).trans rfl
          have b5 : w5.cell? ⟨w.heap.size, 5, none⟩ = some (.slice q.a2 y.l2.length q.c2) := (blk_cell X15.out 5).trans rfl
          have b6 : w5.cell? ⟨w.heap.size, 6, none⟩ = some (.slice q.a3 y.l3.length q.c3) := (blk_cell X15.out 6).trans rfl
          have k0 : w5.cell? ⟨g7, 0, none⟩ = some (.int .i64 clev) := (blk_cell X75.out 0).trans rfl
          have k1 : w5.cell? ⟨g7, 1, none⟩ = some (.slice Ai In.length ci) := (blk_cell X75.out 1).trans rfl
          have k2 : w5.cell? ⟨g7, 2, none⟩ = some (.slice Ao Ov.length co) := (blk_cell X75.out 2).trans rfl
          go_wp2_with fail
          refine EDC.mono ?_
          clear EDC
          rintro x w6 ⟨A1, c1, A2, c2, rfl, hR1, hR2, hb⟩
          have HB7 := Aside0.mk (below_alloc (below_step HB5.out hb) (.cells (eCs e A1 c1 A2 c2) 70))
          have X17 := Aside0.mk (blk_alloc (blk_below X15.out hb) (.cells (eCs e A1 c1 A2 c2) 70))
          have X37 := Aside0.mk (blk_alloc (blk_below X35.out hb) (.cells (eCs e A1 c1 A2 c2) 70))
          have X97 := Aside0.mk (blk_new w6 (.cells (eCs e A1 c1 A2 c2) 70))
          have HV7 := Aside0.mk ((HV5.out.below hb).below (below_alloc (Below.refl w6.heap.size w6) (.cells (eCs e A1 c1 A2 c2) 70)))
          have K1 := Aside0.mk (Kd.C_below (Kd.R_reads' hR1).2.2 (below_alloc (Below.refl w6.heap.size w6) (.cells (eCs e A1 c1 A2 c2) 70)))
          have K2 := Aside0.mk (Kd.C_below (Kd.R_reads' hR2).2.2 (below_alloc (Below.refl w6.heap.size w6) (.cells (eCs e A1 c1 A2 c2) 70)))
          clear hb hR1 hR2 b0 b1 b2 b3 b4 b5 b6 k0 k1 k2 HB5 X15 X35 X75 HV5 RI RO
          go_upto_region 11 with (fail)
          generalize w6.heap.size = g9 at *
          generalize w6.alloc (.cells (eCs e A1 c1 A2 c2) 70) = w7 at *
          have b0 : w7.cell? ⟨w.heap.size, 0, none⟩ = some (.int .u64 y.log) := (blk_cell X17.out 0).trans rfl
          have b1 : w7.cell? ⟨w.heap.size, 1, none⟩ = some (.int .u64 y.next) := (blk_cell X17.out 1).trans rfl
          have b2 : w7.cell? ⟨w.heap.size, 2, none⟩ = some (.int .u64 y.seq) := (blk_cell X17.out 2).trans rfl
          have b3 : w7.cell? ⟨w.heap.size, 3, none⟩ = some (.slice q.a0 y.l0.length q.c0) := (blk_cell X17.out 3).trans rfl
          have b4 : w7.cell? ⟨w.heap.size, 4, none⟩ = some (.slice q.a1 y.l1.length q.c1) := (blk_cell X17.out 4).trans rfl
          have b5 : w7.cell? ⟨w.heap.size, 5, none⟩ = some (.slice q.a2 y.l2.length q.c2) := (blk_cell X17.out 5).trans rfl
          have b6 : w7.cell? ⟨w.heap.size, 6, none⟩ = some (.slice q.a3 y.l3.length q.c3) := (blk_cell X17.out 6).trans rfl
          have e0 : w7.cell? ⟨g9, 0, none⟩ = some (.int .u64 e.log) := (blk_cell X97.out 0).trans rfl
          have e1 : w7.cell? ⟨g9, 1, none⟩ = some (.int .u64 e.next) := (blk_cell X97.out 1).trans rfl
          have e2 : w7.cell? ⟨g9, 2, none⟩ = some (.int .u64 e.seq) := (blk_cell X97.out 2).trans rfl
          have e3 : w7.cell? ⟨g9, 3, none⟩ = some (.slice A1 e.gone.length c1) := (blk_cell X97.out 3).trans rfl
          have e4 : w7.cell? ⟨g9, 4, none⟩ = some (.slice A2 e.added.length c2) := (blk_cell X97.out 4).trans rfl
          go_wp2_with fail
          refine (apply2_calls _ y q e A1 A2 c1 c2 UF.out HV7.out HWY.out K1.out K2.out (fun j hj => Nat.le_trans (LY.out j hj) (by decide)) (by rw [EA.out]; exact Nat.zero_le _)).mono ?_
          rintro x w8 ⟨q2, rfl, hR8, hb⟩
          have HB9 := Aside0.mk (below_alloc (below_step HB7.out hb) (.cells (vCs u q2) 26))
          have X19 := Aside0.mk (blk_alloc (blk_below X17.out hb) (.cells (vCs u q2) 26))
          have X39 := Aside0.mk (blk_alloc (blk_below X37.out hb) (.cells (vCs u q2) 26))
          have X119 := Aside0.mk (blk_new w8 (.cells (vCs u q2) 26))
          have NE_ := Aside0.mk (show w8.heap.size ≠ w.heap.size from fun e => by have h1 := blk_lt (blk_below X17.out hb); omega)
          obtain ⟨bb, hbb⟩ : ∃ b, b = w7.heap.size := ⟨_, rfl⟩
          rw [← hbb] at hR8
          have R49 := Aside0.mk (hR8.below (below_alloc (Below.refl w8.heap.size w8) (.cells (vCs u q2) 26)))
          clear hb hR8 hbb b0 b1 b2 b3 b4 b5 b6 e0 e1 e2 e3 e4 HB7 X17 X37 X97 HV7 K1 K2
          go_upto_region 12 with (fail)
          generalize w8.heap.size = g11 at *
          generalize w8.alloc (.cells (vCs u q2) 26) = w9 at *
          have RU := Aside0.mk (applyV_ok UF.out).2
          have LU := Aside0.mk (show ∀ j, j < 4 → (u.lv j).length ≤ 80 from fun j hj => Nat.le_trans (RU.out.2.1.1 j hj) (by decide))
          obtain ⟨tu, htu⟩ : ∃ t, t = totV u := ⟨_, rfl⟩
          have TU := Aside0.mk htu
          have d1 : decide ((ty : Int) ≤ (tu : Int)) = false := decide_eq_false (by have h1 := TL.out; have h2 := TY.out; omega)
          have d2 : decide (ty ≤ tu) = false := decide_eq_false (by have h1 := TL.out; have h2 := TY.out; omega)
          clear htu
          have b0 : w9.cell? ⟨g11, 0, none⟩ = some (.int .u64 u.log) := (blk_cell X119.out 0).trans rfl
          have b1 : w9.cell? ⟨g11, 1, none⟩ = some (.int .u64 u.next) := (blk_cell X119.out 1).trans rfl
          have b2 : w9.cell? ⟨g11, 2, none⟩ = some (.int .u64 u.seq) := (blk_cell X119.out 2).trans rfl
          have b3 : w9.cell? ⟨g11, 3, none⟩ = some (.slice q2.a0 u.l0.length q2.c0) := (blk_cell X119.out 3).trans rfl
          have b4 : w9.cell? ⟨g11, 4, none⟩ = some (.slice q2.a1 u.l1.length q2.c1) := (blk_cell X119.out 4).trans rfl
          have b5 : w9.cell? ⟨g11, 5, none⟩ = some (.slice q2.a2 u.l2.length q2.c2) := (blk_cell X119.out 5).trans rfl
          have b6 : w9.cell? ⟨g11, 6, none⟩ = some (.slice q2.a3 u.l3.length q2.c3) := (blk_cell X119.out 6).trans rfl
          go_upto_region 13 with (fail)
          rw [LWW u 80 (by decide) LU.out tu TU.out]
          go_wp2_with (first | (refine st_arr rfl 26 _ _ rfl w.heap.size 26 ?hx (vCs u q2) ?hy _ X19.out (by rw [size26]; rfl) rfl (by simp [Value.oneCell']) ?_; (case hx => rfl); (case hy => rfl); intro w10 hb7 hbb hk7 hs7; have HB10 := Aside0.mk (hbb _ _ HB9.out (Nat.le_refl _)); have X110 := Aside0.mk hb7; have X310 := Aside0.mk ((hk7 _ N3.out).trans X39.out); have HV10 := Aside0.mk (VC.other R49.out X19.out (by decide) hk7); clear hb7 hbb hk7 hs7) | fail)
          have ew : wrap64 ((i : Int) + 1) = ((i + 1 : Nat) : Int) := by have := HK.out; unfold wrap64; omega
          try rw [ew]
          clear ew
          go_roundg z
          case measure => omega
          case rel => exact ⟨i + 1, tu, u, q2, rfl, rfl, ⟨by have := HK.out; omega⟩, HB10, X110, X310, HV10, ⟨right_vw RU.out⟩, TU, ⟨fun _ => RU.out⟩, ⟨fun _ => by have h1 := RI_.out RY.out; have h2 := TL.out; have h3 := TY.out; have h4 := TU.out; omega⟩, LU⟩
        · have PL := Aside0.mk (pickE_cases (FE.out ▸ hf))
          have f0 : decide (ff = 0) = false := decide_eq_false hf
          have f1 : (ff == 0) = false := beq_eq_false_iff_ne.mpr hf
          have f2 : (ff != 0) = true := bne_iff_ne.mpr hf
          have f3 : decide (¬ ff = 0) = true := decide_eq_true hf
          clear hf
          rcases PL.out with ⟨hr, ho, h4⟩ | ⟨hr, ho, h4⟩ | ⟨hr, h4⟩
          · have HR := Aside0.mk hr
            have HO := Aside0.mk ho
            have F4 : ff = 4 := FE.out.trans h4
            clear hr ho h4
            subst F4
            have b0 : w5.cell? ⟨w.heap.size, 0, none⟩ = some (.int .u64 y.log) := (blk_cell X15.out 0).trans rfl
            have b1 : w5.cell? ⟨w.heap.size, 1, none⟩ = some (.int .u64 y.next) := (blk_cell X15.out 1).trans rfl
            have b2 : w5.cell? ⟨w.heap.size, 2, none⟩ = some (.int .u64 y.seq) := (blk_cell X15.out 2).trans rfl
            have b3 : w5.cell? ⟨w.heap.size, 3, none⟩ = some (.slice q.a0 y.l0.length q.c0) := (blk_cell X15.out 3).trans rfl
            have b4 : w5.cell? ⟨w.heap.size, 4, none⟩ = some (.slice q.a1 y.l1.length q.c1) := (blk_cell X15.out 4).trans rfl
            have b5 : w5.cell? ⟨w.heap.size, 5, none⟩ = some (.slice q.a2 y.l2.length q.c2) := (blk_cell X15.out 5).trans rfl
            have b6 : w5.cell? ⟨w.heap.size, 6, none⟩ = some (.slice q.a3 y.l3.length q.c3) := (blk_cell X15.out 6).trans rfl
            go_wp2_with fail
            refine (right_calls _ y q HV5.out HWY.out).mono ?_
            rintro x w6 ⟨rfl, hb⟩
            rw [decide_eq_true HR.out]
            have HB6 := Aside0.mk (below_step HB5.out hb)
            have X36 := Aside0.mk (blk_below X35.out hb)
            clear hb b0 b1 b2 b3 b4 b5 b6
            have o0 : w6.cell? ⟨g3, 0, none⟩ = some (.int .i64 many) := (blk_cell X36.out 0).trans rfl
            have o1 : w6.cell? ⟨g3, 1, none⟩ = some (.int .i64 base) := (blk_cell X36.out 1).trans rfl
            have o2 : w6.cell? ⟨g3, 2, none⟩ = some (.int .i64 times) := (blk_cell X36.out 2).trans rfl
            go_wp2_with fail
            refine (check_calls _ many base times).mono ?_
            rintro x w7 ⟨rfl, hb⟩
            rw [show optE many base times = 0 from if_pos HO.out]
            have HB7 := Aside0.mk (below_step HB6.out hb)
            clear hb o0 o1 o2
            go_wp2_with fail
            refine (awake16_calls _).mono ?_
            rintro x w9 ⟨rfl, hb⟩
            have HB9 := Aside0.mk (below_step HB7.out hb)
            clear hb
            go_wp2_with fail
            go_ret
            exact ⟨rfl, HB9.out⟩
          · have HR := Aside0.mk hr
            have HO := Aside0.mk ho
            have F4 : ff = 2 := FE.out.trans h4
            clear hr ho h4
            subst F4
            have b0 : w5.cell? ⟨w.heap.size, 0, none⟩ = some (.int .u64 y.log) := (blk_cell X15.out 0).trans rfl
            have b1 : w5.cell? ⟨w.heap.size, 1, none⟩ = some (.int .u64 y.next) := (blk_cell X15.out 1).trans rfl
            have b2 : w5.cell? ⟨w.heap.size, 2, none⟩ = some (.int .u64 y.seq) := (blk_cell X15.out 2).trans rfl
            have b3 : w5.cell? ⟨w.heap.size, 3, none⟩ = some (.slice q.a0 y.l0.length q.c0) := (blk_cell X15.out 3).trans rfl
            have b4 : w5.cell? ⟨w.heap.size, 4, none⟩ = some (.slice q.a1 y.l1.length q.c1) := (blk_cell X15.out 4).trans rfl
            have b5 : w5.cell? ⟨w.heap.size, 5, none⟩ = some (.slice q.a2 y.l2.length q.c2) := (blk_cell X15.out 5).trans rfl
            have b6 : w5.cell? ⟨w.heap.size, 6, none⟩ = some (.slice q.a3 y.l3.length q.c3) := (blk_cell X15.out 6).trans rfl
            go_wp2_with fail
            refine (right_calls _ y q HV5.out HWY.out).mono ?_
            rintro x w6 ⟨rfl, hb⟩
            rw [decide_eq_true HR.out]
            have HB6 := Aside0.mk (below_step HB5.out hb)
            have X36 := Aside0.mk (blk_below X35.out hb)
            clear hb b0 b1 b2 b3 b4 b5 b6
            have o0 : w6.cell? ⟨g3, 0, none⟩ = some (.int .i64 many) := (blk_cell X36.out 0).trans rfl
            have o1 : w6.cell? ⟨g3, 1, none⟩ = some (.int .i64 base) := (blk_cell X36.out 1).trans rfl
            have o2 : w6.cell? ⟨g3, 2, none⟩ = some (.int .i64 times) := (blk_cell X36.out 2).trans rfl
            go_wp2_with fail
            refine (check_calls _ many base times).mono ?_
            rintro x w7 ⟨rfl, hb⟩
            rw [show optE many base times = 2 from if_neg HO.out]
            have HB7 := Aside0.mk (below_step HB6.out hb)
            clear hb o0 o1 o2
            go_wp2_with fail
            refine (awake16_calls _).mono ?_
            rintro x w9 ⟨rfl, hb⟩
            have HB9 := Aside0.mk (below_step HB7.out hb)
            clear hb
            go_wp2_with fail
            go_ret
            exact ⟨rfl, HB9.out⟩
          · have HR := Aside0.mk hr
            have F4 : ff = 2 := FE.out.trans h4
            clear hr h4
            subst F4
            have b0 : w5.cell? ⟨w.heap.size, 0, none⟩ = some (.int .u64 y.log) := (blk_cell X15.out 0).trans rfl
            have b1 : w5.cell? ⟨w.heap.size, 1, none⟩ = some (.int .u64 y.next) := (blk_cell X15.out 1).trans rfl
            have b2 : w5.cell? ⟨w.heap.size, 2, none⟩ = some (.int .u64 y.seq) := (blk_cell X15.out 2).trans rfl
            have b3 : w5.cell? ⟨w.heap.size, 3, none⟩ = some (.slice q.a0 y.l0.length q.c0) := (blk_cell X15.out 3).trans rfl
            have b4 : w5.cell? ⟨w.heap.size, 4, none⟩ = some (.slice q.a1 y.l1.length q.c1) := (blk_cell X15.out 4).trans rfl
            have b5 : w5.cell? ⟨w.heap.size, 5, none⟩ = some (.slice q.a2 y.l2.length q.c2) := (blk_cell X15.out 5).trans rfl
            have b6 : w5.cell? ⟨w.heap.size, 6, none⟩ = some (.slice q.a3 y.l3.length q.c3) := (blk_cell X15.out 6).trans rfl
            go_wp2_with fail
            refine (right_calls _ y q HV5.out HWY.out).mono ?_
            rintro x w6 ⟨rfl, hb⟩
            rw [decide_eq_false HR.out]
            have HB6 := Aside0.mk (below_step HB5.out hb)
            clear hb b0 b1 b2 b3 b4 b5 b6
            go_wp2_with fail
            refine (awake16_calls _).mono ?_
            rintro x w9 ⟨rfl, hb⟩
            have HB9 := Aside0.mk (below_step HB6.out hb)
            clear hb
            go_wp2_with fail
            go_ret
            exact ⟨rfl, HB9.out⟩
end Go.Proofs.Ytkjepfofiegcdaa.V
