import Derived.Test.YtkjepfofiegcdaaVM2Y
import Derived.Test.YtkjepfofiegcdaaVX3Y
import Derived.Laws.CopyRow
import Derived.Lib.AppendZerosOnto
import Derived.Lib.Overlaps
/- What edit.Apply answers, in the plain: tables that go, tables that come, and the version behind. -/
namespace Go.Proofs.Ytkjepfofiegcdaa.V
open Go.RowKit Go.Proofs.YtkjepfofiegcdaaW.PrintWords Go.Proofs.YtkjepfofiegcdaaW.PrintLast Go.Proofs.YtkjepfofiegcdaaW.PrintMore Go.Proofs.Ytkjepfofiegcdaa.PB14
theorem mem_nums {l : List S58} {n : Int} : n ∈ nums l ↔ ∃ m, m ∈ l ∧ m.f0 = n := by unfold nums; exact List.mem_map
theorem woL_none {l : List S58} {n : Int} (h : n ∉ nums l) : woL l n = l := by
  unfold woL
  rw [List.filter_eq_self]
  intro m hm
  exact decide_eq_true fun e => h (mem_nums.mpr ⟨m, hm, e⟩)
theorem erase_first : ∀ {l : List S58} {n : Int} {k : Nat}, k < l.length → (l.getD k z58).f0 = n → (nums l).Nodup → l.eraseIdx k = woL l n
  | [], _, _, hk, _, _ => by simp at hk
  | a :: l, n, 0, _, he, hN => by
    have he' : a.f0 = n := he
    have hn : n ∉ nums l := by
      unfold nums at hN ⊢
      rw [List.map_cons, List.nodup_cons] at hN
      rw [← he']; exact hN.1
    have h2 := woL_none hn
    unfold woL at h2 ⊢
    rw [List.eraseIdx_cons_zero, List.filter_cons, if_neg (by simp [he']), h2]
  | a :: l, n, k + 1, hk, he, hN => by
    have hk' : k < l.length := by simpa using hk
    have he' : (l.getD k z58).f0 = n := by simpa using he
    unfold nums at hN
    rw [List.map_cons, List.nodup_cons] at hN
    have hne : ¬ a.f0 = n := fun e => hN.1 (e ▸ mem_nums.mpr ⟨_, getD_mem l z58 hk', he'⟩)
    have ih := erase_first hk' he' hN.2
    unfold woL at ih ⊢
    rw [List.eraseIdx_cons_succ, List.filter_cons, if_pos (by simp [hne]), ih]
theorem woL_short {l : List S58} {n : Int} : (woL l n).length < l.length ↔ n ∈ nums l := by
  constructor
  · intro h
    refine Classical.byContradiction fun hn => ?_
    rw [woL_none hn] at h
    omega
  · intro h
    rcases Nat.lt_or_ge (woL l n).length l.length with h2 | h2
    · exact h2
    · exfalso
      have hl : (woL l n).length = l.length := Nat.le_antisymm (List.length_filter_le _ _) h2
      have he : woL l n = l := (List.filter_sublist).eq_of_length hl
      obtain ⟨m, hm, hf⟩ := mem_nums.mp h
      rw [← he] at hm
      unfold woL at hm
      rw [List.mem_filter] at hm
      exact of_decide_eq_true hm.2 hf
theorem catV4 (v : Ver) : catV v 4 = v.lv 0 ++ v.lv 1 ++ v.lv 2 ++ v.lv 3 := by
  simp [catV]
/-- How often a number is among a version's tables. -/
def cntV (v : Ver) (n : Int) : Nat := (nums (catV v 4)).count n
theorem lv_cnt (v : Ver) (n : Int) : cntV v n = (nums (v.lv 0)).count n + (nums (v.lv 1)).count n + (nums (v.lv 2)).count n + (nums (v.lv 3)).count n := by
  unfold cntV
  rw [catV4]
  unfold nums
  simp only [List.map_append, List.count_append]
theorem set_cnt (v : Ver) (i : Nat) (hi : i < 4) (l : List S58) (n : Int) : cntV (v.set i l) n + (nums (v.lv i)).count n = cntV v n + (nums l).count n := by
  rw [lv_cnt, lv_cnt]
  rw [Ver.set_lv v i 0 hi (by omega), Ver.set_lv v i 1 hi (by omega), Ver.set_lv v i 2 hi (by omega), Ver.set_lv v i 3 hi (by omega)]
  rcases i with _ | _ | _ | _ | i
  · simp; omega
  · simp; omega
  · simp; omega
  · simp; omega
  · omega
/-- All numbers apart. -/
def apV (v : Ver) : Prop := ∀ n, cntV v n ≤ 1
theorem apV_of {v : Ver} (h : (nums (catV v 4)).Nodup) : apV v := fun n => List.nodup_iff_count.mp h n
theorem apV.lv {v : Ver} (h : apV v) {i : Nat} (hi : i < 4) : (nums (v.lv i)).Nodup := by
  rw [List.nodup_iff_count]
  intro n
  have h2 := h n
  rw [lv_cnt] at h2
  rcases (by omega : i = 0 ∨ i = 1 ∨ i = 2 ∨ i = 3) with rfl | rfl | rfl | rfl
  · omega
  · omega
  · omega
  · omega
theorem woL_cnt (l : List S58) (n m : Int) : (nums (woL l n)).count m ≤ (nums l).count m := by
  unfold nums woL
  exact List.Sublist.count_le m (List.Sublist.map _ List.filter_sublist)
theorem apV.wo {v : Ver} (h : apV v) {i : Nat} (hi : i < 4) (n : Int) : apV (v.set i (woL (v.lv i) n)) := fun m => by
  have h1 := h m
  have h2 := set_cnt v i hi (woL (v.lv i) n) m
  have h3 := woL_cnt (v.lv i) n m
  omega
theorem wiL_cnt (lv : Int) (m : S58) (l : List S58) (n : Int) : (nums (wiL lv m l)).count n = (nums l).count n + if m.f0 = n then 1 else 0 := by
  have h : l = l.take (plc lv m l) ++ l.drop (plc lv m l) := (List.take_append_drop _ _).symm
  have h2 : (nums l).count n = (nums (l.take (plc lv m l))).count n + (nums (l.drop (plc lv m l))).count n := by
    conv => lhs; rw [h]
    unfold nums
    rw [List.map_append, List.count_append]
  unfold wiL
  rw [h2]
  unfold nums
  rw [List.map_append, List.map_cons, List.count_append, List.count_cons]
  by_cases e : m.f0 = n
  · simp [e]; omega
  · simp [e]
theorem wi_cnt (v : Ver) {i : Nat} (hi : i < 4) (lv : Int) (m : S58) (n : Int) : cntV (v.set i (wiL lv m (v.lv i))) n = cntV v n + if m.f0 = n then 1 else 0 := by
  have h1 := set_cnt v i hi (wiL lv m (v.lv i)) n
  have h2 := wiL_cnt lv m (v.lv i) n
  omega
theorem wiL_len (lv : Int) (m : S58) (l : List S58) : (wiL lv m l).length = l.length + 1 := by
  unfold wiL
  rw [List.length_append, List.length_cons, ← Nat.add_assoc, ← List.length_append, List.take_append_drop]
/-! The steps. -/
def goV (v : Ver) (x : S84) : Option Ver :=
  if x.f1 ∈ nums (v.lv x.f0.toNat) then some (v.set x.f0.toNat (woL (v.lv x.f0.toNat) x.f1)) else none
def gosV : Ver → List S84 → Option Ver
  | v, [] => some v
  | v, x :: r => (goV v x).bind fun u => gosV u r
def adV (v : Ver) (x : S82) : Option Ver :=
  if 0 < cntV v x.f1.f0 then none else some (v.set x.f0.toNat (wiL x.f0 x.f1 (v.lv x.f0.toNat)))
def adsV : Ver → List S82 → Option Ver
  | v, [] => some v
  | v, x :: r => (adV v x).bind fun u => adsV u r
/-- With an edit's numbers. -/
def bndV (v : Ver) (e : Edt) : Ver := ⟨laterN v.log e.log, laterN v.next e.next, laterN v.seq e.seq, v.lv 0, v.lv 1, v.lv 2, v.lv 3⟩
theorem bndV_lv (v : Ver) (e : Edt) (i : Nat) (hi : i < 4) : (bndV v e).lv i = v.lv i := by
  rcases i with _ | _ | _ | _ | i
  · rfl
  · rfl
  · rfl
  · rfl
  · omega
def zeroV : Ver := ⟨0, 0, 0, [], [], [], []⟩
/-- May the edit be asked of this version? -/
def askE (v : Ver) (e : Edt) : Prop := (rightP v ∧ laterB v.log e.log = true ∧ laterB v.next e.next = true ∧ laterB v.seq e.seq = true) ∧ listedP e
open Classical in
noncomputable def lastV (u : Ver) : Ver × Int := if rightP u then (u, 0) else (zeroV, 11)
noncomputable def comeV (u : Ver) (l : List S82) : Ver × Int := match adsV u l with
  | none => (zeroV, 5)
  | some x => lastV x
noncomputable def goneV (u : Ver) (l : List S84) (r : List S82) : Ver × Int := match gosV u l with
  | none => (zeroV, 4)
  | some x => comeV x r
open Classical in
/-- What Apply answers. -/
noncomputable def applyV (v : Ver) (e : Edt) : Ver × Int := if askE v e then goneV (bndV v e) e.gone e.added else (zeroV, 2)
theorem goneV_cons (u : Ver) (x : S84) (l : List S84) (r : List S82) : goneV u (x :: l) r = match goV u x with
    | none => (zeroV, 4)
    | some y => goneV y l r := by
  unfold goneV
  rw [gosV]
  cases goV u x with
  | none => rfl
  | some y => rfl
theorem comeV_cons (u : Ver) (x : S82) (l : List S82) : comeV u (x :: l) = match adV u x with
    | none => (zeroV, 5)
    | some y => comeV y l := by
  unfold comeV
  rw [adsV]
  cases adV u x with
  | none => rfl
  | some y => rfl
end Go.Proofs.Ytkjepfofiegcdaa.V
/- The closure of Apply (105), slices.IndexFunc at it (104), walked. Conditions: none. -/
namespace Go.Proofs.Ytkjepfofiegcdaa.V
set_option linter.unusedVariables false
set_option linter.unusedSimpArgs false
open Go.RowKit Go.Proofs.YtkjepfofiegcdaaW.PrintWords Go.Proofs.YtkjepfofiegcdaaW.PrintLast Go.Proofs.YtkjepfofiegcdaaW.PrintMore Go.Proofs.Ytkjepfofiegcdaa.PB14
set_option maxHeartbeats 4000000 in
set_option maxRecDepth 100000 in
theorem pred105_calls (w : World) (m : S58) (x : S84) (gb : Nat) (hx : w.heap[gb]? = some (.cells (gCs x) 84 (0, 0))) :
    Calls Try.prog 105 #[.agg (mCs m), .pointer (some ⟨gb, 0, none⟩)] w fun e w' => e = .returned (.bool (decide (m.f0 = x.f1))) ∧ Below w.heap.size w w' := by
  have HB := Aside0.mk ((Below.refl w.heap.size w).alloc (Nat.le_refl _) (.cells (mCs m) 58))
  have X1 := Aside0.mk (blk_new w (.cells (mCs m) 58))
  have X2 := Aside0.mk (blk_alloc hx (.cells (mCs m) 58))
  clear hx
  go_enter Try.func105, Try.ntmps105
  go_upto_region 1 with (fail)
  generalize w.alloc (.cells (mCs m) 58) = w1 at *
  have y0 : w1.cell? ⟨w.heap.size, 0, none⟩ = some (.int .u64 m.f0) := (blk_cell X1.out 0).trans rfl
  have y1 : w1.cell? ⟨gb, 1, none⟩ = some (.int .u64 x.f1) := (blk_cell X2.out 1).trans rfl
  go_wp2_with fail
  go_ret
  exact ⟨ret_bool (by rw [Bool.eq_iff_iff]; simp), HB.out⟩
set_option maxHeartbeats 8000000 in
set_option maxRecDepth 100000 in
theorem indexF_calls (w : World) (A : Option Addr) (c : Nat) (l : List S58) (x : S84) (gb : Nat) (hC : k58.C w A l.length l) (hx : w.heap[gb]? = some (.cells (gCs x) 84 (0, 0))) :
    Calls Try.prog 104 #[.slice A l.length c, .func (.func 105) #[] #[.pointer (some ⟨gb, 0, none⟩)]] w fun e w' => ∃ i : Int, e = .returned (.int .i64 i) ∧ ((i = -1 ∧ ∀ j, j < l.length → ¬ (l.getD j z58).f0 = x.f1) ∨ ∃ k : Nat, i = (k : Int) ∧ k < l.length ∧ (l.getD k z58).f0 = x.f1 ∧ ∀ j, j < k → ¬ (l.getD j z58).f0 = x.f1) ∧ Below w.heap.size w w' := by
  have HC := Aside0.mk hC
  have HX := Aside0.mk hx
  clear hC hx
  go_enter Try.func104, Try.ntmps104
  go_wp2_with fail
  go_loopg [5, 8] l.length (fun kq v5 v8 w' => ∃ k : Nat, v8 = .int .i64 (k : Int) ∧ Aside0 (kq + k = l.length) ∧ Aside0 (Below w.heap.size w w') ∧ Aside0 (∀ j, j < k → ¬ (l.getD j z58).f0 = x.f1))
  case atStart => exact ⟨0, rfl, ⟨by omega⟩, ⟨Below.refl _ _⟩, ⟨fun j hj => by omega⟩⟩
  case round =>
    obtain ⟨k, rfl, HK, HB, HJ⟩ := hrel
    cases gk with
    | zero =>
      have ek : k = l.length := by have := HK.out; omega
      subst ek
      have d0 : decide ((l.length : Int) < (l.length : Int)) = false := by simp
      go_wp2_with fail
      go_ret
      exact ⟨-1, rfl, .inl ⟨rfl, HJ.out⟩, HB.out⟩
    | succ q =>
      have hk : k < l.length := by have := HK.out; omega
      have HM := Aside0.mk (show l.length ≤ 9223372036854775807 from HC.out.2.1)
      have d0 : decide ((k : Int) < (l.length : Int)) = true := decide_eq_true (by omega)
      have d1 : decide (k < l.length) = true := decide_eq_true hk
      have p0 : 0 ≤ (k : Int) := Int.natCast_nonneg _
      have p1 : (k : Int) < (l.length : Int) := by omega
      have HC1 := Aside0.mk (Kd.C_below HC.out HB.out)
      obtain ⟨ad, ea, ha0, ha1, ha2, ha3, ha4, ha5, ha6⟩ := at_T58 HC1.out (k : Int) p0 p1
      rw [Int.toNat_natCast] at ha0 ha1 ha2 ha3 ha4 ha5 ha6
      have EM := Aside0.mk (show rd_T58 l (k : Int) = l.getD k z58 by unfold rd_T58; rw [Int.toNat_natCast])
      generalize rd_T58 l (k : Int) = m at *
      have ew : wrap64 ((k : Int) + 1) = ((k + 1 : Nat) : Int) := by have h1 := HM.out; unfold wrap64; omega
      have KL := Aside0.mk hk
      have HX1 := Aside0.mk (blk_below HX.out HB.out)
      rw [ea]
      have HAX := Aside0.mk ea
      clear ea hk HC1
      by_cases hm : m.f0 = x.f1
      · have D := Aside0.mk (decide_eq_true hm)
        have EX := Aside0.mk (show (l.getD k z58).f0 = x.f1 by rw [← EM.out]; exact hm)
        clear hm
        go_wp2_with fail
        refine (pred105_calls _ m x gb HX1.out).mono ?_
        rintro e w3 ⟨rfl, hb⟩
        rw [D.out]
        have HB3 := Aside0.mk (below_step HB.out hb)
        clear hb
        go_wp2_with fail
        go_ret
        exact ⟨(k : Int), rfl, .inr ⟨k, rfl, KL.out, EX.out, HJ.out⟩, HB3.out⟩
      · have D := Aside0.mk (decide_eq_false hm)
        have EX := Aside0.mk (show ¬ (l.getD k z58).f0 = x.f1 by rw [← EM.out]; exact hm)
        clear hm
        go_wp2_with fail
        refine (pred105_calls _ m x gb HX1.out).mono ?_
        rintro e w3 ⟨rfl, hb⟩
        rw [D.out]
        have HB3 := Aside0.mk (below_step HB.out hb)
        clear hb
        go_wp2_with fail
        try rw [ew]
        rw [← HAX.out]
        clear ew
        go_roundg q
        case measure => omega
        case rel => exact ⟨k + 1, rfl, ⟨by have := HK.out; omega⟩, HB3, ⟨fun j hj => by
          by_cases e : j = k
          · subst e; exact EX.out
          · exact HJ.out j (by omega)⟩⟩
end Go.Proofs.Ytkjepfofiegcdaa.V
/- slices.Equal of tables, edit.Same, First, walked. Conditions: none. -/
namespace Go.Proofs.Ytkjepfofiegcdaa.V
set_option linter.unusedVariables false
set_option linter.unusedSimpArgs false
open Go.RowKit Go.Proofs.YtkjepfofiegcdaaW.PrintWords Go.Proofs.YtkjepfofiegcdaaW.PrintLast Go.Proofs.YtkjepfofiegcdaaW.PrintMore Go.Proofs.Ytkjepfofiegcdaa.PB14
attribute [local go_sem high] eqA58
def firstV : Ver := ⟨1, 1, 0, [], [], [], []⟩
def firstP : Pl := ⟨none, none, none, none, 0, 0, 0, 0⟩
set_option maxHeartbeats 4000000 in
set_option maxRecDepth 100000 in
theorem first66_calls (w : World) : Calls Try.prog 66 #[] w fun e w' => e = .returned (.agg (vCs firstV firstP)) ∧ Below w.heap.size w w' := by
  have HB := Aside0.mk ((Below.refl w.heap.size w).alloc (Nat.le_refl _) (.cells #[.int .u64 0, .int .u64 0, .int .u64 0, .slice none 0 0, .slice none 0 0, .slice none 0 0, .slice none 0 0] 26))
  have X2 := Aside0.mk (blk_new w (.cells #[.int .u64 0, .int .u64 0, .int .u64 0, .slice none 0 0, .slice none 0 0, .slice none 0 0, .slice none 0 0] 26))
  go_enter Try.func66, Try.ntmps66
  go_upto_region 1 with (fail)
  generalize w.alloc (.cells #[.int .u64 0, .int .u64 0, .int .u64 0, .slice none 0 0, .slice none 0 0, .slice none 0 0, .slice none 0 0] 26) = w1 at *
  go_wp2_with (first | (refine st_arr rfl 26 _ _ rfl w.heap.size 26 ?hx (vCs firstV firstP) ?hy _ X2.out (by rw [size26]; rfl) rfl (by simp [Value.oneCell']) ?_; (case hx => rfl); (case hy => rfl); intro w5 hb5 hbb hk5 hs5; have HB5 := Aside0.mk (hbb _ _ HB.out (Nat.le_refl _)); have X5 := Aside0.mk hb5; clear hb5 hbb hk5 hs5) | fail)
  have r0 : w5.cell? ⟨w.heap.size, 0, none⟩ = some (.int .u64 1) := (blk_cell X5.out 0).trans rfl
  have r1 : w5.cell? ⟨w.heap.size, 1, none⟩ = some (.int .u64 1) := (blk_cell X5.out 1).trans rfl
  have r2 : w5.cell? ⟨w.heap.size, 2, none⟩ = some (.int .u64 0) := (blk_cell X5.out 2).trans rfl
  have r3 : w5.cell? ⟨w.heap.size, 3, none⟩ = some (.slice none 0 0) := (blk_cell X5.out 3).trans rfl
  have r4 : w5.cell? ⟨w.heap.size, 4, none⟩ = some (.slice none 0 0) := (blk_cell X5.out 4).trans rfl
  have r5 : w5.cell? ⟨w.heap.size, 5, none⟩ = some (.slice none 0 0) := (blk_cell X5.out 5).trans rfl
  have r6 : w5.cell? ⟨w.heap.size, 6, none⟩ = some (.slice none 0 0) := (blk_cell X5.out 6).trans rfl
  exact bodyPost_ret (v := .agg (vCs firstV firstP)) (by simp [results, Try.results66, go_sem, r0, r1, r2, r3, r4, r5, r6, firstV, firstP]) rfl ⟨rfl, HB5.out⟩
end Go.Proofs.Ytkjepfofiegcdaa.V
/- edit.Apply (54) of a version without tables, by an edit that adds none and takes away at most one, walked. Conditions: those. -/
namespace Go.Proofs.Ytkjepfofiegcdaa.V
set_option linter.unusedVariables false
set_option linter.unusedSimpArgs false
open Go.RowKit Go.Proofs.YtkjepfofiegcdaaW.PrintWords Go.Proofs.YtkjepfofiegcdaaW.PrintLast Go.Proofs.YtkjepfofiegcdaaW.PrintMore Go.Proofs.Ytkjepfofiegcdaa.PB14
theorem set_same {cs : Array Value} {j : Nat} {x : Value} (h : cs[j]? = some x) : cs.setIfInBounds j x = cs := by
  have hj : j < cs.size := by
    rcases Nat.lt_or_ge j cs.size with h1 | h1
    · exact h1
    · rw [Array.getElem?_eq_none h1] at h; cases h
  rw [Array.getElem?_eq_getElem hj] at h
  injection h with h
  subst h
  unfold Array.setIfInBounds
  rw [dif_pos hj]
  exact Array.set_getElem_self hj
theorem later2 (w : World) (g j t : Nat) (cs : Array Value) (was n : Int) (hg : w.heap[g]? = some (.cells cs t (0, 0))) (hj : cs[j]? = some (.int .u64 was)) (B : Nat) (hB : B ≤ g) :
    Calls Try.prog 102 #[.pointer (some ⟨g, j, none⟩), .int .u64 n] w fun e w' => e = .returned (.bool (laterB was n)) ∧ w'.heap[g]? = some (.cells (cs.setIfInBounds j (.int .u64 (laterN was n))) t (0, 0)) ∧ (∀ k, k ≠ g → w'.heap[k]? = w.heap[k]?) ∧ Below B w w' := by
  refine (later_calls w g j t cs was n hg hj).mono ?_
  rintro e w' ⟨rfl, rfl⟩
  by_cases h : n = 0
  · rw [if_pos h, show laterN was n = was from if_pos h, set_same hj]
    exact ⟨rfl, hg, fun _ _ => rfl, Below.refl _ _⟩
  · rw [if_neg h, show laterN was n = n from if_neg h]
    exact ⟨rfl, blk_set hg j _, fun k hk => Below.heap_setCell w _ _ k hk, (Below.refl B w).setCell hB _⟩
set_option maxHeartbeats 8000000 in
set_option maxRecDepth 100000 in
theorem applyF_calls (w : World) (v : Ver) (p : Pl) (e : Edt) (A1 A2 : Option Addr) (c1 c2 : Nat) (hC : VC w v p) (hW : VW v) (h1 : k84.C w A1 e.gone.length e.gone) (h2 : k82.C w A2 e.added.length e.added)
    (hE : ∀ i, i < 4 → v.lv i = []) (hr : rightP v) (ha : e.added = []) (hg : e.gone.length ≤ 1) (hl : listedP e) (l1 : laterB v.log e.log = true) (l2 : laterB v.next e.next = true) (l3 : laterB v.seq e.seq = true) (hr2 : rightP (bndV v e)) :
    Calls Try.prog 54 #[.agg (vCs v p), .agg (eCs e A1 c1 A2 c2)] w fun x w' => (∃ y q, x = .returned (.tuple #[.agg (vCs y q), .int .i64 (if e.gone = [] then 0 else 4)]) ∧ (e.gone = [] → y = bndV v e)) ∧ Below w.heap.size w w' := by
  obtain ⟨r, hrr⟩ : ∃ r : Int, r = if e.gone = [] then 0 else 4 := ⟨_, rfl⟩
  rw [← hrr]
  have HRR := Aside0.mk hrr
  clear hrr
  have KNIL : ∀ (A : Option Addr) (W : World), k58.C W A ([] : List S58).length [] := fun A W => ⟨rfl, by simp, fun h => absurd h (Nat.lt_irrefl 0)⟩
  obtain ⟨u, hu⟩ : ∃ u, u = bndV v e := ⟨_, rfl⟩
  rw [← hu] at hr2 ⊢
  have UE := Aside0.mk hu
  have UL := Aside0.mk (show ∀ i, i < 4 → u.lv i = [] from fun i hi => by rw [hu, bndV_lv v e i hi]; exact hE i hi)
  clear hu
  have HE := Aside0.mk hE
  have HR := Aside0.mk hr
  have HW := Aside0.mk hW
  have HG1 := Aside0.mk hg
  have LP := Aside0.mk hl
  have LB1 := Aside0.mk l1
  have LB2 := Aside0.mk l2
  have LB3 := Aside0.mk l3
  have HR2 := Aside0.mk hr2
  have HA := Aside0.mk ha
  clear hE hr hW hg hl l1 l2 l3 hr2 ha
  have HC := Aside0.mk hC
  have H1 := Aside0.mk h1
  have H2 := Aside0.mk h2
  have HB := Aside0.mk (below_alloc (below_alloc ((Below.refl w.heap.size w).alloc (Nat.le_refl _) (.cells (vCs v p) 26)) (.cells (eCs e A1 c1 A2 c2) 70)) (.cells #[.int .u64 0, .int .u64 0, .int .u64 0, .slice none 0 0, .slice none 0 0, .slice none 0 0, .slice none 0 0] 26))
  have X1 := Aside0.mk (blk_alloc (blk_alloc (blk_new w (.cells (vCs v p) 26)) (.cells (eCs e A1 c1 A2 c2) 70)) (.cells #[.int .u64 0, .int .u64 0, .int .u64 0, .slice none 0 0, .slice none 0 0, .slice none 0 0, .slice none 0 0] 26))
  have X2 := Aside0.mk (blk_alloc (blk_new (w.alloc (.cells (vCs v p) 26)) (.cells (eCs e A1 c1 A2 c2) 70)) (.cells #[.int .u64 0, .int .u64 0, .int .u64 0, .slice none 0 0, .slice none 0 0, .slice none 0 0, .slice none 0 0] 26))
  have X3 := Aside0.mk (blk_new ((w.alloc (.cells (vCs v p) 26)).alloc (.cells (eCs e A1 c1 A2 c2) 70)) (.cells #[.int .u64 0, .int .u64 0, .int .u64 0, .slice none 0 0, .slice none 0 0, .slice none 0 0, .slice none 0 0] 26))
  go_enter Try.func54, Try.ntmps54
  go_upto_region 1 with (fail)
  generalize hg3 : ((w.alloc (.cells (vCs v p) 26)).alloc (.cells (eCs e A1 c1 A2 c2) 70)).heap.size = g3 at *
  have e3 : w.heap.size + 1 + 1 = g3 := by rw [← hg3]; simp
  generalize hg2 : (w.alloc (.cells (vCs v p) 26)).heap.size = g2 at *
  have e2 : w.heap.size + 1 = g2 := by rw [← hg2]; simp
  try rw [e3]
  try rw [e2]
  have N2 := Aside0.mk (show w.heap.size < g2 by omega)
  have N3 := Aside0.mk (show g2 < g3 by omega)
  clear hg3 e3 hg2 e2
  generalize ((w.alloc (.cells (vCs v p) 26)).alloc (.cells (eCs e A1 c1 A2 c2) 70)).alloc (.cells #[.int .u64 0, .int .u64 0, .int .u64 0, .slice none 0 0, .slice none 0 0, .slice none 0 0, .slice none 0 0] 26) = w1 at *
  clear hC h1 h2
  have b0 : w1.cell? ⟨w.heap.size, 0, none⟩ = some (.int .u64 v.log) := (blk_cell X1.out 0).trans rfl
  have b1 : w1.cell? ⟨w.heap.size, 1, none⟩ = some (.int .u64 v.next) := (blk_cell X1.out 1).trans rfl
  have b2 : w1.cell? ⟨w.heap.size, 2, none⟩ = some (.int .u64 v.seq) := (blk_cell X1.out 2).trans rfl
  have b3 : w1.cell? ⟨w.heap.size, 3, none⟩ = some (.slice p.a0 v.l0.length p.c0) := (blk_cell X1.out 3).trans rfl
  have b4 : w1.cell? ⟨w.heap.size, 4, none⟩ = some (.slice p.a1 v.l1.length p.c1) := (blk_cell X1.out 4).trans rfl
  have b5 : w1.cell? ⟨w.heap.size, 5, none⟩ = some (.slice p.a2 v.l2.length p.c2) := (blk_cell X1.out 5).trans rfl
  have b6 : w1.cell? ⟨w.heap.size, 6, none⟩ = some (.slice p.a3 v.l3.length p.c3) := (blk_cell X1.out 6).trans rfl
  go_wp2_with fail
  refine (right_calls _ v p (HC.out.below HB.out) HW.out).mono ?_
  rintro x w2 ⟨rfl, hb⟩
  rw [decide_eq_true HR.out]
  have HB2 := Aside0.mk (below_step HB.out hb)
  have X12 := Aside0.mk (blk_below X1.out hb)
  have X22 := Aside0.mk (blk_below X2.out hb)
  have X32 := Aside0.mk (blk_below X3.out hb)
  clear hb b0 b1 b2 b3 b4 b5 b6 X1 X2 X3 HB
  have HB := HB2; have X1 := X12; have X2 := X22; have X3 := X32
  clear HB2 X12 X22 X32
  go_wp2_with fail
  go_loopg [7, 25] 4 (fun kq v7 v25 w' => ∃ (i : Nat) (q : Pl), v25 = .int .i64 (i : Int) ∧ Aside0 (kq + i = 4) ∧ Aside0 (Below w.heap.size w w') ∧ Aside0 (w'.heap[w.heap.size]? = some (.cells (vCs v q) 26 (0, 0))) ∧ Aside0 (w'.heap[g2]? = some (.cells (eCs e A1 c1 A2 c2) 70 (0, 0))) ∧ Aside0 (w'.heap[g3]? = some (.cells #[.int .u64 0, .int .u64 0, .int .u64 0, .slice none 0 0, .slice none 0 0, .slice none 0 0, .slice none 0 0] 26 (0, 0))))
  case atStart => exact ⟨0, p, rfl, ⟨by omega⟩, HB, X1, X2, X3⟩
  case round =>
    clear HB X1 X2 X3
    obtain ⟨i, q, rfl, HK, HB, X1, X2, X3⟩ := hrel
    cases gk with
    | zero =>
      have ei : i = 4 := by have := HK.out; omega
      subst ei
      go_upto_region 7 with (fail)
      refine start_ (n := 15) (S := (fun w' => w'.heap[g2]? = some (.cells (eCs e A1 c1 A2 c2) 70 (0, 0)))) (ds := []) #[false, false, false, false, false, false, false, false, false, false, false, false, false, false, false] (by kernel_rfl) rfl rfl (blk_drew X2.out) (fun hHeld => ?_)
      have XD1 := Aside0.mk (blk_drew X1.out)
      have XD3 := Aside0.mk (blk_drew X3.out)
      have HD := Aside0.mk (below_drew HB.out)
      generalize wr.drew = wd at *
      refine pure_ (i := 0) (N := (some 37)) (v := ?_) (a' := ?_) #[true, false, false, false, false, false, false, false, false, false, false, false, false, false, false] rfl rfl (by kernel_rfl) (fun _ _ _ h => h) (Or.inl ⟨by rfl, ?_⟩) ?_ ?_
      rotate_left
      · intro w'
        go_simp
        with_reducible rfl
      rotate_left
      · simp only [Act.put, List.setIfInBounds_toArray, List.set_cons_zero, List.set_cons_succ, i64_w, i32_w]
        rfl
      refine pure_ (i := 1) (N := (some 38)) (v := ?_) (a' := ?_) #[true, true, false, false, false, false, false, false, false, false, false, false, false, false, false] rfl rfl (by kernel_rfl) (fun _ _ _ h => h) (Or.inl ⟨by rfl, ?_⟩) ?_ ?_
      rotate_left
      · intro w'
        go_simp
        with_reducible rfl
      rotate_left
      · simp only [Act.put, List.setIfInBounds_toArray, List.set_cons_zero, List.set_cons_succ, i64_w, i32_w]
        rfl
      refine take_ (i := 2) (N := (some 39)) (v := ?_) (a' := ?_) #[true, true, true, false, false, false, false, false, false, false, false, false, false, false, false] rfl rfl (by kernel_rfl) (fun _ _ _ h => h) (Or.inl ⟨by rfl, ?_⟩) hHeld ?_ ?_
      rotate_left
      · rintro w' s0
        have z0 : w'.cell? ⟨g2, 0, none⟩ = some (.int .u64 e.log) := (blk_cell s0 0).trans rfl
        go_simp
        with_reducible rfl
      rotate_left
      · simp only [Act.put, List.setIfInBounds_toArray, List.set_cons_zero, List.set_cons_succ, i64_w, i32_w]
        rfl
      refine pure_ (i := 4) (N := (some 41)) (v := ?_) (a' := ?_) #[true, true, true, false, true, false, false, false, false, false, false, false, false, false, false] rfl rfl (by kernel_rfl) (fun _ _ _ h => h) (Or.inl ⟨by rfl, ?_⟩) ?_ ?_
      rotate_left
      · intro w'
        go_simp
        with_reducible rfl
      rotate_left
      · simp only [Act.put, List.setIfInBounds_toArray, List.set_cons_zero, List.set_cons_succ, i64_w, i32_w]
        rfl
      refine pure_ (i := 5) (N := (some 42)) (v := ?_) (a' := ?_) #[true, true, true, false, true, true, false, false, false, false, false, false, false, false, false] rfl rfl (by kernel_rfl) (fun _ _ _ h => h) (Or.inl ⟨by rfl, ?_⟩) ?_ ?_
      rotate_left
      · intro w'
        go_simp
        with_reducible rfl
      rotate_left
      · simp only [Act.put, List.setIfInBounds_toArray, List.set_cons_zero, List.set_cons_succ, i64_w, i32_w]
        rfl
      refine take_ (i := 6) (N := (some 43)) (v := ?_) (a' := ?_) #[true, true, true, false, true, true, true, false, false, false, false, false, false, false, false] rfl rfl (by kernel_rfl) (fun _ _ _ h => h) (Or.inl ⟨by rfl, ?_⟩) hHeld ?_ ?_
      rotate_left
      · rintro w' s0
        have z0 : w'.cell? ⟨g2, 1, none⟩ = some (.int .u64 e.next) := (blk_cell s0 1).trans rfl
        go_simp
        with_reducible rfl
      rotate_left
      · simp only [Act.put, List.setIfInBounds_toArray, List.set_cons_zero, List.set_cons_succ, i64_w, i32_w]
        rfl
      refine pure_ (i := 8) (N := (some 45)) (v := ?_) (a' := ?_) #[true, true, true, false, true, true, true, false, true, false, false, false, false, false, false] rfl rfl (by kernel_rfl) (fun _ _ _ h => h) (Or.inl ⟨by rfl, ?_⟩) ?_ ?_
      rotate_left
      · intro w'
        go_simp
        with_reducible rfl
      rotate_left
      · simp only [Act.put, List.setIfInBounds_toArray, List.set_cons_zero, List.set_cons_succ, i64_w, i32_w]
        rfl
      refine pure_ (i := 9) (N := (some 46)) (v := ?_) (a' := ?_) #[true, true, true, false, true, true, true, false, true, true, false, false, false, false, false] rfl rfl (by kernel_rfl) (fun _ _ _ h => h) (Or.inl ⟨by rfl, ?_⟩) ?_ ?_
      rotate_left
      · intro w'
        go_simp
        with_reducible rfl
      rotate_left
      · simp only [Act.put, List.setIfInBounds_toArray, List.set_cons_zero, List.set_cons_succ, i64_w, i32_w]
        rfl
      refine take_ (i := 10) (N := (some 47)) (v := ?_) (a' := ?_) #[true, true, true, false, true, true, true, false, true, true, true, false, false, false, false] rfl rfl (by kernel_rfl) (fun _ _ _ h => h) (Or.inl ⟨by rfl, ?_⟩) hHeld ?_ ?_
      rotate_left
      · rintro w' s0
        have z0 : w'.cell? ⟨g2, 2, none⟩ = some (.int .u64 e.seq) := (blk_cell s0 2).trans rfl
        go_simp
        with_reducible rfl
      rotate_left
      · simp only [Act.put, List.setIfInBounds_toArray, List.set_cons_zero, List.set_cons_succ, i64_w, i32_w]
        rfl
      refine one_ (i := 3) (N := (some 40)) #[true, true, true, true, true, true, true, false, true, true, true, false, false, false, false] rfl rfl (by kernel_rfl) (by decide) (fun K hK => ?_)
      refine goes_ Try.func102 (by kernel_rfl) rfl #[.pointer (some ⟨w.heap.size, 0, none⟩), .int .u64 e.log] (by rfl) rfl rfl (by (try simp only [List.map_toArray, List.map_cons, List.map_nil]); first | done | rfl) ?_
      (with_reducible refine (later2 _ w.heap.size 0 26 _ v.log e.log XD1.out rfl w.heap.size (Nat.le_refl _)).mono ?_)
      rintro e wA ⟨rfl, hx, hk, hb⟩
      refine ⟨_, rfl, ?_⟩
      have XA1 := Aside0.mk hx
      have XA3 := Aside0.mk ((hk g3 (by have := N2.out; have := N3.out; omega)).trans XD3.out)
      have HA_ := Aside0.mk (HD.out.trans hb)
      have hOld := hHeld
      clear hHeld
      refine hK.out _ _ (((hk g2 (by have := N2.out; omega)).trans hOld)) (fun hHeld => ?_)
      clear hOld hK K
      refine norm_ (a' := ?_) ?_ ?_
      rotate_left
      · show Act.put _ (some 40) _ = _
        simp only [Act.put, List.setIfInBounds_toArray, List.set_cons_zero, List.set_cons_succ, i64_w, i32_w]
        rfl
      refine one_ (i := 7) (N := (some 44)) #[true, true, true, true, true, true, true, true, true, true, true, false, false, false, false] rfl rfl (by kernel_rfl) (by decide) (fun K hK => ?_)
      refine goes_ Try.func102 (by kernel_rfl) rfl #[.pointer (some ⟨w.heap.size, 1, none⟩), .int .u64 e.next] (by rfl) rfl rfl (by (try simp only [List.map_toArray, List.map_cons, List.map_nil]); first | done | rfl) ?_
      (with_reducible refine (later2 _ w.heap.size 1 26 _ v.next e.next XA1.out rfl w.heap.size (Nat.le_refl _)).mono ?_)
      rintro e wB ⟨rfl, hx, hk, hb⟩
      refine ⟨_, rfl, ?_⟩
      have XB1 := Aside0.mk hx
      have XB3 := Aside0.mk ((hk g3 (by have := N2.out; have := N3.out; omega)).trans XA3.out)
      have HB_ := Aside0.mk (HA_.out.trans hb)
      have hOld := hHeld
      clear hHeld
      refine hK.out _ _ (((hk g2 (by have := N2.out; omega)).trans hOld)) (fun hHeld => ?_)
      clear hOld hK K
      refine norm_ (a' := ?_) ?_ ?_
      rotate_left
      · show Act.put _ (some 44) _ = _
        simp only [Act.put, List.setIfInBounds_toArray, List.set_cons_zero, List.set_cons_succ, i64_w, i32_w]
        rfl
      refine one_ (i := 11) (N := (some 48)) #[true, true, true, true, true, true, true, true, true, true, true, true, false, false, false] rfl rfl (by kernel_rfl) (by decide) (fun K hK => ?_)
      refine goes_ Try.func102 (by kernel_rfl) rfl #[.pointer (some ⟨w.heap.size, 2, none⟩), .int .u64 e.seq] (by rfl) rfl rfl (by (try simp only [List.map_toArray, List.map_cons, List.map_nil]); first | done | rfl) ?_
      (with_reducible refine (later2 _ w.heap.size 2 26 _ v.seq e.seq XB1.out rfl w.heap.size (Nat.le_refl _)).mono ?_)
      rintro e wC ⟨rfl, hx, hk, hb⟩
      refine ⟨_, rfl, ?_⟩
      have XC1 := Aside0.mk hx
      have XC3 := Aside0.mk ((hk g3 (by have := N2.out; have := N3.out; omega)).trans XB3.out)
      have HC_ := Aside0.mk (HB_.out.trans hb)
      have hOld := hHeld
      clear hHeld
      refine hK.out _ _ (((hk g2 (by have := N2.out; omega)).trans hOld)) (fun hHeld => ?_)
      clear hOld hK K
      refine norm_ (a' := ?_) ?_ ?_
      rotate_left
      · show Act.put _ (some 48) _ = _
        simp only [Act.put, List.setIfInBounds_toArray, List.set_cons_zero, List.set_cons_succ, i64_w, i32_w]
        rfl
      refine pure_ (i := 12) (N := (some 8)) (v := ?_) (a' := ?_) #[true, true, true, true, true, true, true, true, true, true, true, true, true, false, false] rfl rfl (by kernel_rfl) (fun _ _ _ h => h) (Or.inl ⟨by rfl, ?_⟩) ?_ ?_
      rotate_left
      · intro w'
        go_simp
        with_reducible rfl
      rotate_left
      · simp only [Act.put, List.setIfInBounds_toArray, List.set_cons_zero, List.set_cons_succ, i64_w, i32_w]
        rfl
      refine pure_ (i := 13) (N := (some 9)) (v := ?_) (a' := ?_) #[true, true, true, true, true, true, true, true, true, true, true, true, true, true, false] rfl rfl (by kernel_rfl) (fun _ _ _ h => h) (Or.inl ⟨by rfl, ?_⟩) ?_ ?_
      rotate_left
      · intro w'
        go_simp
        with_reducible rfl
      rotate_left
      · simp only [Act.put, List.setIfInBounds_toArray, List.set_cons_zero, List.set_cons_succ, i64_w, i32_w]
        rfl
      refine pure_ (i := 14) (N := (some 10)) (v := ?_) (a' := ?_) #[true, true, true, true, true, true, true, true, true, true, true, true, true, true, true] rfl rfl (by kernel_rfl) (fun _ _ _ h => h) (Or.inl ⟨by rfl, ?_⟩) ?_ ?_
      rotate_left
      · intro w'
        go_simp
        with_reducible rfl
      rotate_left
      · simp only [Act.put, List.setIfInBounds_toArray, List.set_cons_zero, List.set_cons_succ, i64_w, i32_w]
        rfl
      refine done_ (by kernel_rfl) ?_
      rw [LB1.out, LB2.out, LB3.out]
      have X2c := Aside0.mk hHeld
      have X1c := Aside0.mk (show wC.heap[w.heap.size]? = some (.cells (vCs u q) 26 (0, 0)) by rw [UE.out]; exact XC1.out)
      clear hHeld XA1 XA3 HA_ XB1 XB3 HB_ XC1 XD1 XD3 HD HB X1 X2 X3
      have HB := HC_; have X1 := X1c; have X2 := X2c; have X3 := XC3
      clear HC_ X1c X2c XC3
      have e0 : wC.cell? ⟨g2, 0, none⟩ = some (.int .u64 e.log) := (blk_cell X2.out 0).trans rfl
      have e1 : wC.cell? ⟨g2, 1, none⟩ = some (.int .u64 e.next) := (blk_cell X2.out 1).trans rfl
      have e2 : wC.cell? ⟨g2, 2, none⟩ = some (.int .u64 e.seq) := (blk_cell X2.out 2).trans rfl
      have e3 : wC.cell? ⟨g2, 3, none⟩ = some (.slice A1 e.gone.length c1) := (blk_cell X2.out 3).trans rfl
      have e4 : wC.cell? ⟨g2, 4, none⟩ = some (.slice A2 e.added.length c2) := (blk_cell X2.out 4).trans rfl
      go_wp2_with fail
      refine (listed_calls _ e A1 A2 c1 c2 (Kd.C_below H1.out HB.out) (Kd.C_below H2.out HB.out)).mono ?_
      rintro x w3 ⟨rfl, hb⟩
      rw [if_pos LP.out]
      have HB3 := Aside0.mk (below_step HB.out hb)
      have X13 := Aside0.mk (blk_below X1.out hb)
      have X23 := Aside0.mk (blk_below X2.out hb)
      have X33 := Aside0.mk (blk_below X3.out hb)
      clear hb e0 e1 e2 e3 e4 X1 X2 X3 HB
      have HB := HB3; have X1 := X13; have X2 := X23; have X3 := X33
      clear HB3 X13 X23 X33
      have e3 : w3.cell? ⟨g2, 3, none⟩ = some (.slice A1 e.gone.length c1) := (blk_cell X2.out 3).trans rfl
      have e4 : w3.cell? ⟨g2, 4, none⟩ = some (.slice A2 e.added.length c2) := (blk_cell X2.out 4).trans rfl
      go_wp2_with fail
      clear e3 e4
      go_loopg [72] e.gone.length (fun kq v72 w' => ∃ k : Nat, v72 = .int .i64 (k : Int) ∧ Aside0 (k = 0 ∧ kq + k = e.gone.length) ∧ Aside0 (Below w.heap.size w w') ∧ Aside0 (w'.heap[w.heap.size]? = some (.cells (vCs u q) 26 (0, 0))) ∧ Aside0 (w'.heap[g2]? = some (.cells (eCs e A1 c1 A2 c2) 70 (0, 0))) ∧ Aside0 (w'.heap[g3]? = some (.cells #[.int .u64 0, .int .u64 0, .int .u64 0, .slice none 0 0, .slice none 0 0, .slice none 0 0, .slice none 0 0] 26 (0, 0))))
      case atStart => exact ⟨0, rfl, ⟨rfl, rfl⟩, HB, X1, X2, X3⟩
      case round =>
        clear HB X1 X2 X3
        obtain ⟨k, rfl, HK, HB, X1, X2, X3⟩ := hrel
        cases gk with
        | zero =>
          have GN := Aside0.mk (show e.gone = [] from List.length_eq_zero_iff.mp (by have := HK.out; omega))
          have d4 : decide ((k : Int) < (e.gone.length : Int)) = false := decide_eq_false (by have := HK.out; omega)
          have d5 : decide (k < e.gone.length) = false := decide_eq_false (by have := HK.out; omega)
          have hmm := @run_makeMap Try.prog
          have HBm := Aside0.mk (below_alloc HB.out (.map #[] 0))
          have X1m := Aside0.mk (blk_alloc X1.out (.map #[] 0))
          have X2m := Aside0.mk (blk_alloc X2.out (.map #[] 0))
          have X3m := Aside0.mk (blk_alloc X3.out (.map #[] 0))
          clear HB X1 X2 X3
          have HB := HBm; have X1 := X1m; have X2 := X2m; have X3 := X3m
          clear HBm X1m X2m X3m
          have b3 : (wr.alloc (.map #[] 0)).cell? ⟨w.heap.size, 3, none⟩ = some (.slice q.a0 u.l0.length q.c0) := (blk_cell X1.out 3).trans rfl
          have b4 : (wr.alloc (.map #[] 0)).cell? ⟨w.heap.size, 4, none⟩ = some (.slice q.a1 u.l1.length q.c1) := (blk_cell X1.out 4).trans rfl
          have b5 : (wr.alloc (.map #[] 0)).cell? ⟨w.heap.size, 5, none⟩ = some (.slice q.a2 u.l2.length q.c2) := (blk_cell X1.out 5).trans rfl
          have b6 : (wr.alloc (.map #[] 0)).cell? ⟨w.heap.size, 6, none⟩ = some (.slice q.a3 u.l3.length q.c3) := (blk_cell X1.out 6).trans rfl
          go_wp2_with fail
          generalize wr.alloc (.map #[] 0) = w5 at *
          clear b3 b4 b5 b6
          go_loopg [103] 4 (fun kq v103 w' => ∃ i : Nat, v103 = .int .i64 (i : Int) ∧ Aside0 (kq + i = 4) ∧ Aside0 (Below w.heap.size w w') ∧ Aside0 (w'.heap[w.heap.size]? = some (.cells (vCs u q) 26 (0, 0))) ∧ Aside0 (w'.heap[g2]? = some (.cells (eCs e A1 c1 A2 c2) 70 (0, 0))) ∧ Aside0 (w'.heap[g3]? = some (.cells #[.int .u64 0, .int .u64 0, .int .u64 0, .slice none 0 0, .slice none 0 0, .slice none 0 0, .slice none 0 0] 26 (0, 0))))
          case atStart => exact ⟨0, rfl, ⟨by omega⟩, HB, X1, X2, X3⟩
          case round =>
            clear HB X1 X2 X3
            obtain ⟨i, rfl, HKK, HB, X1, X2, X3⟩ := hrel
            cases gk with
            | zero =>
              have ei : i = 4 := by have := HKK.out; omega
              subst ei
              have e4 : wr.cell? ⟨g2, 4, none⟩ = some (.slice A2 e.added.length c2) := (blk_cell X2.out 4).trans rfl
              have d6 : decide (0 < (e.added.length : Int)) = false := decide_eq_false (by rw [HA.out]; simp)
              have d7 : decide (0 < e.added.length) = false := decide_eq_false (by rw [HA.out]; simp)
              go_wp2_with fail
              go_loopg [122] 0 (fun kq v122 w' => v122 = .int .i64 0 ∧ Aside0 (kq = 0) ∧ Aside0 (w' = wr))
              case atStart => exact ⟨rfl, ⟨rfl⟩, ⟨rfl⟩⟩
              case round =>
                obtain ⟨rfl, HK9, HW9⟩ := hrel
                cases gk with
                | zero =>
                  have hw9 := HW9.out
                  subst hw9
                  clear e4
                  have b0 : wr.cell? ⟨w.heap.size, 0, none⟩ = some (.int .u64 u.log) := (blk_cell X1.out 0).trans rfl
                  have b1 : wr.cell? ⟨w.heap.size, 1, none⟩ = some (.int .u64 u.next) := (blk_cell X1.out 1).trans rfl
                  have b2 : wr.cell? ⟨w.heap.size, 2, none⟩ = some (.int .u64 u.seq) := (blk_cell X1.out 2).trans rfl
                  have b3 : wr.cell? ⟨w.heap.size, 3, none⟩ = some (.slice q.a0 u.l0.length q.c0) := (blk_cell X1.out 3).trans rfl
                  have b4 : wr.cell? ⟨w.heap.size, 4, none⟩ = some (.slice q.a1 u.l1.length q.c1) := (blk_cell X1.out 4).trans rfl
                  have b5 : wr.cell? ⟨w.heap.size, 5, none⟩ = some (.slice q.a2 u.l2.length q.c2) := (blk_cell X1.out 5).trans rfl
                  have b6 : wr.cell? ⟨w.heap.size, 6, none⟩ = some (.slice q.a3 u.l3.length q.c3) := (blk_cell X1.out 6).trans rfl
                  go_wp2_with fail
                  refine (right_calls _ u q (fun j hj => by rw [UL.out j hj]; exact ⟨KNIL _ _, Nat.zero_le _⟩) (fun j hj m hm => by rw [UL.out j hj] at hm; cases hm)).mono ?_
                  rintro x w6 ⟨rfl, hb⟩
                  rw [decide_eq_true HR2.out]
                  have HB6 := Aside0.mk (below_step HB.out hb)
                  have X16 := Aside0.mk (blk_below X1.out hb)
                  have X36 := Aside0.mk (blk_below X3.out hb)
                  clear hb b0 b1 b2 b3 b4 b5 b6
                  have b0 : w6.cell? ⟨w.heap.size, 0, none⟩ = some (.int .u64 u.log) := (blk_cell X16.out 0).trans rfl
                  have b1 : w6.cell? ⟨w.heap.size, 1, none⟩ = some (.int .u64 u.next) := (blk_cell X16.out 1).trans rfl
                  have b2 : w6.cell? ⟨w.heap.size, 2, none⟩ = some (.int .u64 u.seq) := (blk_cell X16.out 2).trans rfl
                  have b3 : w6.cell? ⟨w.heap.size, 3, none⟩ = some (.slice q.a0 u.l0.length q.c0) := (blk_cell X16.out 3).trans rfl
                  have b4 : w6.cell? ⟨w.heap.size, 4, none⟩ = some (.slice q.a1 u.l1.length q.c1) := (blk_cell X16.out 4).trans rfl
                  have b5 : w6.cell? ⟨w.heap.size, 5, none⟩ = some (.slice q.a2 u.l2.length q.c2) := (blk_cell X16.out 5).trans rfl
                  have b6 : w6.cell? ⟨w.heap.size, 6, none⟩ = some (.slice q.a3 u.l3.length q.c3) := (blk_cell X16.out 6).trans rfl
                  go_wp2_with (first | (refine st_arr rfl 26 _ _ rfl g3 26 ?hx (vCs u q) ?hy _ X36.out (by rw [size26]; rfl) rfl (by simp [Value.oneCell']) ?_; (case hx => rfl); (case hy => rfl); intro w7 hb7 hbb hk7 hs7; have HB7 := Aside0.mk (hbb _ _ HB6.out (show w.heap.size ≤ g3 by have := N2.out; have := N3.out; omega)); have X7 := Aside0.mk hb7; clear hb7 hbb hk7 hs7) | fail)
                  have r0 : w7.cell? ⟨g3, 0, none⟩ = some (.int .u64 u.log) := (blk_cell X7.out 0).trans rfl
                  have r1 : w7.cell? ⟨g3, 1, none⟩ = some (.int .u64 u.next) := (blk_cell X7.out 1).trans rfl
                  have r2 : w7.cell? ⟨g3, 2, none⟩ = some (.int .u64 u.seq) := (blk_cell X7.out 2).trans rfl
                  have r3 : w7.cell? ⟨g3, 3, none⟩ = some (.slice q.a0 u.l0.length q.c0) := (blk_cell X7.out 3).trans rfl
                  have r4 : w7.cell? ⟨g3, 4, none⟩ = some (.slice q.a1 u.l1.length q.c1) := (blk_cell X7.out 4).trans rfl
                  have r5 : w7.cell? ⟨g3, 5, none⟩ = some (.slice q.a2 u.l2.length q.c2) := (blk_cell X7.out 5).trans rfl
                  have r6 : w7.cell? ⟨g3, 6, none⟩ = some (.slice q.a3 u.l3.length q.c3) := (blk_cell X7.out 6).trans rfl
                  exact bodyPost_ret (v := .tuple #[.agg (vCs u q), .int .i64 0]) (by simp [results, Try.results54, go_sem, r0, r1, r2, r3, r4, r5, r6]) rfl ⟨⟨u, q, by rw [HRR.out, if_pos GN.out], fun _ => rfl⟩, HB7.out⟩
                | succ y => exact absurd HK9.out (by omega)
            | succ z =>
              have hi : i < 4 := by have := HKK.out; omega
              have HI := Aside0.mk hi
              have d0 : decide ((i : Int) < 4) = true := decide_eq_true (by omega)
              have hx : ∀ W : World, (Instr.index 24 (.agg #[.slice q.a0 u.l0.length q.c0, .slice q.a1 u.l1.length q.c1, .slice q.a2 u.l2.length q.c2, .slice q.a3 u.l3.length q.c3]) (.int .i64 (i : Int))).run Try.prog W = .ok (.slice (q.a i) (0 : Nat) (q.c i)) W := fun W => by
                have h1 := idx_lv u q i HI.out W
                rw [UL.out i HI.out] at h1
                exact h1
              have ew : wrap64 ((i : Int) + 1) = ((i + 1 : Nat) : Int) := by have h1 := HI.out; unfold wrap64; omega
              clear hi
              go_wp2_with fail
              go_loopg [108] 0 (fun kq v108 w' => v108 = .int .i64 0 ∧ Aside0 (kq = 0) ∧ Aside0 (w' = wr))
              case atStart => exact ⟨rfl, ⟨rfl⟩, ⟨rfl⟩⟩
              case round =>
                obtain ⟨rfl, HK9, HW9⟩ := hrel
                cases gk with
                | zero =>
                  have hw9 := HW9.out
                  subst hw9
                  go_wp2_with fail
                  try rw [ew]
                  clear ew
                  go_roundg z
                  case measure => omega
                  case rel => exact ⟨i + 1, rfl, ⟨by have := HKK.out; omega⟩, HB, X1, X2, X3⟩
                | succ y => exact absurd HK9.out (by omega)
        | succ zq =>
          have GN := Aside0.mk (show ¬ e.gone = [] from fun h => by have h1 := HK.out.2; rw [h] at h1; simp at h1)
          have d4 : decide ((k : Int) < (e.gone.length : Int)) = true := decide_eq_true (by have := HK.out; omega)
          have d5 : decide (k < e.gone.length) = true := decide_eq_true (by have := HK.out; omega)
          have p0 : 0 ≤ (k : Int) := Int.natCast_nonneg _
          have p1 : (k : Int) < (e.gone.length : Int) := by have := HK.out; omega
          obtain ⟨ad, ea, ha0, ha1⟩ := at_T84 (Kd.C_below H1.out HB.out) (k : Int) p0 p1
          have hmx := getD_mem e.gone z84 (k := k) (by have := HK.out; omega)
          have EM := Aside0.mk (show rd_T84 e.gone (k : Int) = e.gone.getD k z84 by unfold rd_T84; rw [Int.toNat_natCast])
          rw [← EM.out] at hmx
          generalize rd_T84 e.gone (k : Int) = x at *
          have hlx := LP.out.1 x hmx
          obtain ⟨lv, hlv⟩ : ∃ lv : Nat, x.f0 = (lv : Int) := ⟨x.f0.toNat, by have := hlx.1; omega⟩
          have HLV := Aside0.mk (show lv < 4 by have := hlx.2; omega)
          have l0_ : 0 ≤ (lv : Int) := Int.natCast_nonneg _
          have l1_ : (lv : Int) < 4 := by have := HLV.out; omega
          obtain ⟨f0, f1⟩ := x
          dsimp only at hlv ha0 ha1
          subst hlv
          rw [ea]
          rw [Int.toNat_natCast] at ha0 ha1
          clear hmx hlx ea
          go_upto_region 13 with (fail)
          have HB5 := Aside0.mk (below_alloc HB.out (.cells (gCs ⟨(lv : Int), f1⟩) 84))
          have X15 := Aside0.mk (blk_alloc X1.out (.cells (gCs ⟨(lv : Int), f1⟩) 84))
          have X35 := Aside0.mk (blk_alloc X3.out (.cells (gCs ⟨(lv : Int), f1⟩) 84))
          have X5 := Aside0.mk (blk_new wr (.cells (gCs ⟨(lv : Int), f1⟩) 84))
          generalize wr.heap.size = g5 at *
          generalize wr.alloc (.cells (gCs ⟨(lv : Int), f1⟩) 84) = w5 at *
          have y0 : w5.cell? ⟨g5, 0, none⟩ = some (.int .i64 (lv : Int)) := (blk_cell X5.out 0).trans rfl
          have hv := vcell X15.out lv HLV.out
          rw [UL.out lv HLV.out] at hv
          clear ha0 ha1
          go_wp2_with fail
          refine (indexF_calls _ (q.a lv) (q.c lv) [] ⟨(lv : Int), f1⟩ g5 (KNIL _ _) X5.out).mono ?_
          rintro x9 w6 ⟨i9, rfl, hi9, hb⟩
          obtain rfl : i9 = -1 := by
            rcases hi9 with ⟨h, _⟩ | ⟨k, _, hk, _⟩
            · exact h
            · simp at hk
          have HB6 := Aside0.mk (below_step HB5.out hb)
          have X36 := Aside0.mk (blk_below X35.out hb)
          clear hi9 hb y0 hv
          go_wp2_with (first | (refine st_arr rfl 26 _ _ rfl g3 26 ?hx #[.int .u64 0, .int .u64 0, .int .u64 0, .slice none 0 0, .slice none 0 0, .slice none 0 0, .slice none 0 0] ?hy _ X36.out (by rw [size26]; rfl) rfl (by simp [Value.oneCell']) ?_; (case hx => rfl); (case hy => rfl); intro w7 hb7 hbb hk7 hs7; have HB7 := Aside0.mk (hbb _ _ HB6.out (show w.heap.size ≤ g3 by have := N2.out; have := N3.out; omega)); have X7 := Aside0.mk hb7; clear hb7 hbb hk7 hs7) | fail)
          have r0 : w7.cell? ⟨g3, 0, none⟩ = some (.int .u64 0) := (blk_cell X7.out 0).trans rfl
          have r1 : w7.cell? ⟨g3, 1, none⟩ = some (.int .u64 0) := (blk_cell X7.out 1).trans rfl
          have r2 : w7.cell? ⟨g3, 2, none⟩ = some (.int .u64 0) := (blk_cell X7.out 2).trans rfl
          have r3 : w7.cell? ⟨g3, 3, none⟩ = some (.slice none 0 0) := (blk_cell X7.out 3).trans rfl
          have r4 : w7.cell? ⟨g3, 4, none⟩ = some (.slice none 0 0) := (blk_cell X7.out 4).trans rfl
          have r5 : w7.cell? ⟨g3, 5, none⟩ = some (.slice none 0 0) := (blk_cell X7.out 5).trans rfl
          have r6 : w7.cell? ⟨g3, 6, none⟩ = some (.slice none 0 0) := (blk_cell X7.out 6).trans rfl

          exact bodyPost_ret (v := .tuple #[.agg #[.int .u64 0, .int .u64 0, .int .u64 0, .slice none 0 0, .slice none 0 0, .slice none 0 0, .slice none 0 0], .int .i64 4]) (by simp [results, Try.results54, go_sem, r0, r1, r2, r3, r4, r5, r6]) rfl ⟨⟨zeroV, firstP, by rw [HRR.out, if_neg GN.out]; rfl, fun h => absurd h GN.out⟩, HB7.out⟩
    | succ z =>
      have hi : i < 4 := by have := HK.out; omega
      have HI := Aside0.mk hi
      have d0 : decide ((i : Int) < 4) = true := decide_eq_true (by omega)
      have i0 : 0 ≤ (i : Int) := Int.natCast_nonneg _
      have i1 : (i : Int) < 4 := by omega
      have ew : wrap64 ((i : Int) + 1) = ((i + 1 : Nat) : Int) := by unfold wrap64; omega
      have hv := vcell X1.out i hi
      have EI := Aside0.mk (HE.out i hi)
      rw [EI.out] at hv
      clear hi
      go_wp2_with fail
      refine (clone_calls _ (q.a i) (q.c i) [] (KNIL (q.a i) wr) (Nat.zero_le _) (by decide)).mono ?_
      rintro x w5 ⟨v5, rfl, hR, hb⟩
      obtain ⟨B', cb', hv5⟩ := Kd.R_slice hR
      subst hv5
      have HB5 := Aside0.mk (below_step HB.out hb)
      have X15 := Aside0.mk (blk_below X1.out hb)
      have X25 := Aside0.mk (blk_below X2.out hb)
      have X35 := Aside0.mk (blk_below X3.out hb)
      clear hv hR hb
      have hv := vcell X15.out i HI.out
      rw [EI.out] at hv
      have ff := blk_frozen X15.out (3 + i)
      go_wp2_with fail
      have X1n := Aside0.mk (show (w5.setCell ⟨w.heap.size, 3 + i, none⟩ (.slice B' ([] : List S58).length cb')).heap[w.heap.size]? = some (.cells (vCs v (q.set i B' cb')) 26 (0, 0)) from five_set X15.out _ (by have h1 := vCs_set v q i HI.out [] B' cb'; rw [show v.set i [] = v by rw [← EI.out]; exact Ver.set_self v i HI.out] at h1; exact h1))
      have X2n := Aside0.mk (blk_far X25.out (p := ⟨w.heap.size, 3 + i, none⟩) (show g2 ≠ w.heap.size by have := N2.out; omega) (.slice B' ([] : List S58).length cb'))
      have X3n := Aside0.mk (blk_far X35.out (p := ⟨w.heap.size, 3 + i, none⟩) (show g3 ≠ w.heap.size by have := N2.out; have := N3.out; omega) (.slice B' ([] : List S58).length cb'))
      have HBn := Aside0.mk (below_set (j := 3 + i) (v := .slice B' ([] : List S58).length cb') HB5.out (Nat.le_refl _))
      try rw [ew]
      clear ew ff hv
      go_roundg z
      case measure => omega
      case rel => exact ⟨i + 1, q.set i B' cb', rfl, ⟨by have := HK.out; omega⟩, HBn, X1n, X2n, X3n⟩
end Go.Proofs.Ytkjepfofiegcdaa.V
/- A row of tables of one's own, opened and shut; builtin copy of tables. -/
namespace Go.Proofs.Ytkjepfofiegcdaa.V
set_option linter.unusedVariables false
set_option linter.unusedSimpArgs false
open Go.RowKit Go.Proofs.YtkjepfofiegcdaaW.PrintWords Go.Proofs.YtkjepfofiegcdaaW.PrintLast Go.Proofs.YtkjepfofiegcdaaW.PrintMore Go.Proofs.Ytkjepfofiegcdaa.PB14
def mC (m : S58) : List Value := [.int .u64 m.f0, .int .i64 m.f1, .int .i64 m.f2, .string m.f3, .string m.f4, .int .u64 m.f5, .int .u64 m.f6]
def Is7 (m : S58) (cs : List Value) : Prop := cs = mC m
theorem mC_len (m : S58) : (mC m).length = 7 := rfl
theorem mC_one (m : S58) : ∀ u, u ∈ mC m → u.oneCell' = true := by
  intro u hu
  simp only [mC, List.mem_cons, List.mem_nil_iff, or_false] at hu
  rcases hu with rfl | rfl | rfl | rfl | rfl | rfl | rfl <;> rfl
theorem is7_one : ∀ {xs : List S58} {cs : List Value}, Reps Is7 7 xs cs → ∀ u, u ∈ cs → u.oneCell' = true := by
  intro xs cs h u hu
  obtain ⟨q, hq, rfl⟩ := List.mem_iff_getElem.1 hu
  have hl : q / 7 < xs.length := by
    have h1 := h.1
    omega
  have h2 := h.2 (q / 7) _ (List.getElem?_eq_getElem hl)
  refine mC_one (xs[q / 7]) _ ?_
  unfold Is7 at h2
  rw [← h2, List.mem_iff_getElem?]
  refine ⟨q % 7, ?_⟩
  rw [List.getElem?_take, if_pos (Nat.mod_lt _ (by decide)), List.getElem?_drop, show q / 7 * 7 + q % 7 = q by omega, List.getElem?_eq_getElem hq]
theorem R58_open {w : World} {base n c : Nat} {A : Option Addr} {xs : List S58} (h : Kd.R k58 58 w base (fun _ => True) (.slice A n c) xs) :
    (A = none ∧ n = 0 ∧ c = 0 ∧ xs = []) ∨ ∃ g cur inner, A = some ⟨g, 0, none⟩ ∧ base ≤ g ∧ w.heap[g]? = some (.cells cur 58 (0, 0)) ∧ xs.length = n ∧ n ≤ c ∧ c ≤ maxLen ∧ cur.size = c * 7 ∧ cur.toList.take (n * 7) = inner ∧ Reps Is7 7 xs inner := by
  obtain ⟨_, inner, ⟨h1, h2⟩, h3⟩ := h
  rcases h2 with ⟨hv, hl⟩ | ⟨g, cap, cur, hv, hb, hh, hnc, hcm, hcs, ht⟩
  · injection hv with a b d
    exact .inl ⟨a, b, d, List.length_eq_zero_iff.mp hl⟩
  · injection hv with a b d
    subst a
    subst d
    refine .inr ⟨g, cur, inner, rfl, hb, hh, b.symm, by omega, hcm, hcs, by rw [b]; exact ht, h3.imp_ (fun p q hp => k58_openM hp)⟩
theorem R58_mk {w : World} {base n c g : Nat} {cur : Array Value} {xs : List S58} {inner : List Value} (hb : base ≤ g) (hh : w.heap[g]? = some (.cells cur 58 (0, 0))) (hn : xs.length = n) (hnc : n ≤ c) (hcm : c ≤ maxLen) (hcs : cur.size = c * 7) (ht : cur.toList.take (n * 7) = inner) (hr : Reps Is7 7 xs inner) :
    Kd.R k58 58 w base (fun _ => True) (.slice (some ⟨g, 0, none⟩) n c) xs := by
  subst hn
  refine ⟨fun _ _ => trivial, inner, ⟨hr.1, .inr ⟨g, c, cur, rfl, hb, hh, hnc, hcm, hcs, ht⟩⟩, hr.imp_ (fun p q hp => ?_)⟩
  unfold Is7 at hp
  subst hp
  exact k58_mkM _ _ _ p
theorem reps_one (m : S58) : Reps Is7 7 [m] (mC m) := by
  have h := (Reps.none Is7 7).snoc (p := m) (c := mC m) rfl rfl
  simpa using h
theorem reps_ins {xs : List S58} {inner : List Value} (h : Reps Is7 7 xs inner) (k : Nat) (hk : k ≤ xs.length) (m : S58) : Reps Is7 7 (xs.take k ++ m :: xs.drop k) (inner.take (k * 7) ++ (mC m ++ inner.drop (k * 7))) := by
  have h1 := Kd.reps_append (Kd.reps_take h hk) (Kd.reps_append (reps_one m) (Kd.reps_drop (m := k) h))
  rwa [List.singleton_append] at h1
theorem run_copy7 (w : World) (ty : TypeId) (g o dLen dCap : Nat) (a : Addr) (sLen sCap : Nat) (cur : Array Value) (t : TypeId) (cs : List Value)
    (hg : w.heap[g]? = some (.cells cur t (0, 0))) (hn : cs.length = Nat.min sLen dLen * 7)
    (hsrc : ∀ j v, cs[j]? = some v → w.cell? (a.add j) = some v) (hfit : o + cs.length ≤ cur.size) (h1 : ∀ v, v ∈ cs → v.oneCell' = true) :
    (Builtin.copy_ #[23, 23] ty #[.slice (some ⟨g, o, none⟩) dLen dCap, .slice (some a) sLen sCap]).run Try.prog w =
      .ok (goInt (Nat.min sLen dLen)) (w.setRow g (cur.toList.take o ++ cs ++ cur.toList.drop (o + cs.length)).toArray) := by
  have hl := run_loadCells_list (P := Try.prog) w a cs hsrc
  have hst := run_storeCells_at Try.prog g o t cs 0 cur w hg (by simpa using hfit) h1
  obtain ⟨i, hi, _, hsz, _⟩ := info_parts info58
  simp [Builtin.copy_, run_underlying Try.underlying23, Builtin.lenOf, Builtin.firstCells, sizeOf, typeInfo, hi, hsz, ← hn, hl, hst]
theorem row_grown {w : World} {g : Nat} {cur : Array Value} {t : Nat} (hg : w.heap[g]? = some (.cells cur t (0, 0))) (cur2 : Array Value) : w.grownBy (w.setRow g cur2) (some g) :=
  ⟨rfl, rfl, rfl, by rw [setRow_size]; exact Nat.le_refl _, fun k _ hk => setRow_other w g k cur2 (fun e => hk (by rw [e]))⟩
/-- The two copies of slices.Insert where there is room. -/
theorem ins_room {w : World} {base n c g gv k : Nat} {xs : List S58} (m : S58) (h : Kd.R k58 58 w base (fun _ => True) (.slice (some ⟨g, 0, none⟩) n c) xs) (hk : k < n) (hroom : n + 1 ≤ c) (hgv : w.heap[gv]? = some (.cells (mC m).toArray 58 (0, 0))) (hne : gv ≠ g) :
    ∃ w1 w2, (∀ ty dc sc, (Builtin.copy_ #[23, 23] ty #[.slice (some ⟨g, (k + 1) * 7, none⟩) (n - k) dc, .slice (some ⟨g, k * 7, none⟩) (n + 1 - k) sc]).run Try.prog w = .ok (goInt ((n - k : Nat) : Int)) w1) ∧
      (∀ ty dc vc, (Builtin.copy_ #[23, 23] ty #[.slice (some ⟨g, k * 7, none⟩) (n + 1 - k) dc, .slice (some ⟨gv, 0, none⟩) 1 vc]).run Try.prog w1 = .ok (goInt 1) w2) ∧
      Kd.R k58 58 w2 base (fun _ => True) (.slice (some ⟨g, 0, none⟩) (n + 1) c) (xs.take k ++ m :: xs.drop k) ∧ w.grownBy w2 (some g) ∧ w.grownBy w1 (some g) := by
  rcases R58_open h with ⟨h1, _⟩ | ⟨g', cur, inner, ha, hb, hh, hl, hnc, hcm, hcs, ht, hr⟩
  · cases h1
  injection ha with ha
  injection ha with ha
  subst ha
  have hin : inner.length = n * 7 := by rw [hr.1, hl]
  have hone := is7_one hr
  have htl : cur.toList.length = c * 7 := by rw [Array.length_toList, hcs]
  have hsrc1 : ∀ j v, (inner.drop (k * 7))[j]? = some v → w.cell? ((⟨g, k * 7, none⟩ : Addr).add j) = some v := fun j v hj => by
    rw [List.getElem?_drop] at hj
    have hq : k * 7 + j < n * 7 := by rw [← hin]; exact (List.getElem?_eq_some_iff.1 hj).1
    rw [Addr.add_lit, cell_of_row w g _ cur 58 (0, 0) hh, ← Array.getElem?_toList, ← hj, ← ht, List.getElem?_take, if_pos hq]
  have hd1 : (inner.drop (k * 7)).length = (n - k) * 7 := by rw [List.length_drop, hin]; omega
  have run1 : ∀ ty dc sc, _ := fun ty dc sc => run_copy7 w ty g ((k + 1) * 7) (n - k) dc ⟨g, k * 7, none⟩ (n + 1 - k) sc cur 58 (inner.drop (k * 7)) hh (by rw [hd1, show Nat.min (n + 1 - k) (n - k) = n - k from Nat.min_eq_right (by omega)]) hsrc1 (by rw [hd1, hcs]; omega) (fun v hv => hone v (List.mem_of_mem_drop hv))
  obtain ⟨cur1, hcur1⟩ : ∃ cur1, cur1 = (cur.toList.take ((k + 1) * 7) ++ inner.drop (k * 7) ++ cur.toList.drop ((k + 1) * 7 + (inner.drop (k * 7)).length)).toArray := ⟨_, rfl⟩
  rw [← hcur1] at run1
  rw [show Nat.min (n + 1 - k) (n - k) = n - k from Nat.min_eq_right (by omega)] at run1
  have hh1 : (w.setRow g cur1).heap[g]? = some (.cells cur1 58 (0, 0)) := setRow_heap w g cur cur1 58 (0, 0) hh
  have hl1 : cur1.size = c * 7 := by
    rw [hcur1]
    simp only [List.size_toArray, List.length_append, List.length_take, List.length_drop, htl, hin]
    omega
  have hgv1 : (w.setRow g cur1).heap[gv]? = some (.cells (mC m).toArray 58 (0, 0)) := (setRow_other w g gv cur1 hne).trans hgv
  have hsrc2 : ∀ j v, (mC m)[j]? = some v → (w.setRow g cur1).cell? ((⟨gv, 0, none⟩ : Addr).add j) = some v := fun j v hj => by
    rw [Addr.add_lit, Nat.zero_add, cell_of_row _ gv _ _ 58 (0, 0) hgv1]
    simpa using hj
  have run2 : ∀ ty dc vc, _ := fun ty dc vc => run_copy7 (w.setRow g cur1) ty g (k * 7) (n + 1 - k) dc ⟨gv, 0, none⟩ 1 vc cur1 58 (mC m) hh1 (by rw [mC_len, show Nat.min 1 (n + 1 - k) = 1 from Nat.min_eq_left (by omega)]) hsrc2 (by rw [mC_len, hl1]; omega) (mC_one m)
  rw [show Nat.min 1 (n + 1 - k) = 1 from Nat.min_eq_left (by omega)] at run2
  obtain ⟨cur2, hcur2⟩ : ∃ cur2, cur2 = (cur1.toList.take (k * 7) ++ mC m ++ cur1.toList.drop (k * 7 + (mC m).length)).toArray := ⟨_, rfl⟩
  rw [← hcur2] at run2
  have t1 : cur1.toList.take (k * 7) = inner.take (k * 7) := by
    rw [hcur1, List.append_assoc, List.take_append_of_le_length (by rw [List.length_take, htl]; omega), List.take_take, Nat.min_eq_left (by omega), ← ht, List.take_take, Nat.min_eq_left (by omega)]
  have t2 : cur1.toList.drop (k * 7 + (mC m).length) = inner.drop (k * 7) ++ cur.toList.drop ((k + 1) * 7 + (inner.drop (k * 7)).length) := by
    rw [hcur1, mC_len, show k * 7 + 7 = (k + 1) * 7 by omega, List.append_assoc]
    exact List.drop_left' (by rw [List.length_take, htl]; omega)
  have hG1 := row_grown hh cur1
  have hG2 := row_grown hh1 cur2
  refine ⟨w.setRow g cur1, (w.setRow g cur1).setRow g cur2, run1, run2, ?_, ⟨hG1.os.trans hG2.os |> fun _ => rfl, rfl, rfl, by rw [setRow_size, setRow_size]; exact Nat.le_refl _, fun b _ hb2 => (setRow_other _ g b cur2 (fun e => hb2 (by rw [e]))).trans (setRow_other w g b cur1 (fun e => hb2 (by rw [e])))⟩, hG1⟩
  have hlen : cur2.size = c * 7 := by
    rw [hcur2, t1, t2]
    simp only [List.size_toArray, List.length_append, List.length_take, List.length_drop, htl, hin, mC_len]
    omega
  refine R58_mk hb (setRow_heap _ g cur1 cur2 58 (0, 0) hh1) ?_ hroom hcm hlen ?_ (reps_ins hr k (by omega) m)
  · rw [List.length_append, List.length_cons, List.length_take, List.length_drop]; omega
  · rw [hcur2, t1, t2, ← List.append_assoc]
    rw [List.append_assoc (inner.take (k * 7)) (mC m) (inner.drop (k * 7))]
    exact List.take_left' (by rw [List.length_append, List.length_append, List.length_take, List.length_drop, hin, mC_len]; omega)
/-- The append and the two copies of slices.Insert where there is no room. -/
theorem ins_grow {w : World} {base n c g gv k : Nat} {xs : List S58} (m : S58) (h : Kd.R k58 58 w base (fun _ => True) (.slice (some ⟨g, 0, none⟩) n c) xs) (hk : k < n) (hroom : c < n + 1) (hgv : w.heap[gv]? = some (.cells (mC m).toArray 58 (0, 0))) (hsm : n ≤ 1000000000) (hbase : base ≤ w.heap.size) :
    ∃ (G : Nat) (w1 w2 w3 : World), (∀ ty, (Builtin.append_ #[23, 3] ty #[.slice (some ⟨g, 0, none⟩) k c, .int .i64 ((n + 1 - k : Nat) : Int)]).run Try.prog w = .ok (.slice (some ⟨w.heap.size, 0, none⟩) (n + 1) G) w1) ∧ n + 1 ≤ G ∧ G ≤ maxLen ∧
      (∀ ty dc vc, (Builtin.copy_ #[23, 23] ty #[.slice (some ⟨w.heap.size, k * 7, none⟩) (n + 1 - k) dc, .slice (some ⟨gv, 0, none⟩) 1 vc]).run Try.prog w1 = .ok (goInt 1) w2) ∧
      (∀ ty dc sc, (Builtin.copy_ #[23, 23] ty #[.slice (some ⟨w.heap.size, (k + 1) * 7, none⟩) (n - k) dc, .slice (some ⟨g, k * 7, none⟩) (n - k) sc]).run Try.prog w2.drew = .ok (goInt ((n - k : Nat) : Int)) w3) ∧
      Kd.R k58 58 w3 base (fun _ => True) (.slice (some ⟨w.heap.size, 0, none⟩) (n + 1) G) (xs.take k ++ m :: xs.drop k) ∧ Below w.heap.size w w3 := by
  rcases R58_open h with ⟨h1, _⟩ | ⟨g', cur, inner, ha, hb, hh, hl, hnc, hcm, hcs, ht, hr⟩
  · cases h1
  injection ha with ha
  injection ha with ha
  subst ha
  have hgw : g < w.heap.size := blk_lt hh
  have hgvw : gv < w.heap.size := blk_lt hgv
  have hin : inner.length = n * 7 := by rw [hr.1, hl]
  have hone := is7_one hr
  obtain ⟨i, hi, hz, hsz, hby⟩ := info_parts info58
  have hcell : ∀ q v, q < n * 7 → inner[q]? = some v → w.cell? ⟨g, q, none⟩ = some v := fun q v hq hv => by
    rw [cell_of_row w g _ cur 58 (0, 0) hh, ← Array.getElem?_toList, ← hv, ← ht, List.getElem?_take, if_pos hq]
  have hold : (Builtin.firstCells i.size k (.slice (some ⟨g, 0, none⟩) k c)).run Try.prog w.drew = .ok (inner.take (k * 7)).toArray w.drew := by
    rw [hsz]
    refine run_firstCells_some w.drew 7 k ⟨g, 0, none⟩ k c (inner.take (k * 7)) (by rw [List.length_take, hin]; omega) (fun j v hj => ?_)
    rw [Addr.add_lit, Nat.zero_add]
    rw [List.getElem?_take] at hj
    split at hj
    · exact hcell j v (by omega) hj
    · cases hj
  obtain ⟨G, hG⟩ : ∃ G, G = grownCap w (k + (n + 1 - k)) c 58 := ⟨_, rfl⟩
  have hrA : ∀ ty, _ := fun ty => Lib.run_append_grow_zeros w 23 3 ty 58 i _ .i64 .i64 Try.underlying23 Try.underlying3 hi hz (some ⟨g, 0, none⟩) k c (inner.take (k * 7)) hold (n + 1 - k) (by omega) (by omega) (by omega) (by omega) (by rw [hby]; omega) (by rw [hby]; exact growslice_fits (by omega) (by omega))
  rw [← hG, show k + (n + 1 - k) = n + 1 by omega] at hrA
  rw [show k + (n + 1 - k) = n + 1 by omega] at hG
  have hGe : n + 1 ≤ G := by rw [hG]; exact grownCap_ge _ _ _ _
  have hGm : G ≤ maxLen := by rw [hG]; exact grownCap_le_maxLen _ _ _ _ (by simp only [maxLen]; omega)
  obtain ⟨ROW, hROW⟩ : ∃ ROW : Array Value, ROW = (inner.take (k * 7)).toArray ++ Builtin.zeroCells (Value.agg #[(.int .u64 0), (.int .i64 0), (.int .i64 0), (.string ⟨#[]⟩), (.string ⟨#[]⟩), (.int .u64 0), (.int .u64 0)]).cells (n + 1 - k) ++ Builtin.zeroCells (Value.agg #[(.int .u64 0), (.int .i64 0), (.int .i64 0), (.string ⟨#[]⟩), (.string ⟨#[]⟩), (.int .u64 0), (.int .u64 0)]).cells (G - (n + 1)) := ⟨_, rfl⟩
  rw [← hROW] at hrA
  have hz7 : (Value.agg #[(.int .u64 0), (.int .i64 0), (.int .i64 0), (.string ⟨#[]⟩), (.string ⟨#[]⟩), (.int .u64 0), (.int .u64 0)]).cells.size = 7 := rfl
  have hRs : ROW.size = G * 7 := by
    rw [hROW]
    simp only [Array.size_append, List.size_toArray, List.length_take, hin, size_zeroCells, hz7]
    omega
  have hRl : ROW.toList.length = G * 7 := by rw [Array.length_toList, hRs]
  have hRt : ROW.toList.take (k * 7) = inner.take (k * 7) := by
    rw [hROW]
    simp only [Array.toList_append, List.append_assoc]
    exact List.take_left' (by rw [List.length_take, hin]; omega)
  obtain ⟨W1, hW1⟩ : ∃ W1, W1 = w.drew.alloc (.cells ROW 58) := ⟨_, rfl⟩
  rw [← hW1] at hrA
  have hB1 : Below w.heap.size w W1 := by rw [hW1]; exact below_alloc (below_drew (Below.refl _ _)) _
  have hh1 : W1.heap[w.heap.size]? = some (.cells ROW 58 (0, 0)) := by rw [hW1]; exact heap_alloc_new w.drew _
  have hgv1 : W1.heap[gv]? = some (.cells (mC m).toArray 58 (0, 0)) := (hB1.block gv hgvw).trans hgv
  have hg1 : W1.heap[g]? = some (.cells cur 58 (0, 0)) := (hB1.block g hgw).trans hh
  have hsrc1 : ∀ j v, (mC m)[j]? = some v → W1.cell? ((⟨gv, 0, none⟩ : Addr).add j) = some v := fun j v hj => by
    rw [Addr.add_lit, Nat.zero_add, cell_of_row _ gv _ _ 58 (0, 0) hgv1]
    simpa using hj
  have run1 : ∀ ty dc vc, _ := fun ty dc vc => run_copy7 W1 ty w.heap.size (k * 7) (n + 1 - k) dc ⟨gv, 0, none⟩ 1 vc ROW 58 (mC m) hh1 (by rw [mC_len, show Nat.min 1 (n + 1 - k) = 1 from Nat.min_eq_left (by omega)]) hsrc1 (by rw [mC_len, hRs]; omega) (mC_one m)
  rw [show Nat.min 1 (n + 1 - k) = 1 from Nat.min_eq_left (by omega)] at run1
  obtain ⟨R1, hR1⟩ : ∃ R1, R1 = (ROW.toList.take (k * 7) ++ mC m ++ ROW.toList.drop (k * 7 + (mC m).length)).toArray := ⟨_, rfl⟩
  rw [← hR1] at run1
  have hR1s : R1.size = G * 7 := by
    rw [hR1]
    simp only [List.size_toArray, List.length_append, List.length_take, List.length_drop, hRl, mC_len]
    omega
  have hR1t : R1.toList.take ((k + 1) * 7) = inner.take (k * 7) ++ mC m := by
    rw [hR1, hRt]
    exact List.take_left' (by rw [List.length_append, List.length_take, hin, mC_len]; omega)
  have hh2 : (W1.setRow w.heap.size R1).drew.heap[w.heap.size]? = some (.cells R1 58 (0, 0)) := setRow_heap W1 w.heap.size ROW R1 58 (0, 0) hh1
  have hg2 : (W1.setRow w.heap.size R1).drew.heap[g]? = some (.cells cur 58 (0, 0)) := (setRow_other W1 w.heap.size g R1 (by omega)).trans hg1
  have hsrc2 : ∀ j v, (inner.drop (k * 7))[j]? = some v → (W1.setRow w.heap.size R1).drew.cell? ((⟨g, k * 7, none⟩ : Addr).add j) = some v := fun j v hj => by
    rw [List.getElem?_drop] at hj
    have hq : k * 7 + j < n * 7 := by rw [← hin]; exact (List.getElem?_eq_some_iff.1 hj).1
    rw [Addr.add_lit, cell_of_row _ g _ cur 58 (0, 0) hg2, ← Array.getElem?_toList, ← hj, ← ht, List.getElem?_take, if_pos hq]
  have hd1 : (inner.drop (k * 7)).length = (n - k) * 7 := by rw [List.length_drop, hin]; omega
  have run2 : ∀ ty dc sc, _ := fun ty dc sc => run_copy7 (W1.setRow w.heap.size R1).drew ty w.heap.size ((k + 1) * 7) (n - k) dc ⟨g, k * 7, none⟩ (n - k) sc R1 58 (inner.drop (k * 7)) hh2 (by rw [hd1, show Nat.min (n - k) (n - k) = n - k from Nat.min_self _]) hsrc2 (by rw [hd1, hR1s]; omega) (fun v hv => hone v (List.mem_of_mem_drop hv))
  rw [show Nat.min (n - k) (n - k) = n - k from Nat.min_self _] at run2
  obtain ⟨R2, hR2⟩ : ∃ R2, R2 = (R1.toList.take ((k + 1) * 7) ++ inner.drop (k * 7) ++ R1.toList.drop ((k + 1) * 7 + (inner.drop (k * 7)).length)).toArray := ⟨_, rfl⟩
  rw [← hR2] at run2
  have hR2s : R2.size = G * 7 := by
    rw [hR2]
    simp only [List.size_toArray, List.length_append, List.length_take, List.length_drop, Array.length_toList, hR1s, hin]
    omega
  have hB2 : Below w.heap.size w (W1.setRow w.heap.size R1) := below_setRow hB1 (Nat.le_refl _) R1
  refine ⟨G, W1, W1.setRow w.heap.size R1, (W1.setRow w.heap.size R1).drew.setRow w.heap.size R2, hrA, hGe, hGm, run1, run2, ?_, below_setRow (below_drew hB2) (Nat.le_refl _) R2⟩
  refine R58_mk hbase (setRow_heap _ w.heap.size R1 R2 58 (0, 0) hh2) ?_ hGe hGm hR2s ?_ (reps_ins hr k (by omega) m)
  · rw [List.length_append, List.length_cons, List.length_take, List.length_drop]; omega
  · rw [hR2, hR1t, List.append_assoc (inner.take (k * 7)) (mC m) (inner.drop (k * 7))]
    exact List.take_left' (by rw [List.length_append, List.length_append, List.length_take, List.length_drop, hin, mC_len]; omega)
end Go.Proofs.Ytkjepfofiegcdaa.V
/- slices.Insert of one table (107), walked: the row with the table at its place; all other blocks stay. Conditions: the row is the call's own, the table lies elsewhere. -/
namespace Go.Proofs.Ytkjepfofiegcdaa.V
set_option linter.unusedVariables false
set_option linter.unusedSimpArgs false
open Go.RowKit Go.Proofs.YtkjepfofiegcdaaW.PrintWords Go.Proofs.YtkjepfofiegcdaaW.PrintLast Go.Proofs.YtkjepfofiegcdaaW.PrintMore Go.Proofs.Ytkjepfofiegcdaa.PB14
theorem w64_n (n : Nat) (h : n ≤ 9223372036854775807) : wrap64 (n : Int) = (n : Int) := by unfold wrap64; omega
variable {P : Program} {ops : Array Oper} {rest : List Oper} {o : Oper} {a : Act} {Q : Exit → Act → World → Prop}
/-- builtin copy, its run given. -/
theorem wp_copy7 {w : World} (hgd : o.guard = none) (d s : Operand) (ho : o.op = .call { callee := .builtin .copy, args := #[d, s], argTypes := #[23, 23] }) (v u : Value) (hd : a.eval d = v) (hs : a.eval s = u) {v' : Value} {w' : World}
    (hr : (Builtin.copy_ #[23, 23] o.type #[v, u]).run P w = .ok v' w') (h : wpList P ops Q rest (a.put o.dst v') w') : wpList P ops Q (o :: rest) a w :=
  wpList_plain hgd fun _ hK => by
    unfold Oper.wp execOp
    simp only [ho, resolve, invoke, builtin, Sem.run_bind, Sem.run_pure, Result.andThen_ok, List.map_toArray, List.map_cons, List.map_nil, hd, hs, hr]
    exact hK _ _ h
theorem exec_copy7 {w : World} {ev : Operand → Value} (d s : Operand) (ho : o.op = .call { callee := .builtin .copy, args := #[d, s], argTypes := #[23, 23] }) {v u : Value} (hd : ev d = v) (hs : ev s = u) {v' : Value} {w' : World}
    (hr : (Builtin.copy_ #[23, 23] o.type #[v, u]).run P w = .ok v' w') : (execOp ev o).run P w = .ok (.value v') w' := by
  unfold execOp
  simp only [ho, resolve, invoke, builtin, Sem.run_bind, Sem.run_pure, Result.andThen_ok, List.map_toArray, List.map_cons, List.map_nil, hd, hs, hr]
theorem row58 {w : World} {gv : Nat} {m : S58} (h : w.heap[gv]? = some (.cells (mC m).toArray 58 (0, 0))) : k58.C w (some ⟨gv, 0, none⟩) 1 [m] := by
  refine ⟨rfl, by omega, fun _ => ⟨_, rfl, fun j p hj => ?_⟩⟩
  match j, hj with
  | 0, hj =>
    simp at hj
    subst hj
    refine ⟨mC m, rfl, k58_mk _ m, fun i u hi => ?_⟩
    rw [Addr.add_lit, cell_of_row w gv _ _ 58 (0, 0) h]
    simpa using hi
  | j + 1, hj => simp at hj
theorem overlaps_no (w : World) (gv g o n vc lb cb : Nat) (m : S58) (cur : Array Value) (hne : gv ≠ g) (hgv : w.heap[gv]? = some (.cells (mC m).toArray 58 (0, 0))) (hg : w.heap[g]? = some (.cells cur 58 (0, 0))) (hc : cur.size ≠ 0) :
    (callFunc 139 #[.slice (some ⟨gv, 0, none⟩) 1 vc, .slice (some ⟨g, o, none⟩) lb cb]).run Try.prog w = .ok (.value (.bool false)) w := by
  obtain ⟨i, hi, _, hsz, _⟩ := info_parts info58
  have hz : ∀ w, (Go.sizeOf 58).run Try.prog w = .ok 7 w := fun w => by simp [sizeOf, typeInfo, hi, hsz]
  have hf : ∀ q, w.frozen? ⟨gv, q, none⟩ = false := fun q => blk_frozen hgv q
  rw [run_callFunc_extern Try.func139 (by kernel_rfl) (by kernel_rfl) (by kernel_rfl) (e := Extern.SlicesOverlaps.overlaps #[23, 23] #[4]) (by kernel_rfl),
    Lib.run_overlaps_apart w 23 4 58 Try.underlying23 7 hz ⟨gv, 0, none⟩ ⟨g, o, none⟩ 1 vc lb cb hne 58 58 7 cur.size (by simp [World.shape?, hgv]; rfl) (by simp [World.shape?, hg]) hc (hf 0) (hf 7)]
  rfl
set_option maxHeartbeats 8000000 in
set_option maxRecDepth 100000 in
theorem insert_end (w : World) (base n c gv k : Nat) (A : Option Addr) (xs : List S58) (m : S58) (hR : Kd.R k58 58 w base (fun _ => True) (.slice A n c) xs) (hk : k = n) (hgv : w.heap[gv]? = some (.cells (mC m).toArray 58 (0, 0))) (hne : (Value.slice A n c).ownBlock ≠ some gv) (hsm : n ≤ 1000000000) (hbase : base ≤ w.heap.size) :
    Calls Try.prog 107 #[.slice A n c, .int .i64 (k : Int), .slice (some ⟨gv, 0, none⟩) 1 1] w fun e w' => (∃ (B : Option Addr) (cb : Nat), e = .returned (.slice B (n + 1) cb) ∧ Kd.R k58 58 w' base (fun _ => True) (.slice B (n + 1) cb) (xs.take k ++ m :: xs.drop k) ∧ ((Value.slice B (n + 1) cb).ownBlock = (Value.slice A n c).ownBlock ∨ ∃ b, (Value.slice B (n + 1) cb).ownBlock = some b ∧ w.heap.size ≤ b)) ∧ (∀ b, b < w.heap.size → (Value.slice A n c).ownBlock ≠ some b → w'.heap[b]? = w.heap[b]?) ∧ Below base w w' := by
  have HR := Aside0.mk hR
  have HGV := Aside0.mk hgv
  have HSM := Aside0.mk hsm
  have HBS := Aside0.mk hbase
  have HXL := Aside0.mk (show xs.length = n by rcases R58_open hR with ⟨_, h2, _, h4⟩ | ⟨_, _, _, _, _, _, h, _⟩; (subst h2; subst h4; rfl); exact h)
  obtain ⟨i58, hi58, _, hsz58, _⟩ := info_parts info58
  subst hk
  obtain ⟨A0, hA0⟩ : ∃ a, (if c = k then (A : Option Addr) else (A : Option Addr).map (·.add (k * 7))) = a := ⟨_, rfl⟩
  have hcut0 : ∀ W : World, (Instr.slice 23 (.slice A k c) (some (.int .i64 (k : Int))) none none).run Try.prog W = .ok (.slice A0 (k - k) (c - k)) W := by
    have h := cut_from (P := Try.prog) 23 58 .i64 Try.underlying23 hi58 7 hsz58 A k c (k : Int) (Int.natCast_nonneg _) (by omega)
    rw [Int.toNat_natCast, hA0] at h
    exact h
  have q0 : ((1 : Int) == 0) = false := rfl
  have q1 : ((k : Int) == (k : Int)) = true := beq_self_eq_true _
  have p0 : 0 ≤ (k : Int) := Int.natCast_nonneg _
  clear hR hgv hsm hbase hi58 hsz58 hA0
  go_enter Try.func107, Try.ntmps107
  go_wp2_with (first | ((with_reducible refine gate_builtin (b := .append) (xs := #[.tmp 23, .tmp 24]) rfl ?_); at_builtin; refine Kd.R_append_rows k58 (Rr := k58.K w) (w0 := w) base rfl (.tmp 23) (.tmp 24) 23 58 (.agg #[(.int .u64 0), (.int .i64 0), (.int .i64 0), (.string ⟨#[]⟩), (.string ⟨#[]⟩), (.int .u64 0), (.int .u64 0)]) 72 rfl Try.underlying23 info58 rfl (show 0 < 7 by decide) (show 0 < 72 by decide) (.slice A k c) xs [m] (some ⟨gv, 0, none⟩) 1 1 (fun _ => True) (fun _ => False) rfl rfl HR.out (row58 HGV.out) (by intro x cs hk; obtain rfl := k58_open hk; exact k58_mkM _ _ _ x) (fun _ h => h.elim) (fun _ _ => trivial) (Below.refl base w) HBS.out (by have h1 := HSM.out; have h2 := HXL.out; omega) ?_; intro va wa ho hb hg hat; have HO := Aside0.mk ho; have HB := Aside0.mk hb; have HG := Aside0.mk hg; have HAT := Aside0.mk hat; clear ho hb hg hat) | fail)
  obtain ⟨B, cb, hv⟩ := Kd.R_slice HO.out
  have hln : (xs ++ [m]).length = k + 1 := by rw [List.length_append, HXL.out]; rfl
  rw [hln] at hv
  subst hv
  have HO2 := HO.out
  go_ret
  refine ⟨⟨B, cb, rfl, by rw [List.take_of_length_le (by rw [HXL.out]; exact Nat.le_refl _), List.drop_of_length_le (by rw [HXL.out]; exact Nat.le_refl _)]; exact HO2, HAT.out⟩, fun b hb hn => HG.out.block b hb (fun e => hn e.symm), HB.out⟩
set_option maxHeartbeats 8000000 in
set_option maxRecDepth 100000 in
theorem insert_room (w : World) (base n c gv k : Nat) (A : Option Addr) (xs : List S58) (m : S58) (hR : Kd.R k58 58 w base (fun _ => True) (.slice A n c) xs) (hk : k < n) (hroom : n + 1 ≤ c) (hgv : w.heap[gv]? = some (.cells (mC m).toArray 58 (0, 0))) (hne : (Value.slice A n c).ownBlock ≠ some gv) (hsm : n ≤ 1000000000) (hbase : base ≤ w.heap.size) :
    Calls Try.prog 107 #[.slice A n c, .int .i64 (k : Int), .slice (some ⟨gv, 0, none⟩) 1 1] w fun e w' => (∃ (B : Option Addr) (cb : Nat), e = .returned (.slice B (n + 1) cb) ∧ Kd.R k58 58 w' base (fun _ => True) (.slice B (n + 1) cb) (xs.take k ++ m :: xs.drop k) ∧ ((Value.slice B (n + 1) cb).ownBlock = (Value.slice A n c).ownBlock ∨ ∃ b, (Value.slice B (n + 1) cb).ownBlock = some b ∧ w.heap.size ≤ b)) ∧ (∀ b, b < w.heap.size → (Value.slice A n c).ownBlock ≠ some b → w'.heap[b]? = w.heap[b]?) ∧ Below base w w' := by
  obtain ⟨g, cur, inner, hA, hbg, hh, hxl, hnc, hcm, hcs, ht, hr⟩ : ∃ g cur inner, A = some ⟨g, 0, none⟩ ∧ base ≤ g ∧ w.heap[g]? = some (.cells cur 58 (0, 0)) ∧ xs.length = n ∧ n ≤ c ∧ c ≤ maxLen ∧ cur.size = c * 7 ∧ cur.toList.take (n * 7) = inner ∧ Reps Is7 7 xs inner := by
    rcases R58_open hR with ⟨_, h2, _, _⟩ | h
    · omega
    · exact h
  subst hA
  have hng : gv ≠ g := fun e => hne (by rw [e]; simp [Value.ownBlock])
  obtain ⟨i58, hi58, _, hsz58, _⟩ := info_parts info58
  obtain ⟨k1, hk1⟩ : ∃ k1, k1 = k + 1 := ⟨_, rfl⟩
  obtain ⟨n1, hn1⟩ : ∃ n1, n1 = n + 1 := ⟨_, rfl⟩
  have hcm2 : c ≤ 9223372036854775807 := by simp only [maxLen] at hcm; omega
  have q0 : ((1 : Int) == 0) = false := rfl
  have q1 : ((k : Int) == (n : Int)) = false := beq_eq_false_iff_ne.mpr (by omega)
  have q2 : (k == n) = false := beq_eq_false_iff_ne.mpr (by omega)
  have p0 : 0 ≤ (k : Int) := Int.natCast_nonneg _
  have p1 : 0 ≤ (k1 : Int) := Int.natCast_nonneg _
  have p2 : 0 ≤ (n1 : Int) := Int.natCast_nonneg _
  have d0 : decide ((c : Int) < (n1 : Int)) = false := decide_eq_false (by omega)
  have d1 : decide (c < n1) = false := decide_eq_false (by omega)
  have hgvd : w.drew.heap[gv]? = some (.cells (mC m).toArray 58 (0, 0)) := hgv
  obtain ⟨w1, w2, hr1, hr2, hRf, hGf, _⟩ := ins_room (w := w.drew) m (Kd.R_drew hR) hk hroom hgvd hng
  rw [← hn1, ← hk1] at hr1
  rw [← hn1] at hr2 hRf
  have hov : ∀ o lb cb, (callFunc 139 #[.slice (some ⟨gv, 0, none⟩) 1 1, .slice (some ⟨g, o, none⟩) lb cb]).run Try.prog w = .ok (.value (.bool false)) w := fun o lb cb => overlaps_no w gv g o n 1 lb cb m cur hng hgv hh (by rw [hcs]; omega)
  obtain ⟨A0, hA0⟩ : ∃ a, (if c = k then ((some ⟨g, 0, none⟩) : Option Addr) else ((some ⟨g, 0, none⟩) : Option Addr).map (·.add (k * 7))) = a := ⟨_, rfl⟩
  have hcut0 : ∀ W : World, (Instr.slice 23 (.slice (some ⟨g, 0, none⟩) n c) (some (.int .i64 (k : Int))) none none).run Try.prog W = .ok (.slice A0 (n - k) (c - k)) W := by
    have h := cut_from (P := Try.prog) 23 58 .i64 Try.underlying23 hi58 7 hsz58 (some ⟨g, 0, none⟩) n c (k : Int) (Int.natCast_nonneg _) (by omega)
    rw [Int.toNat_natCast, hA0] at h
    exact h
  have hcut1 : ∀ W : World, (Instr.slice 23 (.slice (some ⟨g, 0, none⟩) n c) none (some (.int .i64 (n1 : Int))) none).run Try.prog W = .ok (.slice (some ⟨g, 0, none⟩) n1 c) W := by
    have h := cut_past (P := Try.prog) 23 58 .i64 Try.underlying23 hi58 (some ⟨g, 0, none⟩) n c (n1 : Int) (Int.natCast_nonneg _) (by omega)
    rw [Int.toNat_natCast] at h
    exact h
  obtain ⟨A2, hA2⟩ : ∃ a, (if c = k1 then ((some ⟨g, 0, none⟩) : Option Addr) else ((some ⟨g, 0, none⟩) : Option Addr).map (·.add (k1 * 7))) = a := ⟨_, rfl⟩
  have hcut2 : ∀ W : World, (Instr.slice 23 (.slice (some ⟨g, 0, none⟩) n1 c) (some (.int .i64 (k1 : Int))) none none).run Try.prog W = .ok (.slice A2 (n1 - k1) (c - k1)) W := by
    have h := cut_from (P := Try.prog) 23 58 .i64 Try.underlying23 hi58 7 hsz58 (some ⟨g, 0, none⟩) n1 c (k1 : Int) (Int.natCast_nonneg _) (by omega)
    rw [Int.toNat_natCast, hA2] at h
    exact h
  obtain ⟨A3, hA3⟩ : ∃ a, (if c = k then ((some ⟨g, 0, none⟩) : Option Addr) else ((some ⟨g, 0, none⟩) : Option Addr).map (·.add (k * 7))) = a := ⟨_, rfl⟩
  have hcut3 : ∀ W : World, (Instr.slice 23 (.slice (some ⟨g, 0, none⟩) n1 c) (some (.int .i64 (k : Int))) none none).run Try.prog W = .ok (.slice A3 (n1 - k) (c - k)) W := by
    have h := cut_from (P := Try.prog) 23 58 .i64 Try.underlying23 hi58 7 hsz58 (some ⟨g, 0, none⟩) n1 c (k : Int) (Int.natCast_nonneg _) (by omega)
    rw [Int.toNat_natCast, hA3] at h
    exact h
  have e2 : A2 = some ⟨g, k1 * 7, none⟩ := by rw [← hA2, if_neg (by omega), Option.map_some, Addr.add_lit, Nat.zero_add]
  have e3 : A3 = some ⟨g, k * 7, none⟩ := by rw [← hA3, if_neg (by omega), Option.map_some, Addr.add_lit, Nat.zero_add]
  subst e2
  subst e3
  have dn : n1 - k1 = n - k := by omega
  rw [dn] at hcut2
  have HR1 := Aside0.mk hr1
  have HR2 := Aside0.mk hr2
  have HRF := Aside0.mk hRf
  have HGF := Aside0.mk hGf
  have HBG := Aside0.mk hbg
  have HBS := Aside0.mk hbase
  have HN1 := Aside0.mk hn1
  have HG0 := Aside0.mk (blk_lt hh)
  have s1 : (n : Int) + 1 = (n1 : Int) := by omega
  have s3 : (k : Int) + 1 = (k1 : Int) := by omega
  have hn2 : n1 ≤ 9223372036854775807 := by omega
  have hk2 : k1 ≤ 9223372036854775807 := by omega
  have s2 : wrap64 (n1 : Int) = (n1 : Int) := w64_n n1 hn2
  have s4 : wrap64 (k1 : Int) = (k1 : Int) := w64_n k1 hk2
  have s5 : wrap64 ((n : Int) + 1) = (n1 : Int) := by rw [s1]; exact s2
  have s6 : wrap64 ((k : Int) + 1) = (k1 : Int) := by rw [s3]; exact s4
  clear hR hgv hne hsm hbase hi58 hsz58 hA0 hA2 hA3 hr1 hr2 hRf hGf hbg hh hxl hnc hcm hcs ht hr hng hk1 hn1 hcm2 dn hgvd hk hroom
  go_enter Try.func107, Try.ntmps107
  go_upto_region 15 with (first | (simp only [hov]) | fail)
  refine start_ (n := 9) (S := (fun w' => w' = w.drew)) (ds := [8]) #[false, false, false, false, false, false, false, false, false] (by kernel_rfl) rfl rfl rfl (fun hHeld => ?_)
  refine pure_ (i := 0) (N := (some 69)) (v := ?_) (a' := ?_) #[true, false, false, false, false, false, false, false, false] rfl rfl (by kernel_rfl) (fun _ _ _ h => h) (Or.inl ⟨by rfl, ?_⟩) ?_ ?_
  rotate_left
  · intro w'
    go_simp
    with_reducible rfl
  rotate_left
  · simp only [Act.put, List.setIfInBounds_toArray, List.set_cons_zero, List.set_cons_succ, i64_w, i32_w]
    rfl
  refine pure_ (i := 1) (N := (some 70)) (v := ?_) (a' := ?_) #[true, true, false, false, false, false, false, false, false] rfl rfl (by kernel_rfl) (fun _ _ _ h => h) (Or.inl ⟨by rfl, ?_⟩) ?_ ?_
  rotate_left
  · intro w'
    go_simp
    with_reducible rfl
  rotate_left
  · simp only [Act.put, List.setIfInBounds_toArray, List.set_cons_zero, List.set_cons_succ, i64_w, i32_w]
    rfl
  refine pure_ (i := 2) (N := (some 71)) (v := ?_) (a' := ?_) #[true, true, true, false, false, false, false, false, false] rfl rfl (by kernel_rfl) (fun _ _ _ h => h) (Or.inl ⟨by rfl, ?_⟩) ?_ ?_
  rotate_left
  · intro w'
    go_simp
    with_reducible rfl
  rotate_left
  · simp only [Act.put, List.setIfInBounds_toArray, List.set_cons_zero, List.set_cons_succ, i64_w, i32_w]
    rfl
  refine pure_ (i := 3) (N := (some 72)) (v := ?_) (a' := ?_) #[true, true, true, true, false, false, false, false, false] rfl rfl (by kernel_rfl) (fun _ _ _ h => h) (Or.inl ⟨by rfl, ?_⟩) ?_ ?_
  rotate_left
  · intro w'
    go_simp
    with_reducible rfl
  rotate_left
  · simp only [Act.put, List.setIfInBounds_toArray, List.set_cons_zero, List.set_cons_succ, i64_w, i32_w]
    rfl
  refine pure_ (i := 4) (N := (some 73)) (v := ?_) (a' := ?_) #[true, true, true, true, true, false, false, false, false] rfl rfl (by kernel_rfl) (fun _ _ _ h => h) (Or.inl ⟨by rfl, ?_⟩) ?_ ?_
  rotate_left
  · intro w'
    go_simp
    first | with_reducible rfl | rfl
  rotate_left
  · simp only [Act.put, List.setIfInBounds_toArray, List.set_cons_zero, List.set_cons_succ, i64_w, i32_w]
    rfl
  refine pure_ (i := 5) (N := (some 74)) (v := ?_) (a' := ?_) #[true, true, true, true, true, true, false, false, false] rfl rfl (by kernel_rfl) (fun _ _ _ h => h) (Or.inl ⟨by rfl, ?_⟩) ?_ ?_
  rotate_left
  · intro w'
    go_simp
    with_reducible rfl
  rotate_left
  · simp only [Act.put, List.setIfInBounds_toArray, List.set_cons_zero, List.set_cons_succ, i64_w, i32_w]
    rfl
  refine pure_ (i := 6) (N := (some 75)) (v := ?_) (a' := ?_) #[true, true, true, true, true, true, true, false, false] rfl rfl (by kernel_rfl) (fun _ _ _ h => h) (Or.inl ⟨by rfl, ?_⟩) ?_ ?_
  rotate_left
  · intro w'
    go_simp
    with_reducible rfl
  rotate_left
  · simp only [Act.put, List.setIfInBounds_toArray, List.set_cons_zero, List.set_cons_succ, i64_w, i32_w]
    rfl
  refine pure_ (i := 7) (N := (some 76)) (v := ?_) (a' := ?_) #[true, true, true, true, true, true, true, true, false] rfl rfl (by kernel_rfl) (fun _ _ _ h => h) (Or.inl ⟨by rfl, ?_⟩) ?_ ?_
  rotate_left
  · intro w'
    go_simp
    first | with_reducible rfl | rfl
  rotate_left
  · simp only [Act.put, List.setIfInBounds_toArray, List.set_cons_zero, List.set_cons_succ, i64_w, i32_w]
    rfl
  refine last_ (i := 8) (N := (some 77)) #[true, true, true, true, true, true, true, true, true] rfl rfl (by kernel_rfl) (by decide) (fun K hK => ?_)
  refine value_ (w1 := w1) (v := goInt ((n - k : Nat) : Int)) (by rfl) rfl (exec_copy7 (.tmp 73) (.tmp 76) (by rfl) (by rfl) (by rfl) (HR1.out _ _ _)) ?_
  try clear hHeld
  refine hK.out _ _ ?_
  clear hK K
  refine norm_ (a' := ?_) ?_ ?_
  rotate_left
  · show Act.put _ (some 77) _ = _
    simp only [Act.put, List.setIfInBounds_toArray, List.set_cons_zero, List.set_cons_succ, i64_w, i32_w]
    rfl
  refine done_ (by kernel_rfl) ?_
  go_wp2_with (first | (refine wp_copy7 rfl (.tmp 80) (.tmp 81) rfl _ _ rfl rfl (HR2.out _ _ _) ?_) | fail)
  rw [← HN1.out]
  go_ret
  refine ⟨⟨some ⟨g, 0, none⟩, c, rfl, HRF.out, .inl (by simp [Value.ownBlock])⟩, fun b hb hn => HGF.out.block b hb (fun e => hn ((show (Value.slice (some ⟨g, 0, none⟩) n c).ownBlock = some g by simp [Value.ownBlock]).trans e.symm)), pw_below_grown (below_drew (Below.refl base w)) (some g) HBS.out HGF.out (fun b hb => by injection hb with hb; subst hb; exact HBG.out)⟩
set_option maxHeartbeats 8000000 in
set_option maxRecDepth 100000 in
theorem insert_grow (w : World) (base n c gv k : Nat) (A : Option Addr) (xs : List S58) (m : S58) (hR : Kd.R k58 58 w base (fun _ => True) (.slice A n c) xs) (hk : k < n) (hroom : c < n + 1) (hgv : w.heap[gv]? = some (.cells (mC m).toArray 58 (0, 0))) (hne : (Value.slice A n c).ownBlock ≠ some gv) (hsm : n ≤ 1000000000) (hbase : base ≤ w.heap.size) :
    Calls Try.prog 107 #[.slice A n c, .int .i64 (k : Int), .slice (some ⟨gv, 0, none⟩) 1 1] w fun e w' => (∃ (B : Option Addr) (cb : Nat), e = .returned (.slice B (n + 1) cb) ∧ Kd.R k58 58 w' base (fun _ => True) (.slice B (n + 1) cb) (xs.take k ++ m :: xs.drop k) ∧ ((Value.slice B (n + 1) cb).ownBlock = (Value.slice A n c).ownBlock ∨ ∃ b, (Value.slice B (n + 1) cb).ownBlock = some b ∧ w.heap.size ≤ b)) ∧ (∀ b, b < w.heap.size → (Value.slice A n c).ownBlock ≠ some b → w'.heap[b]? = w.heap[b]?) ∧ Below base w w' := by
  obtain ⟨g, cur, inner, hA, hbg, hh, hxl, hnc, hcm, hcs, ht, hr⟩ : ∃ g cur inner, A = some ⟨g, 0, none⟩ ∧ base ≤ g ∧ w.heap[g]? = some (.cells cur 58 (0, 0)) ∧ xs.length = n ∧ n ≤ c ∧ c ≤ maxLen ∧ cur.size = c * 7 ∧ cur.toList.take (n * 7) = inner ∧ Reps Is7 7 xs inner := by
    rcases R58_open hR with ⟨_, h2, _, _⟩ | h
    · omega
    · exact h
  subst hA
  have hng : gv ≠ g := fun e => hne (by rw [e]; simp [Value.ownBlock])
  obtain ⟨i58, hi58, _, hsz58, _⟩ := info_parts info58
  obtain ⟨k1, hk1⟩ : ∃ k1, k1 = k + 1 := ⟨_, rfl⟩
  obtain ⟨n1, hn1⟩ : ∃ n1, n1 = n + 1 := ⟨_, rfl⟩
  have hcm2 : c ≤ 9223372036854775807 := by simp only [maxLen] at hcm; omega
  have q0 : ((1 : Int) == 0) = false := rfl
  have q1 : ((k : Int) == (n : Int)) = false := beq_eq_false_iff_ne.mpr (by omega)
  have q2 : (k == n) = false := beq_eq_false_iff_ne.mpr (by omega)
  have p0 : 0 ≤ (k : Int) := Int.natCast_nonneg _
  have p1 : 0 ≤ (k1 : Int) := Int.natCast_nonneg _
  have p2 : 0 ≤ (n1 : Int) := Int.natCast_nonneg _
  have d0 : decide ((c : Int) < (n1 : Int)) = true := decide_eq_true (by omega)
  have d1 : decide (c < n1) = true := decide_eq_true (by omega)
  obtain ⟨G, w1, w2, w3, hrA, hGe, hGm, hr1, hr2, hRf, hBf⟩ := ins_grow m hR hk hroom hgv hsm hbase
  rw [← hn1] at hrA hr1 hRf hGe
  rw [← hk1] at hr2
  have hGm2 : G ≤ 9223372036854775807 := by simp only [maxLen] at hGm; omega
  obtain ⟨g2, hg2⟩ : ∃ g2, g2 = w.heap.size := ⟨_, rfl⟩
  rw [← hg2] at hrA hr1 hr2 hRf
  obtain ⟨A0, hA0⟩ : ∃ a, (if c = k then ((some ⟨g, 0, none⟩) : Option Addr) else ((some ⟨g, 0, none⟩) : Option Addr).map (·.add (k * 7))) = a := ⟨_, rfl⟩
  have hcut0 : ∀ W : World, (Instr.slice 23 (.slice (some ⟨g, 0, none⟩) n c) (some (.int .i64 (k : Int))) none none).run Try.prog W = .ok (.slice A0 (n - k) (c - k)) W := by
    have h := cut_from (P := Try.prog) 23 58 .i64 Try.underlying23 hi58 7 hsz58 (some ⟨g, 0, none⟩) n c (k : Int) (Int.natCast_nonneg _) (by omega)
    rw [Int.toNat_natCast, hA0] at h
    exact h
  have hcut1 : ∀ W : World, (Instr.slice 23 (.slice (some ⟨g, 0, none⟩) n c) none (some (.int .i64 (k : Int))) none).run Try.prog W = .ok (.slice (some ⟨g, 0, none⟩) k c) W := by
    have h := cut_past (P := Try.prog) 23 58 .i64 Try.underlying23 hi58 (some ⟨g, 0, none⟩) n c (k : Int) (Int.natCast_nonneg _) (by omega)
    rw [Int.toNat_natCast] at h
    exact h
  obtain ⟨A2, hA2⟩ : ∃ a, (if G = k then ((some ⟨g2, 0, none⟩) : Option Addr) else ((some ⟨g2, 0, none⟩) : Option Addr).map (·.add (k * 7))) = a := ⟨_, rfl⟩
  have hcut2 : ∀ W : World, (Instr.slice 23 (.slice (some ⟨g2, 0, none⟩) n1 G) (some (.int .i64 (k : Int))) none none).run Try.prog W = .ok (.slice A2 (n1 - k) (G - k)) W := by
    have h := cut_from (P := Try.prog) 23 58 .i64 Try.underlying23 hi58 7 hsz58 (some ⟨g2, 0, none⟩) n1 G (k : Int) (Int.natCast_nonneg _) (by omega)
    rw [Int.toNat_natCast, hA2] at h
    exact h
  obtain ⟨A3, hA3⟩ : ∃ a, (if G = k1 then ((some ⟨g2, 0, none⟩) : Option Addr) else ((some ⟨g2, 0, none⟩) : Option Addr).map (·.add (k1 * 7))) = a := ⟨_, rfl⟩
  have hcut3 : ∀ W : World, (Instr.slice 23 (.slice (some ⟨g2, 0, none⟩) n1 G) (some (.int .i64 (k1 : Int))) none none).run Try.prog W = .ok (.slice A3 (n1 - k1) (G - k1)) W := by
    have h := cut_from (P := Try.prog) 23 58 .i64 Try.underlying23 hi58 7 hsz58 (some ⟨g2, 0, none⟩) n1 G (k1 : Int) (Int.natCast_nonneg _) (by omega)
    rw [Int.toNat_natCast, hA3] at h
    exact h
  have e2 : A2 = some ⟨g2, k * 7, none⟩ := by rw [← hA2, if_neg (by omega), Option.map_some, Addr.add_lit, Nat.zero_add]
  have e3 : A3 = some ⟨g2, k1 * 7, none⟩ := by rw [← hA3, if_neg (by omega), Option.map_some, Addr.add_lit, Nat.zero_add]
  have e0 : A0 = some ⟨g, k * 7, none⟩ := by rw [← hA0, if_neg (by omega), Option.map_some, Addr.add_lit, Nat.zero_add]
  subst e2
  subst e3
  subst e0
  have dn : n1 - k1 = n - k := by omega
  rw [dn] at hcut3
  have hnk : ((n1 - k : Nat) : Int) = (n1 : Int) - (k : Int) := by omega
  simp only [hnk] at hrA
  have HRA := Aside0.mk hrA
  have HR1 := Aside0.mk hr1
  have HR2 := Aside0.mk hr2
  have HRF := Aside0.mk hRf
  have HBF := Aside0.mk hBf
  have HBS := Aside0.mk hbase
  have HN1 := Aside0.mk hn1
  have HG2 := Aside0.mk hg2
  have s1 : (n : Int) + 1 = (n1 : Int) := by omega
  have s3 : (k : Int) + 1 = (k1 : Int) := by omega
  have hn2 : n1 ≤ 9223372036854775807 := by omega
  have hk2 : k1 ≤ 9223372036854775807 := by omega
  have s2 : wrap64 (n1 : Int) = (n1 : Int) := w64_n n1 hn2
  have s4 : wrap64 (k1 : Int) = (k1 : Int) := w64_n k1 hk2
  have s5 : wrap64 ((n : Int) + 1) = (n1 : Int) := by rw [s1]; exact s2
  have s6 : wrap64 ((k : Int) + 1) = (k1 : Int) := by rw [s3]; exact s4
  clear hR hgv hne hsm hbase hi58 hsz58 hA0 hA2 hA3 hrA hr1 hr2 hRf hBf hbg hh hxl hnc hcm hcs ht hr hng hk1 hn1 hcm2 dn hk hroom hg2 hGe hGm hGm2 hnk
  go_enter Try.func107, Try.ntmps107
  go_upto_region 10 with (first | ((with_reducible refine gate_builtin (b := .append) (xs := #[.tmp 34, .tmp 39]) rfl ?_); at_builtin; refine Lib.wpList_append_run _ rfl (.tmp 34) (.tmp 39) 23 3 rfl _ _ rfl rfl _ _ (HRA.out _) ?_) | fail)
  go_upto_region 11 with (first | (refine wp_copy7 rfl (.tmp 43) (.tmp 44) rfl _ _ rfl rfl (HR1.out _ _ _) ?_) | fail)
  refine start_ (n := 9) (S := (fun w' => w' = w2.drew)) (ds := [8]) #[false, false, false, false, false, false, false, false, false] (by kernel_rfl) rfl rfl rfl (fun hHeld => ?_)
  refine pure_ (i := 0) (N := (some 46)) (v := ?_) (a' := ?_) #[true, false, false, false, false, false, false, false, false] rfl rfl (by kernel_rfl) (fun _ _ _ h => h) (Or.inl ⟨by rfl, ?_⟩) ?_ ?_
  rotate_left
  · intro w'
    go_simp
    with_reducible rfl
  rotate_left
  · simp only [Act.put, List.setIfInBounds_toArray, List.set_cons_zero, List.set_cons_succ, i64_w, i32_w]
    rfl
  refine pure_ (i := 1) (N := (some 47)) (v := ?_) (a' := ?_) #[true, true, false, false, false, false, false, false, false] rfl rfl (by kernel_rfl) (fun _ _ _ h => h) (Or.inl ⟨by rfl, ?_⟩) ?_ ?_
  rotate_left
  · intro w'
    go_simp
    with_reducible rfl
  rotate_left
  · simp only [Act.put, List.setIfInBounds_toArray, List.set_cons_zero, List.set_cons_succ, i64_w, i32_w]
    rfl
  refine pure_ (i := 2) (N := (some 48)) (v := ?_) (a' := ?_) #[true, true, true, false, false, false, false, false, false] rfl rfl (by kernel_rfl) (fun _ _ _ h => h) (Or.inl ⟨by rfl, ?_⟩) ?_ ?_
  rotate_left
  · intro w'
    go_simp
    with_reducible rfl
  rotate_left
  · simp only [Act.put, List.setIfInBounds_toArray, List.set_cons_zero, List.set_cons_succ, i64_w, i32_w]
    rfl
  refine pure_ (i := 3) (N := (some 49)) (v := ?_) (a' := ?_) #[true, true, true, true, false, false, false, false, false] rfl rfl (by kernel_rfl) (fun _ _ _ h => h) (Or.inl ⟨by rfl, ?_⟩) ?_ ?_
  rotate_left
  · intro w'
    go_simp
    with_reducible rfl
  rotate_left
  · simp only [Act.put, List.setIfInBounds_toArray, List.set_cons_zero, List.set_cons_succ, i64_w, i32_w]
    rfl
  refine pure_ (i := 4) (N := (some 50)) (v := ?_) (a' := ?_) #[true, true, true, true, true, false, false, false, false] rfl rfl (by kernel_rfl) (fun _ _ _ h => h) (Or.inl ⟨by rfl, ?_⟩) ?_ ?_
  rotate_left
  · intro w'
    go_simp
    first | with_reducible rfl | rfl
  rotate_left
  · simp only [Act.put, List.setIfInBounds_toArray, List.set_cons_zero, List.set_cons_succ, i64_w, i32_w]
    rfl
  refine pure_ (i := 5) (N := (some 51)) (v := ?_) (a' := ?_) #[true, true, true, true, true, true, false, false, false] rfl rfl (by kernel_rfl) (fun _ _ _ h => h) (Or.inl ⟨by rfl, ?_⟩) ?_ ?_
  rotate_left
  · intro w'
    go_simp
    with_reducible rfl
  rotate_left
  · simp only [Act.put, List.setIfInBounds_toArray, List.set_cons_zero, List.set_cons_succ, i64_w, i32_w]
    rfl
  refine pure_ (i := 6) (N := (some 52)) (v := ?_) (a' := ?_) #[true, true, true, true, true, true, true, false, false] rfl rfl (by kernel_rfl) (fun _ _ _ h => h) (Or.inl ⟨by rfl, ?_⟩) ?_ ?_
  rotate_left
  · intro w'
    go_simp
    with_reducible rfl
  rotate_left
  · simp only [Act.put, List.setIfInBounds_toArray, List.set_cons_zero, List.set_cons_succ, i64_w, i32_w]
    rfl
  refine pure_ (i := 7) (N := (some 53)) (v := ?_) (a' := ?_) #[true, true, true, true, true, true, true, true, false] rfl rfl (by kernel_rfl) (fun _ _ _ h => h) (Or.inl ⟨by rfl, ?_⟩) ?_ ?_
  rotate_left
  · intro w'
    go_simp
    first | with_reducible rfl | rfl
  rotate_left
  · simp only [Act.put, List.setIfInBounds_toArray, List.set_cons_zero, List.set_cons_succ, i64_w, i32_w]
    rfl
  refine last_ (i := 8) (N := (some 54)) #[true, true, true, true, true, true, true, true, true] rfl rfl (by kernel_rfl) (by decide) (fun K hK => ?_)
  refine value_ (w1 := w3) (v := goInt ((n - k : Nat) : Int)) (by rfl) rfl (exec_copy7 (.tmp 50) (.tmp 53) (by rfl) (by rfl) (by rfl) (HR2.out _ _ _)) ?_
  try clear hHeld
  refine hK.out _ _ ?_
  clear hK K
  refine norm_ (a' := ?_) ?_ ?_
  rotate_left
  · show Act.put _ (some 54) _ = _
    simp only [Act.put, List.setIfInBounds_toArray, List.set_cons_zero, List.set_cons_succ, i64_w, i32_w]
    rfl
  refine done_ (by kernel_rfl) ?_
  go_wp2_with fail
  rw [← HN1.out]
  go_ret
  refine ⟨⟨some ⟨g2, 0, none⟩, G, rfl, HRF.out, .inr ⟨g2, by simp [Value.ownBlock], by rw [HG2.out]; exact Nat.le_refl _⟩⟩, fun b hb _ => HBF.out.block b hb, HBF.out.mono HBS.out⟩
theorem insert_calls (w : World) (base n c gv k : Nat) (A : Option Addr) (xs : List S58) (m : S58) (hR : Kd.R k58 58 w base (fun _ => True) (.slice A n c) xs) (hk : k ≤ n) (hgv : w.heap[gv]? = some (.cells (mC m).toArray 58 (0, 0))) (hne : (Value.slice A n c).ownBlock ≠ some gv) (hsm : n ≤ 1000000000) (hbase : base ≤ w.heap.size) :
    Calls Try.prog 107 #[.slice A n c, .int .i64 (k : Int), .slice (some ⟨gv, 0, none⟩) 1 1] w fun e w' => (∃ (B : Option Addr) (cb : Nat), e = .returned (.slice B (n + 1) cb) ∧ Kd.R k58 58 w' base (fun _ => True) (.slice B (n + 1) cb) (xs.take k ++ m :: xs.drop k) ∧ ((Value.slice B (n + 1) cb).ownBlock = (Value.slice A n c).ownBlock ∨ ∃ b, (Value.slice B (n + 1) cb).ownBlock = some b ∧ w.heap.size ≤ b)) ∧ (∀ b, b < w.heap.size → (Value.slice A n c).ownBlock ≠ some b → w'.heap[b]? = w.heap[b]?) ∧ Below base w w' := by
  rcases Nat.lt_or_ge k n with h | h
  · rcases Nat.lt_or_ge c (n + 1) with h2 | h2
    · exact insert_grow w base n c gv k A xs m hR h h2 hgv hne hsm hbase
    · exact insert_room w base n c gv k A xs m hR h h2 hgv hne hsm hbase
  · exact insert_end w base n c gv k A xs m hR (by omega) hgv hne hsm hbase
end Go.Proofs.Ytkjepfofiegcdaa.V
