import Derived.Test.YtkjepfofiegcdaaVA0Y
import Derived.Test.YtkjepfofiegcdaaVH4Y
import Derived.Test.YtkjepfofiegcdaaVH1Y
/- edit.Apply (54) of a version without tables, by an edit that adds none and takes away at most one, walked. Conditions: those. -/
namespace Go.Proofs.Ytkjepfofiegcdaa.V
set_option linter.unusedVariables false
set_option linter.unusedSimpArgs false
open Go.RowKit Go.Proofs.YtkjepfofiegcdaaW.PrintWords Go.Proofs.YtkjepfofiegcdaaW.PrintLast Go.Proofs.YtkjepfofiegcdaaW.PrintMore Go.Proofs.Ytkjepfofiegcdaa.PB14
theorem set_same {cs : Array Value} {j : Nat} {x : Value} (h : cs[j]? = some x) : cs.setIfInBounds j x = cs := by
  have hj : j < cs.size := by
    rcases Nat.lt_or_ge j cs.size with h1 | h1
    · exact h1
    · rw [Array.getElem?_eq_none h1] at h; cases h
  rw [Array.getElem?_eq_getElem hj] at h
  injection h with h
  subst h
  unfold Array.setIfInBounds
  rw [dif_pos hj]
  exact Array.set_getElem_self hj
theorem later2 (w : World) (g j t : Nat) (cs : Array Value) (was n : Int) (hg : w.heap[g]? = some (.cells cs t (0, 0))) (hj : cs[j]? = some (.int .u64 was)) (B : Nat) (hB : B ≤ g) :
    Calls Try.prog 102 #[.pointer (some ⟨g, j, none⟩), .int .u64 n] w fun e w' => e = .returned (.bool (laterB was n)) ∧ w'.heap[g]? = some (.cells (cs.setIfInBounds j (.int .u64 (laterN was n))) t (0, 0)) ∧ (∀ k, k ≠ g → w'.heap[k]? = w.heap[k]?) ∧ Below B w w' := by
  refine (later_calls w g j t cs was n hg hj).mono ?_
  rintro e w' ⟨rfl, rfl⟩
  by_cases h : n = 0
  · rw [if_pos h, show laterN was n = was from if_pos h, set_same hj]
    exact ⟨rfl, hg, fun _ _ => rfl, Below.refl _ _⟩
  · rw [if_neg h, show laterN was n = n from if_neg h]
    exact ⟨rfl, blk_set hg j _, fun k hk => Below.heap_setCell w _ _ k hk, (Below.refl B w).setCell hB _⟩
set_option maxHeartbeats 8000000 in
set_option maxRecDepth 100000 in
theorem applyF_calls (w : World) (v : Ver) (p : Pl) (e : Edt) (A1 A2 : Option Addr) (c1 c2 : Nat) (hC : VC w v p) (hW : VW v) (h1 : k84.C w A1 e.gone.length e.gone) (h2 : k82.C w A2 e.added.length e.added)
    (hE : ∀ i, i < 4 → v.lv i = []) (hr : rightP v) (ha : e.added = []) (hg : e.gone.length ≤ 1) (hl : listedP e) (l1 : laterB v.log e.log = true) (l2 : laterB v.next e.next = true) (l3 : laterB v.seq e.seq = true) (hr2 : rightP (bndV v e)) :
    Calls Try.prog 54 #[.agg (vCs v p), .agg (eCs e A1 c1 A2 c2)] w fun x w' => (∃ y q, x = .returned (.tuple #[.agg (vCs y q), .int .i64 (if e.gone = [] then 0 else 4)]) ∧ (e.gone = [] → y = bndV v e)) ∧ Below w.heap.size w w' := by
  obtain ⟨r, hrr⟩ : ∃ r : Int, r = if e.gone = [] then 0 else 4 := ⟨_, rfl⟩
  rw [← hrr]
  have HRR := Aside0.mk hrr
  clear hrr
  have KNIL : ∀ (A : Option Addr) (W : World), k58.C W A ([] : List S58).length [] := fun A W => ⟨rfl, by simp, fun h => absurd h (Nat.lt_irrefl 0)⟩
  obtain ⟨u, hu⟩ : ∃ u, u = bndV v e := ⟨_, rfl⟩
  rw [← hu] at hr2 ⊢
  have UE := Aside0.mk hu
  have UL := Aside0.mk (show ∀ i, i < 4 → u.lv i = [] from fun i hi => by rw [hu, bndV_lv v e i hi]; exact hE i hi)
  clear hu
  have HE := Aside0.mk hE
  have HR := Aside0.mk hr
  have HW := Aside0.mk hW
  have HG1 := Aside0.mk hg
  have LP := Aside0.mk hl
  have LB1 := Aside0.mk l1
  have LB2 := Aside0.mk l2
  have LB3 := Aside0.mk l3
  have HR2 := Aside0.mk hr2
  have HA := Aside0.mk ha
  clear hE hr hW hg hl l1 l2 l3 hr2 ha
  have HC := Aside0.mk hC
  have H1 := Aside0.mk h1
  have H2 := Aside0.mk h2
  have HB := Aside0.mk (below_alloc (below_alloc ((Below.refl w.heap.size w).alloc (Nat.le_refl _) (.cells (vCs v p) 26)) (.cells (eCs e A1 c1 A2 c2) 70)) (.cells #[.int .u64 0, .int .u64 0, .int .u64 0, .slice none 0 0, .slice none 0 0, .slice none 0 0, .slice none 0 0] 26))
  have X1 := Aside0.mk (blk_alloc (blk_alloc (blk_new w (.cells (vCs v p) 26)) (.cells (eCs e A1 c1 A2 c2) 70)) (.cells #[.int .u64 0, .int .u64 0, .int .u64 0, .slice none 0 0, .slice none 0 0, .slice none 0 0, .slice none 0 0] 26))
  have X2 := Aside0.mk (blk_alloc (blk_new (w.alloc (.cells (vCs v p) 26)) (.cells (eCs e A1 c1 A2 c2) 70)) (.cells #[.int .u64 0, .int .u64 0, .int .u64 0, .slice none 0 0, .slice none 0 0, .slice none 0 0, .slice none 0 0] 26))
  have X3 := Aside0.mk (blk_new ((w.alloc (.cells (vCs v p) 26)).alloc (.cells (eCs e A1 c1 A2 c2) 70)) (.cells #[.int .u64 0, .int .u64 0, .int .u64 0, .slice none 0 0, .slice none 0 0, .slice none 0 0, .slice none 0 0] 26))
  go_enter Try.func54, Try.ntmps54
  go_upto_region 1 with (fail)
  generalize hg3 : ((w.alloc (.cells (vCs v p) 26)).alloc (.cells (eCs e A1 c1 A2 c2) 70)).heap.size = g3 at *
  have e3 : w.heap.size + 1 + 1 = g3 := by rw [← hg3]; simp
  generalize hg2 : (w.alloc (.cells (vCs v p) 26)).heap.size = g2 at *
  have e2 : w.heap.size + 1 = g2 := by rw [← hg2]; simp
  try rw [e3]
  try rw [e2]
  have N2 := Aside0.mk (show w.heap.size < g2 by omega)
  have N3 := Aside0.mk (show g2 < g3 by omega)
  clear hg3 e3 hg2 e2
  generalize ((w.alloc (.cells (vCs v p) 26)).alloc (.cells (eCs e A1 c1 A2 c2) 70)).alloc (.cells #[.int .u64 0, .int .u64 0, .int .u64 0, .slice none 0 0, .slice none 0 0, .slice none 0 0, .slice none 0 0] 26) = w1 at *
  clear hC h1 h2
  have b0 : w1.cell? ⟨w.heap.size, 0, none⟩ = some (.int .u64 v.log) := (blk_cell X1.out 0).trans rfl
  have b1 : w1.cell? ⟨w.heap.size, 1, none⟩ = some (.int .u64 v.next) := (blk_cell X1.out 1).trans rfl
  have b2 : w1.cell? ⟨w.heap.size, 2, none⟩ = some (.int .u64 v.seq) := (blk_cell X1.out 2).trans rfl
  have b3 : w1.cell? ⟨w.heap.size, 3, none⟩ = some (.slice p.a0 v.l0.length p.c0) := (blk_cell X1.out 3).trans rfl
  have b4 : w1.cell? ⟨w.heap.size, 4, none⟩ = some (.slice p.a1 v.l1.length p.c1) := (blk_cell X1.out 4).trans rfl
  have b5 : w1.cell? ⟨w.heap.size, 5, none⟩ = some (.slice p.a2 v.l2.length p.c2) := (blk_cell X1.out 5).trans rfl
  have b6 : w1.cell? ⟨w.heap.size, 6, none⟩ = some (.slice p.a3 v.l3.length p.c3) := (blk_cell X1.out 6).trans rfl
  go_wp2_with fail
  refine (right_calls _ v p (HC.out.below HB.out) HW.out).mono ?_
  rintro x w2 ⟨rfl, hb⟩
  rw [decide_eq_true HR.out]
  have HB2 := Aside0.mk (below_step HB.out hb)
  have X12 := Aside0.mk (blk_below X1.out hb)
  have X22 := Aside0.mk (blk_below X2.out hb)
  have X32 := Aside0.mk (blk_below X3.out hb)
  clear hb b0 b1 b2 b3 b4 b5 b6 X1 X2 X3 HB
  have HB := HB2; have X1 := X12; have X2 := X22; have X3 := X32
  clear HB2 X12 X22 X32
  go_wp2_with fail
  go_loopg [7, 25] 4 (fun kq v7 v25 w' => ∃ (i : Nat) (q : Pl), v25 = .int .i64 (i : Int) ∧ Aside0 (kq + i = 4) ∧ Aside0 (Below w.heap.size w w') ∧ Aside0 (w'.heap[w.heap.size]? = some (.cells (vCs v q) 26 (0, 0))) ∧ Aside0 (w'.heap[g2]? = some (.cells (eCs e A1 c1 A2 c2) 70 (0, 0))) ∧ Aside0 (w'.heap[g3]? = some (.cells #[.int .u64 0, .int .u64 0, .int .u64 0, .slice none 0 0, .slice none 0 0, .slice none 0 0, .slice none 0 0] 26 (0, 0))))
  case atStart => exact ⟨0, p, rfl, ⟨by omega⟩, HB, X1, X2, X3⟩
  case round =>
    clear HB X1 X2 X3
    obtain ⟨i, q, rfl, HK, HB, X1, X2, X3⟩ := hrel
    cases gk with
    | zero =>
      have ei : i = 4 := by have := HK.out; omega
      subst ei
      go_upto_region 7 with (fail)
      refine start_ (n := 15) (S := (fun w' => w'.heap[g2]? = some (.cells (eCs e A1 c1 A2 c2) 70 (0, 0)))) (ds := []) #[false, false, false, false, false, false, false, false, false, false, false, false, false, false, false] (by kernel_rfl) rfl rfl (blk_drew X2.out) (fun hHeld => ?_)
      have XD1 := Aside0.mk (blk_drew X1.out)
      have XD3 := Aside0.mk (blk_drew X3.out)
      have HD := Aside0.mk (below_drew HB.out)
      generalize wr.drew = wd at *
      -- 0: Op.fieldAddr 26 t2 0
      refine pure_ (i := 0) (N := (some 37)) (v := ?_) (a' := ?_) #[true, false, false, false, false, false, false, false, false, false, false, false, false, false, false] rfl rfl (by kernel_rfl) (fun _ _ _ h => h) (Or.inl ⟨by rfl, ?_⟩) ?_ ?_
      rotate_left
      · intro w'
        go_simp
        with_reducible rfl
      rotate_left
      · simp only [Act.put, List.setIfInBounds_toArray, List.set_cons_zero, List.set_cons_succ, i64_w, i32_w]
        rfl
      -- 1: Op.fieldAddr 70 t3 0
      refine pure_ (i := 1) (N := (some 38)) (v := ?_) (a' := ?_) #[true, true, false, false, false, false, false, false, false, false, false, false, false, false, false] rfl rfl (by kernel_rfl) (fun _ _ _ h => h) (Or.inl ⟨by rfl, ?_⟩) ?_ ?_
      rotate_left
      · intro w'
        go_simp
        with_reducible rfl
      rotate_left
      · simp only [Act.put, List.setIfInBounds_toArray, List.set_cons_zero, List.set_cons_succ, i64_w, i32_w]
        rfl
      -- 2: Op.load 22 t38
      refine take_ (i := 2) (N := (some 39)) (v := ?_) (a' := ?_) #[true, true, true, false, false, false, false, false, false, false, false, false, false, false, false] rfl rfl (by kernel_rfl) (fun _ _ _ h => h) (Or.inl ⟨by rfl, ?_⟩) hHeld ?_ ?_
      rotate_left
      · rintro w' s0
        have z0 : w'.cell? ⟨g2, 0, none⟩ = some (.int .u64 e.log) := (blk_cell s0 0).trans rfl
        go_simp
        with_reducible rfl
      rotate_left
      · simp only [Act.put, List.setIfInBounds_toArray, List.set_cons_zero, List.set_cons_succ, i64_w, i32_w]
        rfl
      -- 4: Op.fieldAddr 26 t2 1
      refine pure_ (i := 4) (N := (some 41)) (v := ?_) (a' := ?_) #[true, true, true, false, true, false, false, false, false, false, false, false, false, false, false] rfl rfl (by kernel_rfl) (fun _ _ _ h => h) (Or.inl ⟨by rfl, ?_⟩) ?_ ?_
      rotate_left
      · intro w'
        go_simp
        with_reducible rfl
      rotate_left
      · simp only [Act.put, List.setIfInBounds_toArray, List.set_cons_zero, List.set_cons_succ, i64_w, i32_w]
        rfl
      -- 5: Op.fieldAddr 70 t3 1
      refine pure_ (i := 5) (N := (some 42)) (v := ?_) (a' := ?_) #[true, true, true, false, true, true, false, false, false, false, false, false, false, false, false] rfl rfl (by kernel_rfl) (fun _ _ _ h => h) (Or.inl ⟨by rfl, ?_⟩) ?_ ?_
      rotate_left
      · intro w'
        go_simp
        with_reducible rfl
      rotate_left
      · simp only [Act.put, List.setIfInBounds_toArray, List.set_cons_zero, List.set_cons_succ, i64_w, i32_w]
        rfl
      -- 6: Op.load 22 t42
      refine take_ (i := 6) (N := (some 43)) (v := ?_) (a' := ?_) #[true, true, true, false, true, true, true, false, false, false, false, false, false, false, false] rfl rfl (by kernel_rfl) (fun _ _ _ h => h) (Or.inl ⟨by rfl, ?_⟩) hHeld ?_ ?_
      rotate_left
      · rintro w' s0
        have z0 : w'.cell? ⟨g2, 1, none⟩ = some (.int .u64 e.next) := (blk_cell s0 1).trans rfl
        go_simp
        with_reducible rfl
      rotate_left
      · simp only [Act.put, List.setIfInBounds_toArray, List.set_cons_zero, List.set_cons_succ, i64_w, i32_w]
        rfl
      -- 8: Op.fieldAddr 26 t2 2
      refine pure_ (i := 8) (N := (some 45)) (v := ?_) (a' := ?_) #[true, true, true, false, true, true, true, false, true, false, false, false, false, false, false] rfl rfl (by kernel_rfl) (fun _ _ _ h => h) (Or.inl ⟨by rfl, ?_⟩) ?_ ?_
      rotate_left
      · intro w'
        go_simp
        with_reducible rfl
      rotate_left
      · simp only [Act.put, List.setIfInBounds_toArray, List.set_cons_zero, List.set_cons_succ, i64_w, i32_w]
        rfl
      -- 9: Op.fieldAddr 70 t3 2
      refine pure_ (i := 9) (N := (some 46)) (v := ?_) (a' := ?_) #[true, true, true, false, true, true, true, false, true, true, false, false, false, false, false] rfl rfl (by kernel_rfl) (fun _ _ _ h => h) (Or.inl ⟨by rfl, ?_⟩) ?_ ?_
      rotate_left
      · intro w'
        go_simp
        with_reducible rfl
      rotate_left
      · simp only [Act.put, List.setIfInBounds_toArray, List.set_cons_zero, List.set_cons_succ, i64_w, i32_w]
        rfl
      -- 10: Op.load 22 t46
      refine take_ (i := 10) (N := (some 47)) (v := ?_) (a' := ?_) #[true, true, true, false, true, true, true, false, true, true, true, false, false, false, false] rfl rfl (by kernel_rfl) (fun _ _ _ h => h) (Or.inl ⟨by rfl, ?_⟩) hHeld ?_ ?_
      rotate_left
      · rintro w' s0
        have z0 : w'.cell? ⟨g2, 2, none⟩ = some (.int .u64 e.seq) := (blk_cell s0 2).trans rfl
        go_simp
        with_reducible rfl
      rotate_left
      · simp only [Act.put, List.setIfInBounds_toArray, List.set_cons_zero, List.set_cons_succ, i64_w, i32_w]
        rfl
      -- 3: Op.call { value (Operand.func 102), args := #[t37, t39], argTypes := #[129, 22] }
      refine one_ (i := 3) (N := (some 40)) #[true, true, true, true, true, true, true, false, true, true, true, false, false, false, false] rfl rfl (by kernel_rfl) (by decide) (fun K hK => ?_)
      refine goes_ Try.func102 (by kernel_rfl) rfl #[.pointer (some ⟨w.heap.size, 0, none⟩), .int .u64 e.log] (by rfl) rfl rfl (by (try simp only [List.map_toArray, List.map_cons, List.map_nil]); first | done | rfl) ?_
      (with_reducible refine (later2 _ w.heap.size 0 26 _ v.log e.log XD1.out rfl w.heap.size (Nat.le_refl _)).mono ?_)
      rintro e wA ⟨rfl, hx, hk, hb⟩
      refine ⟨_, rfl, ?_⟩
      have XA1 := Aside0.mk hx
      have XA3 := Aside0.mk ((hk g3 (by have := N2.out; have := N3.out; omega)).trans XD3.out)
      have HA_ := Aside0.mk (HD.out.trans hb)
      have hOld := hHeld
      clear hHeld
      refine hK.out _ _ (((hk g2 (by have := N2.out; omega)).trans hOld)) (fun hHeld => ?_)
      clear hOld hK K
      refine norm_ (a' := ?_) ?_ ?_
      rotate_left
      · show Act.put _ (some 40) _ = _
        simp only [Act.put, List.setIfInBounds_toArray, List.set_cons_zero, List.set_cons_succ, i64_w, i32_w]
        rfl
      -- 7: Op.call { value (Operand.func 102), args := #[t41, t43], argTypes := #[129, 22] }
      refine one_ (i := 7) (N := (some 44)) #[true, true, true, true, true, true, true, true, true, true, true, false, false, false, false] rfl rfl (by kernel_rfl) (by decide) (fun K hK => ?_)
      refine goes_ Try.func102 (by kernel_rfl) rfl #[.pointer (some ⟨w.heap.size, 1, none⟩), .int .u64 e.next] (by rfl) rfl rfl (by (try simp only [List.map_toArray, List.map_cons, List.map_nil]); first | done | rfl) ?_
      (with_reducible refine (later2 _ w.heap.size 1 26 _ v.next e.next XA1.out rfl w.heap.size (Nat.le_refl _)).mono ?_)
      rintro e wB ⟨rfl, hx, hk, hb⟩
      refine ⟨_, rfl, ?_⟩
      have XB1 := Aside0.mk hx
      have XB3 := Aside0.mk ((hk g3 (by have := N2.out; have := N3.out; omega)).trans XA3.out)
      have HB_ := Aside0.mk (HA_.out.trans hb)
      have hOld := hHeld
      clear hHeld
      refine hK.out _ _ (((hk g2 (by have := N2.out; omega)).trans hOld)) (fun hHeld => ?_)
      clear hOld hK K
      refine norm_ (a' := ?_) ?_ ?_
      rotate_left
      · show Act.put _ (some 44) _ = _
        simp only [Act.put, List.setIfInBounds_toArray, List.set_cons_zero, List.set_cons_succ, i64_w, i32_w]
        rfl
      -- 11: Op.call { value (Operand.func 102), args := #[t45, t47], argTypes := #[129, 22] }
      refine one_ (i := 11) (N := (some 48)) #[true, true, true, true, true, true, true, true, true, true, true, true, false, false, false] rfl rfl (by kernel_rfl) (by decide) (fun K hK => ?_)
      refine goes_ Try.func102 (by kernel_rfl) rfl #[.pointer (some ⟨w.heap.size, 2, none⟩), .int .u64 e.seq] (by rfl) rfl rfl (by (try simp only [List.map_toArray, List.map_cons, List.map_nil]); first | done | rfl) ?_
      (with_reducible refine (later2 _ w.heap.size 2 26 _ v.seq e.seq XB1.out rfl w.heap.size (Nat.le_refl _)).mono ?_)
      rintro e wC ⟨rfl, hx, hk, hb⟩
      refine ⟨_, rfl, ?_⟩
      have XC1 := Aside0.mk hx
      have XC3 := Aside0.mk ((hk g3 (by have := N2.out; have := N3.out; omega)).trans XB3.out)
      have HC_ := Aside0.mk (HB_.out.trans hb)
      have hOld := hHeld
      clear hHeld
      refine hK.out _ _ (((hk g2 (by have := N2.out; omega)).trans hOld)) (fun hHeld => ?_)
      clear hOld hK K
      refine norm_ (a' := ?_) ?_ ?_
      rotate_left
      · show Act.put _ (some 48) _ = _
        simp only [Act.put, List.setIfInBounds_toArray, List.set_cons_zero, List.set_cons_succ, i64_w, i32_w]
        rfl
      -- 12: Op.assign t40
      refine pure_ (i := 12) (N := (some 8)) (v := ?_) (a' := ?_) #[true, true, true, true, true, true, true, true, true, true, true, true, true, false, false] rfl rfl (by kernel_rfl) (fun _ _ _ h => h) (Or.inl ⟨by rfl, ?_⟩) ?_ ?_
      rotate_left
      · intro w'
        go_simp
        with_reducible rfl
      rotate_left
      · simp only [Act.put, List.setIfInBounds_toArray, List.set_cons_zero, List.set_cons_succ, i64_w, i32_w]
        rfl
      -- 13: Op.assign t44
      refine pure_ (i := 13) (N := (some 9)) (v := ?_) (a' := ?_) #[true, true, true, true, true, true, true, true, true, true, true, true, true, true, false] rfl rfl (by kernel_rfl) (fun _ _ _ h => h) (Or.inl ⟨by rfl, ?_⟩) ?_ ?_
      rotate_left
      · intro w'
        go_simp
        with_reducible rfl
      rotate_left
      · simp only [Act.put, List.setIfInBounds_toArray, List.set_cons_zero, List.set_cons_succ, i64_w, i32_w]
        rfl
      -- 14: Op.assign t48
      refine pure_ (i := 14) (N := (some 10)) (v := ?_) (a' := ?_) #[true, true, true, true, true, true, true, true, true, true, true, true, true, true, true] rfl rfl (by kernel_rfl) (fun _ _ _ h => h) (Or.inl ⟨by rfl, ?_⟩) ?_ ?_
      rotate_left
      · intro w'
        go_simp
        with_reducible rfl
      rotate_left
      · simp only [Act.put, List.setIfInBounds_toArray, List.set_cons_zero, List.set_cons_succ, i64_w, i32_w]
        rfl
      refine done_ (by kernel_rfl) ?_
      rw [LB1.out, LB2.out, LB3.out]
      have X2c := Aside0.mk hHeld
      have X1c := Aside0.mk (show wC.heap[w.heap.size]? = some (.cells (vCs u q) 26 (0, 0)) by rw [UE.out]; exact XC1.out)
      clear hHeld XA1 XA3 HA_ XB1 XB3 HB_ XC1 XD1 XD3 HD HB X1 X2 X3
      have HB := HC_; have X1 := X1c; have X2 := X2c; have X3 := XC3
      clear HC_ X1c X2c XC3
      have e0 : wC.cell? ⟨g2, 0, none⟩ = some (.int .u64 e.log) := (blk_cell X2.out 0).trans rfl
      have e1 : wC.cell? ⟨g2, 1, none⟩ = some (.int .u64 e.next) := (blk_cell X2.out 1).trans rfl
      have e2 : wC.cell? ⟨g2, 2, none⟩ = some (.int .u64 e.seq) := (blk_cell X2.out 2).trans rfl
      have e3 : wC.cell? ⟨g2, 3, none⟩ = some (.slice A1 e.gone.length c1) := (blk_cell X2.out 3).trans rfl
      have e4 : wC.cell? ⟨g2, 4, none⟩ = some (.slice A2 e.added.length c2) := (blk_cell X2.out 4).trans rfl
      go_wp2_with fail
      refine (listed_calls _ e A1 A2 c1 c2 (Kd.C_below H1.out HB.out) (Kd.C_below H2.out HB.out)).mono ?_
      rintro x w3 ⟨rfl, hb⟩
      rw [if_pos LP.out]
      have HB3 := Aside0.mk (below_step HB.out hb)
      have X13 := Aside0.mk (blk_below X1.out hb)
      have X23 := Aside0.mk (blk_below X2.out hb)
      have X33 := Aside0.mk (blk_below X3.out hb)
      clear hb e0 e1 e2 e3 e4 X1 X2 X3 HB
      have HB := HB3; have X1 := X13; have X2 := X23; have X3 := X33
      clear HB3 X13 X23 X33
      have e3 : w3.cell? ⟨g2, 3, none⟩ = some (.slice A1 e.gone.length c1) := (blk_cell X2.out 3).trans rfl
      have e4 : w3.cell? ⟨g2, 4, none⟩ = some (.slice A2 e.added.length c2) := (blk_cell X2.out 4).trans rfl
      go_wp2_with fail
      clear e3 e4
      go_loopg [72] e.gone.length (fun kq v72 w' => ∃ k : Nat, v72 = .int .i64 (k : Int) ∧ Aside0 (k = 0 ∧ kq + k = e.gone.length) ∧ Aside0 (Below w.heap.size w w') ∧ Aside0 (w'.heap[w.heap.size]? = some (.cells (vCs u q) 26 (0, 0))) ∧ Aside0 (w'.heap[g2]? = some (.cells (eCs e A1 c1 A2 c2) 70 (0, 0))) ∧ Aside0 (w'.heap[g3]? = some (.cells #[.int .u64 0, .int .u64 0, .int .u64 0, .slice none 0 0, .slice none 0 0, .slice none 0 0, .slice none 0 0] 26 (0, 0))))
      case atStart => exact ⟨0, rfl, ⟨rfl, rfl⟩, HB, X1, X2, X3⟩
      case round =>
        clear HB X1 X2 X3
        obtain ⟨k, rfl, HK, HB, X1, X2, X3⟩ := hrel
        cases gk with
        | zero =>
          have GN := Aside0.mk (show e.gone = [] from List.length_eq_zero_iff.mp (by have := HK.out; omega))
          have d4 : decide ((k : Int) < (e.gone.length : Int)) = false := decide_eq_false (by have := HK.out; omega)
          have d5 : decide (k < e.gone.length) = false := decide_eq_false (by have := HK.out; omega)
          have hmm := @run_makeMap Try.prog
          have HBm := Aside0.mk (below_alloc HB.out (.map #[] 0))
          have X1m := Aside0.mk (blk_alloc X1.out (.map #[] 0))
          have X2m := Aside0.mk (blk_alloc X2.out (.map #[] 0))
          have X3m := Aside0.mk (blk_alloc X3.out (.map #[] 0))
          clear HB X1 X2 X3
          have HB := HBm; have X1 := X1m; have X2 := X2m; have X3 := X3m
          clear HBm X1m X2m X3m
          have b3 : (wr.alloc (.map #[] 0)).cell? ⟨w.heap.size, 3, none⟩ = some (.slice q.a0 u.l0.length q.c0) := (blk_cell X1.out 3).trans rfl
          have b4 : (wr.alloc (.map #[] 0)).cell? ⟨w.heap.size, 4, none⟩ = some (.slice q.a1 u.l1.length q.c1) := (blk_cell X1.out 4).trans rfl
          have b5 : (wr.alloc (.map #[] 0)).cell? ⟨w.heap.size, 5, none⟩ = some (.slice q.a2 u.l2.length q.c2) := (blk_cell X1.out 5).trans rfl
          have b6 : (wr.alloc (.map #[] 0)).cell? ⟨w.heap.size, 6, none⟩ = some (.slice q.a3 u.l3.length q.c3) := (blk_cell X1.out 6).trans rfl
          go_wp2_with fail
          generalize wr.alloc (.map #[] 0) = w5 at *
          clear b3 b4 b5 b6
          go_loopg [103] 4 (fun kq v103 w' => ∃ i : Nat, v103 = .int .i64 (i : Int) ∧ Aside0 (kq + i = 4) ∧ Aside0 (Below w.heap.size w w') ∧ Aside0 (w'.heap[w.heap.size]? = some (.cells (vCs u q) 26 (0, 0))) ∧ Aside0 (w'.heap[g2]? = some (.cells (eCs e A1 c1 A2 c2) 70 (0, 0))) ∧ Aside0 (w'.heap[g3]? = some (.cells #[.int .u64 0, .int .u64 0, .int .u64 0, .slice none 0 0, .slice none 0 0, .slice none 0 0, .slice none 0 0] 26 (0, 0))))
          case atStart => exact ⟨0, rfl, ⟨by omega⟩, HB, X1, X2, X3⟩
          case round =>
            clear HB X1 X2 X3
            obtain ⟨i, rfl, HKK, HB, X1, X2, X3⟩ := hrel
            cases gk with
            | zero =>
              have ei : i = 4 := by have := HKK.out; omega
              subst ei
              have e4 : wr.cell? ⟨g2, 4, none⟩ = some (.slice A2 e.added.length c2) := (blk_cell X2.out 4).trans rfl
              have d6 : decide (0 < (e.added.length : Int)) = false := decide_eq_false (by rw [HA.out]; simp)
              have d7 : decide (0 < e.added.length) = false := decide_eq_false (by rw [HA.out]; simp)
              go_wp2_with fail
              go_loopg [122] 0 (fun kq v122 w' => v122 = .int .i64 0 ∧ Aside0 (kq = 0) ∧ Aside0 (w' = wr))
              case atStart => exact ⟨rfl, ⟨rfl⟩, ⟨rfl⟩⟩
              case round =>
                obtain ⟨rfl, HK9, HW9⟩ := hrel
                cases gk with
                | zero =>
                  have hw9 := HW9.out
                  subst hw9
                  clear e4
                  have b0 : wr.cell? ⟨w.heap.size, 0, none⟩ = some (.int .u64 u.log) := (blk_cell X1.out 0).trans rfl
                  have b1 : wr.cell? ⟨w.heap.size, 1, none⟩ = some (.int .u64 u.next) := (blk_cell X1.out 1).trans rfl
                  have b2 : wr.cell? ⟨w.heap.size, 2, none⟩ = some (.int .u64 u.seq) := (blk_cell X1.out 2).trans rfl
                  have b3 : wr.cell? ⟨w.heap.size, 3, none⟩ = some (.slice q.a0 u.l0.length q.c0) := (blk_cell X1.out 3).trans rfl
                  have b4 : wr.cell? ⟨w.heap.size, 4, none⟩ = some (.slice q.a1 u.l1.length q.c1) := (blk_cell X1.out 4).trans rfl
                  have b5 : wr.cell? ⟨w.heap.size, 5, none⟩ = some (.slice q.a2 u.l2.length q.c2) := (blk_cell X1.out 5).trans rfl
                  have b6 : wr.cell? ⟨w.heap.size, 6, none⟩ = some (.slice q.a3 u.l3.length q.c3) := (blk_cell X1.out 6).trans rfl
                  go_wp2_with fail
                  refine (right_calls _ u q (fun j hj => by rw [UL.out j hj]; exact ⟨KNIL _ _, Nat.zero_le _⟩) (fun j hj m hm => by rw [UL.out j hj] at hm; cases hm)).mono ?_
                  rintro x w6 ⟨rfl, hb⟩
                  rw [decide_eq_true HR2.out]
                  have HB6 := Aside0.mk (below_step HB.out hb)
                  have X16 := Aside0.mk (blk_below X1.out hb)
                  have X36 := Aside0.mk (blk_below X3.out hb)
                  clear hb b0 b1 b2 b3 b4 b5 b6
                  have b0 : w6.cell? ⟨w.heap.size, 0, none⟩ = some (.int .u64 u.log) := (blk_cell X16.out 0).trans rfl
                  have b1 : w6.cell? ⟨w.heap.size, 1, none⟩ = some (.int .u64 u.next) := (blk_cell X16.out 1).trans rfl
                  have b2 : w6.cell? ⟨w.heap.size, 2, none⟩ = some (.int .u64 u.seq) := (blk_cell X16.out 2).trans rfl
                  have b3 : w6.cell? ⟨w.heap.size, 3, none⟩ = some (.slice q.a0 u.l0.length q.c0) := (blk_cell X16.out 3).trans rfl
                  have b4 : w6.cell? ⟨w.heap.size, 4, none⟩ = some (.slice q.a1 u.l1.length q.c1) := (blk_cell X16.out 4).trans rfl
                  have b5 : w6.cell? ⟨w.heap.size, 5, none⟩ = some (.slice q.a2 u.l2.length q.c2) := (blk_cell X16.out 5).trans rfl
                  have b6 : w6.cell? ⟨w.heap.size, 6, none⟩ = some (.slice q.a3 u.l3.length q.c3) := (blk_cell X16.out 6).trans rfl
                  go_wp2_with (first | (refine st_arr rfl 26 _ _ rfl g3 26 ?hx (vCs u q) ?hy _ X36.out (by rw [size26]; rfl) rfl (by simp [Value.oneCell']) ?_; (case hx => rfl); (case hy => rfl); intro w7 hb7 hbb hk7 hs7; have HB7 := Aside0.mk (hbb _ _ HB6.out (show w.heap.size ≤ g3 by have := N2.out; have := N3.out; omega)); have X7 := Aside0.mk hb7; clear hb7 hbb hk7 hs7) | fail)
                  have r0 : w7.cell? ⟨g3, 0, none⟩ = some (.int .u64 u.log) := (blk_cell X7.out 0).trans rfl
                  have r1 : w7.cell? ⟨g3, 1, none⟩ = some (.int .u64 u.next) := (blk_cell X7.out 1).trans rfl
                  have r2 : w7.cell? ⟨g3, 2, none⟩ = some (.int .u64 u.seq) := (blk_cell X7.out 2).trans rfl
                  have r3 : w7.cell? ⟨g3, 3, none⟩ = some (.slice q.a0 u.l0.length q.c0) := (blk_cell X7.out 3).trans rfl
                  have r4 : w7.cell? ⟨g3, 4, none⟩ = some (.slice q.a1 u.l1.length q.c1) := (blk_cell X7.out 4).trans rfl
                  have r5 : w7.cell? ⟨g3, 5, none⟩ = some (.slice q.a2 u.l2.length q.c2) := (blk_cell X7.out 5).trans rfl
                  have r6 : w7.cell? ⟨g3, 6, none⟩ = some (.slice q.a3 u.l3.length q.c3) := (blk_cell X7.out 6).trans rfl
                  exact bodyPost_ret (v := .tuple #[.agg (vCs u q), .int .i64 0]) (by simp [results, Try.results54, go_sem, r0, r1, r2, r3, r4, r5, r6]) rfl ⟨⟨u, q, by rw [HRR.out, if_pos GN.out], fun _ => rfl⟩, HB7.out⟩
                | succ y => exact absurd HK9.out (by omega)
            | succ z =>
              have hi : i < 4 := by have := HKK.out; omega
              have HI := Aside0.mk hi
              have d0 : decide ((i : Int) < 4) = true := decide_eq_true (by omega)
              have hx : ∀ W : World, (Instr.index 24 (.agg #[.slice q.a0 u.l0.length q.c0, .slice q.a1 u.l1.length q.c1, .slice q.a2 u.l2.length q.c2, .slice q.a3 u.l3.length q.c3]) (.int .i64 (i : Int))).run Try.prog W = .ok (.slice (q.a i) (0 : Nat) (q.c i)) W := fun W => by
                have h1 := idx_lv u q i HI.out W
                rw [UL.out i HI.out] at h1
                exact h1
              have ew : wrap64 ((i : Int) + 1) = ((i + 1 : Nat) : Int) := by have h1 := HI.out; unfold wrap64; omega
              clear hi
              go_wp2_with fail
              go_loopg [108] 0 (fun kq v108 w' => v108 = .int .i64 0 ∧ Aside0 (kq = 0) ∧ Aside0 (w' = wr))
              case atStart => exact ⟨rfl, ⟨rfl⟩, ⟨rfl⟩⟩
              case round =>
                obtain ⟨rfl, HK9, HW9⟩ := hrel
                cases gk with
                | zero =>
                  have hw9 := HW9.out
                  subst hw9
                  go_wp2_with fail
                  try rw [ew]
                  clear ew
                  go_roundg z
                  case measure => omega
                  case rel => exact ⟨i + 1, rfl, ⟨by have := HKK.out; omega⟩, HB, X1, X2, X3⟩
                | succ y => exact absurd HK9.out (by omega)
        | succ zq =>
          have GN := Aside0.mk (show ¬ e.gone = [] from fun h => by have h1 := HK.out.2; rw [h] at h1; simp at h1)
          have d4 : decide ((k : Int) < (e.gone.length : Int)) = true := decide_eq_true (by have := HK.out; omega)
          have d5 : decide (k < e.gone.length) = true := decide_eq_true (by have := HK.out; omega)
          have p0 : 0 ≤ (k : Int) := Int.natCast_nonneg _
          have p1 : (k : Int) < (e.gone.length : Int) := by have := HK.out; omega
          obtain ⟨ad, ea, ha0, ha1⟩ := at_T84 (Kd.C_below H1.out HB.out) (k : Int) p0 p1
          have hmx := getD_mem e.gone z84 (k := k) (by have := HK.out; omega)
          have EM := Aside0.mk (show rd_T84 e.gone (k : Int) = e.gone.getD k z84 by unfold rd_T84; rw [Int.toNat_natCast])
          rw [← EM.out] at hmx
          generalize rd_T84 e.gone (k : Int) = x at *
          have hlx := LP.out.1 x hmx
          obtain ⟨lv, hlv⟩ : ∃ lv : Nat, x.f0 = (lv : Int) := ⟨x.f0.toNat, by have := hlx.1; omega⟩
          have HLV := Aside0.mk (show lv < 4 by have := hlx.2; omega)
          have l0_ : 0 ≤ (lv : Int) := Int.natCast_nonneg _
          have l1_ : (lv : Int) < 4 := by have := HLV.out; omega
          obtain ⟨f0, f1⟩ := x
          dsimp only at hlv ha0 ha1
          subst hlv
          rw [ea]
          rw [Int.toNat_natCast] at ha0 ha1
          clear hmx hlx ea
          go_upto_region 13 with (fail)
          have HB5 := Aside0.mk (below_alloc HB.out (.cells (gCs ⟨(lv : Int), f1⟩) 84))
          have X15 := Aside0.mk (blk_alloc X1.out (.cells (gCs ⟨(lv : Int), f1⟩) 84))
          have X35 := Aside0.mk (blk_alloc X3.out (.cells (gCs ⟨(lv : Int), f1⟩) 84))
          have X5 := Aside0.mk (blk_new wr (.cells (gCs ⟨(lv : Int), f1⟩) 84))
          generalize wr.heap.size = g5 at *
          generalize wr.alloc (.cells (gCs ⟨(lv : Int), f1⟩) 84) = w5 at *
          have y0 : w5.cell? ⟨g5, 0, none⟩ = some (.int .i64 (lv : Int)) := (blk_cell X5.out 0).trans rfl
          have hv := vcell X15.out lv HLV.out
          rw [UL.out lv HLV.out] at hv
          clear ha0 ha1
          go_wp2_with fail
          refine (indexF_calls _ (q.a lv) (q.c lv) [] ⟨(lv : Int), f1⟩ g5 (KNIL _ _) X5.out).mono ?_
          rintro x9 w6 ⟨i9, rfl, hi9, hb⟩
          obtain rfl : i9 = -1 := by
            rcases hi9 with ⟨h, _⟩ | ⟨k, _, hk, _⟩
            · exact h
            · simp at hk
          have HB6 := Aside0.mk (below_step HB5.out hb)
          have X36 := Aside0.mk (blk_below X35.out hb)
          clear hi9 hb y0 hv
          go_wp2_with (first | (refine st_arr rfl 26 _ _ rfl g3 26 ?hx #[.int .u64 0, .int .u64 0, .int .u64 0, .slice none 0 0, .slice none 0 0, .slice none 0 0, .slice none 0 0] ?hy _ X36.out (by rw [size26]; rfl) rfl (by simp [Value.oneCell']) ?_; (case hx => rfl); (case hy => rfl); intro w7 hb7 hbb hk7 hs7; have HB7 := Aside0.mk (hbb _ _ HB6.out (show w.heap.size ≤ g3 by have := N2.out; have := N3.out; omega)); have X7 := Aside0.mk hb7; clear hb7 hbb hk7 hs7) | fail)
          have r0 : w7.cell? ⟨g3, 0, none⟩ = some (.int .u64 0) := (blk_cell X7.out 0).trans rfl
          have r1 : w7.cell? ⟨g3, 1, none⟩ = some (.int .u64 0) := (blk_cell X7.out 1).trans rfl
          have r2 : w7.cell? ⟨g3, 2, none⟩ = some (.int .u64 0) := (blk_cell X7.out 2).trans rfl
          have r3 : w7.cell? ⟨g3, 3, none⟩ = some (.slice none 0 0) := (blk_cell X7.out 3).trans rfl
          have r4 : w7.cell? ⟨g3, 4, none⟩ = some (.slice none 0 0) := (blk_cell X7.out 4).trans rfl
          have r5 : w7.cell? ⟨g3, 5, none⟩ = some (.slice none 0 0) := (blk_cell X7.out 5).trans rfl
          have r6 : w7.cell? ⟨g3, 6, none⟩ = some (.slice none 0 0) := (blk_cell X7.out 6).trans rfl

          exact bodyPost_ret (v := .tuple #[.agg #[.int .u64 0, .int .u64 0, .int .u64 0, .slice none 0 0, .slice none 0 0, .slice none 0 0, .slice none 0 0], .int .i64 4]) (by simp [results, Try.results54, go_sem, r0, r1, r2, r3, r4, r5, r6]) rfl ⟨⟨zeroV, firstP, by rw [HRR.out, if_neg GN.out]; rfl, fun h => absurd h GN.out⟩, HB7.out⟩
    | succ z =>
      have hi : i < 4 := by have := HK.out; omega
      have HI := Aside0.mk hi
      have d0 : decide ((i : Int) < 4) = true := decide_eq_true (by omega)
      have i0 : 0 ≤ (i : Int) := Int.natCast_nonneg _
      have i1 : (i : Int) < 4 := by omega
      have ew : wrap64 ((i : Int) + 1) = ((i + 1 : Nat) : Int) := by unfold wrap64; omega
      have hv := vcell X1.out i hi
      have EI := Aside0.mk (HE.out i hi)
      rw [EI.out] at hv
      clear hi
      go_wp2_with fail
      refine (clone_calls _ (q.a i) (q.c i) [] (KNIL (q.a i) wr) (Nat.zero_le _) (by decide)).mono ?_
      rintro x w5 ⟨v5, rfl, hR, hb⟩
      obtain ⟨B', cb', hv5⟩ := Kd.R_slice hR
      subst hv5
      have HB5 := Aside0.mk (below_step HB.out hb)
      have X15 := Aside0.mk (blk_below X1.out hb)
      have X25 := Aside0.mk (blk_below X2.out hb)
      have X35 := Aside0.mk (blk_below X3.out hb)
      clear hv hR hb
      have hv := vcell X15.out i HI.out
      rw [EI.out] at hv
      have ff := blk_frozen X15.out (3 + i)
      go_wp2_with fail
      have X1n := Aside0.mk (show (w5.setCell ⟨w.heap.size, 3 + i, none⟩ (.slice B' ([] : List S58).length cb')).heap[w.heap.size]? = some (.cells (vCs v (q.set i B' cb')) 26 (0, 0)) from five_set X15.out _ (by have h1 := vCs_set v q i HI.out [] B' cb'; rw [show v.set i [] = v by rw [← EI.out]; exact Ver.set_self v i HI.out] at h1; exact h1))
      have X2n := Aside0.mk (blk_far X25.out (p := ⟨w.heap.size, 3 + i, none⟩) (show g2 ≠ w.heap.size by have := N2.out; omega) (.slice B' ([] : List S58).length cb'))
      have X3n := Aside0.mk (blk_far X35.out (p := ⟨w.heap.size, 3 + i, none⟩) (show g3 ≠ w.heap.size by have := N2.out; have := N3.out; omega) (.slice B' ([] : List S58).length cb'))
      have HBn := Aside0.mk (below_set (j := 3 + i) (v := .slice B' ([] : List S58).length cb') HB5.out (Nat.le_refl _))
      try rw [ew]
      clear ew ff hv
      go_roundg z
      case measure => omega
      case rel => exact ⟨i + 1, q.set i B' cb', rfl, ⟨by have := HK.out; omega⟩, HBn, X1n, X2n, X3n⟩
end Go.Proofs.Ytkjepfofiegcdaa.V
