import Derived.Test.YtkjepfofiegcdaaVA2Y
import Derived.Test.YtkjepfofiegcdaaVW1Y
/- The law EditWhole (14), walked. Conditions: the tables' numbers are such as the machine has. -/
namespace Go.Proofs.Ytkjepfofiegcdaa.V
set_option linter.unusedVariables false
set_option linter.unusedSimpArgs false
open Go.RowKit Go.Proofs.YtkjepfofiegcdaaW.PrintWords Go.Proofs.YtkjepfofiegcdaaW.PrintLast Go.Proofs.YtkjepfofiegcdaaW.PrintMore Go.Proofs.Ytkjepfofiegcdaa.PB14
set_option maxHeartbeats 8000000 in
set_option maxRecDepth 100000 in
theorem editWhole_calls (w : World) (v : Ver) (p : Pl) (hC : VC w v p) (hW : VW v) : Calls Try.prog 14 #[.agg (vCs v p)] w fun e w' => e = .returned (.bool true) ∧ Below w.heap.size w w' := by
  have HC := Aside0.mk hC
  have HW := Aside0.mk hW
  have HB1 := Aside0.mk ((Below.refl w.heap.size w).alloc (Nat.le_refl _) (.cells (vCs v p) 26))
  have X1 := Aside0.mk (blk_new w (.cells (vCs v p) 26))
  have SAME : ∀ (w' : World) (B1 B2 : Option Addr) (c1 c2 : Nat), k82.C w' B1 (wholeE v).added.length (wholeE v).added → k82.C w' B2 (wholeE v).added.length (wholeE v).added → Calls Try.prog 50 #[.agg (eCs (wholeE v) none 0 B1 c1), .agg (eCs (wholeE v) none 0 B2 c2)] w' fun x w'' => x = .returned (.bool true) ∧ Below w'.heap.size w' w'' := fun w' B1 B2 c1 c2 h1 h2 => by
    have hg : (wholeE v).gone = [] := by unfold wholeE; split <;> rfl
    have h3 : k84.C w' none (wholeE v).gone.length (wholeE v).gone := by rw [hg]; exact nil84 _ _
    have h := sameE_calls w' (wholeE v) (wholeE v) none B1 none B2 0 c1 0 c2 h3 h1 h3 h2
    rw [decide_eq_true (rfl : wholeE v = wholeE v)] at h
    exact h
  clear hC hW
  go_enter Try.func14, Try.ntmps14
  go_upto_region 1 with (fail)
  generalize w.alloc (.cells (vCs v p) 26) = w1 at *
  by_cases hm : manyP v
  · have MC := many51_calls w1 v p
    rw [decide_eq_true hm] at MC
    clear hm
    have b0 : w1.cell? ⟨w.heap.size, 0, none⟩ = some (.int .u64 v.log) := (blk_cell X1.out 0).trans rfl
    have b1 : w1.cell? ⟨w.heap.size, 1, none⟩ = some (.int .u64 v.next) := (blk_cell X1.out 1).trans rfl
    have b2 : w1.cell? ⟨w.heap.size, 2, none⟩ = some (.int .u64 v.seq) := (blk_cell X1.out 2).trans rfl
    have b3 : w1.cell? ⟨w.heap.size, 3, none⟩ = some (.slice p.a0 v.l0.length p.c0) := (blk_cell X1.out 3).trans rfl
    have b4 : w1.cell? ⟨w.heap.size, 4, none⟩ = some (.slice p.a1 v.l1.length p.c1) := (blk_cell X1.out 4).trans rfl
    have b5 : w1.cell? ⟨w.heap.size, 5, none⟩ = some (.slice p.a2 v.l2.length p.c2) := (blk_cell X1.out 5).trans rfl
    have b6 : w1.cell? ⟨w.heap.size, 6, none⟩ = some (.slice p.a3 v.l3.length p.c3) := (blk_cell X1.out 6).trans rfl
    go_wp2_with fail
    refine MC.mono ?_
    rintro x w2 ⟨rfl, hb⟩
    have HB2 := Aside0.mk (below_step HB1.out hb)
    clear hb MC b0 b1 b2 b3 b4 b5 b6
    go_wp2_with fail
    refine (awake14_calls _).mono ?_
    rintro x w9 ⟨rfl, hb⟩
    have HB9 := Aside0.mk (below_step HB2.out hb)
    clear hb
    go_wp2_with fail
    go_ret
    exact ⟨rfl, HB9.out⟩
  · have MC := many51_calls w1 v p
    rw [decide_eq_false hm] at MC
    have HL := Aside0.mk (show ∀ i, i < 4 → (v.lv i).length ≤ 1000000 from fun i hi => Classical.byContradiction fun h => hm ⟨i, hi, by omega⟩)
    clear hm
    have b0 : w1.cell? ⟨w.heap.size, 0, none⟩ = some (.int .u64 v.log) := (blk_cell X1.out 0).trans rfl
    have b1 : w1.cell? ⟨w.heap.size, 1, none⟩ = some (.int .u64 v.next) := (blk_cell X1.out 1).trans rfl
    have b2 : w1.cell? ⟨w.heap.size, 2, none⟩ = some (.int .u64 v.seq) := (blk_cell X1.out 2).trans rfl
    have b3 : w1.cell? ⟨w.heap.size, 3, none⟩ = some (.slice p.a0 v.l0.length p.c0) := (blk_cell X1.out 3).trans rfl
    have b4 : w1.cell? ⟨w.heap.size, 4, none⟩ = some (.slice p.a1 v.l1.length p.c1) := (blk_cell X1.out 4).trans rfl
    have b5 : w1.cell? ⟨w.heap.size, 5, none⟩ = some (.slice p.a2 v.l2.length p.c2) := (blk_cell X1.out 5).trans rfl
    have b6 : w1.cell? ⟨w.heap.size, 6, none⟩ = some (.slice p.a3 v.l3.length p.c3) := (blk_cell X1.out 6).trans rfl
    go_wp2_with fail
    refine MC.mono ?_
    rintro x w2 ⟨rfl, hb⟩
    have HB2 := Aside0.mk (below_step HB1.out hb)
    have X12 := Aside0.mk (blk_below X1.out hb)
    clear hb MC b0 b1 b2 b3 b4 b5 b6
    have b0 : w2.cell? ⟨w.heap.size, 0, none⟩ = some (.int .u64 v.log) := (blk_cell X12.out 0).trans rfl
    have b1 : w2.cell? ⟨w.heap.size, 1, none⟩ = some (.int .u64 v.next) := (blk_cell X12.out 1).trans rfl
    have b2 : w2.cell? ⟨w.heap.size, 2, none⟩ = some (.int .u64 v.seq) := (blk_cell X12.out 2).trans rfl
    have b3 : w2.cell? ⟨w.heap.size, 3, none⟩ = some (.slice p.a0 v.l0.length p.c0) := (blk_cell X12.out 3).trans rfl
    have b4 : w2.cell? ⟨w.heap.size, 4, none⟩ = some (.slice p.a1 v.l1.length p.c1) := (blk_cell X12.out 4).trans rfl
    have b5 : w2.cell? ⟨w.heap.size, 5, none⟩ = some (.slice p.a2 v.l2.length p.c2) := (blk_cell X12.out 5).trans rfl
    have b6 : w2.cell? ⟨w.heap.size, 6, none⟩ = some (.slice p.a3 v.l3.length p.c3) := (blk_cell X12.out 6).trans rfl
    go_wp2_with fail
    refine (copy_calls w2 v p (HC.out.below HB2.out) HL.out).mono ?_
    rintro x w3 ⟨q, rfl, hmk, hb⟩
    have KEPT : ∀ (w' : World), MK w' v q → VC w' v p → Calls Try.prog 41 #[.agg (vCs v q), .agg (vCs v p)] w' fun e w'' => e = .returned (.bool true) ∧ Below w'.heap.size w' w'' := fun w' h1 h2 => by
      have h := kept_calls w' v v q p h1 h2 HL.out
      rw [decide_eq_true (sameP_iff.mpr (rfl : v = v))] at h
      exact h
    have HB4 := Aside0.mk (below_alloc (below_step HB2.out hb) (.cells (vCs v q) 26))
    have X14 := Aside0.mk (blk_alloc (blk_below X12.out hb) (.cells (vCs v q) 26))
    have X34 := Aside0.mk (blk_new w3 (.cells (vCs v q) 26))
    have MKc := Aside0.mk (hmk.below (below_alloc (Below.refl w3.heap.size w3) (.cells (vCs v q) 26)))
    clear hb hmk b0 b1 b2 b3 b4 b5 b6
    go_upto_region 4 with (fail)
    generalize w3.heap.size = g3 at *
    generalize w3.alloc (.cells (vCs v q) 26) = w4 at *
    refine start_ (n := 14) (S := (fun w' => Below w4.heap.size w4 w' ∧ w'.heap[w.heap.size]? = some (.cells (vCs v p) 26 (0, 0)) ∧ w'.heap[g3]? = some (.cells (vCs v q) 26 (0, 0)))) (ds := []) #[false, false, false, false, false, false, false, false, false, false, false, false, false, false] (by kernel_rfl) rfl rfl ⟨below_drew (Below.refl _ _), blk_drew X14.out, blk_drew X34.out⟩ (fun hHeld => ?_)
    -- 0: Op.load 26 t3
    refine take_ (i := 0) (N := (some 9)) (v := ?_) (a' := ?_) #[true, false, false, false, false, false, false, false, false, false, false, false, false, false] rfl rfl (by kernel_rfl) (fun _ _ _ h => h) (Or.inl ⟨by rfl, ?_⟩) hHeld ?_ ?_
    rotate_left
    · rintro w' ⟨s0, s1, s2⟩
      have z0 : w'.cell? ⟨g3, 0, none⟩ = some (.int .u64 v.log) := (blk_cell s2 0).trans rfl
      have z1 : w'.cell? ⟨g3, 1, none⟩ = some (.int .u64 v.next) := (blk_cell s2 1).trans rfl
      have z2 : w'.cell? ⟨g3, 2, none⟩ = some (.int .u64 v.seq) := (blk_cell s2 2).trans rfl
      have z3 : w'.cell? ⟨g3, 3, none⟩ = some (.slice q.a0 v.l0.length q.c0) := (blk_cell s2 3).trans rfl
      have z4 : w'.cell? ⟨g3, 4, none⟩ = some (.slice q.a1 v.l1.length q.c1) := (blk_cell s2 4).trans rfl
      have z5 : w'.cell? ⟨g3, 5, none⟩ = some (.slice q.a2 v.l2.length q.c2) := (blk_cell s2 5).trans rfl
      have z6 : w'.cell? ⟨g3, 6, none⟩ = some (.slice q.a3 v.l3.length q.c3) := (blk_cell s2 6).trans rfl
      go_simp
      with_reducible rfl
    rotate_left
    · simp only [Act.put, List.setIfInBounds_toArray, List.set_cons_zero, List.set_cons_succ, i64_w, i32_w]
      rfl
    -- 2: Op.load 26 t1
    refine take_ (i := 2) (N := (some 11)) (v := ?_) (a' := ?_) #[true, false, true, false, false, false, false, false, false, false, false, false, false, false] rfl rfl (by kernel_rfl) (fun _ _ _ h => h) (Or.inl ⟨by rfl, ?_⟩) hHeld ?_ ?_
    rotate_left
    · rintro w' ⟨s0, s1, s2⟩
      have z0 : w'.cell? ⟨w.heap.size, 0, none⟩ = some (.int .u64 v.log) := (blk_cell s1 0).trans rfl
      have z1 : w'.cell? ⟨w.heap.size, 1, none⟩ = some (.int .u64 v.next) := (blk_cell s1 1).trans rfl
      have z2 : w'.cell? ⟨w.heap.size, 2, none⟩ = some (.int .u64 v.seq) := (blk_cell s1 2).trans rfl
      have z3 : w'.cell? ⟨w.heap.size, 3, none⟩ = some (.slice p.a0 v.l0.length p.c0) := (blk_cell s1 3).trans rfl
      have z4 : w'.cell? ⟨w.heap.size, 4, none⟩ = some (.slice p.a1 v.l1.length p.c1) := (blk_cell s1 4).trans rfl
      have z5 : w'.cell? ⟨w.heap.size, 5, none⟩ = some (.slice p.a2 v.l2.length p.c2) := (blk_cell s1 5).trans rfl
      have z6 : w'.cell? ⟨w.heap.size, 6, none⟩ = some (.slice p.a3 v.l3.length p.c3) := (blk_cell s1 6).trans rfl
      go_simp
      with_reducible rfl
    rotate_left
    · simp only [Act.put, List.setIfInBounds_toArray, List.set_cons_zero, List.set_cons_succ, i64_w, i32_w]
      rfl
    -- 1: Op.call { value (Operand.func 59), args := #[t9], argTypes := #[26] }
    refine one_ (i := 1) (N := (some 10)) #[true, true, true, false, false, false, false, false, false, false, false, false, false, false] rfl rfl (by kernel_rfl) (by decide) (fun K hK => ?_)
    refine goes_ Try.func59 (by kernel_rfl) rfl #[.agg (vCs v q)] (by rfl) rfl rfl (by (try simp only [List.map_toArray, List.map_cons, List.map_nil]); first | done | rfl) ?_
    (with_reducible refine (whole59_calls _ v q ((MKc.out.below hHeld.1).vc) HW.out).mono ?_)
    rintro e wA ⟨B1, cb1, rfl, hk1, hb⟩
    refine ⟨_, rfl, ?_⟩
    have KA := Aside0.mk hk1.2
    have hOld := hHeld
    clear hHeld
    refine hK.out _ _ (⟨below_step hOld.1 hb, blk_below hOld.2.1 hb, blk_below hOld.2.2 hb⟩) (fun hHeld => ?_)
    clear hOld hK K
    refine norm_ (a' := ?_) ?_ ?_
    rotate_left
    · show Act.put _ (some 10) _ = _
      simp only [Act.put, List.setIfInBounds_toArray, List.set_cons_zero, List.set_cons_succ, i64_w, i32_w]
      rfl
    -- 3: Op.call { value (Operand.func 60), args := #[t11], argTypes := #[26] }
    refine one_ (i := 3) (N := (some 12)) #[true, true, true, true, false, false, false, false, false, false, false, false, false, false] rfl rfl (by kernel_rfl) (by decide) (fun K hK => ?_)
    refine goes_ Try.func60 (by kernel_rfl) rfl #[.agg (vCs v p)] (by rfl) rfl rfl (by (try simp only [List.map_toArray, List.map_cons, List.map_nil]); first | done | rfl) ?_
    (with_reducible refine (whole60_calls _ v p (HC.out.below (HB4.out.trans (hHeld.1.mono HB4.out.size))) HW.out).mono ?_)
    rintro e wB ⟨B2, cb2, rfl, hk2, hb⟩
    refine ⟨_, rfl, ?_⟩
    have KA2 := Aside0.mk (Kd.C_below KA.out hb)
    have KB2 := Aside0.mk hk2.2
    have hOld := hHeld
    clear hHeld
    refine hK.out _ _ (⟨below_step hOld.1 hb, blk_below hOld.2.1 hb, blk_below hOld.2.2 hb⟩) (fun hHeld => ?_)
    clear hOld hK K
    refine norm_ (a' := ?_) ?_ ?_
    rotate_left
    · show Act.put _ (some 12) _ = _
      simp only [Act.put, List.setIfInBounds_toArray, List.set_cons_zero, List.set_cons_succ, i64_w, i32_w]
      rfl
    -- 4: Op.call { value (Operand.func 50), args := #[t10, t12], argTypes := #[70, 70] }
    refine one_ (i := 4) (N := (some 13)) #[true, true, true, true, true, false, false, false, false, false, false, false, false, false] rfl rfl (by kernel_rfl) (by decide) (fun K hK => ?_)
    refine goes_ Try.func50 (by kernel_rfl) rfl #[.agg (eCs (wholeE v) none 0 B1 cb1), .agg (eCs (wholeE v) none 0 B2 cb2)] (by rfl) rfl rfl (by (try simp only [List.map_toArray, List.map_cons, List.map_nil]); first | done | rfl) ?_
    (with_reducible refine (SAME _ _ _ _ _ KA2.out KB2.out).mono ?_)
    rintro e wC ⟨rfl, hb⟩
    refine ⟨_, rfl, ?_⟩
    have hOld := hHeld
    clear hHeld
    refine hK.out _ _ (⟨below_step hOld.1 hb, blk_below hOld.2.1 hb, blk_below hOld.2.2 hb⟩) (fun hHeld => ?_)
    clear hOld hK K
    refine norm_ (a' := ?_) ?_ ?_
    rotate_left
    · show Act.put _ (some 13) _ = _
      simp only [Act.put, List.setIfInBounds_toArray, List.set_cons_zero, List.set_cons_succ, i64_w, i32_w]
      rfl
    -- 5: Op.move t13
    refine pure_ (i := 5) (N := (some 14)) (v := ?_) (a' := ?_) #[true, true, true, true, true, true, false, false, false, false, false, false, false, false] rfl rfl (by kernel_rfl) (fun _ _ _ h => h) (Or.inl ⟨by rfl, ?_⟩) ?_ ?_
    rotate_left
    · intro w'
      go_simp
      with_reducible rfl
    rotate_left
    · simp only [Act.put, List.setIfInBounds_toArray, List.set_cons_zero, List.set_cons_succ, i64_w, i32_w]
      rfl
    -- 6: Op.load 26 t3   [guarded: some (5, true)]
    refine take_ (i := 6) (N := (some 15)) (v := ?_) (a' := ?_) #[true, true, true, true, true, true, true, false, false, false, false, false, false, false] rfl rfl (by kernel_rfl) (fun _ _ _ h => h) (Or.inl ⟨by rfl, ?_⟩) hHeld ?_ ?_
    rotate_left
    · rintro w' ⟨s0, s1, s2⟩
      have z0 : w'.cell? ⟨g3, 0, none⟩ = some (.int .u64 v.log) := (blk_cell s2 0).trans rfl
      have z1 : w'.cell? ⟨g3, 1, none⟩ = some (.int .u64 v.next) := (blk_cell s2 1).trans rfl
      have z2 : w'.cell? ⟨g3, 2, none⟩ = some (.int .u64 v.seq) := (blk_cell s2 2).trans rfl
      have z3 : w'.cell? ⟨g3, 3, none⟩ = some (.slice q.a0 v.l0.length q.c0) := (blk_cell s2 3).trans rfl
      have z4 : w'.cell? ⟨g3, 4, none⟩ = some (.slice q.a1 v.l1.length q.c1) := (blk_cell s2 4).trans rfl
      have z5 : w'.cell? ⟨g3, 5, none⟩ = some (.slice q.a2 v.l2.length q.c2) := (blk_cell s2 5).trans rfl
      have z6 : w'.cell? ⟨g3, 6, none⟩ = some (.slice q.a3 v.l3.length q.c3) := (blk_cell s2 6).trans rfl
      go_simp
      with_reducible rfl
    rotate_left
    · simp only [Act.put, List.setIfInBounds_toArray, List.set_cons_zero, List.set_cons_succ, i64_w, i32_w]
      rfl
    -- 7: Op.load 26 t1   [guarded: some (5, true)]
    refine take_ (i := 7) (N := (some 16)) (v := ?_) (a' := ?_) #[true, true, true, true, true, true, true, true, false, false, false, false, false, false] rfl rfl (by kernel_rfl) (fun _ _ _ h => h) (Or.inl ⟨by rfl, ?_⟩) hHeld ?_ ?_
    rotate_left
    · rintro w' ⟨s0, s1, s2⟩
      have z0 : w'.cell? ⟨w.heap.size, 0, none⟩ = some (.int .u64 v.log) := (blk_cell s1 0).trans rfl
      have z1 : w'.cell? ⟨w.heap.size, 1, none⟩ = some (.int .u64 v.next) := (blk_cell s1 1).trans rfl
      have z2 : w'.cell? ⟨w.heap.size, 2, none⟩ = some (.int .u64 v.seq) := (blk_cell s1 2).trans rfl
      have z3 : w'.cell? ⟨w.heap.size, 3, none⟩ = some (.slice p.a0 v.l0.length p.c0) := (blk_cell s1 3).trans rfl
      have z4 : w'.cell? ⟨w.heap.size, 4, none⟩ = some (.slice p.a1 v.l1.length p.c1) := (blk_cell s1 4).trans rfl
      have z5 : w'.cell? ⟨w.heap.size, 5, none⟩ = some (.slice p.a2 v.l2.length p.c2) := (blk_cell s1 5).trans rfl
      have z6 : w'.cell? ⟨w.heap.size, 6, none⟩ = some (.slice p.a3 v.l3.length p.c3) := (blk_cell s1 6).trans rfl
      go_simp
      with_reducible rfl
    rotate_left
    · simp only [Act.put, List.setIfInBounds_toArray, List.set_cons_zero, List.set_cons_succ, i64_w, i32_w]
      rfl
    -- 8: Op.call { value (Operand.func 41), args := #[t15, t16], argTypes := #[26, 26] }   [guarded: some (5, true)]
    refine one_ (i := 8) (N := (some 17)) #[true, true, true, true, true, true, true, true, true, false, false, false, false, false] rfl rfl (by kernel_rfl) (by decide) (fun K hK => ?_)
    refine goes_ Try.func41 (by kernel_rfl) rfl #[.agg (vCs v q), .agg (vCs v p)] (by rfl) rfl rfl (by (try simp only [List.map_toArray, List.map_cons, List.map_nil]); first | done | rfl) ?_
    (with_reducible refine (KEPT _ (MKc.out.below hHeld.1) (HC.out.below (HB4.out.trans (hHeld.1.mono HB4.out.size)))).mono ?_)
    rintro e wD ⟨rfl, hb⟩
    refine ⟨_, rfl, ?_⟩
    have hOld := hHeld
    clear hHeld
    refine hK.out _ _ (⟨below_step hOld.1 hb, blk_below hOld.2.1 hb, blk_below hOld.2.2 hb⟩) (fun hHeld => ?_)
    clear hOld hK K
    refine norm_ (a' := ?_) ?_ ?_
    rotate_left
    · show Act.put _ (some 17) _ = _
      simp only [Act.put, List.setIfInBounds_toArray, List.set_cons_zero, List.set_cons_succ, i64_w, i32_w]
      rfl
    -- 9: Op.pick t14 t17 (const (Value.bool false))
    refine pure_ (i := 9) (N := (some 18)) (v := ?_) (a' := ?_) #[true, true, true, true, true, true, true, true, true, true, false, false, false, false] rfl rfl (by kernel_rfl) (fun _ _ _ h => h) (Or.inl ⟨by rfl, ?_⟩) ?_ ?_
    rotate_left
    · intro w'
      go_simp
      with_reducible rfl
    rotate_left
    · simp only [Act.put, List.setIfInBounds_toArray, List.set_cons_zero, List.set_cons_succ, i64_w, i32_w]
      rfl
    -- 10: Op.move t18
    refine pure_ (i := 10) (N := (some 19)) (v := ?_) (a' := ?_) #[true, true, true, true, true, true, true, true, true, true, true, false, false, false] rfl rfl (by kernel_rfl) (fun _ _ _ h => h) (Or.inl ⟨by rfl, ?_⟩) ?_ ?_
    rotate_left
    · intro w'
      go_simp
      with_reducible rfl
    rotate_left
    · simp only [Act.put, List.setIfInBounds_toArray, List.set_cons_zero, List.set_cons_succ, i64_w, i32_w]
      rfl
    -- 11: Op.call { value (Operand.func 53), args := #[], argTypes := #[] }   [guarded: some (10, true)]
    refine one_ (i := 11) (N := (some 20)) #[true, true, true, true, true, true, true, true, true, true, true, true, false, false] rfl rfl (by kernel_rfl) (by decide) (fun K hK => ?_)
    refine goes_ Try.func53 (by kernel_rfl) rfl #[] (by rfl) rfl rfl (by (try simp only [List.map_toArray, List.map_cons, List.map_nil]); first | done | rfl) ?_
    (with_reducible refine (awake14_calls _).mono ?_)
    rintro e wE ⟨rfl, hb⟩
    refine ⟨_, rfl, ?_⟩
    have hOld := hHeld
    clear hHeld
    refine hK.out _ _ (⟨below_step hOld.1 hb, blk_below hOld.2.1 hb, blk_below hOld.2.2 hb⟩) (fun hHeld => ?_)
    clear hOld hK K
    refine norm_ (a' := ?_) ?_ ?_
    rotate_left
    · show Act.put _ (some 20) _ = _
      simp only [Act.put, List.setIfInBounds_toArray, List.set_cons_zero, List.set_cons_succ, i64_w, i32_w]
      rfl
    -- 12: Op.pick t19 t20 (const (Value.bool false))
    refine pure_ (i := 12) (N := (some 21)) (v := ?_) (a' := ?_) #[true, true, true, true, true, true, true, true, true, true, true, true, true, false] rfl rfl (by kernel_rfl) (fun _ _ _ h => h) (Or.inl ⟨by rfl, ?_⟩) ?_ ?_
    rotate_left
    · intro w'
      go_simp
      with_reducible rfl
    rotate_left
    · simp only [Act.put, List.setIfInBounds_toArray, List.set_cons_zero, List.set_cons_succ, i64_w, i32_w]
      rfl
    -- 13: Op.assign t21
    refine pure_ (i := 13) (N := (some 2)) (v := ?_) (a' := ?_) #[true, true, true, true, true, true, true, true, true, true, true, true, true, true] rfl rfl (by kernel_rfl) (fun _ _ _ h => h) (Or.inl ⟨by rfl, ?_⟩) ?_ ?_
    rotate_left
    · intro w'
      go_simp
      with_reducible rfl
    rotate_left
    · simp only [Act.put, List.setIfInBounds_toArray, List.set_cons_zero, List.set_cons_succ, i64_w, i32_w]
      rfl
    refine done_ (by kernel_rfl) ?_
    have HBF := Aside0.mk (HB4.out.trans (hHeld.1.mono HB4.out.size))
    clear hHeld
    go_wp2_with fail
    go_ret
    exact ⟨rfl, HBF.out⟩
end Go.Proofs.Ytkjepfofiegcdaa.V
