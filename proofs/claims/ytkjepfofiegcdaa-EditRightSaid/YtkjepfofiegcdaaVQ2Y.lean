import Derived.Test.YtkjepfofiegcdaaVA2Y
import Derived.Test.YtkjepfofiegcdaaVE10Y
import Derived.Test.YtkjepfofiegcdaaVH1Y
/- The law EditRight (16), walked. Conditions: the tables' numbers are such as the machine has. -/
namespace Go.Proofs.Ytkjepfofiegcdaa.V
set_option linter.unusedVariables false
set_option linter.unusedSimpArgs false
open Go.RowKit Go.Proofs.YtkjepfofiegcdaaW.PrintWords Go.Proofs.YtkjepfofiegcdaaW.PrintLast Go.Proofs.YtkjepfofiegcdaaW.PrintMore Go.Proofs.Ytkjepfofiegcdaa.PB14
set_option maxHeartbeats 8000000 in
set_option maxRecDepth 100000 in
theorem editRight_calls (w : World) (a b : Ver) (p q : Pl) (ha : VC w a p) (hb0 : VC w b q) (hWa : VW a) (hWb : VW b) (n : Int) : Calls Try.prog 16 #[.agg (vCs a p), .agg (vCs b q), .int .i64 n] w fun e w' => e = .returned (.bool true) ∧ Below w.heap.size w w' := by
  have HA := Aside0.mk ha
  have HBb := Aside0.mk hb0
  have HW := Aside0.mk hWa
  have HB1 := Aside0.mk (below_alloc ((Below.refl w.heap.size w).alloc (Nat.le_refl _) (.cells (vCs a p) 26)) (.cells (vCs b q) 26))
  have XA1 := Aside0.mk (blk_alloc (blk_new w (.cells (vCs a p) 26)) (.cells (vCs b q) 26))
  have XB1 := Aside0.mk (blk_new (w.alloc (.cells (vCs a p) 26)) (.cells (vCs b q) 26))
  clear ha hb0 hWa hWb
  go_enter Try.func16, Try.ntmps16
  go_upto_region 1 with (fail)
  generalize hgb : (w.alloc (.cells (vCs a p) 26)).heap.size = gb at *
  have e1 : w.heap.size + 1 = gb := by rw [← hgb]; simp
  try rw [e1]
  clear hgb e1
  generalize (w.alloc (.cells (vCs a p) 26)).alloc (.cells (vCs b q) 26) = w1 at *
  by_cases hm : manyP a
  · have MC := many51_calls w1 a p
    rw [decide_eq_true hm] at MC
    clear hm
    have a_0 : w1.cell? ⟨w.heap.size, 0, none⟩ = some (.int .u64 a.log) := (blk_cell XA1.out 0).trans rfl
    have a_1 : w1.cell? ⟨w.heap.size, 1, none⟩ = some (.int .u64 a.next) := (blk_cell XA1.out 1).trans rfl
    have a_2 : w1.cell? ⟨w.heap.size, 2, none⟩ = some (.int .u64 a.seq) := (blk_cell XA1.out 2).trans rfl
    have a_3 : w1.cell? ⟨w.heap.size, 3, none⟩ = some (.slice p.a0 a.l0.length p.c0) := (blk_cell XA1.out 3).trans rfl
    have a_4 : w1.cell? ⟨w.heap.size, 4, none⟩ = some (.slice p.a1 a.l1.length p.c1) := (blk_cell XA1.out 4).trans rfl
    have a_5 : w1.cell? ⟨w.heap.size, 5, none⟩ = some (.slice p.a2 a.l2.length p.c2) := (blk_cell XA1.out 5).trans rfl
    have a_6 : w1.cell? ⟨w.heap.size, 6, none⟩ = some (.slice p.a3 a.l3.length p.c3) := (blk_cell XA1.out 6).trans rfl
    go_wp2_with fail
    refine MC.mono ?_
    rintro x w2 ⟨rfl, hb⟩
    have HB2 := Aside0.mk (below_step HB1.out hb)
    clear hb MC
    clear a_0 a_1 a_2 a_3 a_4 a_5 a_6
    go_wp2_with fail
    refine (awake14_calls _).mono ?_
    rintro x w9 ⟨rfl, hb⟩
    have HB9 := Aside0.mk (below_step HB2.out hb)
    clear hb
    go_wp2_with fail
    go_ret
    exact ⟨rfl, HB9.out⟩
  · have MC := many51_calls w1 a p
    rw [decide_eq_false hm] at MC
    clear hm
    have a_0 : w1.cell? ⟨w.heap.size, 0, none⟩ = some (.int .u64 a.log) := (blk_cell XA1.out 0).trans rfl
    have a_1 : w1.cell? ⟨w.heap.size, 1, none⟩ = some (.int .u64 a.next) := (blk_cell XA1.out 1).trans rfl
    have a_2 : w1.cell? ⟨w.heap.size, 2, none⟩ = some (.int .u64 a.seq) := (blk_cell XA1.out 2).trans rfl
    have a_3 : w1.cell? ⟨w.heap.size, 3, none⟩ = some (.slice p.a0 a.l0.length p.c0) := (blk_cell XA1.out 3).trans rfl
    have a_4 : w1.cell? ⟨w.heap.size, 4, none⟩ = some (.slice p.a1 a.l1.length p.c1) := (blk_cell XA1.out 4).trans rfl
    have a_5 : w1.cell? ⟨w.heap.size, 5, none⟩ = some (.slice p.a2 a.l2.length p.c2) := (blk_cell XA1.out 5).trans rfl
    have a_6 : w1.cell? ⟨w.heap.size, 6, none⟩ = some (.slice p.a3 a.l3.length p.c3) := (blk_cell XA1.out 6).trans rfl
    go_wp2_with fail
    refine MC.mono ?_
    rintro x w2 ⟨rfl, hb⟩
    have HB2 := Aside0.mk (below_step HB1.out hb)
    have XA2 := Aside0.mk (blk_below XA1.out hb)
    have XB2 := Aside0.mk (blk_below XB1.out hb)
    clear hb MC
    clear a_0 a_1 a_2 a_3 a_4 a_5 a_6
    have b_0 : w2.cell? ⟨gb, 0, none⟩ = some (.int .u64 b.log) := (blk_cell XB2.out 0).trans rfl
    have b_1 : w2.cell? ⟨gb, 1, none⟩ = some (.int .u64 b.next) := (blk_cell XB2.out 1).trans rfl
    have b_2 : w2.cell? ⟨gb, 2, none⟩ = some (.int .u64 b.seq) := (blk_cell XB2.out 2).trans rfl
    have b_3 : w2.cell? ⟨gb, 3, none⟩ = some (.slice q.a0 b.l0.length q.c0) := (blk_cell XB2.out 3).trans rfl
    have b_4 : w2.cell? ⟨gb, 4, none⟩ = some (.slice q.a1 b.l1.length q.c1) := (blk_cell XB2.out 4).trans rfl
    have b_5 : w2.cell? ⟨gb, 5, none⟩ = some (.slice q.a2 b.l2.length q.c2) := (blk_cell XB2.out 5).trans rfl
    have b_6 : w2.cell? ⟨gb, 6, none⟩ = some (.slice q.a3 b.l3.length q.c3) := (blk_cell XB2.out 6).trans rfl
    by_cases hm : manyP b
    · have MC := many51_calls w2 b q
      rw [decide_eq_true hm] at MC
      clear hm
      go_wp2_with fail
      refine MC.mono ?_
      rintro x w3 ⟨rfl, hb⟩
      have HB3 := Aside0.mk (below_step HB2.out hb)
      clear hb MC
      clear b_0 b_1 b_2 b_3 b_4 b_5 b_6
      go_wp2_with fail
      refine (awake14_calls _).mono ?_
      rintro x w9 ⟨rfl, hb⟩
      have HB9 := Aside0.mk (below_step HB3.out hb)
      clear hb
      go_wp2_with fail
      go_ret
      exact ⟨rfl, HB9.out⟩
    · have MC := many51_calls w2 b q
      rw [decide_eq_false hm] at MC
      clear hm
      go_wp2_with fail
      refine MC.mono ?_
      rintro x w3 ⟨rfl, hb⟩
      have HB3 := Aside0.mk (below_step HB2.out hb)
      have XA3 := Aside0.mk (blk_below XA2.out hb)
      have XB3 := Aside0.mk (blk_below XB2.out hb)
      clear hb MC
      clear b_0 b_1 b_2 b_3 b_4 b_5 b_6
      obtain ⟨ra, hra⟩ : ∃ r, r = decide (rightP a) := ⟨_, rfl⟩
      obtain ⟨sab, hsab⟩ : ∃ r, r = decide (sameP a b) := ⟨_, rfl⟩
      obtain ⟨sz, hsz⟩ : ∃ r, r = sizeV a n := ⟨_, rfl⟩
      have K62 := Aside0.mk (fun (w' : World) (h : Below w.heap.size w w') => right_calls w' a p (HA.out.below h) HW.out)
      have K63 := Aside0.mk (fun (w' : World) (h : Below w.heap.size w w') => rightR_calls w' a p (HA.out.below h))
      have K61 := Aside0.mk (fun (w' : World) (h : Below w.heap.size w w') => same61_calls w' a b p q (HA.out.below h) (HBb.out.below h))
      have K56 := Aside0.mk (fun (w' : World) (h : Below w.heap.size w w') => sameV_calls w' a b p q (HA.out.below h) (HBb.out.below h))
      have K61a := Aside0.mk (fun (w' : World) (h : Below w.heap.size w w') => same61_calls w' a a p p (HA.out.below h) (HA.out.below h))
      have K64 := Aside0.mk (fun (w' : World) (h : Below w.heap.size w w') => size_calls w' a p (HA.out.below h) n)
      have K65 := Aside0.mk (fun (w' : World) (h : Below w.heap.size w w') => sizeR_calls w' a p (HA.out.below h) n)
      simp only [← hra] at K62 K63
      simp only [← hsab] at K61 K56
      simp only [← hsz] at K64 K65
      have saa : decide (sameP a a) = true := decide_eq_true (sameP_iff.mpr rfl)
      simp only [saa] at K61a
      have sff : decide (sameP firstV firstV) = true := decide_eq_true (sameP_iff.mpr rfl)
      have KF := Aside0.mk (fun (w' : World) => sameV_calls w' firstV firstV firstP firstP (vcF w') (vcF w'))
      simp only [sff] at KF
      have q1 : (ra == ra) = true := beq_self_eq_true _
      have q2 : (sab == sab) = true := beq_self_eq_true _
      have q3 : (sz == sz) = true := beq_self_eq_true _
      clear hra hsab hsz saa sff
      go_upto_region 3 with (fail)
      refine start_ (n := 37) (S := (fun w' => Below w.heap.size w w' ∧ w'.heap[w.heap.size]? = some (.cells (vCs a p) 26 (0, 0)) ∧ w'.heap[gb]? = some (.cells (vCs b q) 26 (0, 0)))) (ds := []) #[false, false, false, false, false, false, false, false, false, false, false, false, false, false, false, false, false, false, false, false, false, false, false, false, false, false, false, false, false, false, false, false, false, false, false, false, false] (by kernel_rfl) rfl rfl ⟨below_drew HB3.out, blk_drew XA3.out, blk_drew XB3.out⟩ (fun hHeld => ?_)
      -- 0: Op.load 26 t3
      refine take_ (i := 0) (N := (some 14)) (v := ?_) (a' := ?_) #[true, false, false, false, false, false, false, false, false, false, false, false, false, false, false, false, false, false, false, false, false, false, false, false, false, false, false, false, false, false, false, false, false, false, false, false, false] rfl rfl (by kernel_rfl) (fun _ _ _ h => h) (Or.inl ⟨by rfl, ?_⟩) hHeld ?_ ?_
      rotate_left
      · rintro w' ⟨s0, s1, s2⟩
        have z0 : w'.cell? ⟨w.heap.size, 0, none⟩ = some (.int .u64 a.log) := (blk_cell s1 0).trans rfl
        have z1 : w'.cell? ⟨w.heap.size, 1, none⟩ = some (.int .u64 a.next) := (blk_cell s1 1).trans rfl
        have z2 : w'.cell? ⟨w.heap.size, 2, none⟩ = some (.int .u64 a.seq) := (blk_cell s1 2).trans rfl
        have z3 : w'.cell? ⟨w.heap.size, 3, none⟩ = some (.slice p.a0 a.l0.length p.c0) := (blk_cell s1 3).trans rfl
        have z4 : w'.cell? ⟨w.heap.size, 4, none⟩ = some (.slice p.a1 a.l1.length p.c1) := (blk_cell s1 4).trans rfl
        have z5 : w'.cell? ⟨w.heap.size, 5, none⟩ = some (.slice p.a2 a.l2.length p.c2) := (blk_cell s1 5).trans rfl
        have z6 : w'.cell? ⟨w.heap.size, 6, none⟩ = some (.slice p.a3 a.l3.length p.c3) := (blk_cell s1 6).trans rfl
        go_simp
        with_reducible rfl
      rotate_left
      · simp only [Act.put, List.setIfInBounds_toArray, List.set_cons_zero, List.set_cons_succ, i64_w, i32_w]
        rfl
      -- 2: Op.load 26 t3
      refine take_ (i := 2) (N := (some 16)) (v := ?_) (a' := ?_) #[true, false, true, false, false, false, false, false, false, false, false, false, false, false, false, false, false, false, false, false, false, false, false, false, false, false, false, false, false, false, false, false, false, false, false, false, false] rfl rfl (by kernel_rfl) (fun _ _ _ h => h) (Or.inl ⟨by rfl, ?_⟩) hHeld ?_ ?_
      rotate_left
      · rintro w' ⟨s0, s1, s2⟩
        have z0 : w'.cell? ⟨w.heap.size, 0, none⟩ = some (.int .u64 a.log) := (blk_cell s1 0).trans rfl
        have z1 : w'.cell? ⟨w.heap.size, 1, none⟩ = some (.int .u64 a.next) := (blk_cell s1 1).trans rfl
        have z2 : w'.cell? ⟨w.heap.size, 2, none⟩ = some (.int .u64 a.seq) := (blk_cell s1 2).trans rfl
        have z3 : w'.cell? ⟨w.heap.size, 3, none⟩ = some (.slice p.a0 a.l0.length p.c0) := (blk_cell s1 3).trans rfl
        have z4 : w'.cell? ⟨w.heap.size, 4, none⟩ = some (.slice p.a1 a.l1.length p.c1) := (blk_cell s1 4).trans rfl
        have z5 : w'.cell? ⟨w.heap.size, 5, none⟩ = some (.slice p.a2 a.l2.length p.c2) := (blk_cell s1 5).trans rfl
        have z6 : w'.cell? ⟨w.heap.size, 6, none⟩ = some (.slice p.a3 a.l3.length p.c3) := (blk_cell s1 6).trans rfl
        go_simp
        with_reducible rfl
      rotate_left
      · simp only [Act.put, List.setIfInBounds_toArray, List.set_cons_zero, List.set_cons_succ, i64_w, i32_w]
        rfl
      -- 1: Op.call { value (Operand.func 62), args := #[t14], argTypes := #[26] }
      refine one_ (i := 1) (N := (some 15)) #[true, true, true, false, false, false, false, false, false, false, false, false, false, false, false, false, false, false, false, false, false, false, false, false, false, false, false, false, false, false, false, false, false, false, false, false, false] rfl rfl (by kernel_rfl) (by decide) (fun K hK => ?_)
      refine goes_ Try.func62 (by kernel_rfl) rfl #[.agg (vCs a p)] (by rfl) rfl rfl (by (try simp only [List.map_toArray, List.map_cons, List.map_nil]); first | done | rfl) ?_
      (with_reducible refine (K62.out _ hHeld.1).mono ?_)
      rintro e wA ⟨rfl, hb⟩
      refine ⟨_, rfl, ?_⟩
      have hOld := hHeld
      clear hHeld
      refine hK.out _ _ (⟨below_step hOld.1 hb, blk_below hOld.2.1 hb, blk_below hOld.2.2 hb⟩) (fun hHeld => ?_)
      clear hOld hK K
      refine norm_ (a' := ?_) ?_ ?_
      rotate_left
      · show Act.put _ (some 15) _ = _
        simp only [Act.put, List.setIfInBounds_toArray, List.set_cons_zero, List.set_cons_succ, i64_w, i32_w]
        rfl
      -- 3: Op.call { value (Operand.func 63), args := #[t16], argTypes := #[26] }
      refine one_ (i := 3) (N := (some 17)) #[true, true, true, true, false, false, false, false, false, false, false, false, false, false, false, false, false, false, false, false, false, false, false, false, false, false, false, false, false, false, false, false, false, false, false, false, false] rfl rfl (by kernel_rfl) (by decide) (fun K hK => ?_)
      refine goes_ Try.func63 (by kernel_rfl) rfl #[.agg (vCs a p)] (by rfl) rfl rfl (by (try simp only [List.map_toArray, List.map_cons, List.map_nil]); first | done | rfl) ?_
      (with_reducible refine (K63.out _ hHeld.1).mono ?_)
      rintro e wB ⟨rfl, hb⟩
      refine ⟨_, rfl, ?_⟩
      have hOld := hHeld
      clear hHeld
      refine hK.out _ _ (⟨below_step hOld.1 hb, blk_below hOld.2.1 hb, blk_below hOld.2.2 hb⟩) (fun hHeld => ?_)
      clear hOld hK K
      refine norm_ (a' := ?_) ?_ ?_
      rotate_left
      · show Act.put _ (some 17) _ = _
        simp only [Act.put, List.setIfInBounds_toArray, List.set_cons_zero, List.set_cons_succ, i64_w, i32_w]
        rfl
      -- 4: Op.binOp BinOp.eql 4 t15 t17 4
      refine pure_ (i := 4) (N := (some 18)) (v := ?_) (a' := ?_) #[true, true, true, true, true, false, false, false, false, false, false, false, false, false, false, false, false, false, false, false, false, false, false, false, false, false, false, false, false, false, false, false, false, false, false, false, false] rfl rfl (by kernel_rfl) (fun _ _ _ h => h) (Or.inl ⟨by rfl, ?_⟩) ?_ ?_
      rotate_left
      · intro w'
        go_simp
        with_reducible rfl
      rotate_left
      · simp only [Act.put, List.setIfInBounds_toArray, List.set_cons_zero, List.set_cons_succ, i64_w, i32_w]
        rfl
      -- 5: Op.move t18
      refine pure_ (i := 5) (N := (some 19)) (v := ?_) (a' := ?_) #[true, true, true, true, true, true, false, false, false, false, false, false, false, false, false, false, false, false, false, false, false, false, false, false, false, false, false, false, false, false, false, false, false, false, false, false, false] rfl rfl (by kernel_rfl) (fun _ _ _ h => h) (Or.inl ⟨by rfl, ?_⟩) ?_ ?_
      rotate_left
      · intro w'
        go_simp
        with_reducible rfl
      rotate_left
      · simp only [Act.put, List.setIfInBounds_toArray, List.set_cons_zero, List.set_cons_succ, i64_w, i32_w]
        rfl
      -- 6: Op.load 26 t3   [guarded: some (5, true)]
      refine take_ (i := 6) (N := (some 20)) (v := ?_) (a' := ?_) #[true, true, true, true, true, true, true, false, false, false, false, false, false, false, false, false, false, false, false, false, false, false, false, false, false, false, false, false, false, false, false, false, false, false, false, false, false] rfl rfl (by kernel_rfl) (fun _ _ _ h => h) (Or.inl ⟨by rfl, ?_⟩) hHeld ?_ ?_
      rotate_left
      · rintro w' ⟨s0, s1, s2⟩
        have z0 : w'.cell? ⟨w.heap.size, 0, none⟩ = some (.int .u64 a.log) := (blk_cell s1 0).trans rfl
        have z1 : w'.cell? ⟨w.heap.size, 1, none⟩ = some (.int .u64 a.next) := (blk_cell s1 1).trans rfl
        have z2 : w'.cell? ⟨w.heap.size, 2, none⟩ = some (.int .u64 a.seq) := (blk_cell s1 2).trans rfl
        have z3 : w'.cell? ⟨w.heap.size, 3, none⟩ = some (.slice p.a0 a.l0.length p.c0) := (blk_cell s1 3).trans rfl
        have z4 : w'.cell? ⟨w.heap.size, 4, none⟩ = some (.slice p.a1 a.l1.length p.c1) := (blk_cell s1 4).trans rfl
        have z5 : w'.cell? ⟨w.heap.size, 5, none⟩ = some (.slice p.a2 a.l2.length p.c2) := (blk_cell s1 5).trans rfl
        have z6 : w'.cell? ⟨w.heap.size, 6, none⟩ = some (.slice p.a3 a.l3.length p.c3) := (blk_cell s1 6).trans rfl
        go_simp
        with_reducible rfl
      rotate_left
      · simp only [Act.put, List.setIfInBounds_toArray, List.set_cons_zero, List.set_cons_succ, i64_w, i32_w]
        rfl
      -- 7: Op.load 26 t4   [guarded: some (5, true)]
      refine take_ (i := 7) (N := (some 21)) (v := ?_) (a' := ?_) #[true, true, true, true, true, true, true, true, false, false, false, false, false, false, false, false, false, false, false, false, false, false, false, false, false, false, false, false, false, false, false, false, false, false, false, false, false] rfl rfl (by kernel_rfl) (fun _ _ _ h => h) (Or.inl ⟨by rfl, ?_⟩) hHeld ?_ ?_
      rotate_left
      · rintro w' ⟨s0, s1, s2⟩
        have z0 : w'.cell? ⟨gb, 0, none⟩ = some (.int .u64 b.log) := (blk_cell s2 0).trans rfl
        have z1 : w'.cell? ⟨gb, 1, none⟩ = some (.int .u64 b.next) := (blk_cell s2 1).trans rfl
        have z2 : w'.cell? ⟨gb, 2, none⟩ = some (.int .u64 b.seq) := (blk_cell s2 2).trans rfl
        have z3 : w'.cell? ⟨gb, 3, none⟩ = some (.slice q.a0 b.l0.length q.c0) := (blk_cell s2 3).trans rfl
        have z4 : w'.cell? ⟨gb, 4, none⟩ = some (.slice q.a1 b.l1.length q.c1) := (blk_cell s2 4).trans rfl
        have z5 : w'.cell? ⟨gb, 5, none⟩ = some (.slice q.a2 b.l2.length q.c2) := (blk_cell s2 5).trans rfl
        have z6 : w'.cell? ⟨gb, 6, none⟩ = some (.slice q.a3 b.l3.length q.c3) := (blk_cell s2 6).trans rfl
        go_simp
        with_reducible rfl
      rotate_left
      · simp only [Act.put, List.setIfInBounds_toArray, List.set_cons_zero, List.set_cons_succ, i64_w, i32_w]
        rfl
      -- 9: Op.load 26 t3   [guarded: some (5, true)]
      refine take_ (i := 9) (N := (some 23)) (v := ?_) (a' := ?_) #[true, true, true, true, true, true, true, true, false, true, false, false, false, false, false, false, false, false, false, false, false, false, false, false, false, false, false, false, false, false, false, false, false, false, false, false, false] rfl rfl (by kernel_rfl) (fun _ _ _ h => h) (Or.inl ⟨by rfl, ?_⟩) hHeld ?_ ?_
      rotate_left
      · rintro w' ⟨s0, s1, s2⟩
        have z0 : w'.cell? ⟨w.heap.size, 0, none⟩ = some (.int .u64 a.log) := (blk_cell s1 0).trans rfl
        have z1 : w'.cell? ⟨w.heap.size, 1, none⟩ = some (.int .u64 a.next) := (blk_cell s1 1).trans rfl
        have z2 : w'.cell? ⟨w.heap.size, 2, none⟩ = some (.int .u64 a.seq) := (blk_cell s1 2).trans rfl
        have z3 : w'.cell? ⟨w.heap.size, 3, none⟩ = some (.slice p.a0 a.l0.length p.c0) := (blk_cell s1 3).trans rfl
        have z4 : w'.cell? ⟨w.heap.size, 4, none⟩ = some (.slice p.a1 a.l1.length p.c1) := (blk_cell s1 4).trans rfl
        have z5 : w'.cell? ⟨w.heap.size, 5, none⟩ = some (.slice p.a2 a.l2.length p.c2) := (blk_cell s1 5).trans rfl
        have z6 : w'.cell? ⟨w.heap.size, 6, none⟩ = some (.slice p.a3 a.l3.length p.c3) := (blk_cell s1 6).trans rfl
        go_simp
        with_reducible rfl
      rotate_left
      · simp only [Act.put, List.setIfInBounds_toArray, List.set_cons_zero, List.set_cons_succ, i64_w, i32_w]
        rfl
      -- 10: Op.load 26 t4   [guarded: some (5, true)]
      refine take_ (i := 10) (N := (some 24)) (v := ?_) (a' := ?_) #[true, true, true, true, true, true, true, true, false, true, true, false, false, false, false, false, false, false, false, false, false, false, false, false, false, false, false, false, false, false, false, false, false, false, false, false, false] rfl rfl (by kernel_rfl) (fun _ _ _ h => h) (Or.inl ⟨by rfl, ?_⟩) hHeld ?_ ?_
      rotate_left
      · rintro w' ⟨s0, s1, s2⟩
        have z0 : w'.cell? ⟨gb, 0, none⟩ = some (.int .u64 b.log) := (blk_cell s2 0).trans rfl
        have z1 : w'.cell? ⟨gb, 1, none⟩ = some (.int .u64 b.next) := (blk_cell s2 1).trans rfl
        have z2 : w'.cell? ⟨gb, 2, none⟩ = some (.int .u64 b.seq) := (blk_cell s2 2).trans rfl
        have z3 : w'.cell? ⟨gb, 3, none⟩ = some (.slice q.a0 b.l0.length q.c0) := (blk_cell s2 3).trans rfl
        have z4 : w'.cell? ⟨gb, 4, none⟩ = some (.slice q.a1 b.l1.length q.c1) := (blk_cell s2 4).trans rfl
        have z5 : w'.cell? ⟨gb, 5, none⟩ = some (.slice q.a2 b.l2.length q.c2) := (blk_cell s2 5).trans rfl
        have z6 : w'.cell? ⟨gb, 6, none⟩ = some (.slice q.a3 b.l3.length q.c3) := (blk_cell s2 6).trans rfl
        go_simp
        with_reducible rfl
      rotate_left
      · simp only [Act.put, List.setIfInBounds_toArray, List.set_cons_zero, List.set_cons_succ, i64_w, i32_w]
        rfl
      -- 8: Op.call { value (Operand.func 61), args := #[t20, t21], argTypes := #[26, 26] }   [guarded: some (5, true)]
      refine one_ (i := 8) (N := (some 22)) #[true, true, true, true, true, true, true, true, true, true, true, false, false, false, false, false, false, false, false, false, false, false, false, false, false, false, false, false, false, false, false, false, false, false, false, false, false] rfl rfl (by kernel_rfl) (by decide) (fun K hK => ?_)
      refine goes_ Try.func61 (by kernel_rfl) rfl #[.agg (vCs a p), .agg (vCs b q)] (by rfl) rfl rfl (by (try simp only [List.map_toArray, List.map_cons, List.map_nil]); first | done | rfl) ?_
      (with_reducible refine (K61.out _ hHeld.1).mono ?_)
      rintro e wC ⟨rfl, hb⟩
      refine ⟨_, rfl, ?_⟩
      have hOld := hHeld
      clear hHeld
      refine hK.out _ _ (⟨below_step hOld.1 hb, blk_below hOld.2.1 hb, blk_below hOld.2.2 hb⟩) (fun hHeld => ?_)
      clear hOld hK K
      refine norm_ (a' := ?_) ?_ ?_
      rotate_left
      · show Act.put _ (some 22) _ = _
        simp only [Act.put, List.setIfInBounds_toArray, List.set_cons_zero, List.set_cons_succ, i64_w, i32_w]
        rfl
      -- 11: Op.call { value (Operand.func 56), args := #[t23, t24], argTypes := #[26, 26] }   [guarded: some (5, true)]
      refine one_ (i := 11) (N := (some 25)) #[true, true, true, true, true, true, true, true, true, true, true, true, false, false, false, false, false, false, false, false, false, false, false, false, false, false, false, false, false, false, false, false, false, false, false, false, false] rfl rfl (by kernel_rfl) (by decide) (fun K hK => ?_)
      refine goes_ Try.func56 (by kernel_rfl) rfl #[.agg (vCs a p), .agg (vCs b q)] (by rfl) rfl rfl (by (try simp only [List.map_toArray, List.map_cons, List.map_nil]); first | done | rfl) ?_
      (with_reducible refine (K56.out _ hHeld.1).mono ?_)
      rintro e wD ⟨rfl, hb⟩
      refine ⟨_, rfl, ?_⟩
      have hOld := hHeld
      clear hHeld
      refine hK.out _ _ (⟨below_step hOld.1 hb, blk_below hOld.2.1 hb, blk_below hOld.2.2 hb⟩) (fun hHeld => ?_)
      clear hOld hK K
      refine norm_ (a' := ?_) ?_ ?_
      rotate_left
      · show Act.put _ (some 25) _ = _
        simp only [Act.put, List.setIfInBounds_toArray, List.set_cons_zero, List.set_cons_succ, i64_w, i32_w]
        rfl
      -- 12: Op.binOp BinOp.eql 4 t22 t25 4   [guarded: some (5, true)]
      refine pure_ (i := 12) (N := (some 26)) (v := ?_) (a' := ?_) #[true, true, true, true, true, true, true, true, true, true, true, true, true, false, false, false, false, false, false, false, false, false, false, false, false, false, false, false, false, false, false, false, false, false, false, false, false] rfl rfl (by kernel_rfl) (fun _ _ _ h => h) (Or.inl ⟨by rfl, ?_⟩) ?_ ?_
      rotate_left
      · intro w'
        go_simp
        with_reducible rfl
      rotate_left
      · simp only [Act.put, List.setIfInBounds_toArray, List.set_cons_zero, List.set_cons_succ, i64_w, i32_w]
        rfl
      -- 13: Op.pick t19 t26 (const (Value.bool false))
      refine pure_ (i := 13) (N := (some 27)) (v := ?_) (a' := ?_) #[true, true, true, true, true, true, true, true, true, true, true, true, true, true, false, false, false, false, false, false, false, false, false, false, false, false, false, false, false, false, false, false, false, false, false, false, false] rfl rfl (by kernel_rfl) (fun _ _ _ h => h) (Or.inl ⟨by rfl, ?_⟩) ?_ ?_
      rotate_left
      · intro w'
        go_simp
        with_reducible rfl
      rotate_left
      · simp only [Act.put, List.setIfInBounds_toArray, List.set_cons_zero, List.set_cons_succ, i64_w, i32_w]
        rfl
      -- 14: Op.move t27
      refine pure_ (i := 14) (N := (some 28)) (v := ?_) (a' := ?_) #[true, true, true, true, true, true, true, true, true, true, true, true, true, true, true, false, false, false, false, false, false, false, false, false, false, false, false, false, false, false, false, false, false, false, false, false, false] rfl rfl (by kernel_rfl) (fun _ _ _ h => h) (Or.inl ⟨by rfl, ?_⟩) ?_ ?_
      rotate_left
      · intro w'
        go_simp
        with_reducible rfl
      rotate_left
      · simp only [Act.put, List.setIfInBounds_toArray, List.set_cons_zero, List.set_cons_succ, i64_w, i32_w]
        rfl
      -- 15: Op.load 26 t3   [guarded: some (14, true)]
      refine take_ (i := 15) (N := (some 29)) (v := ?_) (a' := ?_) #[true, true, true, true, true, true, true, true, true, true, true, true, true, true, true, true, false, false, false, false, false, false, false, false, false, false, false, false, false, false, false, false, false, false, false, false, false] rfl rfl (by kernel_rfl) (fun _ _ _ h => h) (Or.inl ⟨by rfl, ?_⟩) hHeld ?_ ?_
      rotate_left
      · rintro w' ⟨s0, s1, s2⟩
        have z0 : w'.cell? ⟨w.heap.size, 0, none⟩ = some (.int .u64 a.log) := (blk_cell s1 0).trans rfl
        have z1 : w'.cell? ⟨w.heap.size, 1, none⟩ = some (.int .u64 a.next) := (blk_cell s1 1).trans rfl
        have z2 : w'.cell? ⟨w.heap.size, 2, none⟩ = some (.int .u64 a.seq) := (blk_cell s1 2).trans rfl
        have z3 : w'.cell? ⟨w.heap.size, 3, none⟩ = some (.slice p.a0 a.l0.length p.c0) := (blk_cell s1 3).trans rfl
        have z4 : w'.cell? ⟨w.heap.size, 4, none⟩ = some (.slice p.a1 a.l1.length p.c1) := (blk_cell s1 4).trans rfl
        have z5 : w'.cell? ⟨w.heap.size, 5, none⟩ = some (.slice p.a2 a.l2.length p.c2) := (blk_cell s1 5).trans rfl
        have z6 : w'.cell? ⟨w.heap.size, 6, none⟩ = some (.slice p.a3 a.l3.length p.c3) := (blk_cell s1 6).trans rfl
        go_simp
        with_reducible rfl
      rotate_left
      · simp only [Act.put, List.setIfInBounds_toArray, List.set_cons_zero, List.set_cons_succ, i64_w, i32_w]
        rfl
      -- 16: Op.load 26 t3   [guarded: some (14, true)]
      refine take_ (i := 16) (N := (some 30)) (v := ?_) (a' := ?_) #[true, true, true, true, true, true, true, true, true, true, true, true, true, true, true, true, true, false, false, false, false, false, false, false, false, false, false, false, false, false, false, false, false, false, false, false, false] rfl rfl (by kernel_rfl) (fun _ _ _ h => h) (Or.inl ⟨by rfl, ?_⟩) hHeld ?_ ?_
      rotate_left
      · rintro w' ⟨s0, s1, s2⟩
        have z0 : w'.cell? ⟨w.heap.size, 0, none⟩ = some (.int .u64 a.log) := (blk_cell s1 0).trans rfl
        have z1 : w'.cell? ⟨w.heap.size, 1, none⟩ = some (.int .u64 a.next) := (blk_cell s1 1).trans rfl
        have z2 : w'.cell? ⟨w.heap.size, 2, none⟩ = some (.int .u64 a.seq) := (blk_cell s1 2).trans rfl
        have z3 : w'.cell? ⟨w.heap.size, 3, none⟩ = some (.slice p.a0 a.l0.length p.c0) := (blk_cell s1 3).trans rfl
        have z4 : w'.cell? ⟨w.heap.size, 4, none⟩ = some (.slice p.a1 a.l1.length p.c1) := (blk_cell s1 4).trans rfl
        have z5 : w'.cell? ⟨w.heap.size, 5, none⟩ = some (.slice p.a2 a.l2.length p.c2) := (blk_cell s1 5).trans rfl
        have z6 : w'.cell? ⟨w.heap.size, 6, none⟩ = some (.slice p.a3 a.l3.length p.c3) := (blk_cell s1 6).trans rfl
        go_simp
        with_reducible rfl
      rotate_left
      · simp only [Act.put, List.setIfInBounds_toArray, List.set_cons_zero, List.set_cons_succ, i64_w, i32_w]
        rfl
      -- 17: Op.call { value (Operand.func 61), args := #[t29, t30], argTypes := #[26, 26] }   [guarded: some (14, true)]
      refine one_ (i := 17) (N := (some 31)) #[true, true, true, true, true, true, true, true, true, true, true, true, true, true, true, true, true, true, false, false, false, false, false, false, false, false, false, false, false, false, false, false, false, false, false, false, false] rfl rfl (by kernel_rfl) (by decide) (fun K hK => ?_)
      refine goes_ Try.func61 (by kernel_rfl) rfl #[.agg (vCs a p), .agg (vCs a p)] (by rfl) rfl rfl (by (try simp only [List.map_toArray, List.map_cons, List.map_nil]); first | done | rfl) ?_
      (with_reducible refine (K61a.out _ hHeld.1).mono ?_)
      rintro e wE ⟨rfl, hb⟩
      refine ⟨_, rfl, ?_⟩
      have hOld := hHeld
      clear hHeld
      refine hK.out _ _ (⟨below_step hOld.1 hb, blk_below hOld.2.1 hb, blk_below hOld.2.2 hb⟩) (fun hHeld => ?_)
      clear hOld hK K
      refine norm_ (a' := ?_) ?_ ?_
      rotate_left
      · show Act.put _ (some 31) _ = _
        simp only [Act.put, List.setIfInBounds_toArray, List.set_cons_zero, List.set_cons_succ, i64_w, i32_w]
        rfl
      -- 18: Op.pick t28 t31 (const (Value.bool false))
      refine pure_ (i := 18) (N := (some 32)) (v := ?_) (a' := ?_) #[true, true, true, true, true, true, true, true, true, true, true, true, true, true, true, true, true, true, true, false, false, false, false, false, false, false, false, false, false, false, false, false, false, false, false, false, false] rfl rfl (by kernel_rfl) (fun _ _ _ h => h) (Or.inl ⟨by rfl, ?_⟩) ?_ ?_
      rotate_left
      · intro w'
        go_simp
        with_reducible rfl
      rotate_left
      · simp only [Act.put, List.setIfInBounds_toArray, List.set_cons_zero, List.set_cons_succ, i64_w, i32_w]
        rfl
      -- 19: Op.move t32
      refine pure_ (i := 19) (N := (some 33)) (v := ?_) (a' := ?_) #[true, true, true, true, true, true, true, true, true, true, true, true, true, true, true, true, true, true, true, true, false, false, false, false, false, false, false, false, false, false, false, false, false, false, false, false, false] rfl rfl (by kernel_rfl) (fun _ _ _ h => h) (Or.inl ⟨by rfl, ?_⟩) ?_ ?_
      rotate_left
      · intro w'
        go_simp
        with_reducible rfl
      rotate_left
      · simp only [Act.put, List.setIfInBounds_toArray, List.set_cons_zero, List.set_cons_succ, i64_w, i32_w]
        rfl
      -- 20: Op.load 26 t3   [guarded: some (19, true)]
      refine take_ (i := 20) (N := (some 34)) (v := ?_) (a' := ?_) #[true, true, true, true, true, true, true, true, true, true, true, true, true, true, true, true, true, true, true, true, true, false, false, false, false, false, false, false, false, false, false, false, false, false, false, false, false] rfl rfl (by kernel_rfl) (fun _ _ _ h => h) (Or.inl ⟨by rfl, ?_⟩) hHeld ?_ ?_
      rotate_left
      · rintro w' ⟨s0, s1, s2⟩
        have z0 : w'.cell? ⟨w.heap.size, 0, none⟩ = some (.int .u64 a.log) := (blk_cell s1 0).trans rfl
        have z1 : w'.cell? ⟨w.heap.size, 1, none⟩ = some (.int .u64 a.next) := (blk_cell s1 1).trans rfl
        have z2 : w'.cell? ⟨w.heap.size, 2, none⟩ = some (.int .u64 a.seq) := (blk_cell s1 2).trans rfl
        have z3 : w'.cell? ⟨w.heap.size, 3, none⟩ = some (.slice p.a0 a.l0.length p.c0) := (blk_cell s1 3).trans rfl
        have z4 : w'.cell? ⟨w.heap.size, 4, none⟩ = some (.slice p.a1 a.l1.length p.c1) := (blk_cell s1 4).trans rfl
        have z5 : w'.cell? ⟨w.heap.size, 5, none⟩ = some (.slice p.a2 a.l2.length p.c2) := (blk_cell s1 5).trans rfl
        have z6 : w'.cell? ⟨w.heap.size, 6, none⟩ = some (.slice p.a3 a.l3.length p.c3) := (blk_cell s1 6).trans rfl
        go_simp
        with_reducible rfl
      rotate_left
      · simp only [Act.put, List.setIfInBounds_toArray, List.set_cons_zero, List.set_cons_succ, i64_w, i32_w]
        rfl
      -- 21: Op.move t2   [guarded: some (19, true)]
      refine pure_ (i := 21) (N := (some 35)) (v := ?_) (a' := ?_) #[true, true, true, true, true, true, true, true, true, true, true, true, true, true, true, true, true, true, true, true, true, true, false, false, false, false, false, false, false, false, false, false, false, false, false, false, false] rfl rfl (by kernel_rfl) (fun _ _ _ h => h) (Or.inl ⟨by rfl, ?_⟩) ?_ ?_
      rotate_left
      · intro w'
        go_simp
        with_reducible rfl
      rotate_left
      · simp only [Act.put, List.setIfInBounds_toArray, List.set_cons_zero, List.set_cons_succ, i64_w, i32_w]
        rfl
      -- 23: Op.load 26 t3   [guarded: some (19, true)]
      refine take_ (i := 23) (N := (some 37)) (v := ?_) (a' := ?_) #[true, true, true, true, true, true, true, true, true, true, true, true, true, true, true, true, true, true, true, true, true, true, false, true, false, false, false, false, false, false, false, false, false, false, false, false, false] rfl rfl (by kernel_rfl) (fun _ _ _ h => h) (Or.inl ⟨by rfl, ?_⟩) hHeld ?_ ?_
      rotate_left
      · rintro w' ⟨s0, s1, s2⟩
        have z0 : w'.cell? ⟨w.heap.size, 0, none⟩ = some (.int .u64 a.log) := (blk_cell s1 0).trans rfl
        have z1 : w'.cell? ⟨w.heap.size, 1, none⟩ = some (.int .u64 a.next) := (blk_cell s1 1).trans rfl
        have z2 : w'.cell? ⟨w.heap.size, 2, none⟩ = some (.int .u64 a.seq) := (blk_cell s1 2).trans rfl
        have z3 : w'.cell? ⟨w.heap.size, 3, none⟩ = some (.slice p.a0 a.l0.length p.c0) := (blk_cell s1 3).trans rfl
        have z4 : w'.cell? ⟨w.heap.size, 4, none⟩ = some (.slice p.a1 a.l1.length p.c1) := (blk_cell s1 4).trans rfl
        have z5 : w'.cell? ⟨w.heap.size, 5, none⟩ = some (.slice p.a2 a.l2.length p.c2) := (blk_cell s1 5).trans rfl
        have z6 : w'.cell? ⟨w.heap.size, 6, none⟩ = some (.slice p.a3 a.l3.length p.c3) := (blk_cell s1 6).trans rfl
        go_simp
        with_reducible rfl
      rotate_left
      · simp only [Act.put, List.setIfInBounds_toArray, List.set_cons_zero, List.set_cons_succ, i64_w, i32_w]
        rfl
      -- 24: Op.move t2   [guarded: some (19, true)]
      refine pure_ (i := 24) (N := (some 38)) (v := ?_) (a' := ?_) #[true, true, true, true, true, true, true, true, true, true, true, true, true, true, true, true, true, true, true, true, true, true, false, true, true, false, false, false, false, false, false, false, false, false, false, false, false] rfl rfl (by kernel_rfl) (fun _ _ _ h => h) (Or.inl ⟨by rfl, ?_⟩) ?_ ?_
      rotate_left
      · intro w'
        go_simp
        with_reducible rfl
      rotate_left
      · simp only [Act.put, List.setIfInBounds_toArray, List.set_cons_zero, List.set_cons_succ, i64_w, i32_w]
        rfl
      -- 22: Op.call { value (Operand.func 64), args := #[t34, t35], argTypes := #[26, 3] }   [guarded: some (19, true)]
      refine one_ (i := 22) (N := (some 36)) #[true, true, true, true, true, true, true, true, true, true, true, true, true, true, true, true, true, true, true, true, true, true, true, true, true, false, false, false, false, false, false, false, false, false, false, false, false] rfl rfl (by kernel_rfl) (by decide) (fun K hK => ?_)
      refine goes_ Try.func64 (by kernel_rfl) rfl #[.agg (vCs a p), .int .i64 n] (by rfl) rfl rfl (by (try simp only [List.map_toArray, List.map_cons, List.map_nil]); first | done | rfl) ?_
      (with_reducible refine (K64.out _ hHeld.1).mono ?_)
      rintro e wF ⟨rfl, hb⟩
      refine ⟨_, rfl, ?_⟩
      have hOld := hHeld
      clear hHeld
      refine hK.out _ _ (⟨below_step hOld.1 hb, blk_below hOld.2.1 hb, blk_below hOld.2.2 hb⟩) (fun hHeld => ?_)
      clear hOld hK K
      refine norm_ (a' := ?_) ?_ ?_
      rotate_left
      · show Act.put _ (some 36) _ = _
        simp only [Act.put, List.setIfInBounds_toArray, List.set_cons_zero, List.set_cons_succ, i64_w, i32_w]
        rfl
      -- 25: Op.call { value (Operand.func 65), args := #[t37, t38], argTypes := #[26, 3] }   [guarded: some (19, true)]
      refine one_ (i := 25) (N := (some 39)) #[true, true, true, true, true, true, true, true, true, true, true, true, true, true, true, true, true, true, true, true, true, true, true, true, true, true, false, false, false, false, false, false, false, false, false, false, false] rfl rfl (by kernel_rfl) (by decide) (fun K hK => ?_)
      refine goes_ Try.func65 (by kernel_rfl) rfl #[.agg (vCs a p), .int .i64 n] (by rfl) rfl rfl (by (try simp only [List.map_toArray, List.map_cons, List.map_nil]); first | done | rfl) ?_
      (with_reducible refine (K65.out _ hHeld.1).mono ?_)
      rintro e wG ⟨rfl, hb⟩
      refine ⟨_, rfl, ?_⟩
      have hOld := hHeld
      clear hHeld
      refine hK.out _ _ (⟨below_step hOld.1 hb, blk_below hOld.2.1 hb, blk_below hOld.2.2 hb⟩) (fun hHeld => ?_)
      clear hOld hK K
      refine norm_ (a' := ?_) ?_ ?_
      rotate_left
      · show Act.put _ (some 39) _ = _
        simp only [Act.put, List.setIfInBounds_toArray, List.set_cons_zero, List.set_cons_succ, i64_w, i32_w]
        rfl
      -- 26: Op.binOp BinOp.eql 3 t36 t39 3   [guarded: some (19, true)]
      refine pure_ (i := 26) (N := (some 40)) (v := ?_) (a' := ?_) #[true, true, true, true, true, true, true, true, true, true, true, true, true, true, true, true, true, true, true, true, true, true, true, true, true, true, true, false, false, false, false, false, false, false, false, false, false] rfl rfl (by kernel_rfl) (fun _ _ _ h => h) (Or.inl ⟨by rfl, ?_⟩) ?_ ?_
      rotate_left
      · intro w'
        go_simp
        with_reducible rfl
      rotate_left
      · simp only [Act.put, List.setIfInBounds_toArray, List.set_cons_zero, List.set_cons_succ, i64_w, i32_w]
        rfl
      -- 27: Op.pick t33 t40 (const (Value.bool false))
      refine pure_ (i := 27) (N := (some 41)) (v := ?_) (a' := ?_) #[true, true, true, true, true, true, true, true, true, true, true, true, true, true, true, true, true, true, true, true, true, true, true, true, true, true, true, true, false, false, false, false, false, false, false, false, false] rfl rfl (by kernel_rfl) (fun _ _ _ h => h) (Or.inl ⟨by rfl, ?_⟩) ?_ ?_
      rotate_left
      · intro w'
        go_simp
        with_reducible rfl
      rotate_left
      · simp only [Act.put, List.setIfInBounds_toArray, List.set_cons_zero, List.set_cons_succ, i64_w, i32_w]
        rfl
      -- 28: Op.move t41
      refine pure_ (i := 28) (N := (some 42)) (v := ?_) (a' := ?_) #[true, true, true, true, true, true, true, true, true, true, true, true, true, true, true, true, true, true, true, true, true, true, true, true, true, true, true, true, true, false, false, false, false, false, false, false, false] rfl rfl (by kernel_rfl) (fun _ _ _ h => h) (Or.inl ⟨by rfl, ?_⟩) ?_ ?_
      rotate_left
      · intro w'
        go_simp
        with_reducible rfl
      rotate_left
      · simp only [Act.put, List.setIfInBounds_toArray, List.set_cons_zero, List.set_cons_succ, i64_w, i32_w]
        rfl
      -- 29: Op.call { value (Operand.func 66), args := #[], argTypes := #[] }   [guarded: some (28, true)]
      refine one_ (i := 29) (N := (some 43)) #[true, true, true, true, true, true, true, true, true, true, true, true, true, true, true, true, true, true, true, true, true, true, true, true, true, true, true, true, true, true, false, false, false, false, false, false, false] rfl rfl (by kernel_rfl) (by decide) (fun K hK => ?_)
      refine goes_ Try.func66 (by kernel_rfl) rfl #[] (by rfl) rfl rfl (by (try simp only [List.map_toArray, List.map_cons, List.map_nil]); first | done | rfl) ?_
      (with_reducible refine (first66_calls _).mono ?_)
      rintro e wH ⟨rfl, hb⟩
      refine ⟨_, rfl, ?_⟩
      have hOld := hHeld
      clear hHeld
      refine hK.out _ _ (⟨below_step hOld.1 hb, blk_below hOld.2.1 hb, blk_below hOld.2.2 hb⟩) (fun hHeld => ?_)
      clear hOld hK K
      refine norm_ (a' := ?_) ?_ ?_
      rotate_left
      · show Act.put _ (some 43) _ = _
        simp only [Act.put, List.setIfInBounds_toArray, List.set_cons_zero, List.set_cons_succ, i64_w, i32_w]
        rfl
      -- 30: Op.call { value (Operand.func 67), args := #[], argTypes := #[] }   [guarded: some (28, true)]
      refine one_ (i := 30) (N := (some 44)) #[true, true, true, true, true, true, true, true, true, true, true, true, true, true, true, true, true, true, true, true, true, true, true, true, true, true, true, true, true, true, true, false, false, false, false, false, false] rfl rfl (by kernel_rfl) (by decide) (fun K hK => ?_)
      refine goes_ Try.func67 (by kernel_rfl) rfl #[] (by rfl) rfl rfl (by (try simp only [List.map_toArray, List.map_cons, List.map_nil]); first | done | rfl) ?_
      (with_reducible refine (first67_calls _).mono ?_)
      rintro e wI ⟨rfl, hb⟩
      refine ⟨_, rfl, ?_⟩
      have hOld := hHeld
      clear hHeld
      refine hK.out _ _ (⟨below_step hOld.1 hb, blk_below hOld.2.1 hb, blk_below hOld.2.2 hb⟩) (fun hHeld => ?_)
      clear hOld hK K
      refine norm_ (a' := ?_) ?_ ?_
      rotate_left
      · show Act.put _ (some 44) _ = _
        simp only [Act.put, List.setIfInBounds_toArray, List.set_cons_zero, List.set_cons_succ, i64_w, i32_w]
        rfl
      -- 31: Op.call { value (Operand.func 56), args := #[t43, t44], argTypes := #[26, 26] }   [guarded: some (28, true)]
      refine one_ (i := 31) (N := (some 45)) #[true, true, true, true, true, true, true, true, true, true, true, true, true, true, true, true, true, true, true, true, true, true, true, true, true, true, true, true, true, true, true, true, false, false, false, false, false] rfl rfl (by kernel_rfl) (by decide) (fun K hK => ?_)
      refine goes_ Try.func56 (by kernel_rfl) rfl #[.agg (vCs firstV firstP), .agg (vCs firstV firstP)] (by rfl) rfl rfl (by (try simp only [List.map_toArray, List.map_cons, List.map_nil]); first | done | rfl) ?_
      (with_reducible refine (KF.out _).mono ?_)
      rintro e wJ ⟨rfl, hb⟩
      refine ⟨_, rfl, ?_⟩
      have hOld := hHeld
      clear hHeld
      refine hK.out _ _ (⟨below_step hOld.1 hb, blk_below hOld.2.1 hb, blk_below hOld.2.2 hb⟩) (fun hHeld => ?_)
      clear hOld hK K
      refine norm_ (a' := ?_) ?_ ?_
      rotate_left
      · show Act.put _ (some 45) _ = _
        simp only [Act.put, List.setIfInBounds_toArray, List.set_cons_zero, List.set_cons_succ, i64_w, i32_w]
        rfl
      -- 32: Op.pick t42 t45 (const (Value.bool false))
      refine pure_ (i := 32) (N := (some 46)) (v := ?_) (a' := ?_) #[true, true, true, true, true, true, true, true, true, true, true, true, true, true, true, true, true, true, true, true, true, true, true, true, true, true, true, true, true, true, true, true, true, false, false, false, false] rfl rfl (by kernel_rfl) (fun _ _ _ h => h) (Or.inl ⟨by rfl, ?_⟩) ?_ ?_
      rotate_left
      · intro w'
        go_simp
        with_reducible rfl
      rotate_left
      · simp only [Act.put, List.setIfInBounds_toArray, List.set_cons_zero, List.set_cons_succ, i64_w, i32_w]
        rfl
      -- 33: Op.move t46
      refine pure_ (i := 33) (N := (some 47)) (v := ?_) (a' := ?_) #[true, true, true, true, true, true, true, true, true, true, true, true, true, true, true, true, true, true, true, true, true, true, true, true, true, true, true, true, true, true, true, true, true, true, false, false, false] rfl rfl (by kernel_rfl) (fun _ _ _ h => h) (Or.inl ⟨by rfl, ?_⟩) ?_ ?_
      rotate_left
      · intro w'
        go_simp
        with_reducible rfl
      rotate_left
      · simp only [Act.put, List.setIfInBounds_toArray, List.set_cons_zero, List.set_cons_succ, i64_w, i32_w]
        rfl
      -- 34: Op.call { value (Operand.func 53), args := #[], argTypes := #[] }   [guarded: some (33, true)]
      refine one_ (i := 34) (N := (some 48)) #[true, true, true, true, true, true, true, true, true, true, true, true, true, true, true, true, true, true, true, true, true, true, true, true, true, true, true, true, true, true, true, true, true, true, true, false, false] rfl rfl (by kernel_rfl) (by decide) (fun K hK => ?_)
      refine goes_ Try.func53 (by kernel_rfl) rfl #[] (by rfl) rfl rfl (by (try simp only [List.map_toArray, List.map_cons, List.map_nil]); first | done | rfl) ?_
      (with_reducible refine (awake14_calls _).mono ?_)
      rintro e wK ⟨rfl, hb⟩
      refine ⟨_, rfl, ?_⟩
      have hOld := hHeld
      clear hHeld
      refine hK.out _ _ (⟨below_step hOld.1 hb, blk_below hOld.2.1 hb, blk_below hOld.2.2 hb⟩) (fun hHeld => ?_)
      clear hOld hK K
      refine norm_ (a' := ?_) ?_ ?_
      rotate_left
      · show Act.put _ (some 48) _ = _
        simp only [Act.put, List.setIfInBounds_toArray, List.set_cons_zero, List.set_cons_succ, i64_w, i32_w]
        rfl
      -- 35: Op.pick t47 t48 (const (Value.bool false))
      refine pure_ (i := 35) (N := (some 49)) (v := ?_) (a' := ?_) #[true, true, true, true, true, true, true, true, true, true, true, true, true, true, true, true, true, true, true, true, true, true, true, true, true, true, true, true, true, true, true, true, true, true, true, true, false] rfl rfl (by kernel_rfl) (fun _ _ _ h => h) (Or.inl ⟨by rfl, ?_⟩) ?_ ?_
      rotate_left
      · intro w'
        go_simp
        with_reducible rfl
      rotate_left
      · simp only [Act.put, List.setIfInBounds_toArray, List.set_cons_zero, List.set_cons_succ, i64_w, i32_w]
        rfl
      -- 36: Op.assign t49
      refine pure_ (i := 36) (N := (some 6)) (v := ?_) (a' := ?_) #[true, true, true, true, true, true, true, true, true, true, true, true, true, true, true, true, true, true, true, true, true, true, true, true, true, true, true, true, true, true, true, true, true, true, true, true, true] rfl rfl (by kernel_rfl) (fun _ _ _ h => h) (Or.inl ⟨by rfl, ?_⟩) ?_ ?_
      rotate_left
      · intro w'
        go_simp
        with_reducible rfl
      rotate_left
      · simp only [Act.put, List.setIfInBounds_toArray, List.set_cons_zero, List.set_cons_succ, i64_w, i32_w]
        rfl
      refine done_ (by kernel_rfl) ?_
      have HB4 := Aside0.mk hHeld.1
      clear hHeld
      go_wp2_with fail
      go_ret
      exact ⟨rfl, HB4.out⟩
end Go.Proofs.Ytkjepfofiegcdaa.V
