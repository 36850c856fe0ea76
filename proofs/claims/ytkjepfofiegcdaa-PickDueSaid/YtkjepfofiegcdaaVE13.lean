import Derived.Test.YtkjepfofiegcdaaVE12
/- The law PickDue, walked. Conditions: none. -/
namespace Go.Proofs.Ytkjepfofiegcdaa.V
set_option linter.unusedVariables false
set_option linter.unusedSimpArgs false
open Go.RowKit Go.Proofs.YtkjepfofiegcdaaW.PrintWords Go.Proofs.YtkjepfofiegcdaaW.PrintLast Go.Proofs.YtkjepfofiegcdaaW.PrintMore Go.Proofs.Ytkjepfofiegcdaa.PB14
set_option maxHeartbeats 8000000 in
set_option maxRecDepth 100000 in
theorem pickDue_calls (w : World) (v : Ver) (p : Pl) (hC : VC w v p) (hW : VW v) (many base times : Int) : Calls Try.prog 5 #[.agg (vCs v p), .agg #[.int .i64 many, .int .i64 base, .int .i64 times]] w fun e w' => e = .returned (.bool true) ∧ Below w.heap.size w w' := by
  have HC := Aside0.mk hC
  have HW := Aside0.mk hW
  have HB := Aside0.mk (below_alloc ((Below.refl w.heap.size w).alloc (Nat.le_refl _) (.cells (vCs v p) 26)) (.cells #[.int .i64 many, .int .i64 base, .int .i64 times] 48))
  have X2 := Aside0.mk (blk_alloc (blk_new w (.cells (vCs v p) 26)) (.cells #[.int .i64 many, .int .i64 base, .int .i64 times] 48))
  have X3 := Aside0.mk (blk_new (w.alloc (.cells (vCs v p) 26)) (.cells #[.int .i64 many, .int .i64 base, .int .i64 times] 48))
  clear hC hW
  go_enter Try.func5, Try.ntmps5
  go_upto_region 1 with (fail)
  generalize hg3 : (w.alloc (.cells (vCs v p) 26)).heap.size = g3 at *
  have e3 : w.heap.size + 1 = g3 := by rw [← hg3]; simp
  try rw [e3]
  clear hg3 e3
  generalize (w.alloc (.cells (vCs v p) 26)).alloc (.cells #[.int .i64 many, .int .i64 base, .int .i64 times] 48) = w1 at *
  have b0 : w1.cell? ⟨w.heap.size, 0, none⟩ = some (.int .u64 v.log) := (blk_cell X2.out 0).trans rfl
  have b1 : w1.cell? ⟨w.heap.size, 1, none⟩ = some (.int .u64 v.next) := (blk_cell X2.out 1).trans rfl
  have b2 : w1.cell? ⟨w.heap.size, 2, none⟩ = some (.int .u64 v.seq) := (blk_cell X2.out 2).trans rfl
  have b3 : w1.cell? ⟨w.heap.size, 3, none⟩ = some (.slice p.a0 v.l0.length p.c0) := (blk_cell X2.out 3).trans rfl
  have b4 : w1.cell? ⟨w.heap.size, 4, none⟩ = some (.slice p.a1 v.l1.length p.c1) := (blk_cell X2.out 4).trans rfl
  have b5 : w1.cell? ⟨w.heap.size, 5, none⟩ = some (.slice p.a2 v.l2.length p.c2) := (blk_cell X2.out 5).trans rfl
  have b6 : w1.cell? ⟨w.heap.size, 6, none⟩ = some (.slice p.a3 v.l3.length p.c3) := (blk_cell X2.out 6).trans rfl
  go_wp2_with fail
  refine (many33_calls _ v p).mono ?_
  rintro e w2 ⟨rfl, hb⟩
  have HB2 := Aside0.mk (below_step HB.out hb)
  have X22 := Aside0.mk (blk_below X2.out hb)
  have X32 := Aside0.mk (blk_below X3.out hb)
  clear hb HB X2 X3 b0 b1 b2 b3 b4 b5 b6
  by_cases hm : manyP v
  · rw [decide_eq_true hm]
    clear hm
    go_wp2_with fail
    refine (awake16_calls _).mono ?_
    rintro e w9 ⟨rfl, hb⟩
    have HB9 := Aside0.mk (below_step HB2.out hb)
    clear hb
    go_wp2_with fail
    go_ret
    exact ⟨rfl, HB9.out⟩
  · rw [decide_eq_false hm]
    have HL := Aside0.mk (show ∀ i, i < 4 → (v.lv i).length ≤ 1000000 from fun i hi => by
      have h1 : ¬ 80 < (v.lv i).length := fun h => hm ⟨i, hi, h⟩
      omega)
    clear hm
    have KC := copy_calls w2 v p (HC.out.below HB2.out) HL.out
    have b0 : w2.cell? ⟨w.heap.size, 0, none⟩ = some (.int .u64 v.log) := (blk_cell X22.out 0).trans rfl
    have b1 : w2.cell? ⟨w.heap.size, 1, none⟩ = some (.int .u64 v.next) := (blk_cell X22.out 1).trans rfl
    have b2 : w2.cell? ⟨w.heap.size, 2, none⟩ = some (.int .u64 v.seq) := (blk_cell X22.out 2).trans rfl
    have b3 : w2.cell? ⟨w.heap.size, 3, none⟩ = some (.slice p.a0 v.l0.length p.c0) := (blk_cell X22.out 3).trans rfl
    have b4 : w2.cell? ⟨w.heap.size, 4, none⟩ = some (.slice p.a1 v.l1.length p.c1) := (blk_cell X22.out 4).trans rfl
    have b5 : w2.cell? ⟨w.heap.size, 5, none⟩ = some (.slice p.a2 v.l2.length p.c2) := (blk_cell X22.out 5).trans rfl
    have b6 : w2.cell? ⟨w.heap.size, 6, none⟩ = some (.slice p.a3 v.l3.length p.c3) := (blk_cell X22.out 6).trans rfl
    go_wp2_with fail
    refine KC.mono ?_
    clear KC
    rintro e w3 ⟨qc, rfl, hMK, hb⟩
    have hb1 := (Below.refl w3.heap.size w3).alloc (Nat.le_refl _) (.cells (vCs v qc) 26)
    have HB3 := Aside0.mk (below_step (below_step HB2.out hb) hb1)
    have X23 := Aside0.mk (blk_below (blk_below X22.out hb) hb1)
    have X33 := Aside0.mk (blk_below (blk_below X32.out hb) hb1)
    have X53 := Aside0.mk (blk_new w3 (.cells (vCs v qc) 26))
    have MKQ := Aside0.mk (hMK.below hb1)
    clear hb hb1 hMK HB2 X22 X32 b0 b1 b2 b3 b4 b5 b6
    go_upto_region 4 with (fail)
    generalize w3.heap.size = g5 at *
    generalize w3.alloc (.cells (vCs v qc) 26) = w3 at *
    have KP := pick_calls w3 v qc MKQ.out.vc HW.out many base times
    have KR := Aside0.mk (fun w5 (hb : Below w3.heap.size w3 w5) => pickR_calls w5 v p ((HC.out.below HB3.out).below hb) many base times)
    obtain ⟨c, hc⟩ : ∃ c, c = pickC v many base times := ⟨_, rfl⟩
    obtain ⟨ee, hee⟩ : ∃ c, c = pickE v many base times := ⟨_, rfl⟩
    rw [← hc, ← hee] at KP KR
    clear hc hee
    have b0 : w3.cell? ⟨g5, 0, none⟩ = some (.int .u64 v.log) := (blk_cell X53.out 0).trans rfl
    have b1 : w3.cell? ⟨g5, 1, none⟩ = some (.int .u64 v.next) := (blk_cell X53.out 1).trans rfl
    have b2 : w3.cell? ⟨g5, 2, none⟩ = some (.int .u64 v.seq) := (blk_cell X53.out 2).trans rfl
    have b3 : w3.cell? ⟨g5, 3, none⟩ = some (.slice qc.a0 v.l0.length qc.c0) := (blk_cell X53.out 3).trans rfl
    have b4 : w3.cell? ⟨g5, 4, none⟩ = some (.slice qc.a1 v.l1.length qc.c1) := (blk_cell X53.out 4).trans rfl
    have b5 : w3.cell? ⟨g5, 5, none⟩ = some (.slice qc.a2 v.l2.length qc.c2) := (blk_cell X53.out 5).trans rfl
    have b6 : w3.cell? ⟨g5, 6, none⟩ = some (.slice qc.a3 v.l3.length qc.c3) := (blk_cell X53.out 6).trans rfl
    have o0 : w3.cell? ⟨g3, 0, none⟩ = some (.int .i64 many) := (blk_cell X33.out 0).trans rfl
    have o1 : w3.cell? ⟨g3, 1, none⟩ = some (.int .i64 base) := (blk_cell X33.out 1).trans rfl
    have o2 : w3.cell? ⟨g3, 2, none⟩ = some (.int .i64 times) := (blk_cell X33.out 2).trans rfl
    go_wp2_with fail
    refine KP.mono ?_
    clear KP
    rintro e w4 ⟨vi, vo, rfl, hRi, hRo, hb⟩
    obtain ⟨Ai, ci, hvi⟩ := Kd.R_slice hRi
    subst hvi
    obtain ⟨Ao, co, hvo⟩ := Kd.R_slice hRo
    subst hvo
    have hb1 := (Below.refl w4.heap.size w4).alloc (Nat.le_refl _) (.cells #[.int .i64 c.lev, .slice Ai c.inn.length ci, .slice Ao c.ovr.length co] 52)
    have HB5 := Aside0.mk (below_step hb hb1)
    have XC5 := Aside0.mk (blk_new w4 (.cells #[.int .i64 c.lev, .slice Ai c.inn.length ci, .slice Ao c.ovr.length co] 52))
    have RI5 := Aside0.mk ((Rm.of_R hRi).below hb1)
    have RO5 := Aside0.mk ((Rm.of_R hRo).below hb1)
    have CI5 := Aside0.mk (Kd.C_below (Kd.R_reads' hRi).2.2 hb1)
    have CO5 := Aside0.mk (Kd.C_below (Kd.R_reads' hRo).2.2 hb1)
    have X25 := Aside0.mk (blk_below (blk_below X23.out hb) hb1)
    have X35 := Aside0.mk (blk_below (blk_below X33.out hb) hb1)
    clear hb hb1 hRi hRo b0 b1 b2 b3 b4 b5 b6 o0 o1 o2
    go_upto_region 5 with (fail)
    generalize w4.heap.size = g6 at *
    generalize w4.alloc (.cells #[.int .i64 c.lev, .slice Ai c.inn.length ci, .slice Ao c.ovr.length co] 52) = w5 at *
    have KR5 := KR.out w5 HB5.out
    have b0 : w5.cell? ⟨w.heap.size, 0, none⟩ = some (.int .u64 v.log) := (blk_cell X25.out 0).trans rfl
    have b1 : w5.cell? ⟨w.heap.size, 1, none⟩ = some (.int .u64 v.next) := (blk_cell X25.out 1).trans rfl
    have b2 : w5.cell? ⟨w.heap.size, 2, none⟩ = some (.int .u64 v.seq) := (blk_cell X25.out 2).trans rfl
    have b3 : w5.cell? ⟨w.heap.size, 3, none⟩ = some (.slice p.a0 v.l0.length p.c0) := (blk_cell X25.out 3).trans rfl
    have b4 : w5.cell? ⟨w.heap.size, 4, none⟩ = some (.slice p.a1 v.l1.length p.c1) := (blk_cell X25.out 4).trans rfl
    have b5 : w5.cell? ⟨w.heap.size, 5, none⟩ = some (.slice p.a2 v.l2.length p.c2) := (blk_cell X25.out 5).trans rfl
    have b6 : w5.cell? ⟨w.heap.size, 6, none⟩ = some (.slice p.a3 v.l3.length p.c3) := (blk_cell X25.out 6).trans rfl
    have o0 : w5.cell? ⟨g3, 0, none⟩ = some (.int .i64 many) := (blk_cell X35.out 0).trans rfl
    have o1 : w5.cell? ⟨g3, 1, none⟩ = some (.int .i64 base) := (blk_cell X35.out 1).trans rfl
    have o2 : w5.cell? ⟨g3, 2, none⟩ = some (.int .i64 times) := (blk_cell X35.out 2).trans rfl
    go_wp2_with fail
    refine KR5.mono ?_
    clear KR5 KR
    rintro e w7 ⟨vi, vo, rfl, hRi, hRo, hb⟩
    obtain ⟨Bi, di, hvi⟩ := Kd.R_slice hRi
    subst hvi
    obtain ⟨Bo, dd, hvo⟩ := Kd.R_slice hRo
    subst hvo
    have hb1 := (Below.refl w7.heap.size w7).alloc (Nat.le_refl _) (.cells #[.int .i64 c.lev, .slice Bi c.inn.length di, .slice Bo c.ovr.length dd] 52)
    have hb2 := below_step hb hb1
    have HB8 := Aside0.mk (below_step HB5.out hb2)
    have XC8 := Aside0.mk (blk_below XC5.out hb2)
    have XW8 := Aside0.mk (blk_new w7 (.cells #[.int .i64 c.lev, .slice Bi c.inn.length di, .slice Bo c.ovr.length dd] 52))
    have X38 := Aside0.mk (blk_below X35.out hb2)
    have RI8 := Aside0.mk (RI5.out.below hb2)
    have RO8 := Aside0.mk (RO5.out.below hb2)
    have CI8 := Aside0.mk (Kd.C_below CI5.out hb2)
    have CO8 := Aside0.mk (Kd.C_below CO5.out hb2)
    have DI8 := Aside0.mk (Kd.C_below (Kd.R_reads' hRi).2.2 hb1)
    have DO8 := Aside0.mk (Kd.C_below (Kd.R_reads' hRo).2.2 hb1)
    clear hb hb1 hb2 hRi hRo b0 b1 b2 b3 b4 b5 b6 o0 o1 o2 HB5 XC5 X25 X35 RI5 RO5 CI5 CO5
    go_upto_region 6 with (fail)
    generalize w7.heap.size = g8 at *
    generalize w7.alloc (.cells #[.int .i64 c.lev, .slice Bi c.inn.length di, .slice Bo c.ovr.length dd] 52) = w8 at *
    have KS := Aside0.mk (show ∀ w9, Below w8.heap.size w8 w9 → Calls Try.prog 38 #[.agg #[.int .i64 c.lev, .slice Ai c.inn.length ci, .slice Ao c.ovr.length co], .agg #[.int .i64 c.lev, .slice Bi c.inn.length di, .slice Bo c.ovr.length dd]] w9 fun e w' => e = .returned (.bool true) ∧ Below w9.heap.size w9 w' from fun w9 hb => by
      have h1 := sameC_calls w9 c.lev c.lev Ai Ao Bi Bo ci co di dd c.inn c.ovr c.inn c.ovr (Kd.C_below CI8.out hb) (Kd.C_below CO8.out hb) (Kd.C_below DI8.out hb) (Kd.C_below DO8.out hb)
      rw [decide_eq_true (show c.lev = c.lev ∧ c.inn = c.inn ∧ c.ovr = c.ovr from ⟨rfl, rfl, rfl⟩)] at h1
      exact h1)
    have KC1 := Aside0.mk (fun w9 => check_calls w9 many base times)
    have KC2 := Aside0.mk (fun w9 => checkR_calls w9 many base times)
    obtain ⟨oe, hoe⟩ : ∃ c, c = optE many base times := ⟨_, rfl⟩
    rw [← hoe] at KC1 KC2
    clear hoe
    have z0 : (ee != ee) = false := by simp
    have z1 : (oe != oe) = false := by simp
    refine start_ (n := 16) (S := (fun w' => Below w8.heap.size w8 w' ∧ w'.heap[g6]? = some (.cells #[.int .i64 c.lev, .slice Ai c.inn.length ci, .slice Ao c.ovr.length co] 52 (0, 0)) ∧ w'.heap[g8]? = some (.cells #[.int .i64 c.lev, .slice Bi c.inn.length di, .slice Bo c.ovr.length dd] 52 (0, 0)) ∧ w'.heap[g3]? = some (.cells #[.int .i64 many, .int .i64 base, .int .i64 times] 48 (0, 0)))) (ds := []) #[false, false, false, false, false, false, false, false, false, false, false, false, false, false, false, false] (by kernel_rfl) rfl rfl ⟨below_drew (Below.refl _ _), blk_drew XC8.out, blk_drew XW8.out, blk_drew X38.out⟩ (fun hHeld => ?_)
    -- 0: Op.load 52 t6
    refine take_ (i := 0) (N := (some 29)) (v := ?_) (a' := ?_) #[true, false, false, false, false, false, false, false, false, false, false, false, false, false, false, false] rfl rfl (by kernel_rfl) (fun _ _ _ h => h) (Or.inl ⟨by rfl, ?_⟩) hHeld ?_ ?_
    rotate_left
    · rintro w' ⟨s0, s1, s2, s3⟩
      have y0 : w'.cell? ⟨g6, 0, none⟩ = some (.int .i64 c.lev) := (blk_cell s1 0).trans rfl
      have y1 : w'.cell? ⟨g6, 1, none⟩ = some (.slice Ai c.inn.length ci) := (blk_cell s1 1).trans rfl
      have y2 : w'.cell? ⟨g6, 2, none⟩ = some (.slice Ao c.ovr.length co) := (blk_cell s1 2).trans rfl
      go_simp
      with_reducible rfl
    rotate_left
    · simp only [Act.put, List.setIfInBounds_toArray, List.set_cons_zero, List.set_cons_succ, i64_w, i32_w]
      rfl
    -- 1: Op.load 52 t8
    refine take_ (i := 1) (N := (some 30)) (v := ?_) (a' := ?_) #[true, true, false, false, false, false, false, false, false, false, false, false, false, false, false, false] rfl rfl (by kernel_rfl) (fun _ _ _ h => h) (Or.inl ⟨by rfl, ?_⟩) hHeld ?_ ?_
    rotate_left
    · rintro w' ⟨s0, s1, s2, s3⟩
      have y0 : w'.cell? ⟨g8, 0, none⟩ = some (.int .i64 c.lev) := (blk_cell s2 0).trans rfl
      have y1 : w'.cell? ⟨g8, 1, none⟩ = some (.slice Bi c.inn.length di) := (blk_cell s2 1).trans rfl
      have y2 : w'.cell? ⟨g8, 2, none⟩ = some (.slice Bo c.ovr.length dd) := (blk_cell s2 2).trans rfl
      go_simp
      with_reducible rfl
    rotate_left
    · simp only [Act.put, List.setIfInBounds_toArray, List.set_cons_zero, List.set_cons_succ, i64_w, i32_w]
      rfl
    -- 2: Op.call { value (Operand.func 38), args := #[t29, t30], argTypes := #[52, 52] }
    refine one_ (i := 2) (N := (some 31)) #[true, true, true, false, false, false, false, false, false, false, false, false, false, false, false, false] rfl rfl (by kernel_rfl) (by decide) (fun K hK => ?_)
    refine goes_ Try.func38 (by kernel_rfl) rfl #[.agg #[.int .i64 c.lev, .slice Ai c.inn.length ci, .slice Ao c.ovr.length co], .agg #[.int .i64 c.lev, .slice Bi c.inn.length di, .slice Bo c.ovr.length dd]] (by rfl) rfl rfl (by (try simp only [List.map_toArray, List.map_cons, List.map_nil]); first | done | rfl) ?_
    (with_reducible refine (KS.out _ hHeld.1).mono ?_)
    rintro e w10 ⟨rfl, hb⟩
    refine ⟨_, rfl, ?_⟩
    have hOld := hHeld
    clear hHeld
    refine hK.out _ _ (⟨below_step hOld.1 hb, blk_below hOld.2.1 hb, blk_below hOld.2.2.1 hb, blk_below hOld.2.2.2 hb⟩) (fun hHeld => ?_)
    clear hOld hK K
    refine norm_ (a' := ?_) ?_ ?_
    rotate_left
    · show Act.put _ (some 31) _ = _
      simp only [Act.put, List.setIfInBounds_toArray, List.set_cons_zero, List.set_cons_succ, i64_w, i32_w]
      rfl
    -- 3: Op.unOp UnOp.not 4 t31
    refine pure_ (i := 3) (N := (some 32)) (v := ?_) (a' := ?_) #[true, true, true, true, false, false, false, false, false, false, false, false, false, false, false, false] rfl rfl (by kernel_rfl) (fun _ _ _ h => h) (Or.inl ⟨by rfl, ?_⟩) ?_ ?_
    rotate_left
    · intro w'
      go_simp
      with_reducible rfl
    rotate_left
    · simp only [Act.put, List.setIfInBounds_toArray, List.set_cons_zero, List.set_cons_succ, i64_w, i32_w]
      rfl
    -- 4: Op.move t32
    refine pure_ (i := 4) (N := (some 33)) (v := ?_) (a' := ?_) #[true, true, true, true, true, false, false, false, false, false, false, false, false, false, false, false] rfl rfl (by kernel_rfl) (fun _ _ _ h => h) (Or.inl ⟨by rfl, ?_⟩) ?_ ?_
    rotate_left
    · intro w'
      go_simp
      with_reducible rfl
    rotate_left
    · simp only [Act.put, List.setIfInBounds_toArray, List.set_cons_zero, List.set_cons_succ, i64_w, i32_w]
      rfl
    -- 5: Op.move t7   [guarded: some (4, false)]
    refine pure_ (i := 5) (N := (some 34)) (v := ?_) (a' := ?_) #[true, true, true, true, true, true, false, false, false, false, false, false, false, false, false, false] rfl rfl (by kernel_rfl) (fun _ _ _ h => h) (Or.inl ⟨by rfl, ?_⟩) ?_ ?_
    rotate_left
    · intro w'
      go_simp
      with_reducible rfl
    rotate_left
    · simp only [Act.put, List.setIfInBounds_toArray, List.set_cons_zero, List.set_cons_succ, i64_w, i32_w]
      rfl
    -- 6: Op.move t9   [guarded: some (4, false)]
    refine pure_ (i := 6) (N := (some 35)) (v := ?_) (a' := ?_) #[true, true, true, true, true, true, true, false, false, false, false, false, false, false, false, false] rfl rfl (by kernel_rfl) (fun _ _ _ h => h) (Or.inl ⟨by rfl, ?_⟩) ?_ ?_
    rotate_left
    · intro w'
      go_simp
      with_reducible rfl
    rotate_left
    · simp only [Act.put, List.setIfInBounds_toArray, List.set_cons_zero, List.set_cons_succ, i64_w, i32_w]
      rfl
    -- 7: Op.binOp BinOp.neq 33 t34 t35 33   [guarded: some (4, false)]
    refine pure_ (i := 7) (N := (some 36)) (v := ?_) (a' := ?_) #[true, true, true, true, true, true, true, true, false, false, false, false, false, false, false, false] rfl rfl (by kernel_rfl) (fun _ _ _ h => h) (Or.inl ⟨by rfl, ?_⟩) ?_ ?_
    rotate_left
    · intro w'
      go_simp
      with_reducible rfl
    rotate_left
    · simp only [Act.put, List.setIfInBounds_toArray, List.set_cons_zero, List.set_cons_succ, i64_w, i32_w]
      rfl
    -- 8: Op.pick t33 (const (Value.bool true)) t36
    refine pure_ (i := 8) (N := (some 37)) (v := ?_) (a' := ?_) #[true, true, true, true, true, true, true, true, true, false, false, false, false, false, false, false] rfl rfl (by kernel_rfl) (fun _ _ _ h => h) (Or.inl ⟨by rfl, ?_⟩) ?_ ?_
    rotate_left
    · intro w'
      go_simp
      with_reducible rfl
    rotate_left
    · simp only [Act.put, List.setIfInBounds_toArray, List.set_cons_zero, List.set_cons_succ, i64_w, i32_w]
      rfl
    -- 9: Op.move t37
    refine pure_ (i := 9) (N := (some 38)) (v := ?_) (a' := ?_) #[true, true, true, true, true, true, true, true, true, true, false, false, false, false, false, false] rfl rfl (by kernel_rfl) (fun _ _ _ h => h) (Or.inl ⟨by rfl, ?_⟩) ?_ ?_
    rotate_left
    · intro w'
      go_simp
      with_reducible rfl
    rotate_left
    · simp only [Act.put, List.setIfInBounds_toArray, List.set_cons_zero, List.set_cons_succ, i64_w, i32_w]
      rfl
    -- 10: Op.load 48 t3   [guarded: some (9, false)]
    refine take_ (i := 10) (N := (some 39)) (v := ?_) (a' := ?_) #[true, true, true, true, true, true, true, true, true, true, true, false, false, false, false, false] rfl rfl (by kernel_rfl) (fun _ _ _ h => h) (Or.inl ⟨by rfl, ?_⟩) hHeld ?_ ?_
    rotate_left
    · rintro w' ⟨s0, s1, s2, s3⟩
      have y0 : w'.cell? ⟨g3, 0, none⟩ = some (.int .i64 many) := (blk_cell s3 0).trans rfl
      have y1 : w'.cell? ⟨g3, 1, none⟩ = some (.int .i64 base) := (blk_cell s3 1).trans rfl
      have y2 : w'.cell? ⟨g3, 2, none⟩ = some (.int .i64 times) := (blk_cell s3 2).trans rfl
      go_simp
      with_reducible rfl
    rotate_left
    · simp only [Act.put, List.setIfInBounds_toArray, List.set_cons_zero, List.set_cons_succ, i64_w, i32_w]
      rfl
    -- 12: Op.load 48 t3   [guarded: some (9, false)]
    refine take_ (i := 12) (N := (some 41)) (v := ?_) (a' := ?_) #[true, true, true, true, true, true, true, true, true, true, true, false, true, false, false, false] rfl rfl (by kernel_rfl) (fun _ _ _ h => h) (Or.inl ⟨by rfl, ?_⟩) hHeld ?_ ?_
    rotate_left
    · rintro w' ⟨s0, s1, s2, s3⟩
      have y0 : w'.cell? ⟨g3, 0, none⟩ = some (.int .i64 many) := (blk_cell s3 0).trans rfl
      have y1 : w'.cell? ⟨g3, 1, none⟩ = some (.int .i64 base) := (blk_cell s3 1).trans rfl
      have y2 : w'.cell? ⟨g3, 2, none⟩ = some (.int .i64 times) := (blk_cell s3 2).trans rfl
      go_simp
      with_reducible rfl
    rotate_left
    · simp only [Act.put, List.setIfInBounds_toArray, List.set_cons_zero, List.set_cons_succ, i64_w, i32_w]
      rfl
    -- 11: Op.call { value (Operand.func 39), args := #[t39], argTypes := #[48] }   [guarded: some (9, false)]
    refine one_ (i := 11) (N := (some 40)) #[true, true, true, true, true, true, true, true, true, true, true, true, true, false, false, false] rfl rfl (by kernel_rfl) (by decide) (fun K hK => ?_)
    refine goes_ Try.func39 (by kernel_rfl) rfl #[.agg #[.int .i64 many, .int .i64 base, .int .i64 times]] (by rfl) rfl rfl (by (try simp only [List.map_toArray, List.map_cons, List.map_nil]); first | done | rfl) ?_
    (with_reducible refine (KC1.out _).mono ?_)
    rintro e w11 ⟨rfl, hb⟩
    refine ⟨_, rfl, ?_⟩
    have hOld := hHeld
    clear hHeld
    refine hK.out _ _ (⟨below_step hOld.1 hb, blk_below hOld.2.1 hb, blk_below hOld.2.2.1 hb, blk_below hOld.2.2.2 hb⟩) (fun hHeld => ?_)
    clear hOld hK K
    refine norm_ (a' := ?_) ?_ ?_
    rotate_left
    · show Act.put _ (some 40) _ = _
      simp only [Act.put, List.setIfInBounds_toArray, List.set_cons_zero, List.set_cons_succ, i64_w, i32_w]
      rfl
    -- 13: Op.call { value (Operand.func 40), args := #[t41], argTypes := #[48] }   [guarded: some (9, false)]
    refine one_ (i := 13) (N := (some 42)) #[true, true, true, true, true, true, true, true, true, true, true, true, true, true, false, false] rfl rfl (by kernel_rfl) (by decide) (fun K hK => ?_)
    refine goes_ Try.func40 (by kernel_rfl) rfl #[.agg #[.int .i64 many, .int .i64 base, .int .i64 times]] (by rfl) rfl rfl (by (try simp only [List.map_toArray, List.map_cons, List.map_nil]); first | done | rfl) ?_
    (with_reducible refine (KC2.out _).mono ?_)
    rintro e w12 ⟨rfl, hb⟩
    refine ⟨_, rfl, ?_⟩
    have hOld := hHeld
    clear hHeld
    refine hK.out _ _ (⟨below_step hOld.1 hb, blk_below hOld.2.1 hb, blk_below hOld.2.2.1 hb, blk_below hOld.2.2.2 hb⟩) (fun hHeld => ?_)
    clear hOld hK K
    refine norm_ (a' := ?_) ?_ ?_
    rotate_left
    · show Act.put _ (some 42) _ = _
      simp only [Act.put, List.setIfInBounds_toArray, List.set_cons_zero, List.set_cons_succ, i64_w, i32_w]
      rfl
    -- 14: Op.binOp BinOp.neq 33 t40 t42 33   [guarded: some (9, false)]
    refine pure_ (i := 14) (N := (some 43)) (v := ?_) (a' := ?_) #[true, true, true, true, true, true, true, true, true, true, true, true, true, true, true, false] rfl rfl (by kernel_rfl) (fun _ _ _ h => h) (Or.inl ⟨by rfl, ?_⟩) ?_ ?_
    rotate_left
    · intro w'
      go_simp
      with_reducible rfl
    rotate_left
    · simp only [Act.put, List.setIfInBounds_toArray, List.set_cons_zero, List.set_cons_succ, i64_w, i32_w]
      rfl
    -- 15: Op.pick t38 (const (Value.bool true)) t43
    refine pure_ (i := 15) (N := (some 44)) (v := ?_) (a' := ?_) #[true, true, true, true, true, true, true, true, true, true, true, true, true, true, true, true] rfl rfl (by kernel_rfl) (fun _ _ _ h => h) (Or.inl ⟨by rfl, ?_⟩) ?_ ?_
    rotate_left
    · intro w'
      go_simp
      with_reducible rfl
    rotate_left
    · simp only [Act.put, List.setIfInBounds_toArray, List.set_cons_zero, List.set_cons_succ, i64_w, i32_w]
      rfl
    refine done_ (by kernel_rfl) ?_
    have HB := Aside0.mk (below_step HB8.out hHeld.1)
    have RI := Aside0.mk (RI8.out.below hHeld.1)
    have RO := Aside0.mk (RO8.out.below hHeld.1)
    have XC := Aside0.mk hHeld.2.1
    have LI := Aside0.mk (show c.inn.length ≤ 9223372036854775807 from CI8.out.2.1)
    have LO := Aside0.mk (show c.ovr.length ≤ 9223372036854775807 from CO8.out.2.1)
    clear hHeld z0 z1 HB8 RI8 RO8 XC8 XW8 X38 KS KC1 KC2
    go_wp2_with fail
    go_loopg [10] c.inn.length (fun kq v10 w' => ∃ i : Nat, v10 = .int .i64 (i : Int) ∧ Aside0 (kq + i = c.inn.length) ∧ Aside0 (Below w3.heap.size w3 w') ∧ Aside0 (Rm w' w3.heap.size Ai c.inn.length) ∧ Aside0 (Rm w' w3.heap.size Ao c.ovr.length) ∧ Aside0 (w'.heap[g6]? = some (.cells #[.int .i64 c.lev, .slice Ai c.inn.length ci, .slice Ao c.ovr.length co] 52 (0, 0))))
    case atStart => exact ⟨0, rfl, ⟨by omega⟩, HB, RI, RO, XC⟩
    case round =>
      clear HB RI RO XC
      obtain ⟨i, rfl, HK, HB, RI, RO, XC⟩ := hrel
      have y0 : wr.cell? ⟨g6, 0, none⟩ = some (.int .i64 c.lev) := (blk_cell XC.out 0).trans rfl
      have y1 : wr.cell? ⟨g6, 1, none⟩ = some (.slice Ai c.inn.length ci) := (blk_cell XC.out 1).trans rfl
      have y2 : wr.cell? ⟨g6, 2, none⟩ = some (.slice Ao c.ovr.length co) := (blk_cell XC.out 2).trans rfl
      cases gk with
      | zero =>
        have ek : i = c.inn.length := by have := HK.out; omega
        subst ek
        have d1 : decide ((c.inn.length : Int) < (c.inn.length : Int)) = false := by simp
        go_wp2_with fail
        clear HK d1 y0 y1 y2
        go_loopg [11] c.ovr.length (fun kq v11 w' => ∃ i : Nat, v11 = .int .i64 (i : Int) ∧ Aside0 (kq + i = c.ovr.length) ∧ Aside0 (Below w3.heap.size w3 w') ∧ Aside0 (Rm w' w3.heap.size Ai c.inn.length) ∧ Aside0 (Rm w' w3.heap.size Ao c.ovr.length) ∧ Aside0 (w'.heap[g6]? = some (.cells #[.int .i64 c.lev, .slice Ai c.inn.length ci, .slice Ao c.ovr.length co] 52 (0, 0))))
        case atStart => exact ⟨0, rfl, ⟨by omega⟩, HB, RI, RO, XC⟩
        case round =>
          clear HB RI RO XC
          obtain ⟨i, rfl, HK, HB, RI, RO, XC⟩ := hrel
          have y0 : wr.cell? ⟨g6, 0, none⟩ = some (.int .i64 c.lev) := (blk_cell XC.out 0).trans rfl
          have y1 : wr.cell? ⟨g6, 1, none⟩ = some (.slice Ai c.inn.length ci) := (blk_cell XC.out 1).trans rfl
          have y2 : wr.cell? ⟨g6, 2, none⟩ = some (.slice Ao c.ovr.length co) := (blk_cell XC.out 2).trans rfl
          cases gk with
          | zero =>
            have ek : i = c.ovr.length := by have := HK.out; omega
            subst ek
            have d1 : decide ((c.ovr.length : Int) < (c.ovr.length : Int)) = false := by simp
            have Xv := Aside0.mk (blk_below X23.out HB.out)
            have Xq := Aside0.mk (blk_below X53.out HB.out)
            have KK := kept_calls wr v v qc p (MKQ.out.below HB.out) ((HC.out.below HB3.out).below HB.out) HL.out
            rw [decide_eq_true (sameP_iff.mpr rfl)] at KK
            have b0 : wr.cell? ⟨w.heap.size, 0, none⟩ = some (.int .u64 v.log) := (blk_cell Xv.out 0).trans rfl
            have b1 : wr.cell? ⟨w.heap.size, 1, none⟩ = some (.int .u64 v.next) := (blk_cell Xv.out 1).trans rfl
            have b2 : wr.cell? ⟨w.heap.size, 2, none⟩ = some (.int .u64 v.seq) := (blk_cell Xv.out 2).trans rfl
            have b3 : wr.cell? ⟨w.heap.size, 3, none⟩ = some (.slice p.a0 v.l0.length p.c0) := (blk_cell Xv.out 3).trans rfl
            have b4 : wr.cell? ⟨w.heap.size, 4, none⟩ = some (.slice p.a1 v.l1.length p.c1) := (blk_cell Xv.out 4).trans rfl
            have b5 : wr.cell? ⟨w.heap.size, 5, none⟩ = some (.slice p.a2 v.l2.length p.c2) := (blk_cell Xv.out 5).trans rfl
            have b6 : wr.cell? ⟨w.heap.size, 6, none⟩ = some (.slice p.a3 v.l3.length p.c3) := (blk_cell Xv.out 6).trans rfl
            have c0 : wr.cell? ⟨g5, 0, none⟩ = some (.int .u64 v.log) := (blk_cell Xq.out 0).trans rfl
            have c1 : wr.cell? ⟨g5, 1, none⟩ = some (.int .u64 v.next) := (blk_cell Xq.out 1).trans rfl
            have c2 : wr.cell? ⟨g5, 2, none⟩ = some (.int .u64 v.seq) := (blk_cell Xq.out 2).trans rfl
            have c3 : wr.cell? ⟨g5, 3, none⟩ = some (.slice qc.a0 v.l0.length qc.c0) := (blk_cell Xq.out 3).trans rfl
            have c4 : wr.cell? ⟨g5, 4, none⟩ = some (.slice qc.a1 v.l1.length qc.c1) := (blk_cell Xq.out 4).trans rfl
            have c5 : wr.cell? ⟨g5, 5, none⟩ = some (.slice qc.a2 v.l2.length qc.c2) := (blk_cell Xq.out 5).trans rfl
            have c6 : wr.cell? ⟨g5, 6, none⟩ = some (.slice qc.a3 v.l3.length qc.c3) := (blk_cell Xq.out 6).trans rfl
            go_wp2_with fail
            refine KK.mono ?_
            clear KK
            rintro e w14 ⟨rfl, hb⟩
            have HB14 := Aside0.mk (below_step HB3.out (below_step HB.out hb))
            clear hb b0 b1 b2 b3 b4 b5 b6 c0 c1 c2 c3 c4 c5 c6
            go_wp2_with fail
            refine (awake16_calls _).mono ?_
            rintro e w9 ⟨rfl, hb⟩
            have HB9 := Aside0.mk (below_step HB14.out hb)
            clear hb
            go_wp2_with fail
            go_ret
            exact ⟨rfl, HB9.out⟩
          | succ q =>
            have hk : i < c.ovr.length := by have := HK.out; omega
            have HKL := Aside0.mk hk
            have d1 : decide ((i : Int) < (c.ovr.length : Int)) = true := decide_eq_true (by omega)
            have d2 : decide (i < c.ovr.length) = true := decide_eq_true hk
            have p0 : 0 ≤ (i : Int) := Int.natCast_nonneg _
            have p1 : (i : Int) < (c.ovr.length : Int) := by omega
            have HM := Aside0.mk (show c.ovr.length ≤ 9223372036854775807 from LO.out)
            have ew : wrap64 ((i : Int) + 1) = ((i + 1 : Nat) : Int) := by have h1 := HM.out; unfold wrap64; omega
            obtain ⟨ax, ea⟩ : ∃ ax, Ao = some ax := by
              rcases RO.out with h | ⟨g, cur, ha, _⟩
              · omega
              · exact ⟨_, ha⟩
            have RX := RO
            rw [ea] at RX
            rw [ea] at y2
            have HAX := Aside0.mk ea
            clear ea hk
            go_wp2_with (first | (refine st_row rfl _ _ rfl size58 w3.heap.size c.ovr.length ax i HKL.out RX.out ?hx #[.int .u64 0, .int .i64 0, .int .i64 0, .string ⟨#[]⟩, .string ⟨#[]⟩, .int .u64 0, .int .u64 0] ?hy rfl (by simp [Value.oneCell']) ?_; (case hx => rfl); (case hy => rfl); intro w13 hbb hrr hkk; have HB13 := Aside0.mk (hbb _ _ HB.out (Nat.le_refl _)); have RI13 := Aside0.mk (hrr _ _ _ RI.out); have RO13 := Aside0.mk (hrr _ _ _ RO.out); have XC13 := Aside0.mk (hkk _ _ _ XC.out (by decide)); clear hbb hrr hkk) | fail)
            try rw [ew]
            clear ew
            go_roundg q
            case measure => omega
            case rel => exact ⟨i + 1, rfl, ⟨by have := HK.out; omega⟩, HB13, RI13, RO13, XC13⟩
      | succ q =>
        have hk : i < c.inn.length := by have := HK.out; omega
        have HKL := Aside0.mk hk
        have d1 : decide ((i : Int) < (c.inn.length : Int)) = true := decide_eq_true (by omega)
        have d2 : decide (i < c.inn.length) = true := decide_eq_true hk
        have p0 : 0 ≤ (i : Int) := Int.natCast_nonneg _
        have p1 : (i : Int) < (c.inn.length : Int) := by omega
        have HM := Aside0.mk (show c.inn.length ≤ 9223372036854775807 from LI.out)
        have ew : wrap64 ((i : Int) + 1) = ((i + 1 : Nat) : Int) := by have h1 := HM.out; unfold wrap64; omega
        obtain ⟨ax, ea⟩ : ∃ ax, Ai = some ax := by
          rcases RI.out with h | ⟨g, cur, ha, _⟩
          · omega
          · exact ⟨_, ha⟩
        have RX := RI
        rw [ea] at RX
        rw [ea] at y1
        have HAX := Aside0.mk ea
        clear ea hk
        go_wp2_with (first | (refine st_row rfl _ _ rfl size58 w3.heap.size c.inn.length ax i HKL.out RX.out ?hx #[.int .u64 0, .int .i64 0, .int .i64 0, .string ⟨#[]⟩, .string ⟨#[]⟩, .int .u64 0, .int .u64 0] ?hy rfl (by simp [Value.oneCell']) ?_; (case hx => rfl); (case hy => rfl); intro w13 hbb hrr hkk; have HB13 := Aside0.mk (hbb _ _ HB.out (Nat.le_refl _)); have RI13 := Aside0.mk (hrr _ _ _ RI.out); have RO13 := Aside0.mk (hrr _ _ _ RO.out); have XC13 := Aside0.mk (hkk _ _ _ XC.out (by decide)); clear hbb hrr hkk) | fail)
        try rw [ew]
        clear ew
        go_roundg q
        case measure => omega
        case rel => exact ⟨i + 1, rfl, ⟨by have := HK.out; omega⟩, HB13, RI13, RO13, XC13⟩
end Go.Proofs.Ytkjepfofiegcdaa.V
