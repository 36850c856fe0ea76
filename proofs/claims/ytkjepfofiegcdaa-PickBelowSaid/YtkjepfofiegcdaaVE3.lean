import Derived.Test.YtkjepfofiegcdaaVE2
/- The law PickBelow, walked. Conditions: none. -/
namespace Go.Proofs.Ytkjepfofiegcdaa.V
set_option linter.unusedVariables false
set_option linter.unusedSimpArgs false
open Go.RowKit Go.Proofs.YtkjepfofiegcdaaW.PrintWords Go.Proofs.YtkjepfofiegcdaaW.PrintLast Go.Proofs.YtkjepfofiegcdaaW.PrintMore Go.Proofs.Ytkjepfofiegcdaa.PB14
theorem below_none {w w1 : World} (h : w.grownBy w1 none) : Below w.heap.size w w1 := ⟨h.os, h.tape, h.output, h.size, fun i hi => h.block i hi (by simp)⟩
theorem len_ite {c : Prop} [Decidable c] {a b : List S58} {n : Nat} (ha : a.length ≤ n) (hb : b.length ≤ n) : (if c then a else b).length ≤ n := by split <;> assumption
theorem due_len {v : Ver} (h : rightP v) (lev : Nat) (hl : lev < 3) (many base times : Int) : (dueL v many base times lev).length ≤ 1000 := by
  have h1 : v.l0.length ≤ 64 := h.2.1.1 0 (by omega)
  rcases (by omega : lev = 0 ∨ lev = 1 ∨ lev = 2) with rfl | rfl | rfl
  · exact len_ite (by show 0 ≤ 1000; omega) (by omega)
  · exact len_ite (by show 0 ≤ 1000; omega) (by show 1 ≤ 1000; omega)
  · exact len_ite (by show 0 ≤ 1000; omega) (by show 1 ≤ 1000; omega)
set_option maxHeartbeats 8000000 in
set_option maxRecDepth 100000 in
theorem pickBelow_calls (w : World) (v : Ver) (p : Pl) (hC : VC w v p) (hW : VW v) (many base times : Int) : Calls Try.prog 9 #[.agg (vCs v p), .agg #[.int .i64 many, .int .i64 base, .int .i64 times]] w fun e w' => e = .returned (.bool true) ∧ Below w.heap.size w w' := by
  have HC := Aside0.mk hC
  have HW := Aside0.mk hW
  have HB := Aside0.mk (below_alloc ((Below.refl w.heap.size w).alloc (Nat.le_refl _) (.cells (vCs v p) 26)) (.cells #[.int .i64 many, .int .i64 base, .int .i64 times] 48))
  have X2 := Aside0.mk (blk_alloc (blk_new w (.cells (vCs v p) 26)) (.cells #[.int .i64 many, .int .i64 base, .int .i64 times] 48))
  have X3 := Aside0.mk (blk_new (w.alloc (.cells (vCs v p) 26)) (.cells #[.int .i64 many, .int .i64 base, .int .i64 times] 48))
  clear hC hW
  go_enter Try.func9, Try.ntmps9
  go_upto_region 1 with (fail)
  generalize hg3 : (w.alloc (.cells (vCs v p) 26)).heap.size = g3 at *
  have e3 : w.heap.size + 1 = g3 := by rw [← hg3]; simp
  try rw [e3]
  have N1 := Aside0.mk (show w.heap.size < g3 by omega)
  clear hg3 e3
  generalize (w.alloc (.cells (vCs v p) 26)).alloc (.cells #[.int .i64 many, .int .i64 base, .int .i64 times] 48) = w1 at *
  have b0 : w1.cell? ⟨w.heap.size, 0, none⟩ = some (.int .u64 v.log) := (blk_cell X2.out 0).trans rfl
  have b1 : w1.cell? ⟨w.heap.size, 1, none⟩ = some (.int .u64 v.next) := (blk_cell X2.out 1).trans rfl
  have b2 : w1.cell? ⟨w.heap.size, 2, none⟩ = some (.int .u64 v.seq) := (blk_cell X2.out 2).trans rfl
  have b3 : w1.cell? ⟨w.heap.size, 3, none⟩ = some (.slice p.a0 v.l0.length p.c0) := (blk_cell X2.out 3).trans rfl
  have b4 : w1.cell? ⟨w.heap.size, 4, none⟩ = some (.slice p.a1 v.l1.length p.c1) := (blk_cell X2.out 4).trans rfl
  have b5 : w1.cell? ⟨w.heap.size, 5, none⟩ = some (.slice p.a2 v.l2.length p.c2) := (blk_cell X2.out 5).trans rfl
  have b6 : w1.cell? ⟨w.heap.size, 6, none⟩ = some (.slice p.a3 v.l3.length p.c3) := (blk_cell X2.out 6).trans rfl
  go_wp2_with fail
  refine (many33_calls _ v p).mono ?_
  rintro e w2 ⟨rfl, hb⟩
  have HB2 := Aside0.mk (below_step HB.out hb)
  have X22 := Aside0.mk (blk_below X2.out hb)
  have X32 := Aside0.mk (blk_below X3.out hb)
  clear hb HB X2 X3 b0 b1 b2 b3 b4 b5 b6
  by_cases hm : manyP v
  · rw [decide_eq_true hm]
    clear hm
    go_wp2_with fail
    refine (awake16_calls _).mono ?_
    rintro e w9 ⟨rfl, hb⟩
    have HB9 := Aside0.mk (below_step HB2.out hb)
    clear hb
    go_wp2_with fail
    go_ret
    exact ⟨rfl, HB9.out⟩
  · rw [decide_eq_false hm]
    clear hm
    have b0 : w2.cell? ⟨w.heap.size, 0, none⟩ = some (.int .u64 v.log) := (blk_cell X22.out 0).trans rfl
    have b1 : w2.cell? ⟨w.heap.size, 1, none⟩ = some (.int .u64 v.next) := (blk_cell X22.out 1).trans rfl
    have b2 : w2.cell? ⟨w.heap.size, 2, none⟩ = some (.int .u64 v.seq) := (blk_cell X22.out 2).trans rfl
    have b3 : w2.cell? ⟨w.heap.size, 3, none⟩ = some (.slice p.a0 v.l0.length p.c0) := (blk_cell X22.out 3).trans rfl
    have b4 : w2.cell? ⟨w.heap.size, 4, none⟩ = some (.slice p.a1 v.l1.length p.c1) := (blk_cell X22.out 4).trans rfl
    have b5 : w2.cell? ⟨w.heap.size, 5, none⟩ = some (.slice p.a2 v.l2.length p.c2) := (blk_cell X22.out 5).trans rfl
    have b6 : w2.cell? ⟨w.heap.size, 6, none⟩ = some (.slice p.a3 v.l3.length p.c3) := (blk_cell X22.out 6).trans rfl
    have o0 : w2.cell? ⟨g3, 0, none⟩ = some (.int .i64 many) := (blk_cell X32.out 0).trans rfl
    have o1 : w2.cell? ⟨g3, 1, none⟩ = some (.int .i64 base) := (blk_cell X32.out 1).trans rfl
    have o2 : w2.cell? ⟨g3, 2, none⟩ = some (.int .i64 times) := (blk_cell X32.out 2).trans rfl
    go_wp2_with fail
    refine (pick_calls _ v p (HC.out.below HB2.out) HW.out many base times).mono ?_
    rintro e w3 ⟨vi, vo, rfl, hRi, hRo, hb⟩
    obtain ⟨Ai, ci, hvi⟩ := Kd.R_slice hRi
    subst hvi
    obtain ⟨Ao, co, hvo⟩ := Kd.R_slice hRo
    subst hvo
    have HB3 := Aside0.mk (below_step HB2.out hb)
    have X23 := Aside0.mk (blk_below X22.out hb)
    have RI := Aside0.mk (Kd.R_reads' hRi)
    have RO := Aside0.mk (Kd.R_reads' hRo)
    clear hb hRi hRo HB2 X22 X32 b0 b1 b2 b3 b4 b5 b6 o0 o1 o2
    rcases pick_cases v many base times with ⟨hE, hP⟩ | ⟨lev, hl3, hr, ho, hne, hE, hP⟩
    · rw [hP] at RI RO
      rw [hP]
      generalize pickE v many base times = ee at *
      have z0 : (ee == 0) = false := by simpa using hE
      have z1 : (ee != 0) = true := by simpa using hE
      have HB4 := Aside0.mk (below_alloc HB3.out (.cells #[.int .i64 0, .slice Ai 0 ci, .slice Ao 0 co] 52))
      clear hP hE
      go_wp2_with fail
      refine (awake16_calls _).mono ?_
      rintro e w9 ⟨rfl, hb⟩
      have HB9 := Aside0.mk (below_step HB4.out hb)
      clear hb
      go_wp2_with fail
      go_ret
      exact ⟨rfl, HB9.out⟩
    · rw [hP] at RI RO
      rw [hP, hE]
      have RIc := Aside0.mk RI.out.2.1
      have ROc := Aside0.mk RO.out.2.1
      replace RI := RI.out.2.2
      replace RO := RO.out.2.2
      obtain ⟨In, hIn⟩ : ∃ In, In = dueL v many base times lev := ⟨_, rfl⟩
      obtain ⟨Ov, hOv⟩ : ∃ Ov, Ov = ovrL v lev (dueL v many base times lev) := ⟨_, rfl⟩
      simp only [← hIn] at hOv RI RIc RO ROc hne ⊢
      simp only [← hOv] at RO ROc ⊢
      have LIN0 := Aside0.mk (show In.length ≤ 1000 by rw [hIn]; exact due_len hr lev hl3 many base times)
      have LOV0 := Aside0.mk (show Ov.length ≤ 1000 by rw [hOv]; exact Nat.le_trans (List.length_filter_le _ _) (by have := hr.2.1.1 (lev + 1) (by omega); omega))
      have HNE := Aside0.mk hne
      have HPOS := Aside0.mk (List.length_pos_iff.mpr hne)
      have RV := Aside0.mk hr
      have HL3 := Aside0.mk hl3
      clear hP hE hIn hOv hne hr ho
      have hb1 := (Below.refl w3.heap.size w3).alloc (Nat.le_refl _) (.cells #[.int .i64 (lev : Int), .slice Ai In.length ci, .slice Ao Ov.length co] 52)
      have HB4 := Aside0.mk (below_step HB3.out hb1)
      have X24 := Aside0.mk (blk_below X23.out hb1)
      have X54 := Aside0.mk (blk_new w3 (.cells #[.int .i64 (lev : Int), .slice Ai In.length ci, .slice Ao Ov.length co] 52))
      have CI := Aside0.mk (Kd.C_below RI hb1)
      have CO := Aside0.mk (Kd.C_below RO hb1)
      have N5 := Aside0.mk (show w.heap.size < w3.heap.size from blk_lt X23.out)
      clear hb1 RI RO HB3 X23
      go_upto_region 6 with (fail)
      have n5_ := N5.out
      generalize w3.heap.size = g5 at *
      generalize w3.alloc (.cells #[.int .i64 (lev : Int), .slice Ai In.length ci, .slice Ao Ov.length co] 52) = w4 at *
      have y0 : w4.cell? ⟨g5, 0, none⟩ = some (.int .i64 (lev : Int)) := (blk_cell X54.out 0).trans rfl
      have y1 : w4.cell? ⟨g5, 1, none⟩ = some (.slice Ai In.length ci) := (blk_cell X54.out 1).trans rfl
      have y2 : w4.cell? ⟨g5, 2, none⟩ = some (.slice Ao Ov.length co) := (blk_cell X54.out 2).trans rfl
      have BE0 := Aside0.mk (show botE v (lev : Int) = 0 by unfold botE; rw [if_pos (show askP v (lev : Int) from ⟨RV.out, by omega, by omega⟩)])
      have HCI := Aside0.mk (show In.length ≤ ci from RIc.out)
      have HCO := Aside0.mk (show Ov.length ≤ co from ROc.out)
      have LIN := Aside0.mk (show In.length ≤ 1000 from LIN0.out)
      have LOV := Aside0.mk (show Ov.length ≤ 1000 from LOV0.out)
      have b0 : w4.cell? ⟨w.heap.size, 0, none⟩ = some (.int .u64 v.log) := (blk_cell X24.out 0).trans rfl
      have b1 : w4.cell? ⟨w.heap.size, 1, none⟩ = some (.int .u64 v.next) := (blk_cell X24.out 1).trans rfl
      have b2 : w4.cell? ⟨w.heap.size, 2, none⟩ = some (.int .u64 v.seq) := (blk_cell X24.out 2).trans rfl
      have b3 : w4.cell? ⟨w.heap.size, 3, none⟩ = some (.slice p.a0 v.l0.length p.c0) := (blk_cell X24.out 3).trans rfl
      have b4 : w4.cell? ⟨w.heap.size, 4, none⟩ = some (.slice p.a1 v.l1.length p.c1) := (blk_cell X24.out 4).trans rfl
      have b5 : w4.cell? ⟨w.heap.size, 5, none⟩ = some (.slice p.a2 v.l2.length p.c2) := (blk_cell X24.out 5).trans rfl
      have b6 : w4.cell? ⟨w.heap.size, 6, none⟩ = some (.slice p.a3 v.l3.length p.c3) := (blk_cell X24.out 6).trans rfl
      have BOT := bottom_calls w4 v p (HC.out.below HB4.out) HW.out (lev : Int) Ai ci In Ao co Ov CI.out HCI.out CO.out HCO.out
      rw [BE0.out] at BOT
      go_wp2_with fail
      refine BOT.mono ?_
      clear BOT
      rintro e w5 ⟨rfl, hb⟩
      have HB5 := Aside0.mk hb
      have X55 := Aside0.mk (blk_below X54.out hb)
      clear hb
      obtain ⟨bb, hbb⟩ : ∃ b, b = botB v (lev : Int) (In ++ Ov) := ⟨_, rfl⟩
      rw [← hbb]
      have BB := Aside0.mk hbb
      clear hbb b0 b1 b2 b3 b4 b5 b6 y0 y1 y2
      go_wp2_with fail
      refine start_ (n := 8) (S := (fun w' => w'.heap[g5]? = some (.cells #[.int .i64 (lev : Int), .slice Ai In.length ci, .slice Ao Ov.length co] 52 (0, 0)) ∧ Below w4.heap.size w4 w')) (ds := []) #[false, false, false, false, false, false, false, false] (by kernel_rfl) rfl rfl ⟨blk_drew X55.out, below_drew HB5.out⟩ (fun hHeld => ?_)
      -- 1: Op.fieldAddr 52 t5 1
      refine pure_ (i := 1) (N := (some 34)) (v := ?_) (a' := ?_) #[false, true, false, false, false, false, false, false] rfl rfl (by kernel_rfl) (fun _ _ _ h => h) (Or.inl ⟨by rfl, ?_⟩) ?_ ?_
      rotate_left
      · intro w'
        go_simp
        with_reducible rfl
      rotate_left
      · simp only [Act.put, List.setIfInBounds_toArray, List.set_cons_zero, List.set_cons_succ, i64_w, i32_w]
        rfl
      -- 2: Op.load 23 t34
      refine take_ (i := 2) (N := (some 35)) (v := ?_) (a' := ?_) #[false, true, true, false, false, false, false, false] rfl rfl (by kernel_rfl) (fun _ _ _ h => h) (Or.inl ⟨by rfl, ?_⟩) hHeld ?_ ?_
      rotate_left
      · rintro w' ⟨s0, s1⟩
        have z1 : w'.cell? ⟨g5, 1, none⟩ = some (.slice Ai In.length ci) := (blk_cell s0 1).trans rfl
        have z2 : w'.cell? ⟨g5, 2, none⟩ = some (.slice Ao Ov.length co) := (blk_cell s0 2).trans rfl
        go_simp
        with_reducible rfl
      rotate_left
      · simp only [Act.put, List.setIfInBounds_toArray, List.set_cons_zero, List.set_cons_succ, i64_w, i32_w]
        rfl
      -- 4: Op.fieldAddr 52 t5 2
      refine pure_ (i := 4) (N := (some 37)) (v := ?_) (a' := ?_) #[false, true, true, false, true, false, false, false] rfl rfl (by kernel_rfl) (fun _ _ _ h => h) (Or.inl ⟨by rfl, ?_⟩) ?_ ?_
      rotate_left
      · intro w'
        go_simp
        with_reducible rfl
      rotate_left
      · simp only [Act.put, List.setIfInBounds_toArray, List.set_cons_zero, List.set_cons_succ, i64_w, i32_w]
        rfl
      -- 5: Op.load 23 t37
      refine take_ (i := 5) (N := (some 38)) (v := ?_) (a' := ?_) #[false, true, true, false, true, true, false, false] rfl rfl (by kernel_rfl) (fun _ _ _ h => h) (Or.inl ⟨by rfl, ?_⟩) hHeld ?_ ?_
      rotate_left
      · rintro w' ⟨s0, s1⟩
        have z1 : w'.cell? ⟨g5, 1, none⟩ = some (.slice Ai In.length ci) := (blk_cell s0 1).trans rfl
        have z2 : w'.cell? ⟨g5, 2, none⟩ = some (.slice Ao Ov.length co) := (blk_cell s0 2).trans rfl
        go_simp
        with_reducible rfl
      rotate_left
      · simp only [Act.put, List.setIfInBounds_toArray, List.set_cons_zero, List.set_cons_succ, i64_w, i32_w]
        rfl
      -- 0: Op.buildSlice 23 0 #[]
      refine one_ (i := 0) (N := (some 33)) #[true, true, true, false, true, true, false, false] rfl rfl (by kernel_rfl) (by decide) (fun K hK => ?_)
      refine Kd.R_lit_step k58 (w0 := w4) w4.heap.size 58 ?hg (N := 33) ?hd (xs := ([] : List S58)) (inner := []) (ok := fun _ => True) (okp := fun _ => True) ?hr ?hp (fun _ hk => hk) trivial hHeld.2 hHeld.2.size (by simp) ?_; (case hd => rfl); (case hg => rfl); (case hr => first | (go_simp; done) | (go_simp; rfl)); (case hp => exact (Reps.none _ _))
      intro v33 wA hRA hbA hgA hnA
      have hOld := hHeld
      clear hHeld
      refine hK.out _ _ (⟨blk_below hOld.1 (below_none hgA), hbA⟩) (fun hHeld => ?_)
      clear hOld hK K
      refine norm_ (a' := ?_) ?_ ?_
      rotate_left
      · show Act.put _ (some 33) _ = _
        simp only [Act.put, List.setIfInBounds_toArray, List.set_cons_zero, List.set_cons_succ, i64_w, i32_w]
        rfl
      have RA := Aside0.mk hRA
      clear hRA hbA hgA hnA
      -- 3: Op.call { builtin append, args := #[t33, t35], argTypes := #[23, 23] }
      refine one_ (i := 3) (N := (some 36)) #[true, true, true, true, true, true, false, false] rfl rfl (by kernel_rfl) (by decide) (fun K hK => ?_)
      refine Kd.R_append_rows_step k58 (Rr := k58.K wA) (w0 := w4) w4.heap.size (by rfl) (.tmp 33) (.tmp 35) 23 58 (.agg #[(.int .u64 0), (.int .i64 0), (.int .i64 0), (.string ⟨#[]⟩), (.string ⟨#[]⟩), (.int .u64 0), (.int .u64 0)]) 72 rfl Try.underlying23 info58 rfl (by decide) (by omega) v33 ([]) (In) Ai In.length ci (fun _ => True) (fun _ => False) rfl rfl ?aO3 ?aR3 ?aM3 (fun _ h => h.elim) ?aF3 ?aB3 ?aS3 ?aL3 ?_; (case aM3 => (intro x cs hk; obtain rfl := k58_open hk; exact k58_mkM _ _ _ x)); (case aR3 => exact (Kd.C_below CI.out hHeld.2)); (case aB3 => exact hHeld.2); (case aF3 => exact (fun _ _ => trivial)); (case aO3 => exact RA.out); (case aS3 => exact hHeld.2.size); (case aL3 => (have h1 := LIN.out; have h2 := LOV.out; simp; omega))
      intro v36 wB hRB hbB hgB hatB
      rw [List.nil_append] at hRB
      have hOld := hHeld
      clear hHeld
      refine hK.out _ _ (⟨blk_grown hOld.1 hgB (Kd.R_ne RA.out hOld.1 (by decide)), hbB⟩) (fun hHeld => ?_)
      clear hOld hK K
      refine norm_ (a' := ?_) ?_ ?_
      rotate_left
      · show Act.put _ (some 36) _ = _
        simp only [Act.put, List.setIfInBounds_toArray, List.set_cons_zero, List.set_cons_succ, i64_w, i32_w]
        rfl
      have RB := Aside0.mk hRB
      clear hRB hbB hgB hatB RA
      -- 6: Op.call { builtin append, args := #[t36, t38], argTypes := #[23, 23] }
      refine one_ (i := 6) (N := (some 39)) #[true, true, true, true, true, true, true, false] rfl rfl (by kernel_rfl) (by decide) (fun K hK => ?_)
      refine Kd.R_append_rows_step k58 (Rr := k58.K wB) (w0 := w4) w4.heap.size (by rfl) (.tmp 36) (.tmp 38) 23 58 (.agg #[(.int .u64 0), (.int .i64 0), (.int .i64 0), (.string ⟨#[]⟩), (.string ⟨#[]⟩), (.int .u64 0), (.int .u64 0)]) 72 rfl Try.underlying23 info58 rfl (by decide) (by omega) v36 (In) (Ov) Ao Ov.length co (fun _ => True) (fun _ => False) rfl rfl ?aO6 ?aR6 ?aM6 (fun _ h => h.elim) ?aF6 ?aB6 ?aS6 ?aL6 ?_; (case aM6 => (intro x cs hk; obtain rfl := k58_open hk; exact k58_mkM _ _ _ x)); (case aR6 => exact (Kd.C_below CO.out hHeld.2)); (case aB6 => exact hHeld.2); (case aF6 => exact (fun _ _ => trivial)); (case aO6 => exact RB.out); (case aS6 => exact hHeld.2.size); (case aL6 => (have h1 := LIN.out; have h2 := LOV.out; simp; omega))
      intro v39 wC hRC hbC hgC hatC
      have hOld := hHeld
      clear hHeld
      refine hK.out _ _ (⟨blk_grown hOld.1 hgC (Kd.R_ne RB.out hOld.1 (by decide)), hbC⟩) (fun hHeld => ?_)
      clear hOld hK K
      refine norm_ (a' := ?_) ?_ ?_
      rotate_left
      · show Act.put _ (some 39) _ = _
        simp only [Act.put, List.setIfInBounds_toArray, List.set_cons_zero, List.set_cons_succ, i64_w, i32_w]
        rfl
      have RC := Aside0.mk hRC
      clear hRC hbC hgC hatC RB
      -- 7: Op.assign t39
      refine pure_ (i := 7) (N := (some 9)) (v := ?_) (a' := ?_) #[true, true, true, true, true, true, true, true] rfl rfl (by kernel_rfl) (fun _ _ _ h => h) (Or.inl ⟨by rfl, ?_⟩) ?_ ?_
      rotate_left
      · intro w'
        go_simp
        with_reducible rfl
      rotate_left
      · simp only [Act.put, List.setIfInBounds_toArray, List.set_cons_zero, List.set_cons_succ, i64_w, i32_w]
        rfl
      refine done_ (by kernel_rfl) ?_
      obtain ⟨B, cb, hv9⟩ := Kd.R_slice RC.out
      subst hv9
      have CL5 := Aside0.mk (Kd.R_reads' RC.out).2.2
      have HB6 := Aside0.mk hHeld.2
      have X56 := Aside0.mk hHeld.1
      clear hHeld
      obtain ⟨L, hL⟩ : ∃ L, L = In ++ Ov := ⟨_, rfl⟩
      rw [← hL] at CL5 BB ⊢
      have LQ := Aside0.mk hL
      have LLEN := Aside0.mk (show L.length ≤ 2000000000 by rw [hL, List.length_append]; have := LIN.out; have := LOV.out; omega)
      clear hL RC HB5 X55
      have y0 : wC.cell? ⟨g5, 0, none⟩ = some (.int .i64 (lev : Int)) := (blk_cell X56.out 0).trans rfl
      have ew2 : wrap64 ((lev : Int) + 2) = ((lev + 2 : Nat) : Int) := by unfold wrap64; have := HL3.out; omega
      have q0 : decide (0 < (In.length : Int)) = true := decide_eq_true (by have := HPOS.out; omega)
      have q1 : decide (0 < In.length) = true := decide_eq_true HPOS.out
      go_wp2_with fail
      try rw [ew2]
      clear y0
      go_loopg [10, 11, 12] (4 - (lev + 2)) (fun kq v10 v11 v12 w' => ∃ i : Nat, v10 = .int .i64 (i : Int) ∧ Aside0 (kq + i = 4) ∧ Aside0 (lev + 2 ≤ i) ∧ Aside0 (Below w4.heap.size w4 w') ∧ Aside0 (k58.C w' B L.length L))
      case atStart => exact ⟨lev + 2, rfl, ⟨by have := HL3.out; omega⟩, ⟨by omega⟩, HB6, CL5⟩
      case round =>
        clear HB6 CL5 X56
        obtain ⟨i, rfl, HK, HI2, HB, CL⟩ := hrel
        have X5 := Aside0.mk (blk_below X54.out HB.out)
        have X2 := Aside0.mk (blk_below X24.out HB.out)
        have y1 : wr.cell? ⟨g5, 1, none⟩ = some (.slice Ai In.length ci) := (blk_cell X5.out 1).trans rfl
        cases gk with
        | zero =>
          have ei : i = 4 := by have := HK.out; omega
          subst ei
          go_wp2_with fail
          refine (awake16_calls _).mono ?_
          rintro e w9 ⟨rfl, hb⟩
          have HB9 := Aside0.mk (below_step HB4.out (below_step HB.out hb))
          clear hb
          go_wp2_with fail
          go_ret
          exact ⟨rfl, HB9.out⟩
        | succ q =>
          have hi : i < 4 := by have := HK.out; omega
          have HI := Aside0.mk hi
          have d0 : decide ((i : Int) < 4) = true := decide_eq_true (by omega)
          have i0 : 0 ≤ (i : Int) := Int.natCast_nonneg _
          have i1 : (i : Int) < 4 := by omega
          clear hi
          cases hbt : bb with
          | false =>
            subst hbt
            go_wp2_with fail
            refine (awake16_calls _).mono ?_
            rintro e w9 ⟨rfl, hb⟩
            have HB9 := Aside0.mk (below_step HB4.out (below_step HB.out hb))
            clear hb
            go_wp2_with fail
            go_ret
            exact ⟨rfl, HB9.out⟩
          | true =>
            subst hbt
            have BP := Aside0.mk (show ∀ m, m ∈ v.lv i → ∀ n, n ∈ L → overB m n = false from fun m hm n hn => by
              have h1 := BB.out
              unfold botB at h1
              symm at h1
              simp only [Bool.and_eq_true, decide_eq_true_eq] at h1
              rcases h1.2 with h2 | h2
              · rw [h2] at hn; cases hn
              · exact over_span hn (h2 i HI.out (by have := HI2.out; omega) m hm))
            obtain ⟨l, hl⟩ : ∃ l, l = v.lv i := ⟨_, rfl⟩
            rw [← hl] at BP
            have LE := Aside0.mk hl
            have HLL := Aside0.mk (show l.length ≤ 64 by rw [LE.out]; exact RV.out.2.1.1 i HI.out)
            have CV := Aside0.mk (show k58.C w4 (p.a i) l.length l by rw [LE.out]; exact ((HC.out.below HB4.out) i HI.out).1)
            clear hl
            go_wp2_with fail
            go_loopg [11, 12] l.length (fun kq v11 v12 w' => ∃ k : Nat, v11 = .int .i64 (k : Int) ∧ Aside0 (kq + k = l.length) ∧ Aside0 (Below w4.heap.size w4 w') ∧ Aside0 (k58.C w' B L.length L))
            case atStart => exact ⟨0, rfl, ⟨by omega⟩, HB, CL⟩
            case round =>
              clear HB CL X5 X2 y1
              obtain ⟨k, rfl, HKK, HB, CL⟩ := hrel
              have X2 := Aside0.mk (blk_below X24.out HB.out)
              have hv := vcell X2.out i HI.out
              rw [← LE.out] at hv
              cases gk with
              | zero =>
                have ek : k = l.length := by have := HKK.out; omega
                subst ek
                have d1 : decide ((l.length : Int) < (l.length : Int)) = false := by simp
                have ew : wrap64 ((i : Int) + 1) = ((i + 1 : Nat) : Int) := by have h1 := HI.out; unfold wrap64; omega
                go_wp2_with fail
                try rw [ew]
                clear ew
                go_roundg q
                case measure => omega
                case rel => exact ⟨i + 1, rfl, ⟨by have := HK.out; omega⟩, ⟨by have := HI2.out; omega⟩, HB, CL⟩
              | succ g =>
                have hk : k < l.length := by have := HKK.out; omega
                have HKL := Aside0.mk hk
                have d1 : decide ((k : Int) < (l.length : Int)) = true := decide_eq_true (by omega)
                have d2 : decide (k < l.length) = true := decide_eq_true hk
                have p0 : 0 ≤ (k : Int) := Int.natCast_nonneg _
                have p1 : (k : Int) < (l.length : Int) := by omega
                have ew : wrap64 ((k : Int) + 1) = ((k + 1 : Nat) : Int) := by have h1 := HLL.out; unfold wrap64; omega
                clear hk
                go_wp2_with fail
                go_loopg [12] L.length (fun kq v12 w' => ∃ n : Nat, v12 = .int .i64 (n : Int) ∧ Aside0 (kq + n = L.length) ∧ Aside0 (Below w4.heap.size w4 w') ∧ Aside0 (k58.C w' B L.length L))
                case atStart => exact ⟨0, rfl, ⟨by omega⟩, HB, CL⟩
                case round =>
                  clear HB CL X2 hv
                  obtain ⟨n, rfl, HN, HB, CL⟩ := hrel
                  have X2 := Aside0.mk (blk_below X24.out HB.out)
                  have hv := vcell X2.out i HI.out
                  rw [← LE.out] at hv
                  cases gk with
                  | zero =>
                    have en : n = L.length := by have := HN.out; omega
                    subst en
                    have d3 : decide ((L.length : Int) < (L.length : Int)) = false := by simp
                    go_wp2_with fail
                    try rw [ew]
                    clear ew
                    go_roundg g
                    case measure => omega
                    case rel => exact ⟨k + 1, rfl, ⟨by have := HKK.out; omega⟩, HB, CL⟩
                  | succ z =>
                    have hn : n < L.length := by have := HN.out; omega
                    have d3 : decide ((n : Int) < (L.length : Int)) = true := decide_eq_true (by omega)
                    have d4 : decide (n < L.length) = true := decide_eq_true hn
                    have n0 : 0 ≤ (n : Int) := Int.natCast_nonneg _
                    have n1 : (n : Int) < (L.length : Int) := by omega
                    have CV1 := Kd.C_below CV.out HB.out
                    obtain ⟨ax, ea, ha0, ha1, ha2, ha3, ha4, ha5, ha6⟩ := at_T58 CV1 (k : Int) p0 p1
                    obtain ⟨ay, eb, hb0, hb1, hb2, hb3, hb4, hb5, hb6⟩ := at_T58 CL.out (n : Int) n0 n1
                    rw [Int.toNat_natCast] at ha0 ha1 ha2 ha3 ha4 ha5 ha6 hb0 hb1 hb2 hb3 hb4 hb5 hb6
                    have OVF := Aside0.mk (show overB (rd_T58 l (k : Int)) (rd_T58 L (n : Int)) = false by
                      unfold rd_T58
                      rw [Int.toNat_natCast, Int.toNat_natCast]
                      exact BP.out _ (getD_mem l z58 HKL.out) _ (getD_mem L z58 hn))
                    generalize rd_T58 l (k : Int) = m at *
                    generalize rd_T58 L (n : Int) = s at *
                    rw [ea] at hv
                    rw [eb]
                    have HAX := Aside0.mk ea
                    have HBX := Aside0.mk eb
                    have ew3 : wrap64 ((n : Int) + 1) = ((n + 1 : Nat) : Int) := by have h1 := LLEN.out; unfold wrap64; omega
                    have OV := over_calls wr.drew m s
                    rw [OVF.out] at OV
                    clear ea eb hn CV1
                    go_wp2_with fail
                    go_still_tail 11, (by kernel_rfl)
                    go_wp2_with fail
                    refine OV.mono ?_
                    rintro e w8 ⟨rfl, hb⟩
                    replace hb : Below wr.heap.size wr w8 := (below_drew (Below.refl wr.heap.size wr)).trans hb
                    have HB8 := Aside0.mk (below_step HB.out hb)
                    have CL8 := Aside0.mk (Kd.C_below CL.out hb)
                    clear hb
                    go_wp2_with fail
                    try rw [ew3]
                    rw [← HBX.out]
                    clear ew3 ew
                    go_roundg z
                    case measure => omega
                    case rel => exact ⟨n + 1, rfl, ⟨by have := HN.out; omega⟩, HB8, CL8⟩
end Go.Proofs.Ytkjepfofiegcdaa.V
