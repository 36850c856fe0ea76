import Derived.Test.YtkjepfofiegcdaaVE10
/- freshetref16.Pick, walked. Conditions: none. -/
namespace Go.Proofs.Ytkjepfofiegcdaa.V
set_option linter.unusedVariables false
set_option linter.unusedSimpArgs false
open Go.RowKit Go.Proofs.YtkjepfofiegcdaaW.PrintWords Go.Proofs.YtkjepfofiegcdaaW.PrintLast Go.Proofs.YtkjepfofiegcdaaW.PrintMore Go.Proofs.Ytkjepfofiegcdaa.PB14
theorem dueR_any (w : World) (v : Ver) (p : Pl) (hC : VC w v p) (many base times : Int) (hO : optP many base times) (i : Nat) (hi : i < 3) : Calls Try.prog 94 #[.agg (vCs v p), .agg #[.int .i64 many, .int .i64 base, .int .i64 times], .int .i64 (i : Int)] w fun e w' => e = .returned (.bool (decide (dueL v many base times i ≠ []))) ∧ Below w.heap.size w w' := by
  rcases (by omega : i = 0 ∨ i = 1 ∨ i = 2) with rfl | rfl | rfl
  · exact dueR0_calls w v p hC many base times hO
  · exact dueR1_calls w v p hC many base times hO
  · exact dueR2_calls w v p hC many base times hO
theorem due_min (v : Ver) (many base times : Int) (hO : optP many base times) (i : Nat) (h0 : 0 < i) (hi : i < 3) (hd : dueL v many base times i ≠ []) : dueL v many base times i = [minK (v.lv i) (v.lv i).length] ∧ 0 < (v.lv i).length := by
  have hb1 := Int.mul_le_mul hO.2.2.1 hO.2.2.2.2.1 (by decide : (0 : Int) ≤ 1) (by have := hO.2.2.1; omega)
  rcases (by omega : i = 1 ∨ i = 2) with rfl | rfl
  · by_cases h : sizeL v.l1 ≤ base
    · exact absurd (show dueL v many base times 1 = [] from if_pos h) hd
    · exact ⟨if_neg h, sizeL_pos h hO.2.2.1⟩
  · by_cases h : sizeL v.l2 ≤ base * times
    · exact absurd (show dueL v many base times 2 = [] from if_pos h) hd
    · exact ⟨if_neg h, sizeL_pos h (by simpa using hb1)⟩
theorem due_all (v : Ver) (many base times : Int) (hd : dueL v many base times 0 ≠ []) : dueL v many base times 0 = v.l0 := by
  by_cases h : (v.l0.length : Int) < many
  · exact absurd (show dueL v many base times 0 = [] from if_pos h) hd
  · exact if_neg h
theorem dueAt_of (v : Ver) (many base times : Int) (i : Nat) (hi : i < 3) (hj : ∀ j, j < i → dueL v many base times j = []) (hd : dueL v many base times i ≠ []) : dueAt v many base times = i := by
  unfold dueAt
  rcases (by omega : i = 0 ∨ i = 1 ∨ i = 2) with rfl | rfl | rfl
  · rw [if_pos hd]
  · rw [if_neg (by rw [hj 0 (by omega)]; simp), if_pos hd]
  · rw [if_neg (by rw [hj 0 (by omega)]; simp), if_neg (by rw [hj 1 (by omega)]; simp), if_pos hd]
set_option maxHeartbeats 8000000 in
set_option maxRecDepth 100000 in
theorem pickR_calls (w : World) (v : Ver) (p : Pl) (hC : VC w v p) (many base times : Int) : Calls Try.prog 37 #[.agg (vCs v p), .agg #[.int .i64 many, .int .i64 base, .int .i64 times]] w fun e w' => PickPost w w' e (pickC v many base times) (pickE v many base times) := by
  have HC := Aside0.mk hC
  have HB := Aside0.mk (below_alloc (below_alloc ((Below.refl w.heap.size w).alloc (Nat.le_refl _) (.cells (vCs v p) 26)) (.cells #[.int .i64 many, .int .i64 base, .int .i64 times] 48)) (.cells #[.int .i64 0, .slice none 0 0, .slice none 0 0] 52))
  have X2 := Aside0.mk (blk_alloc (blk_alloc (blk_new w (.cells (vCs v p) 26)) (.cells #[.int .i64 many, .int .i64 base, .int .i64 times] 48)) (.cells #[.int .i64 0, .slice none 0 0, .slice none 0 0] 52))
  have X3 := Aside0.mk (blk_alloc (blk_new (w.alloc (.cells (vCs v p) 26)) (.cells #[.int .i64 many, .int .i64 base, .int .i64 times] 48)) (.cells #[.int .i64 0, .slice none 0 0, .slice none 0 0] 52))
  have X4 := Aside0.mk (blk_new ((w.alloc (.cells (vCs v p) 26)).alloc (.cells #[.int .i64 many, .int .i64 base, .int .i64 times] 48)) (.cells #[.int .i64 0, .slice none 0 0, .slice none 0 0] 52))
  clear hC
  obtain ⟨cc, hcc⟩ : ∃ c, c = pickC v many base times := ⟨_, rfl⟩
  obtain ⟨ee, hee⟩ : ∃ c, c = pickE v many base times := ⟨_, rfl⟩
  rw [← hcc, ← hee]
  have HCC := Aside0.mk hcc
  have HEE := Aside0.mk hee
  clear hcc hee
  go_enter Try.func37, Try.ntmps37
  go_upto_region 1 with (fail)
  generalize hg4 : ((w.alloc (.cells (vCs v p) 26)).alloc (.cells #[.int .i64 many, .int .i64 base, .int .i64 times] 48)).heap.size = g4 at *
  generalize hg3 : (w.alloc (.cells (vCs v p) 26)).heap.size = g3 at *
  have e3 : w.heap.size + 1 = g3 := by rw [← hg3]; simp
  have e4 : g3 + 1 = g4 := by rw [← hg4, ← hg3]; simp
  try rw [e3]
  try rw [e4]
  have N1 := Aside0.mk (show w.heap.size < g3 ∧ g3 < g4 by omega)
  clear hg3 hg4 e3 e4
  generalize (((w.alloc (.cells (vCs v p) 26)).alloc (.cells #[.int .i64 many, .int .i64 base, .int .i64 times] 48)).alloc (.cells #[.int .i64 0, .slice none 0 0, .slice none 0 0] 52)) = w1 at *
  have b0 : w1.cell? ⟨w.heap.size, 0, none⟩ = some (.int .u64 v.log) := (blk_cell X2.out 0).trans rfl
  have b1 : w1.cell? ⟨w.heap.size, 1, none⟩ = some (.int .u64 v.next) := (blk_cell X2.out 1).trans rfl
  have b2 : w1.cell? ⟨w.heap.size, 2, none⟩ = some (.int .u64 v.seq) := (blk_cell X2.out 2).trans rfl
  have b3 : w1.cell? ⟨w.heap.size, 3, none⟩ = some (.slice p.a0 v.l0.length p.c0) := (blk_cell X2.out 3).trans rfl
  have b4 : w1.cell? ⟨w.heap.size, 4, none⟩ = some (.slice p.a1 v.l1.length p.c1) := (blk_cell X2.out 4).trans rfl
  have b5 : w1.cell? ⟨w.heap.size, 5, none⟩ = some (.slice p.a2 v.l2.length p.c2) := (blk_cell X2.out 5).trans rfl
  have b6 : w1.cell? ⟨w.heap.size, 6, none⟩ = some (.slice p.a3 v.l3.length p.c3) := (blk_cell X2.out 6).trans rfl
  go_wp2_with fail
  refine (rightR_calls _ v p (HC.out.below HB.out)).mono ?_
  rintro e w2 ⟨rfl, hb⟩
  have HB2 := Aside0.mk (below_step HB.out hb)
  have X22 := Aside0.mk (blk_below X2.out hb)
  have X32 := Aside0.mk (blk_below X3.out hb)
  have X42 := Aside0.mk (blk_below X4.out hb)
  clear hb HB X2 X3 X4 b0 b1 b2 b3 b4 b5 b6
  have o0 : w2.cell? ⟨g3, 0, none⟩ = some (.int .i64 many) := (blk_cell X32.out 0).trans rfl
  have o1 : w2.cell? ⟨g3, 1, none⟩ = some (.int .i64 base) := (blk_cell X32.out 1).trans rfl
  have o2 : w2.cell? ⟨g3, 2, none⟩ = some (.int .i64 times) := (blk_cell X32.out 2).trans rfl
  by_cases hr : rightP v
  · rw [decide_eq_true hr]
    have RV := Aside0.mk hr
    clear hr
    go_wp2_with fail
    refine (checkR_calls _ many base times).mono ?_
    rintro e w3 ⟨rfl, hb⟩
    have HB3 := Aside0.mk (below_step HB2.out hb)
    have X23 := Aside0.mk (blk_below X22.out hb)
    have X33 := Aside0.mk (blk_below X32.out hb)
    have X43 := Aside0.mk (blk_below X42.out hb)
    clear hb HB2 X22 X32 X42 o0 o1 o2
    by_cases ho : optP many base times
    · rw [optE, if_pos ho]
      have OVP := Aside0.mk ho
      clear ho
      go_wp2_with fail
      go_loopg [6] 3 (fun kq v6 w' => ∃ i : Nat, v6 = .int .i64 (i : Int) ∧ Aside0 (kq + i = 3) ∧ Aside0 (∀ j, j < i → dueL v many base times j = []) ∧ Aside0 (Below w3.heap.size w3 w'))
      case atStart => exact ⟨0, rfl, ⟨by omega⟩, ⟨fun j hj => by omega⟩, ⟨Below.refl _ _⟩⟩
      case round =>
        obtain ⟨i, rfl, HK, HJD, HBW⟩ := hrel
        have X2 := Aside0.mk (blk_below X23.out HBW.out)
        have X3 := Aside0.mk (blk_below X33.out HBW.out)
        have X4 := Aside0.mk (blk_below X43.out HBW.out)
        have HB := Aside0.mk (below_step HB3.out HBW.out)
        cases gk with
        | zero =>
          have ei : i = 3 := by have := HK.out; omega
          subst ei
          have DA := Aside0.mk (show dueAt v many base times = 3 by unfold dueAt; rw [HJD.out 0 (by omega), HJD.out 1 (by omega), HJD.out 2 (by omega)]; rfl)
          have E1 := Aside0.mk (show cc = ⟨0, [], []⟩ by rw [HCC.out, pickC, if_neg (fun h => by have := h.2.2; rw [DA.out] at this; omega)])
          have E2 := Aside0.mk (show ee = 4 by rw [HEE.out, pickE, if_pos ⟨RV.out, OVP.out⟩, if_neg (by rw [DA.out]; omega)])
          go_wp2_with (first | (refine st_arr rfl 52 _ _ rfl g4 52 ?hx #[.int .i64 0, .slice none 0 0, .slice none 0 0] ?hy _ X4.out (by rw [size52]; rfl) rfl (by simp [Value.oneCell']) ?_; (case hx => rfl); (case hy => rfl); intro w5 hb5 hbb hk5 hs5; have HB5 := Aside0.mk (hbb _ _ HB.out (show w.heap.size ≤ g4 by have := N1.out; omega)); have X45 := Aside0.mk hb5; clear hb5 hbb hk5 hs5) | fail)
          have r0 : w5.cell? ⟨g4, 0, none⟩ = some (.int .i64 0) := (blk_cell X45.out 0).trans rfl
          have r1 : w5.cell? ⟨g4, 1, none⟩ = some (.slice none 0 0) := (blk_cell X45.out 1).trans rfl
          have r2 : w5.cell? ⟨g4, 2, none⟩ = some (.slice none 0 0) := (blk_cell X45.out 2).trans rfl
          exact bodyPost_ret (v := .tuple #[.agg #[.int .i64 0, .slice none 0 0, .slice none 0 0], .int .i64 4]) (by simp [results, Try.results37, go_sem, r0, r1, r2]) rfl ⟨_, _, by rw [E1.out, E2.out], by rw [E1.out]; exact Kd.R_nil _ _ _ _ _, by rw [E1.out]; exact Kd.R_nil _ _ _ _ _, HB5.out⟩
        | succ q =>
          have hi : i < 3 := by have := HK.out; omega
          have HI := Aside0.mk hi
          have d0 : decide ((i : Int) < 3) = true := decide_eq_true (by omega)
          have i0 : 0 ≤ (i : Int) := Int.natCast_nonneg _
          have i1 : (i : Int) < 4 := by omega
          clear hi
          have b0 : wr.cell? ⟨w.heap.size, 0, none⟩ = some (.int .u64 v.log) := (blk_cell X2.out 0).trans rfl
          have b1 : wr.cell? ⟨w.heap.size, 1, none⟩ = some (.int .u64 v.next) := (blk_cell X2.out 1).trans rfl
          have b2 : wr.cell? ⟨w.heap.size, 2, none⟩ = some (.int .u64 v.seq) := (blk_cell X2.out 2).trans rfl
          have b3 : wr.cell? ⟨w.heap.size, 3, none⟩ = some (.slice p.a0 v.l0.length p.c0) := (blk_cell X2.out 3).trans rfl
          have b4 : wr.cell? ⟨w.heap.size, 4, none⟩ = some (.slice p.a1 v.l1.length p.c1) := (blk_cell X2.out 4).trans rfl
          have b5 : wr.cell? ⟨w.heap.size, 5, none⟩ = some (.slice p.a2 v.l2.length p.c2) := (blk_cell X2.out 5).trans rfl
          have b6 : wr.cell? ⟨w.heap.size, 6, none⟩ = some (.slice p.a3 v.l3.length p.c3) := (blk_cell X2.out 6).trans rfl
          have o0 : wr.cell? ⟨g3, 0, none⟩ = some (.int .i64 many) := (blk_cell X3.out 0).trans rfl
          have o1 : wr.cell? ⟨g3, 1, none⟩ = some (.int .i64 base) := (blk_cell X3.out 1).trans rfl
          have o2 : wr.cell? ⟨g3, 2, none⟩ = some (.int .i64 times) := (blk_cell X3.out 2).trans rfl
          have KD := dueR_any wr v p (HC.out.below HB.out) many base times OVP.out i HI.out
          obtain ⟨L, hL⟩ : ∃ L, L = dueL v many base times i := ⟨_, rfl⟩
          rw [← hL] at KD
          have LQ := Aside0.mk hL
          clear hL
          by_cases hd : L = []
          · rw [decide_eq_false (show ¬ L ≠ [] from fun h => h hd)] at KD
            have LZ := Aside0.mk hd
            clear hd
            have ew : wrap64 ((i : Int) + 1) = ((i + 1 : Nat) : Int) := by have h1 := HI.out; unfold wrap64; omega
            go_wp2_with fail
            refine KD.mono ?_
            clear KD
            rintro e w4 ⟨rfl, hb⟩
            have HB4 := Aside0.mk (below_step HBW.out hb)
            clear hb b0 b1 b2 b3 b4 b5 b6 o0 o1 o2
            go_wp2_with fail
            try rw [ew]
            clear ew
            go_roundg q
            case measure => omega
            case rel => exact ⟨i + 1, rfl, ⟨by have := HK.out; omega⟩, ⟨fun j hj => by
              by_cases e : j = i
              · subst e; rw [← LQ.out]; exact LZ.out
              · exact HJD.out j (by omega)⟩, HB4⟩
          · rw [decide_eq_true (show L ≠ [] from hd)] at KD
            have LNE := Aside0.mk hd
            have DA := Aside0.mk (dueAt_of v many base times i HI.out HJD.out (by rw [← LQ.out]; exact LNE.out))
            clear hd
            go_wp2_with fail
            refine KD.mono ?_
            clear KD
            rintro e w4 ⟨rfl, hb⟩
            have HB4 := Aside0.mk (below_step HB.out hb)
            have X24 := Aside0.mk (blk_below X2.out hb)
            have X44 := Aside0.mk (blk_below X4.out hb)
            clear hb b0 b1 b2 b3 b4 b5 b6 o0 o1 o2 HB X2 X3 X4 HBW
            have HI4 := Aside0.mk (show i < 4 by have := HI.out; omega)
            have X75 := Aside0.mk (blk_new w4 (.cells #[.int .i64 (i : Int), .slice none 0 0, .slice none 0 0] 52))
            have HB5 := Aside0.mk ((Below.refl w4.heap.size w4).alloc (Nat.le_refl _) (.cells #[.int .i64 (i : Int), .slice none 0 0, .slice none 0 0] 52))
            have X25 := Aside0.mk (blk_alloc X24.out (.cells #[.int .i64 (i : Int), .slice none 0 0, .slice none 0 0] 52))
            have hv := vcell X25.out i HI4.out
            have ff := blk_frozen X75.out 1
            have y1 : (w4.alloc (.cells #[.int .i64 (i : Int), .slice none 0 0, .slice none 0 0] 52)).cell? ⟨w4.heap.size, 1, none⟩ = some (.slice none 0 0) := (blk_cell X75.out 1).trans rfl
            obtain ⟨l0, hl0⟩ : ∃ l0, l0 = v.lv i := ⟨_, rfl⟩
            rw [← hl0] at hv
            have LE0 := Aside0.mk hl0
            have LLE := Aside0.mk (show l0.length ≤ 64 by rw [hl0]; exact RV.out.2.1.1 i HI4.out)
            have CL0 := Aside0.mk (show k58.C w4 (p.a i) l0.length l0 by rw [hl0]; exact ((HC.out.below HB4.out) i HI4.out).1)
            clear hl0
            rcases Nat.eq_zero_or_pos i with hi0 | hip
            · have t0 : ((i : Int) == 0) = true := by rw [hi0]; rfl
              have t1 : (i == 0) = true := by rw [hi0]; rfl
              have LL0 : L = l0 := (show L = l0 by rw [LQ.out, hi0, LE0.out, hi0]; exact due_all v many base times (by have h1 := LNE.out; rw [LQ.out, hi0] at h1; exact h1))
              clear hi0
              subst LL0
              go_wp2_with (first | ((with_reducible refine gate_dst (N := 39) rfl ?_); refine Kd.R_lit k58 (w0 := w4) w4.heap.size 58 ?hgda (N := 39) ?hda (xs := ([] : List S58)) (inner := []) (ok := fun _ => True) (okp := fun _ => True) ?hra ?hpa (fun _ hk => hk) trivial HB5.out (Below.size (HB5.out)) (by simp) ?_; (case hda => rfl); (case hgda => rfl); (case hra => first | (go_simp; done) | (go_simp; rfl)); (case hpa => exact (Reps.none _ _)); intro va wa ho hb hg_ hnew_; have Ra := Aside0.mk ho; have HBa := Aside0.mk hb; have Xa := Aside0.mk (blk_below X75.out (below_none hg_)); have Xva := Aside0.mk (blk_below X25.out (below_none hg_)); clear ho hb hg_ hnew_) | ((with_reducible refine gate_builtin (b := .append) (xs := #[.tmp 39, .tmp 40]) rfl ?_); at_builtin; refine Kd.R_append_rows k58 (Rr := k58.K wa) (w0 := w4) w4.heap.size rfl (.tmp 39) (.tmp 40) 23 58 (.agg #[(.int .u64 0), (.int .i64 0), (.int .i64 0), (.string ⟨#[]⟩), (.string ⟨#[]⟩), (.int .u64 0), (.int .u64 0)]) 72 rfl Try.underlying23 info58 rfl (show 0 < 7 by decide) (show 0 < 72 by decide) va ([]) (L) (p.a i) L.length (p.c i) (fun _ => True) (fun _ => False) rfl rfl ?aOb ?aRb ?aMb (fun _ h => h.elim) ?aFb ?aBb ?aSb ?aLb ?_; (case aRb => exact (Kd.C_below CL0.out (by exact HBa.out))); (case aMb => (intro x cs hk; obtain rfl := k58_open hk; exact k58_mkM _ _ _ x)); (case aBb => exact HBa.out); (case aFb => exact (fun _ _ => trivial)); (case aOb => exact Ra.out); (case aSb => exact Below.size (HBa.out)); (case aLb => (have h1 := LLE.out; simp; omega)); intro vb wb ho hb hg hat; have Rb := Aside0.mk ho; have HBb := Aside0.mk hb; have X7b := Aside0.mk (blk_grown Xa.out hg (Kd.R_ne Ra.out Xa.out (by decide))); have ffb := blk_frozen X7b.out 1; have y1b : wb.cell? ⟨w4.heap.size, 1, none⟩ = some (.slice none 0 0) := (blk_cell X7b.out 1).trans rfl; rw [List.nil_append] at Rb; obtain ⟨Ai, ci, hv1⟩ := Kd.R_slice Rb.out; subst hv1; clear ho hb hg hat) | fail)
              have RI6 := Aside0.mk (Kd.R_set Rb.out X7b.out (by intro x hx; simp [show k58.E = [] from rfl] at hx; omega) 1 (.slice Ai L.length ci))
              have X76 := Aside0.mk (five_set (cs' := #[.int .i64 (i : Int), .slice Ai L.length ci, .slice none 0 0]) X7b.out (j := 1) (.slice Ai L.length ci) rfl)
              have HB6 := Aside0.mk (below_set (j := 1) (v := .slice Ai L.length ci) HBb.out (Nat.le_refl _))
              generalize wb.setCell ⟨w4.heap.size, 1, none⟩ (.slice Ai L.length ci) = w6 at *
              clear ffb y1b Ra Rb
              have X16 := Aside0.mk (blk_below X24.out HB6.out)
              have KS := spanR_calls w6 Ai ci L (Kd.R_reads' RI6.out).2.2
              obtain ⟨s, hs⟩ : ∃ s, s = spanM L := ⟨_, rfl⟩
              rw [← hs] at KS
              have SQ := Aside0.mk hs
              clear hs
              refine KS.mono ?_
              clear KS
              rintro e w10 ⟨rfl, hb⟩
              have hb1 := (Below.refl w10.heap.size w10).alloc (Nat.le_refl _) (.cells (mCs s) 58)
              have HB11 := Aside0.mk (below_step (below_step HB6.out hb) hb1)
              have X711 := Aside0.mk (blk_below (blk_below X76.out hb) hb1)
              have X1111 := Aside0.mk (show Tb (w10.alloc (.cells (mCs s) 58)) w10.heap.size s from blk_new w10 _)
              have RI11 := Aside0.mk (Kd.R_below (Kd.R_mono (Kd.R_bound (Kd.R_below RI6.out hb)) (ok' := fun k => k < w10.heap.size) (fun k hk => hk.2.2.1)) hb1)
              have NG0 := Aside0.mk (show w4.heap.size < w10.heap.size from blk_lt (blk_below X76.out hb))
              clear hb hb1 X16 HB6 X76 RI6
              obtain ⟨N11, hN11⟩ : ∃ N, N = w10.heap.size + 1 := ⟨_, rfl⟩
              have NG11 := Aside0.mk (show w10.heap.size < N11 by omega)
              have HN11 := Aside0.mk (show N11 = (w10.alloc (.cells (mCs s) 58)).heap.size by simp [hN11])
              replace RI11 := Aside0.mk (Kd.R_mono RI11.out (ok' := fun k => k < N11) (fun k hk => by omega))
              clear hN11
              obtain ⟨j, hj⟩ : ∃ j : Nat, j = i + 1 := ⟨_, rfl⟩
              have HJ := Aside0.mk hj
              have HJ4 := Aside0.mk (show j < 4 by have := HI.out; omega)
              have j0 : 0 ≤ (i : Int) + 1 := by omega
              have j1 : (i : Int) + 1 < 4 := by have := HI.out; omega
              have hjw : (i : Int) + 1 = (j : Int) := by omega
              have hjw2 : wrap64 ((i : Int) + 1) = (j : Int) := by unfold wrap64; have := HI.out; omega
              have hjw3 : IntKind.i64.wrap ((i : Int) + 1) = (j : Int) := by rw [IntKind.wrap_i64]; have := HI.out; omega
              have hjw4 : IntKind.i64.wrap (j : Int) = (j : Int) := by rw [IntKind.wrap_i64]; have := HJ4.out; omega
              have hjw5 : wrap64 (j : Int) = (j : Int) := by unfold wrap64; have := HJ4.out; omega
              have j2 : 0 ≤ (j : Int) := Int.natCast_nonneg _
              have j3 : (j : Int) < 4 := by have := HJ4.out; omega
              obtain ⟨l, hl⟩ : ∃ l, l = v.lv j := ⟨_, rfl⟩
              have LE := Aside0.mk hl
              have HLL := Aside0.mk (show l.length ≤ 64 by rw [hl]; exact RV.out.2.1.1 j HJ4.out)
              have CL := Aside0.mk (show k58.C w4 (p.a j) l.length l by rw [hl]; exact ((HC.out.below HB4.out) j HJ4.out).1)
              have OVF := Aside0.mk (show ovrL v i L = flt l s l.length by rw [flt_all, SQ.out, hl, hj]; rfl)
              clear hl hj
              go_wp2_with fail
              generalize w10.heap.size = g11 at *
              generalize w10.alloc (.cells (mCs s) 58) = w11 at *
              go_loopg [12] l.length (fun kq v12 w' => ∃ (k : Nat) (B : Option Addr) (cb : Nat), v12 = .int .i64 (k : Int) ∧ Aside0 (kq + k = l.length) ∧ Aside0 (Below w4.heap.size w4 w') ∧ Aside0 (N11 ≤ w'.heap.size) ∧ Aside0 (w'.heap[w4.heap.size]? = some (.cells #[.int .i64 (i : Int), .slice Ai L.length ci, .slice B (flt l s k).length cb] 52 (0, 0))) ∧ Aside0 (Tb w' g11 s) ∧ Aside0 (Kd.R k58 58 w' w4.heap.size (fun k => k < N11) (.slice Ai L.length ci) L) ∧ Aside0 (Kd.R k58 58 w' w4.heap.size (fun k => N11 ≤ k) (.slice B (flt l s k).length cb) (flt l s k)))
              case atStart => exact ⟨0, none, 0, rfl, ⟨by omega⟩, HB11, ⟨by rw [HN11.out]; exact Nat.le_refl _⟩, X711, X1111, RI11, ⟨Kd.R_nil _ _ _ _ _⟩⟩
              case round =>
                clear HB11 X711 X1111 RI11
                obtain ⟨k, B, cb, rfl, HKK, HB, NN, X7, X11, RI, RO⟩ := hrel
                have X2 := Aside0.mk (blk_below X24.out (by exact HB.out))
                have y0 : wr.cell? ⟨w4.heap.size, 0, none⟩ = some (.int .i64 (i : Int)) := (blk_cell X7.out 0).trans rfl
                have y1 : wr.cell? ⟨w4.heap.size, 1, none⟩ = some (.slice Ai L.length ci) := (blk_cell X7.out 1).trans rfl
                have y2 : wr.cell? ⟨w4.heap.size, 2, none⟩ = some (.slice B (flt l s k).length cb) := (blk_cell X7.out 2).trans rfl
                have hv := vcell X2.out j HJ4.out
                rw [← LE.out] at hv
                cases gk with
                | zero =>
                  have ek : k = l.length := by have := HKK.out; omega
                  subst ek
                  have d1 : decide ((l.length : Int) < (l.length : Int)) = false := by simp
                  have X4 := Aside0.mk (blk_below X44.out (by exact HB.out))
                  obtain ⟨Ov, hOv⟩ : ∃ Ov, Ov = flt l s l.length := ⟨_, rfl⟩
                  rw [← hOv] at RO X7 y2
                  have OVQ := Aside0.mk (show Ov = ovrL v i L by rw [OVF.out]; exact hOv)
                  have E1 := Aside0.mk (show cc = ⟨(i : Nat), L, Ov⟩ by rw [HCC.out, pickC, if_pos ⟨RV.out, OVP.out, by rw [DA.out]; exact HI.out⟩, DA.out, ← LQ.out, OVQ.out])
                  have E2 := Aside0.mk (show ee = 0 by rw [HEE.out, pickE, if_pos ⟨RV.out, OVP.out⟩, if_pos (by rw [DA.out]; exact HI.out)])
                  clear hOv
                  go_wp2_with (first | (refine st_arr rfl 52 _ _ rfl g4 52 ?hx #[.int .i64 (i : Int), .slice Ai L.length ci, .slice B Ov.length cb] ?hy _ X4.out (by rw [size52]; rfl) rfl (by simp [Value.oneCell']) ?_; (case hx => rfl); (case hy => rfl); intro w5 hb5 hbb hk5 hs5; have HB5 := Aside0.mk (hbb _ _ (below_step HB4.out (by exact HB.out)) (show w.heap.size ≤ g4 by have := N1.out; omega)); have X45 := Aside0.mk hb5; have RI5 := Aside0.mk (R58_other (Kd.R_mono RI.out (fun _ _ => trivial)) X4.out hk5); have RO5 := Aside0.mk (R58_other (Kd.R_mono RO.out (fun _ _ => trivial)) X4.out hk5); clear hb5 hbb hk5 hs5) | fail)
                  have r0 : w5.cell? ⟨g4, 0, none⟩ = some (.int .i64 (i : Int)) := (blk_cell X45.out 0).trans rfl
                  have r1 : w5.cell? ⟨g4, 1, none⟩ = some (.slice Ai L.length ci) := (blk_cell X45.out 1).trans rfl
                  have r2 : w5.cell? ⟨g4, 2, none⟩ = some (.slice B Ov.length cb) := (blk_cell X45.out 2).trans rfl
                  exact bodyPost_ret (v := .tuple #[.agg #[.int .i64 (i : Int), .slice Ai L.length ci, .slice B Ov.length cb], .int .i64 0]) (by simp [results, Try.results37, go_sem, r0, r1, r2]) rfl ⟨_, _, by rw [E1.out, E2.out], by rw [E1.out]; exact Kd.R_lower RI5.out (show w.heap.size ≤ w4.heap.size by exact HB4.out.size), by rw [E1.out]; exact Kd.R_lower RO5.out (show w.heap.size ≤ w4.heap.size by exact HB4.out.size), HB5.out⟩
                | succ q =>
                  have hk : k < l.length := by have := HKK.out; omega
                  have d1 : decide ((k : Int) < (l.length : Int)) = true := decide_eq_true (by omega)
                  have d2 : decide (k < l.length) = true := decide_eq_true hk
                  have p0 : 0 ≤ (k : Int) := Int.natCast_nonneg _
                  have p1 : (k : Int) < (l.length : Int) := by omega
                  have ew : wrap64 ((k : Int) + 1) = ((k + 1 : Nat) : Int) := by have h1 := HLL.out; unfold wrap64; omega
                  have CL1 := Kd.C_below CL.out (by exact HB.out)
                  obtain ⟨ax, ea, ha0, ha1, ha2, ha3, ha4, ha5, ha6⟩ := at_T58 CL1 (k : Int) p0 p1
                  rw [Int.toNat_natCast] at ha0 ha1 ha2 ha3 ha4 ha5 ha6
                  have EM := Aside0.mk (show rd_T58 l (k : Int) = l.getD k z58 by unfold rd_T58; rw [Int.toNat_natCast])
                  generalize rd_T58 l (k : Int) = m at *
                  have FS := Aside0.mk (flt_snoc l s hk)
                  rw [← EM.out] at FS
                  have FL := Aside0.mk (show (flt l s k).length ≤ 1000000 from Nat.le_trans (flt_len l s k) (by have := HLL.out; omega))
                  rw [ea] at hv
                  have HAY := Aside0.mk ea
                  have KO := overR_calls wr.drew m s
                  clear ea hk CL1
                  have s0 : wr.cell? ⟨g11, 0, none⟩ = some (.int .u64 s.f0) := (blk_cell X11.out 0).trans rfl
                  have s1 : wr.cell? ⟨g11, 1, none⟩ = some (.int .i64 s.f1) := (blk_cell X11.out 1).trans rfl
                  have s2 : wr.cell? ⟨g11, 2, none⟩ = some (.int .i64 s.f2) := (blk_cell X11.out 2).trans rfl
                  have s3 : wr.cell? ⟨g11, 3, none⟩ = some (.string s.f3) := (blk_cell X11.out 3).trans rfl
                  have s4 : wr.cell? ⟨g11, 4, none⟩ = some (.string s.f4) := (blk_cell X11.out 4).trans rfl
                  have s5 : wr.cell? ⟨g11, 5, none⟩ = some (.int .u64 s.f5) := (blk_cell X11.out 5).trans rfl
                  have s6 : wr.cell? ⟨g11, 6, none⟩ = some (.int .u64 s.f6) := (blk_cell X11.out 6).trans rfl
                  go_wp2_with fail
                  go_still_tail 9, (by kernel_rfl)
                  go_wp2_with fail
                  refine KO.mono ?_
                  clear KO
                  rintro e w8 ⟨rfl, hb⟩
                  replace hb : Below wr.heap.size wr w8 := (below_drew (Below.refl wr.heap.size wr)).trans hb
                  have HB8 := Aside0.mk (HB.out.trans (hb.mono (show w4.heap.size ≤ wr.heap.size by exact HB.out.size)))
                  have NN8 := Aside0.mk (Nat.le_trans NN.out hb.size)
                  have X28 := Aside0.mk (blk_below X2.out hb)
                  have X78 := Aside0.mk (blk_below X7.out hb)
                  have X118 := Aside0.mk (X11.out.below hb)
                  have RI8 := Aside0.mk (Kd.R_below RI.out hb)
                  have RO8 := Aside0.mk (Kd.R_below RO.out hb)
                  have e0_ := (hb.cell (World.block_lt_of_cell? _ _ ha0)).trans ha0
                  have e1_ := (hb.cell (World.block_lt_of_cell? _ _ ha1)).trans ha1
                  have e2_ := (hb.cell (World.block_lt_of_cell? _ _ ha2)).trans ha2
                  have e3_ := (hb.cell (World.block_lt_of_cell? _ _ ha3)).trans ha3
                  have e4_ := (hb.cell (World.block_lt_of_cell? _ _ ha4)).trans ha4
                  have e5_ := (hb.cell (World.block_lt_of_cell? _ _ ha5)).trans ha5
                  have e6_ := (hb.cell (World.block_lt_of_cell? _ _ ha6)).trans ha6
                  clear hb y0 y1 y2 hv ha0 ha1 ha2 ha3 ha4 ha5 ha6 s0 s1 s2 s3 s4 s5 s6
                  by_cases hov : overB m s = true
                  · rw [hov]
                    have FS2 := Aside0.mk (show flt l s (k + 1) = flt l s k ++ [m] by rw [FS.out, if_pos hov])
                    have NN9 := Aside0.mk (show N11 ≤ w8.drew.heap.size from NN8.out)
                    clear hov
                    go_wp2_with fail
                    refine start_ (n := 14) (S := (fun w' => w'.heap[w.heap.size]? = some (.cells (vCs v p) 26 (0, 0)) ∧ w'.heap[w4.heap.size]? = some (.cells #[.int .i64 (i : Int), .slice Ai L.length ci, .slice B (flt l s k).length cb] 52 (0, 0)) ∧ w'.cell? (ax.add (k * 7)) = some (.int .u64 m.f0) ∧ w'.cell? ⟨(ax.add (k * 7)).block, (ax.add (k * 7)).off + 1, none⟩ = some (.int .i64 m.f1) ∧ w'.cell? ⟨(ax.add (k * 7)).block, (ax.add (k * 7)).off + 2, none⟩ = some (.int .i64 m.f2) ∧ w'.cell? ⟨(ax.add (k * 7)).block, (ax.add (k * 7)).off + 3, none⟩ = some (.string m.f3) ∧ w'.cell? ⟨(ax.add (k * 7)).block, (ax.add (k * 7)).off + 4, none⟩ = some (.string m.f4) ∧ w'.cell? ⟨(ax.add (k * 7)).block, (ax.add (k * 7)).off + 5, none⟩ = some (.int .u64 m.f5) ∧ w'.cell? ⟨(ax.add (k * 7)).block, (ax.add (k * 7)).off + 6, none⟩ = some (.int .u64 m.f6))) (ds := [11, 13]) #[false, false, false, false, false, false, false, false, false, false, false, false, false, false] (by kernel_rfl) rfl rfl ⟨blk_drew X28.out, blk_drew X78.out, e0_, e1_, e2_, e3_, e4_, e5_, e6_⟩ (fun hHeld => ?_)
                    have RO9 := Aside0.mk (Kd.R_drew RO8.out)
                    have HB9 := Aside0.mk (below_drew HB8.out)
                    have X79 := Aside0.mk (blk_drew X78.out)
                    have X119 := Aside0.mk (blk_drew X118.out)
                    have RI9 := Aside0.mk (Kd.R_drew RI8.out)
                    generalize w8.drew = w9 at *
                    -- 0: Op.fieldAddr 52 t7 2
                    refine pure_ (i := 0) (N := (some 90)) (v := ?_) (a' := ?_) #[true, false, false, false, false, false, false, false, false, false, false, false, false, false] rfl rfl (by kernel_rfl) (fun _ _ _ h => h) (Or.inl ⟨by rfl, ?_⟩) ?_ ?_
                    rotate_left
                    · intro w'
                      go_simp
                      with_reducible rfl
                    rotate_left
                    · simp only [Act.put, List.setIfInBounds_toArray, List.set_cons_zero, List.set_cons_succ, i64_w, i32_w]
                      rfl
                    -- 1: Op.load 23 t90
                    refine take_ (i := 1) (N := (some 91)) (v := ?_) (a' := ?_) #[true, true, false, false, false, false, false, false, false, false, false, false, false, false] rfl rfl (by kernel_rfl) (fun _ _ _ h => h) (Or.inl ⟨by rfl, ?_⟩) hHeld ?_ ?_
                    rotate_left
                    · rintro w' ⟨s0, s1, s2, s3, s4, s5, s6, s7, s8⟩
                      have z2 : w'.cell? ⟨w4.heap.size, 2, none⟩ = some (.slice B (flt l s k).length cb) := (blk_cell s1 2).trans rfl
                      go_simp
                      with_reducible rfl
                    rotate_left
                    · simp only [Act.put, List.setIfInBounds_toArray, List.set_cons_zero, List.set_cons_succ, i64_w, i32_w]
                      rfl
                    -- 2: Op.move t6
                    refine pure_ (i := 2) (N := (some 92)) (v := ?_) (a' := ?_) #[true, true, true, false, false, false, false, false, false, false, false, false, false, false] rfl rfl (by kernel_rfl) (fun _ _ _ h => h) (Or.inl ⟨by rfl, ?_⟩) ?_ ?_
                    rotate_left
                    · intro w'
                      go_simp
                      with_reducible rfl
                    rotate_left
                    · simp only [Act.put, List.setIfInBounds_toArray, List.set_cons_zero, List.set_cons_succ, i64_w, i32_w]
                      rfl
                    -- 3: Op.binOp BinOp.add 3 t92 (const (1:i64)) 3
                    refine pure_ (i := 3) (N := (some 93)) (v := ?_) (a' := ?_) #[true, true, true, true, false, false, false, false, false, false, false, false, false, false] rfl rfl (by kernel_rfl) (fun _ _ _ h => h) (Or.inl ⟨by rfl, ?_⟩) ?_ ?_
                    rotate_left
                    · intro w'
                      go_simp
                      with_reducible rfl
                    rotate_left
                    · simp only [Act.put, List.setIfInBounds_toArray, List.set_cons_zero, List.set_cons_succ, i64_w, i32_w]
                      rfl
                    -- 4: Op.fieldAddr 26 t2 3
                    refine pure_ (i := 4) (N := (some 94)) (v := ?_) (a' := ?_) #[true, true, true, true, true, false, false, false, false, false, false, false, false, false] rfl rfl (by kernel_rfl) (fun _ _ _ h => h) (Or.inl ⟨by rfl, ?_⟩) ?_ ?_
                    rotate_left
                    · intro w'
                      go_simp
                      with_reducible rfl
                    rotate_left
                    · simp only [Act.put, List.setIfInBounds_toArray, List.set_cons_zero, List.set_cons_succ, i64_w, i32_w]
                      rfl
                    -- 5: Op.indexAddr 24 t94 t93
                    refine pure_ (i := 5) (N := (some 95)) (v := ?_) (a' := ?_) #[true, true, true, true, true, true, false, false, false, false, false, false, false, false] rfl rfl (by kernel_rfl) (fun _ _ _ h => h) (Or.inl ⟨by rfl, ?_⟩) ?_ ?_
                    rotate_left
                    · intro w'
                      go_simp
                      with_reducible rfl
                    rotate_left
                    · simp only [Act.put, List.setIfInBounds_toArray, List.set_cons_zero, List.set_cons_succ, i64_w, i32_w]
                      rfl
                    -- 6: Op.load 23 t95
                    refine take_ (i := 6) (N := (some 96)) (v := ?_) (a' := ?_) #[true, true, true, true, true, true, true, false, false, false, false, false, false, false] rfl rfl (by kernel_rfl) (fun _ _ _ h => h) (Or.inl ⟨by rfl, ?_⟩) hHeld ?_ ?_
                    rotate_left
                    · rintro w' ⟨s0, s1, s2, s3, s4, s5, s6, s7, s8⟩
                      have hv_ := vcell s0 j HJ4.out
                      rw [← LE.out, HAY.out] at hv_
                      go_simp
                      with_reducible rfl
                    rotate_left
                    · simp only [Act.put, List.setIfInBounds_toArray, List.set_cons_zero, List.set_cons_succ, i64_w, i32_w]
                      rfl
                    -- 7: Op.move t12
                    refine pure_ (i := 7) (N := (some 97)) (v := ?_) (a' := ?_) #[true, true, true, true, true, true, true, true, false, false, false, false, false, false] rfl rfl (by kernel_rfl) (fun _ _ _ h => h) (Or.inl ⟨by rfl, ?_⟩) ?_ ?_
                    rotate_left
                    · intro w'
                      go_simp
                      with_reducible rfl
                    rotate_left
                    · simp only [Act.put, List.setIfInBounds_toArray, List.set_cons_zero, List.set_cons_succ, i64_w, i32_w]
                      rfl
                    -- 8: Op.indexAddr 23 t96 t97
                    refine pure_ (i := 8) (N := (some 98)) (v := ?_) (a' := ?_) #[true, true, true, true, true, true, true, true, true, false, false, false, false, false] rfl rfl (by kernel_rfl) (fun _ _ _ h => h) (Or.inl ⟨by rfl, ?_⟩) ?_ ?_
                    rotate_left
                    · intro w'
                      go_simp
                      with_reducible rfl
                    rotate_left
                    · simp only [Act.put, List.setIfInBounds_toArray, List.set_cons_zero, List.set_cons_succ, i64_w, i32_w]
                      rfl
                    -- 9: Op.load 58 t98
                    refine take_ (i := 9) (N := (some 99)) (v := ?_) (a' := ?_) #[true, true, true, true, true, true, true, true, true, true, false, false, false, false] rfl rfl (by kernel_rfl) (fun _ _ _ h => h) (Or.inl ⟨by rfl, ?_⟩) hHeld ?_ ?_
                    rotate_left
                    · rintro w' ⟨s0, s1, s2, s3, s4, s5, s6, s7, s8⟩
                      go_simp
                      with_reducible rfl
                    rotate_left
                    · simp only [Act.put, List.setIfInBounds_toArray, List.set_cons_zero, List.set_cons_succ, i64_w, i32_w]
                      rfl
                    -- 10: Op.buildSlice 23 1 #[(0, t99)]
                    refine one_ (i := 10) (N := (some 100)) #[true, true, true, true, true, true, true, true, true, true, true, false, false, false] rfl rfl (by kernel_rfl) (by decide) (fun K hK => ?_)
                    refine value_ (w1 := w9.alloc (.cells #[.int .u64 m.f0, .int .i64 m.f1, .int .i64 m.f2, .string m.f3, .string m.f4, .int .u64 m.f5, .int .u64 m.f6] 58)) (v := .slice (some ⟨w9.heap.size, 0, none⟩) 1 1) (by rfl) rfl (by go_simp) ?_
                    have hOld := hHeld
                    clear hHeld
                    refine hK.out _ _ (⟨blk_alloc hOld.1 _, blk_alloc hOld.2.1 _, pw_cell_below (below_alloc (Below.refl w9.heap.size w9) _) hOld.2.2.1, pw_cell_below (below_alloc (Below.refl w9.heap.size w9) _) hOld.2.2.2.1, pw_cell_below (below_alloc (Below.refl w9.heap.size w9) _) hOld.2.2.2.2.1, pw_cell_below (below_alloc (Below.refl w9.heap.size w9) _) hOld.2.2.2.2.2.1, pw_cell_below (below_alloc (Below.refl w9.heap.size w9) _) hOld.2.2.2.2.2.2.1, pw_cell_below (below_alloc (Below.refl w9.heap.size w9) _) hOld.2.2.2.2.2.2.2.1, pw_cell_below (below_alloc (Below.refl w9.heap.size w9) _) hOld.2.2.2.2.2.2.2.2⟩) (fun hHeld => ?_)
                    clear hOld hK K
                    refine norm_ (a' := ?_) ?_ ?_
                    rotate_left
                    · show Act.put _ (some 100) _ = _
                      simp only [Act.put, List.setIfInBounds_toArray, List.set_cons_zero, List.set_cons_succ, i64_w, i32_w]
                      rfl
                    -- 11: Op.call { builtin append, args := #[t91, t100], argTypes := #[23, 23] }
                    refine last_ (i := 11) (N := (some 101)) #[true, true, true, true, true, true, true, true, true, true, true, true, false, false] rfl rfl (by kernel_rfl) (by decide) (fun K hK => ?_)
                    refine Kd.R_append_step k58 (w0 := w4) (W := w9) w4.heap.size (by rfl) (.tmp 91) (.tmp 100) 23 58 (.agg #[(.int .u64 0), (.int .i64 0), (.int .i64 0), (.string ⟨#[]⟩), (.string ⟨#[]⟩), (.int .u64 0), (.int .u64 0)]) 72 (by rfl) Try.underlying23 info58 rfl (by decide) (by omega) (.slice B (flt l s k).length cb) (flt l s k) m [.int .u64 m.f0, .int .i64 m.f1, .int .i64 m.f2, .string m.f3, .string m.f4, .int .u64 m.f5, .int .u64 m.f6] (fun k => N11 ≤ k) (fun _ => False) (by rfl) (by rfl) (k58_mkM _ _ _ m) (fun _ h => h.elim) (fun k hk => by have := NN9.out; omega) RO9.out HB9.out HB9.out.size (by have := FL.out; omega) ?_
                    intro va wa ho hb hg hat
                    have HBa := Aside0.mk hb
                    have X7a := Aside0.mk (blk_grown X79.out hg (Kd.R_ne RO9.out X79.out (by decide)))
                    have X11a := Aside0.mk (blk_grown X119.out hg (Kd.R_away RO9.out (fun k hk => by have := NG11.out; omega)))
                    have RIa := Aside0.mk (Kd.R_grown RI9.out hg (fun k hk e => by have := RO9.out.1 k e.symm; omega))
                    obtain ⟨F2, hF2⟩ : ∃ F, F = flt l s k ++ [m] := ⟨_, rfl⟩
                    rw [← hF2] at ho
                    have FQ := Aside0.mk (show flt l s (k + 1) = F2 by rw [FS2.out, hF2])
                    clear hF2
                    obtain ⟨B', cb', hv⟩ := Kd.R_slice ho
                    subst hv
                    have ROa := Aside0.mk ho
                    have NNa := Aside0.mk (show N11 ≤ wa.heap.size from Nat.le_trans NN9.out hg.size)
                    clear ho hb hg hat
                    try clear hHeld
                    refine hK.out _ _ ?_
                    clear hK K
                    refine norm_ (a' := ?_) ?_ ?_
                    rotate_left
                    · show Act.put _ (some 101) _ = _
                      simp only [Act.put, List.setIfInBounds_toArray, List.set_cons_zero, List.set_cons_succ, i64_w, i32_w]
                      rfl
                    -- 12: Op.fieldAddr 52 t7 2
                    refine pure_ (i := 12) (N := (some 102)) (v := ?_) (a' := ?_) #[true, true, true, true, true, true, true, true, true, true, true, true, true, false] rfl rfl (by kernel_rfl) (fun _ _ _ h => h) (Or.inl ⟨by rfl, ?_⟩) ?_ ?_
                    rotate_left
                    · intro w'
                      go_simp
                      with_reducible rfl
                    rotate_left
                    · simp only [Act.put, List.setIfInBounds_toArray, List.set_cons_zero, List.set_cons_succ, i64_w, i32_w]
                      rfl
                    -- 13: Op.store 23 t102 t101
                    refine last_ (i := 13) (N := none) #[true, true, true, true, true, true, true, true, true, true, true, true, true, true] rfl rfl (by kernel_rfl) (by decide) (fun K hK => ?_)
                    have hc_ : wa.cell? ⟨w4.heap.size, 2, none⟩ = some (.slice B (flt l s k).length cb) := (blk_cell X7a.out 2).trans rfl
                    have hf_ := blk_frozen X7a.out 2
                    refine skip_ (w1 := wa.setCell ⟨w4.heap.size, 2, none⟩ (.slice B' F2.length cb')) (by rfl) rfl (by go_simp) ?_
                    clear hc_ hf_
                    try clear hHeld
                    refine hK.out _ _ ?_
                    clear hK K
                    refine done_ (by kernel_rfl) ?_
                    have HBn := Aside0.mk (below_set (j := 2) (v := .slice B' F2.length cb') HBa.out (Nat.le_refl _))
                    have X7n := Aside0.mk (five_set (cs' := #[.int .i64 (i : Int), .slice Ai L.length ci, .slice B' F2.length cb']) X7a.out (j := 2) (.slice B' F2.length cb') rfl)
                    have X11n := Aside0.mk (blk_far X11a.out (p := ⟨w4.heap.size, 2, none⟩) (show g11 ≠ w4.heap.size by have := NG0.out; omega) (.slice B' F2.length cb'))
                    have RIn := Aside0.mk (Kd.R_mono (Kd.R_set RIa.out X7a.out (by intro x hx; simp [show k58.E = [] from rfl] at hx; omega) 2 (.slice B' F2.length cb')) (fun k hk => hk))
                    have ROn := Aside0.mk (Kd.R_mono (Kd.R_set ROa.out X7a.out (by intro x hx; simp [show k58.E = [] from rfl] at hx; omega) 2 (.slice B' F2.length cb')) (fun k hk => hk))
                    have NNn := Aside0.mk (show N11 ≤ (wa.setCell ⟨w4.heap.size, 2, none⟩ (.slice B' F2.length cb')).heap.size by rw [show (wa.setCell ⟨w4.heap.size, 2, none⟩ (.slice B' F2.length cb')).heap.size = wa.heap.size by simp [World.setCell]]; exact NNa.out)
                    go_wp2_with fail
                    try rw [ew]
                    try rw [← HAY.out]
                    clear hjw hjw2 hjw3 hjw4 hjw5 ew
                    go_roundg q
                    case measure => omega
                    case rel => exact ⟨k + 1, B', cb', rfl, ⟨by have := HKK.out; omega⟩, HBn, NNn, by rw [FQ.out]; exact X7n, X11n, RIn, by rw [FQ.out]; exact ROn⟩
                  · rw [eq_false_of_ne_true hov]
                    have FS2 := Aside0.mk (show flt l s (k + 1) = flt l s k by rw [FS.out, if_neg hov])
                    clear hov
                    go_wp2_with fail
                    try rw [ew]
                    try rw [← HAY.out]
                    clear hjw hjw2 hjw3 hjw4 hjw5 ew
                    go_roundg q
                    case measure => omega
                    case rel => exact ⟨k + 1, B, cb, rfl, ⟨by have := HKK.out; omega⟩, HB8, NN8, by rw [FS2.out]; exact X78, X118, RI8, by rw [FS2.out]; exact RO8⟩
            · have t0 : ((i : Int) == 0) = false := by rw [beq_eq_false_iff_ne]; omega
              have t1 : (i == 0) = false := by rw [beq_eq_false_iff_ne]; omega
              obtain ⟨hmin, hpos⟩ := due_min v many base times OVP.out i hip HI.out (by rw [← LQ.out]; exact LNE.out)
              have MQ := Aside0.mk (show L = [minK l0 l0.length] by rw [LQ.out, LE0.out]; exact hmin)
              have HPOS := Aside0.mk (show 0 < l0.length by rw [LE0.out]; exact hpos)
              clear hip hmin hpos
              go_wp2_with fail
              clear hv ff y1
              generalize w4.alloc (.cells #[.int .i64 (i : Int), .slice none 0 0, .slice none 0 0] 52) = w5 at *
              go_loopg [9, 10] l0.length (fun kq v9 v10 w' => ∃ k a : Nat, v9 = .int .i64 (a : Int) ∧ v10 = .int .i64 (k : Int) ∧ Aside0 (kq + k = l0.length) ∧ Aside0 (a < l0.length) ∧ Aside0 (l0.getD a z58 = minK l0 k) ∧ Aside0 (Below w5.heap.size w5 w'))
              case atStart => exact ⟨0, 0, rfl, rfl, ⟨by omega⟩, HPOS, ⟨rfl⟩, ⟨Below.refl _ _⟩⟩
              case round =>
                obtain ⟨k, a, rfl, rfl, HKM, HAL, HMK, HBM⟩ := hrel
                have X7r := Aside0.mk (blk_below X75.out HBM.out)
                have HBr := Aside0.mk (below_then HB5.out HB5.out.size HBM.out)
                have CLr := Aside0.mk (Kd.C_below CL0.out HBr.out)
                have a0_ : (0 : Int) ≤ (a : Int) := Int.natCast_nonneg _
                have a1_ : (a : Int) < (l0.length : Int) := by have := HAL.out; omega
                obtain ⟨ay, eb, hb0, hb1, hb2, hb3, hb4, hb5, hb6⟩ := at_T58 CLr.out (a : Int) a0_ a1_
                rw [Int.toNat_natCast] at hb0 hb1 hb2 hb3 hb4 hb5 hb6
                have EA := Aside0.mk (show rd_T58 l0 (a : Int) = l0.getD a z58 by unfold rd_T58; rw [Int.toNat_natCast])
                generalize rd_T58 l0 (a : Int) = mn at *
                cases gk with
                | zero =>
                  have ek : k = l0.length := by have := HKM.out; omega
                  subst ek
                  have d1 : decide ((l0.length : Int) < (l0.length : Int)) = false := by simp
                  have hLm : L = [mn] := by rw [MQ.out, EA.out, HMK.out]
                  rw [eb]
                  have HBX := Aside0.mk eb
                  subst hLm
                  clear eb
                  have y1 : wr.cell? ⟨w4.heap.size, 1, none⟩ = some (.slice none 0 0) := (blk_cell X7r.out 1).trans rfl
                  have ff := blk_frozen X7r.out 1
                  have y1b : (wr.alloc (.cells (mCs mn) 58)).cell? ⟨w4.heap.size, 1, none⟩ = some (.slice none 0 0) := (blk_cell (blk_alloc X7r.out (.cells (mCs mn) 58)) 1).trans rfl
                  have ffb := blk_frozen (blk_alloc X7r.out (.cells (mCs mn) 58)) 1
                  go_wp2_with fail
                  clear y1 ff y1b ffb hb0 hb1 hb2 hb3 hb4 hb5 hb6
                  obtain ⟨Ai, hAi⟩ : ∃ A : Option Addr, A = some ⟨wr.heap.size, 0, none⟩ := ⟨_, rfl⟩
                  have RI5 := Aside0.mk (R_one wr w4.heap.size mn HBr.out.size)
                  have X7b := Aside0.mk (blk_alloc X7r.out (.cells (mCs mn) 58))
                  have RI6 := Aside0.mk (Kd.R_set RI5.out X7b.out (by intro x hx; simp [show k58.E = [] from rfl] at hx; omega) 1 (.slice (some ⟨wr.heap.size, 0, none⟩) 1 1))
                  have X76 := Aside0.mk (five_set (cs' := #[.int .i64 (i : Int), .slice (some ⟨wr.heap.size, 0, none⟩) 1 1, .slice none 0 0]) X7b.out (j := 1) (.slice (some ⟨wr.heap.size, 0, none⟩) 1 1) rfl)
                  have HB6 := Aside0.mk (below_set (j := 1) (v := .slice (some ⟨wr.heap.size, 0, none⟩) 1 1) (HBr.out.trans ((Below.refl wr.heap.size wr).alloc (Nat.le_refl _) (.cells (mCs mn) 58) |>.mono HBr.out.size)) (Nat.le_refl _))
                  generalize (wr.alloc (.cells (mCs mn) 58)).setCell ⟨w4.heap.size, 1, none⟩ (.slice (some ⟨wr.heap.size, 0, none⟩) 1 1) = w6 at *
                  replace RI6 : Aside0 (Kd.R k58 58 w6 w4.heap.size (fun _ => True) (.slice Ai 1 1) [mn]) := by rw [hAi]; exact RI6
                  replace X76 : Aside0 (w6.heap[w4.heap.size]? = some (.cells #[.int .i64 (i : Int), .slice Ai 1 1, .slice none 0 0] 52 (0, 0))) := by rw [hAi]; exact X76
                  rw [show (some ⟨wr.heap.size, 0, none⟩ : Option Addr) = Ai from hAi.symm]
                  clear hAi X7b RI5 X7r HBr CLr
                  have X16 := Aside0.mk (blk_below X24.out HB6.out)
                  have KS : Calls Try.prog 95 #[.slice Ai 1 1] w6 fun e w' => e = .returned (.agg (mCs (spanM [mn]))) ∧ Below w6.heap.size w6 w' := spanR_calls w6 Ai 1 [mn] (Kd.R_reads' RI6.out).2.2
                  obtain ⟨s, hs⟩ : ∃ s, s = spanM [mn] := ⟨_, rfl⟩
                  rw [← hs] at KS
                  have SQ := Aside0.mk hs
                  clear hs
                  refine KS.mono ?_
                  clear KS
                  rintro e w10 ⟨rfl, hb⟩
                  have hb1 := (Below.refl w10.heap.size w10).alloc (Nat.le_refl _) (.cells (mCs s) 58)
                  have HB11 := Aside0.mk (below_step (below_step HB6.out hb) hb1)
                  have X711 := Aside0.mk (blk_below (blk_below X76.out hb) hb1)
                  have X1111 := Aside0.mk (show Tb (w10.alloc (.cells (mCs s) 58)) w10.heap.size s from blk_new w10 _)
                  have RI11 := Aside0.mk (Kd.R_below (Kd.R_mono (Kd.R_bound (Kd.R_below RI6.out hb)) (ok' := fun k => k < w10.heap.size) (fun k hk => hk.2.2.1)) hb1)
                  have NG0 := Aside0.mk (show w4.heap.size < w10.heap.size from blk_lt (blk_below X76.out hb))
                  clear hb hb1 X16 HB6 X76 RI6
                  obtain ⟨N11, hN11⟩ : ∃ N, N = w10.heap.size + 1 := ⟨_, rfl⟩
                  have NG11 := Aside0.mk (show w10.heap.size < N11 by omega)
                  have HN11 := Aside0.mk (show N11 = (w10.alloc (.cells (mCs s) 58)).heap.size by simp [hN11])
                  replace RI11 := Aside0.mk (Kd.R_mono RI11.out (ok' := fun k => k < N11) (fun k hk => by omega))
                  clear hN11
                  obtain ⟨j, hj⟩ : ∃ j : Nat, j = i + 1 := ⟨_, rfl⟩
                  have HJ := Aside0.mk hj
                  have HJ4 := Aside0.mk (show j < 4 by have := HI.out; omega)
                  have j0 : 0 ≤ (i : Int) + 1 := by omega
                  have j1 : (i : Int) + 1 < 4 := by have := HI.out; omega
                  have hjw : (i : Int) + 1 = (j : Int) := by omega
                  have hjw2 : wrap64 ((i : Int) + 1) = (j : Int) := by unfold wrap64; have := HI.out; omega
                  have hjw3 : IntKind.i64.wrap ((i : Int) + 1) = (j : Int) := by rw [IntKind.wrap_i64]; have := HI.out; omega
                  have hjw4 : IntKind.i64.wrap (j : Int) = (j : Int) := by rw [IntKind.wrap_i64]; have := HJ4.out; omega
                  have hjw5 : wrap64 (j : Int) = (j : Int) := by unfold wrap64; have := HJ4.out; omega
                  have j2 : 0 ≤ (j : Int) := Int.natCast_nonneg _
                  have j3 : (j : Int) < 4 := by have := HJ4.out; omega
                  obtain ⟨l, hl⟩ : ∃ l, l = v.lv j := ⟨_, rfl⟩
                  have LE := Aside0.mk hl
                  have HLL := Aside0.mk (show l.length ≤ 64 by rw [hl]; exact RV.out.2.1.1 j HJ4.out)
                  have CL := Aside0.mk (show k58.C w4 (p.a j) l.length l by rw [hl]; exact ((HC.out.below HB4.out) j HJ4.out).1)
                  have OVF := Aside0.mk (show ovrL v i [mn] = flt l s l.length by rw [flt_all, SQ.out, hl, hj]; rfl)
                  clear hl hj
                  go_wp2_with fail
                  generalize w10.heap.size = g11 at *
                  generalize w10.alloc (.cells (mCs s) 58) = w11 at *
                  go_loopg [12] l.length (fun kq v12 w' => ∃ (k : Nat) (B : Option Addr) (cb : Nat), v12 = .int .i64 (k : Int) ∧ Aside0 (kq + k = l.length) ∧ Aside0 (Below w4.heap.size w4 w') ∧ Aside0 (N11 ≤ w'.heap.size) ∧ Aside0 (w'.heap[w4.heap.size]? = some (.cells #[.int .i64 (i : Int), .slice Ai 1 1, .slice B (flt l s k).length cb] 52 (0, 0))) ∧ Aside0 (Tb w' g11 s) ∧ Aside0 (Kd.R k58 58 w' w4.heap.size (fun k => k < N11) (.slice Ai 1 1) [mn]) ∧ Aside0 (Kd.R k58 58 w' w4.heap.size (fun k => N11 ≤ k) (.slice B (flt l s k).length cb) (flt l s k)))
                  case atStart => exact ⟨0, none, 0, rfl, ⟨by omega⟩, HB11, ⟨by rw [HN11.out]; exact Nat.le_refl _⟩, X711, X1111, RI11, ⟨Kd.R_nil _ _ _ _ _⟩⟩
                  case round =>
                    clear HB11 X711 X1111 RI11
                    obtain ⟨k, B, cb, rfl, HKK, HB, NN, X7, X11, RI, RO⟩ := hrel
                    have X2 := Aside0.mk (blk_below X24.out (by exact HB.out))
                    have y0 : wr.cell? ⟨w4.heap.size, 0, none⟩ = some (.int .i64 (i : Int)) := (blk_cell X7.out 0).trans rfl
                    have y1 : wr.cell? ⟨w4.heap.size, 1, none⟩ = some (.slice Ai 1 1) := (blk_cell X7.out 1).trans rfl
                    have y2 : wr.cell? ⟨w4.heap.size, 2, none⟩ = some (.slice B (flt l s k).length cb) := (blk_cell X7.out 2).trans rfl
                    have hv := vcell X2.out j HJ4.out
                    rw [← LE.out] at hv
                    cases gk with
                    | zero =>
                      have ek : k = l.length := by have := HKK.out; omega
                      subst ek
                      have d1 : decide ((l.length : Int) < (l.length : Int)) = false := by simp
                      have X4 := Aside0.mk (blk_below X44.out (by exact HB.out))
                      obtain ⟨Ov, hOv⟩ : ∃ Ov, Ov = flt l s l.length := ⟨_, rfl⟩
                      rw [← hOv] at RO X7 y2
                      have OVQ := Aside0.mk (show Ov = ovrL v i [mn] by rw [OVF.out]; exact hOv)
                      have E1 := Aside0.mk (show cc = ⟨(i : Nat), [mn], Ov⟩ by rw [HCC.out, pickC, if_pos ⟨RV.out, OVP.out, by rw [DA.out]; exact HI.out⟩, DA.out, ← LQ.out, OVQ.out])
                      have E2 := Aside0.mk (show ee = 0 by rw [HEE.out, pickE, if_pos ⟨RV.out, OVP.out⟩, if_pos (by rw [DA.out]; exact HI.out)])
                      clear hOv
                      go_wp2_with (first | (refine st_arr rfl 52 _ _ rfl g4 52 ?hx #[.int .i64 (i : Int), .slice Ai 1 1, .slice B Ov.length cb] ?hy _ X4.out (by rw [size52]; rfl) rfl (by simp [Value.oneCell']) ?_; (case hx => rfl); (case hy => rfl); intro w5 hb5 hbb hk5 hs5; have HB5 := Aside0.mk (hbb _ _ (below_step HB4.out (by exact HB.out)) (show w.heap.size ≤ g4 by have := N1.out; omega)); have X45 := Aside0.mk hb5; have RI5 := Aside0.mk (R58_other (Kd.R_mono RI.out (fun _ _ => trivial)) X4.out hk5); have RO5 := Aside0.mk (R58_other (Kd.R_mono RO.out (fun _ _ => trivial)) X4.out hk5); clear hb5 hbb hk5 hs5) | fail)
                      have r0 : w5.cell? ⟨g4, 0, none⟩ = some (.int .i64 (i : Int)) := (blk_cell X45.out 0).trans rfl
                      have r1 : w5.cell? ⟨g4, 1, none⟩ = some (.slice Ai 1 1) := (blk_cell X45.out 1).trans rfl
                      have r2 : w5.cell? ⟨g4, 2, none⟩ = some (.slice B Ov.length cb) := (blk_cell X45.out 2).trans rfl
                      exact bodyPost_ret (v := .tuple #[.agg #[.int .i64 (i : Int), .slice Ai 1 1, .slice B Ov.length cb], .int .i64 0]) (by simp [results, Try.results37, go_sem, r0, r1, r2]) rfl ⟨_, _, by rw [E1.out, E2.out], by rw [E1.out]; exact Kd.R_lower RI5.out (show w.heap.size ≤ w4.heap.size by exact HB4.out.size), by rw [E1.out]; exact Kd.R_lower RO5.out (show w.heap.size ≤ w4.heap.size by exact HB4.out.size), HB5.out⟩
                    | succ q =>
                      have hk : k < l.length := by have := HKK.out; omega
                      have d1 : decide ((k : Int) < (l.length : Int)) = true := decide_eq_true (by omega)
                      have d2 : decide (k < l.length) = true := decide_eq_true hk
                      have p0 : 0 ≤ (k : Int) := Int.natCast_nonneg _
                      have p1 : (k : Int) < (l.length : Int) := by omega
                      have ew : wrap64 ((k : Int) + 1) = ((k + 1 : Nat) : Int) := by have h1 := HLL.out; unfold wrap64; omega
                      have CL1 := Kd.C_below CL.out (by exact HB.out)
                      obtain ⟨ax, ea, ha0, ha1, ha2, ha3, ha4, ha5, ha6⟩ := at_T58 CL1 (k : Int) p0 p1
                      rw [Int.toNat_natCast] at ha0 ha1 ha2 ha3 ha4 ha5 ha6
                      have EM := Aside0.mk (show rd_T58 l (k : Int) = l.getD k z58 by unfold rd_T58; rw [Int.toNat_natCast])
                      generalize rd_T58 l (k : Int) = m at *
                      have FS := Aside0.mk (flt_snoc l s hk)
                      rw [← EM.out] at FS
                      have FL := Aside0.mk (show (flt l s k).length ≤ 1000000 from Nat.le_trans (flt_len l s k) (by have := HLL.out; omega))
                      rw [ea] at hv
                      have HAY := Aside0.mk ea
                      have KO := overR_calls wr.drew m s
                      clear ea hk CL1
                      have s0 : wr.cell? ⟨g11, 0, none⟩ = some (.int .u64 s.f0) := (blk_cell X11.out 0).trans rfl
                      have s1 : wr.cell? ⟨g11, 1, none⟩ = some (.int .i64 s.f1) := (blk_cell X11.out 1).trans rfl
                      have s2 : wr.cell? ⟨g11, 2, none⟩ = some (.int .i64 s.f2) := (blk_cell X11.out 2).trans rfl
                      have s3 : wr.cell? ⟨g11, 3, none⟩ = some (.string s.f3) := (blk_cell X11.out 3).trans rfl
                      have s4 : wr.cell? ⟨g11, 4, none⟩ = some (.string s.f4) := (blk_cell X11.out 4).trans rfl
                      have s5 : wr.cell? ⟨g11, 5, none⟩ = some (.int .u64 s.f5) := (blk_cell X11.out 5).trans rfl
                      have s6 : wr.cell? ⟨g11, 6, none⟩ = some (.int .u64 s.f6) := (blk_cell X11.out 6).trans rfl
                      go_wp2_with fail
                      go_still_tail 9, (by kernel_rfl)
                      go_wp2_with fail
                      refine KO.mono ?_
                      clear KO
                      rintro e w8 ⟨rfl, hb⟩
                      replace hb : Below wr.heap.size wr w8 := (below_drew (Below.refl wr.heap.size wr)).trans hb
                      have HB8 := Aside0.mk (HB.out.trans (hb.mono (show w4.heap.size ≤ wr.heap.size by exact HB.out.size)))
                      have NN8 := Aside0.mk (Nat.le_trans NN.out hb.size)
                      have X28 := Aside0.mk (blk_below X2.out hb)
                      have X78 := Aside0.mk (blk_below X7.out hb)
                      have X118 := Aside0.mk (X11.out.below hb)
                      have RI8 := Aside0.mk (Kd.R_below RI.out hb)
                      have RO8 := Aside0.mk (Kd.R_below RO.out hb)
                      have e0_ := (hb.cell (World.block_lt_of_cell? _ _ ha0)).trans ha0
                      have e1_ := (hb.cell (World.block_lt_of_cell? _ _ ha1)).trans ha1
                      have e2_ := (hb.cell (World.block_lt_of_cell? _ _ ha2)).trans ha2
                      have e3_ := (hb.cell (World.block_lt_of_cell? _ _ ha3)).trans ha3
                      have e4_ := (hb.cell (World.block_lt_of_cell? _ _ ha4)).trans ha4
                      have e5_ := (hb.cell (World.block_lt_of_cell? _ _ ha5)).trans ha5
                      have e6_ := (hb.cell (World.block_lt_of_cell? _ _ ha6)).trans ha6
                      clear hb y0 y1 y2 hv ha0 ha1 ha2 ha3 ha4 ha5 ha6 s0 s1 s2 s3 s4 s5 s6
                      by_cases hov : overB m s = true
                      · rw [hov]
                        have FS2 := Aside0.mk (show flt l s (k + 1) = flt l s k ++ [m] by rw [FS.out, if_pos hov])
                        have NN9 := Aside0.mk (show N11 ≤ w8.drew.heap.size from NN8.out)
                        clear hov
                        go_wp2_with fail
                        refine start_ (n := 14) (S := (fun w' => w'.heap[w.heap.size]? = some (.cells (vCs v p) 26 (0, 0)) ∧ w'.heap[w4.heap.size]? = some (.cells #[.int .i64 (i : Int), .slice Ai 1 1, .slice B (flt l s k).length cb] 52 (0, 0)) ∧ w'.cell? (ax.add (k * 7)) = some (.int .u64 m.f0) ∧ w'.cell? ⟨(ax.add (k * 7)).block, (ax.add (k * 7)).off + 1, none⟩ = some (.int .i64 m.f1) ∧ w'.cell? ⟨(ax.add (k * 7)).block, (ax.add (k * 7)).off + 2, none⟩ = some (.int .i64 m.f2) ∧ w'.cell? ⟨(ax.add (k * 7)).block, (ax.add (k * 7)).off + 3, none⟩ = some (.string m.f3) ∧ w'.cell? ⟨(ax.add (k * 7)).block, (ax.add (k * 7)).off + 4, none⟩ = some (.string m.f4) ∧ w'.cell? ⟨(ax.add (k * 7)).block, (ax.add (k * 7)).off + 5, none⟩ = some (.int .u64 m.f5) ∧ w'.cell? ⟨(ax.add (k * 7)).block, (ax.add (k * 7)).off + 6, none⟩ = some (.int .u64 m.f6))) (ds := [11, 13]) #[false, false, false, false, false, false, false, false, false, false, false, false, false, false] (by kernel_rfl) rfl rfl ⟨blk_drew X28.out, blk_drew X78.out, e0_, e1_, e2_, e3_, e4_, e5_, e6_⟩ (fun hHeld => ?_)
                        have RO9 := Aside0.mk (Kd.R_drew RO8.out)
                        have HB9 := Aside0.mk (below_drew HB8.out)
                        have X79 := Aside0.mk (blk_drew X78.out)
                        have X119 := Aside0.mk (blk_drew X118.out)
                        have RI9 := Aside0.mk (Kd.R_drew RI8.out)
                        generalize w8.drew = w9 at *
                        -- 0: Op.fieldAddr 52 t7 2
                        refine pure_ (i := 0) (N := (some 90)) (v := ?_) (a' := ?_) #[true, false, false, false, false, false, false, false, false, false, false, false, false, false] rfl rfl (by kernel_rfl) (fun _ _ _ h => h) (Or.inl ⟨by rfl, ?_⟩) ?_ ?_
                        rotate_left
                        · intro w'
                          go_simp
                          with_reducible rfl
                        rotate_left
                        · simp only [Act.put, List.setIfInBounds_toArray, List.set_cons_zero, List.set_cons_succ, i64_w, i32_w]
                          rfl
                        -- 1: Op.load 23 t90
                        refine take_ (i := 1) (N := (some 91)) (v := ?_) (a' := ?_) #[true, true, false, false, false, false, false, false, false, false, false, false, false, false] rfl rfl (by kernel_rfl) (fun _ _ _ h => h) (Or.inl ⟨by rfl, ?_⟩) hHeld ?_ ?_
                        rotate_left
                        · rintro w' ⟨s0, s1, s2, s3, s4, s5, s6, s7, s8⟩
                          have z2 : w'.cell? ⟨w4.heap.size, 2, none⟩ = some (.slice B (flt l s k).length cb) := (blk_cell s1 2).trans rfl
                          go_simp
                          with_reducible rfl
                        rotate_left
                        · simp only [Act.put, List.setIfInBounds_toArray, List.set_cons_zero, List.set_cons_succ, i64_w, i32_w]
                          rfl
                        -- 2: Op.move t6
                        refine pure_ (i := 2) (N := (some 92)) (v := ?_) (a' := ?_) #[true, true, true, false, false, false, false, false, false, false, false, false, false, false] rfl rfl (by kernel_rfl) (fun _ _ _ h => h) (Or.inl ⟨by rfl, ?_⟩) ?_ ?_
                        rotate_left
                        · intro w'
                          go_simp
                          with_reducible rfl
                        rotate_left
                        · simp only [Act.put, List.setIfInBounds_toArray, List.set_cons_zero, List.set_cons_succ, i64_w, i32_w]
                          rfl
                        -- 3: Op.binOp BinOp.add 3 t92 (const (1:i64)) 3
                        refine pure_ (i := 3) (N := (some 93)) (v := ?_) (a' := ?_) #[true, true, true, true, false, false, false, false, false, false, false, false, false, false] rfl rfl (by kernel_rfl) (fun _ _ _ h => h) (Or.inl ⟨by rfl, ?_⟩) ?_ ?_
                        rotate_left
                        · intro w'
                          go_simp
                          with_reducible rfl
                        rotate_left
                        · simp only [Act.put, List.setIfInBounds_toArray, List.set_cons_zero, List.set_cons_succ, i64_w, i32_w]
                          rfl
                        -- 4: Op.fieldAddr 26 t2 3
                        refine pure_ (i := 4) (N := (some 94)) (v := ?_) (a' := ?_) #[true, true, true, true, true, false, false, false, false, false, false, false, false, false] rfl rfl (by kernel_rfl) (fun _ _ _ h => h) (Or.inl ⟨by rfl, ?_⟩) ?_ ?_
                        rotate_left
                        · intro w'
                          go_simp
                          with_reducible rfl
                        rotate_left
                        · simp only [Act.put, List.setIfInBounds_toArray, List.set_cons_zero, List.set_cons_succ, i64_w, i32_w]
                          rfl
                        -- 5: Op.indexAddr 24 t94 t93
                        refine pure_ (i := 5) (N := (some 95)) (v := ?_) (a' := ?_) #[true, true, true, true, true, true, false, false, false, false, false, false, false, false] rfl rfl (by kernel_rfl) (fun _ _ _ h => h) (Or.inl ⟨by rfl, ?_⟩) ?_ ?_
                        rotate_left
                        · intro w'
                          go_simp
                          with_reducible rfl
                        rotate_left
                        · simp only [Act.put, List.setIfInBounds_toArray, List.set_cons_zero, List.set_cons_succ, i64_w, i32_w]
                          rfl
                        -- 6: Op.load 23 t95
                        refine take_ (i := 6) (N := (some 96)) (v := ?_) (a' := ?_) #[true, true, true, true, true, true, true, false, false, false, false, false, false, false] rfl rfl (by kernel_rfl) (fun _ _ _ h => h) (Or.inl ⟨by rfl, ?_⟩) hHeld ?_ ?_
                        rotate_left
                        · rintro w' ⟨s0, s1, s2, s3, s4, s5, s6, s7, s8⟩
                          have hv_ := vcell s0 j HJ4.out
                          rw [← LE.out, HAY.out] at hv_
                          go_simp
                          with_reducible rfl
                        rotate_left
                        · simp only [Act.put, List.setIfInBounds_toArray, List.set_cons_zero, List.set_cons_succ, i64_w, i32_w]
                          rfl
                        -- 7: Op.move t12
                        refine pure_ (i := 7) (N := (some 97)) (v := ?_) (a' := ?_) #[true, true, true, true, true, true, true, true, false, false, false, false, false, false] rfl rfl (by kernel_rfl) (fun _ _ _ h => h) (Or.inl ⟨by rfl, ?_⟩) ?_ ?_
                        rotate_left
                        · intro w'
                          go_simp
                          with_reducible rfl
                        rotate_left
                        · simp only [Act.put, List.setIfInBounds_toArray, List.set_cons_zero, List.set_cons_succ, i64_w, i32_w]
                          rfl
                        -- 8: Op.indexAddr 23 t96 t97
                        refine pure_ (i := 8) (N := (some 98)) (v := ?_) (a' := ?_) #[true, true, true, true, true, true, true, true, true, false, false, false, false, false] rfl rfl (by kernel_rfl) (fun _ _ _ h => h) (Or.inl ⟨by rfl, ?_⟩) ?_ ?_
                        rotate_left
                        · intro w'
                          go_simp
                          with_reducible rfl
                        rotate_left
                        · simp only [Act.put, List.setIfInBounds_toArray, List.set_cons_zero, List.set_cons_succ, i64_w, i32_w]
                          rfl
                        -- 9: Op.load 58 t98
                        refine take_ (i := 9) (N := (some 99)) (v := ?_) (a' := ?_) #[true, true, true, true, true, true, true, true, true, true, false, false, false, false] rfl rfl (by kernel_rfl) (fun _ _ _ h => h) (Or.inl ⟨by rfl, ?_⟩) hHeld ?_ ?_
                        rotate_left
                        · rintro w' ⟨s0, s1, s2, s3, s4, s5, s6, s7, s8⟩
                          go_simp
                          with_reducible rfl
                        rotate_left
                        · simp only [Act.put, List.setIfInBounds_toArray, List.set_cons_zero, List.set_cons_succ, i64_w, i32_w]
                          rfl
                        -- 10: Op.buildSlice 23 1 #[(0, t99)]
                        refine one_ (i := 10) (N := (some 100)) #[true, true, true, true, true, true, true, true, true, true, true, false, false, false] rfl rfl (by kernel_rfl) (by decide) (fun K hK => ?_)
                        refine value_ (w1 := w9.alloc (.cells #[.int .u64 m.f0, .int .i64 m.f1, .int .i64 m.f2, .string m.f3, .string m.f4, .int .u64 m.f5, .int .u64 m.f6] 58)) (v := .slice (some ⟨w9.heap.size, 0, none⟩) 1 1) (by rfl) rfl (by go_simp) ?_
                        have hOld := hHeld
                        clear hHeld
                        refine hK.out _ _ (⟨blk_alloc hOld.1 _, blk_alloc hOld.2.1 _, pw_cell_below (below_alloc (Below.refl w9.heap.size w9) _) hOld.2.2.1, pw_cell_below (below_alloc (Below.refl w9.heap.size w9) _) hOld.2.2.2.1, pw_cell_below (below_alloc (Below.refl w9.heap.size w9) _) hOld.2.2.2.2.1, pw_cell_below (below_alloc (Below.refl w9.heap.size w9) _) hOld.2.2.2.2.2.1, pw_cell_below (below_alloc (Below.refl w9.heap.size w9) _) hOld.2.2.2.2.2.2.1, pw_cell_below (below_alloc (Below.refl w9.heap.size w9) _) hOld.2.2.2.2.2.2.2.1, pw_cell_below (below_alloc (Below.refl w9.heap.size w9) _) hOld.2.2.2.2.2.2.2.2⟩) (fun hHeld => ?_)
                        clear hOld hK K
                        refine norm_ (a' := ?_) ?_ ?_
                        rotate_left
                        · show Act.put _ (some 100) _ = _
                          simp only [Act.put, List.setIfInBounds_toArray, List.set_cons_zero, List.set_cons_succ, i64_w, i32_w]
                          rfl
                        -- 11: Op.call { builtin append, args := #[t91, t100], argTypes := #[23, 23] }
                        refine last_ (i := 11) (N := (some 101)) #[true, true, true, true, true, true, true, true, true, true, true, true, false, false] rfl rfl (by kernel_rfl) (by decide) (fun K hK => ?_)
                        refine Kd.R_append_step k58 (w0 := w4) (W := w9) w4.heap.size (by rfl) (.tmp 91) (.tmp 100) 23 58 (.agg #[(.int .u64 0), (.int .i64 0), (.int .i64 0), (.string ⟨#[]⟩), (.string ⟨#[]⟩), (.int .u64 0), (.int .u64 0)]) 72 (by rfl) Try.underlying23 info58 rfl (by decide) (by omega) (.slice B (flt l s k).length cb) (flt l s k) m [.int .u64 m.f0, .int .i64 m.f1, .int .i64 m.f2, .string m.f3, .string m.f4, .int .u64 m.f5, .int .u64 m.f6] (fun k => N11 ≤ k) (fun _ => False) (by rfl) (by rfl) (k58_mkM _ _ _ m) (fun _ h => h.elim) (fun k hk => by have := NN9.out; omega) RO9.out HB9.out HB9.out.size (by have := FL.out; omega) ?_
                        intro va wa ho hb hg hat
                        have HBa := Aside0.mk hb
                        have X7a := Aside0.mk (blk_grown X79.out hg (Kd.R_ne RO9.out X79.out (by decide)))
                        have X11a := Aside0.mk (blk_grown X119.out hg (Kd.R_away RO9.out (fun k hk => by have := NG11.out; omega)))
                        have RIa := Aside0.mk (Kd.R_grown RI9.out hg (fun k hk e => by have := RO9.out.1 k e.symm; omega))
                        obtain ⟨F2, hF2⟩ : ∃ F, F = flt l s k ++ [m] := ⟨_, rfl⟩
                        rw [← hF2] at ho
                        have FQ := Aside0.mk (show flt l s (k + 1) = F2 by rw [FS2.out, hF2])
                        clear hF2
                        obtain ⟨B', cb', hv⟩ := Kd.R_slice ho
                        subst hv
                        have ROa := Aside0.mk ho
                        have NNa := Aside0.mk (show N11 ≤ wa.heap.size from Nat.le_trans NN9.out hg.size)
                        clear ho hb hg hat
                        try clear hHeld
                        refine hK.out _ _ ?_
                        clear hK K
                        refine norm_ (a' := ?_) ?_ ?_
                        rotate_left
                        · show Act.put _ (some 101) _ = _
                          simp only [Act.put, List.setIfInBounds_toArray, List.set_cons_zero, List.set_cons_succ, i64_w, i32_w]
                          rfl
                        -- 12: Op.fieldAddr 52 t7 2
                        refine pure_ (i := 12) (N := (some 102)) (v := ?_) (a' := ?_) #[true, true, true, true, true, true, true, true, true, true, true, true, true, false] rfl rfl (by kernel_rfl) (fun _ _ _ h => h) (Or.inl ⟨by rfl, ?_⟩) ?_ ?_
                        rotate_left
                        · intro w'
                          go_simp
                          with_reducible rfl
                        rotate_left
                        · simp only [Act.put, List.setIfInBounds_toArray, List.set_cons_zero, List.set_cons_succ, i64_w, i32_w]
                          rfl
                        -- 13: Op.store 23 t102 t101
                        refine last_ (i := 13) (N := none) #[true, true, true, true, true, true, true, true, true, true, true, true, true, true] rfl rfl (by kernel_rfl) (by decide) (fun K hK => ?_)
                        have hc_ : wa.cell? ⟨w4.heap.size, 2, none⟩ = some (.slice B (flt l s k).length cb) := (blk_cell X7a.out 2).trans rfl
                        have hf_ := blk_frozen X7a.out 2
                        refine skip_ (w1 := wa.setCell ⟨w4.heap.size, 2, none⟩ (.slice B' F2.length cb')) (by rfl) rfl (by go_simp) ?_
                        clear hc_ hf_
                        try clear hHeld
                        refine hK.out _ _ ?_
                        clear hK K
                        refine done_ (by kernel_rfl) ?_
                        have HBn := Aside0.mk (below_set (j := 2) (v := .slice B' F2.length cb') HBa.out (Nat.le_refl _))
                        have X7n := Aside0.mk (five_set (cs' := #[.int .i64 (i : Int), .slice Ai 1 1, .slice B' F2.length cb']) X7a.out (j := 2) (.slice B' F2.length cb') rfl)
                        have X11n := Aside0.mk (blk_far X11a.out (p := ⟨w4.heap.size, 2, none⟩) (show g11 ≠ w4.heap.size by have := NG0.out; omega) (.slice B' F2.length cb'))
                        have RIn := Aside0.mk (Kd.R_mono (Kd.R_set RIa.out X7a.out (by intro x hx; simp [show k58.E = [] from rfl] at hx; omega) 2 (.slice B' F2.length cb')) (fun k hk => hk))
                        have ROn := Aside0.mk (Kd.R_mono (Kd.R_set ROa.out X7a.out (by intro x hx; simp [show k58.E = [] from rfl] at hx; omega) 2 (.slice B' F2.length cb')) (fun k hk => hk))
                        have NNn := Aside0.mk (show N11 ≤ (wa.setCell ⟨w4.heap.size, 2, none⟩ (.slice B' F2.length cb')).heap.size by rw [show (wa.setCell ⟨w4.heap.size, 2, none⟩ (.slice B' F2.length cb')).heap.size = wa.heap.size by simp [World.setCell]]; exact NNa.out)
                        go_wp2_with fail
                        try rw [ew]
                        try rw [← HAY.out]
                        clear hjw hjw2 hjw3 hjw4 hjw5 ew
                        go_roundg q
                        case measure => omega
                        case rel => exact ⟨k + 1, B', cb', rfl, ⟨by have := HKK.out; omega⟩, HBn, NNn, by rw [FQ.out]; exact X7n, X11n, RIn, by rw [FQ.out]; exact ROn⟩
                      · rw [eq_false_of_ne_true hov]
                        have FS2 := Aside0.mk (show flt l s (k + 1) = flt l s k by rw [FS.out, if_neg hov])
                        clear hov
                        go_wp2_with fail
                        try rw [ew]
                        try rw [← HAY.out]
                        clear hjw hjw2 hjw3 hjw4 hjw5 ew
                        go_roundg q
                        case measure => omega
                        case rel => exact ⟨k + 1, B, cb, rfl, ⟨by have := HKK.out; omega⟩, HB8, NN8, by rw [FS2.out]; exact X78, X118, RI8, by rw [FS2.out]; exact RO8⟩
                | succ q0 =>
                  have hk : k < l0.length := by have := HKM.out; omega
                  have d1 : decide ((k : Int) < (l0.length : Int)) = true := decide_eq_true (by omega)
                  have d2 : decide (k < l0.length) = true := decide_eq_true hk
                  have p0 : 0 ≤ (k : Int) := Int.natCast_nonneg _
                  have p1 : (k : Int) < (l0.length : Int) := by omega
                  have ew : wrap64 ((k : Int) + 1) = ((k + 1 : Nat) : Int) := by have h1 := LLE.out; unfold wrap64; omega
                  obtain ⟨ax, ea, ha0, ha1, ha2, ha3, ha4, ha5, ha6⟩ := at_T58 CLr.out (k : Int) p0 p1
                  obtain rfl : ay = ax := by rw [eb] at ea; cases ea; rfl
                  rw [Int.toNat_natCast] at ha0 ha1 ha2 ha3 ha4 ha5 ha6
                  have EK := Aside0.mk (show rd_T58 l0 (k : Int) = l0.getD k z58 by unfold rd_T58; rw [Int.toNat_natCast])
                  generalize rd_T58 l0 (k : Int) = mk at *
                  have MS := Aside0.mk (show minK l0 (k + 1) = if (l0.getD k z58).f0 < (minK l0 k).f0 then l0.getD k z58 else minK l0 k from rfl)
                  rw [eb]
                  have HBX := Aside0.mk eb
                  have HKL := Aside0.mk hk
                  clear ea eb hk
                  by_cases hlt : mk.f0 < mn.f0
                  · have t2 : decide (mk.f0 < mn.f0) = true := decide_eq_true hlt
                    have MS2 := Aside0.mk (show l0.getD k z58 = minK l0 (k + 1) by rw [MS.out, ← HMK.out, ← EA.out, ← EK.out, if_pos hlt])
                    clear hlt
                    go_wp2_with fail
                    go_quiet (fail)
                    go_wp2_with fail
                    try rw [ew]
                    rw [← HBX.out]
                    clear ew
                    go_roundg q0
                    case measure => omega
                    case rel => exact ⟨k + 1, k, rfl, rfl, ⟨by have := HKM.out; omega⟩, HKL, MS2, ⟨pw_below_drewN HBM.out nq⟩⟩
                  · have t2 : decide (mk.f0 < mn.f0) = false := decide_eq_false hlt
                    have MS2 := Aside0.mk (show l0.getD a z58 = minK l0 (k + 1) by rw [MS.out, ← HMK.out, ← EA.out, ← EK.out, if_neg hlt])
                    clear hlt
                    go_wp2_with fail
                    go_quiet (fail)
                    go_wp2_with fail
                    try rw [ew]
                    rw [← HBX.out]
                    clear ew
                    go_roundg q0
                    case measure => omega
                    case rel => exact ⟨k + 1, a, rfl, rfl, ⟨by have := HKM.out; omega⟩, HAL, MS2, ⟨pw_below_drewN HBM.out nq⟩⟩
    · rw [optE, if_neg ho]
      have E1 := Aside0.mk (show cc = ⟨0, [], []⟩ by rw [HCC.out, pickC, if_neg (fun h => ho h.2.1)])
      have E2 := Aside0.mk (show ee = 2 by rw [HEE.out, pickE, if_neg (fun h => ho h.2)])
      clear ho
      go_wp2_with (first | (refine st_arr rfl 52 _ _ rfl g4 52 ?hx #[.int .i64 0, .slice none 0 0, .slice none 0 0] ?hy _ X43.out (by rw [size52]; rfl) rfl (by simp [Value.oneCell']) ?_; (case hx => rfl); (case hy => rfl); intro w5 hb5 hbb hk5 hs5; have HB5 := Aside0.mk (hbb _ _ HB3.out (show w.heap.size ≤ g4 by have := N1.out; omega)); have X45 := Aside0.mk hb5; clear hb5 hbb hk5 hs5) | fail)
      have r0 : w5.cell? ⟨g4, 0, none⟩ = some (.int .i64 0) := (blk_cell X45.out 0).trans rfl
      have r1 : w5.cell? ⟨g4, 1, none⟩ = some (.slice none 0 0) := (blk_cell X45.out 1).trans rfl
      have r2 : w5.cell? ⟨g4, 2, none⟩ = some (.slice none 0 0) := (blk_cell X45.out 2).trans rfl
      exact bodyPost_ret (v := .tuple #[.agg #[.int .i64 0, .slice none 0 0, .slice none 0 0], .int .i64 2]) (by simp [results, Try.results37, go_sem, r0, r1, r2]) rfl ⟨_, _, by rw [E1.out, E2.out], by rw [E1.out]; exact Kd.R_nil _ _ _ _ _, by rw [E1.out]; exact Kd.R_nil _ _ _ _ _, HB5.out⟩
  · rw [decide_eq_false hr]
    have E1 := Aside0.mk (show cc = ⟨0, [], []⟩ by rw [HCC.out, pickC, if_neg (fun h => hr h.1)])
    have E2 := Aside0.mk (show ee = 2 by rw [HEE.out, pickE, if_neg (fun h => hr h.1)])
    clear hr
    go_wp2_with (first | (refine st_arr rfl 52 _ _ rfl g4 52 ?hx #[.int .i64 0, .slice none 0 0, .slice none 0 0] ?hy _ X42.out (by rw [size52]; rfl) rfl (by simp [Value.oneCell']) ?_; (case hx => rfl); (case hy => rfl); intro w5 hb5 hbb hk5 hs5; have HB5 := Aside0.mk (hbb _ _ HB2.out (show w.heap.size ≤ g4 by have := N1.out; omega)); have X45 := Aside0.mk hb5; clear hb5 hbb hk5 hs5) | fail)
    have r0 : w5.cell? ⟨g4, 0, none⟩ = some (.int .i64 0) := (blk_cell X45.out 0).trans rfl
    have r1 : w5.cell? ⟨g4, 1, none⟩ = some (.slice none 0 0) := (blk_cell X45.out 1).trans rfl
    have r2 : w5.cell? ⟨g4, 2, none⟩ = some (.slice none 0 0) := (blk_cell X45.out 2).trans rfl
    exact bodyPost_ret (v := .tuple #[.agg #[.int .i64 0, .slice none 0 0, .slice none 0 0], .int .i64 2]) (by simp [results, Try.results37, go_sem, r0, r1, r2]) rfl ⟨_, _, by rw [E1.out, E2.out], by rw [E1.out]; exact Kd.R_nil _ _ _ _ _, by rw [E1.out]; exact Kd.R_nil _ _ _ _ _, HB5.out⟩

end Go.Proofs.Ytkjepfofiegcdaa.V
