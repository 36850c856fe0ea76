import Derived.Test.YtkjepfofiegcdaaVM5Y
/- The law EditMakes (17), walked. Conditions: numbers are such as the machine has. -/
namespace Go.Proofs.Ytkjepfofiegcdaa.V
set_option linter.unusedVariables false
set_option linter.unusedSimpArgs false
open Go.RowKit Go.Proofs.YtkjepfofiegcdaaW.PrintWords Go.Proofs.YtkjepfofiegcdaaW.PrintLast Go.Proofs.YtkjepfofiegcdaaW.PrintMore Go.Proofs.Ytkjepfofiegcdaa.PB14
set_option maxHeartbeats 8000000 in
set_option maxRecDepth 100000 in
theorem editMakes_calls (w : World) (v : Ver) (p : Pl) (e : Edt) (A1 A2 : Option Addr) (c1 c2 : Nat) (hC : VC w v p) (hW : VW v) (hs : 0 ≤ v.seq) (h1 : k84.C w A1 e.gone.length e.gone) (h2 : k82.C w A2 e.added.length e.added) : Calls Try.prog 17 #[.agg (vCs v p), .agg (eCs e A1 c1 A2 c2)] w fun x w' => x = .returned (.bool true) ∧ Below w.heap.size w w' := by
  have HC := Aside0.mk hC
  have HW := Aside0.mk hW
  have HS := Aside0.mk hs
  have H1 := Aside0.mk h1
  have H2 := Aside0.mk h2
  obtain ⟨u, f, huf⟩ : ∃ u f, applyV v e = (u, f) := ⟨_, _, rfl⟩
  have UF := Aside0.mk huf
  have HB1 := Aside0.mk (below_alloc ((Below.refl w.heap.size w).alloc (Nat.le_refl _) (.cells (vCs v p) 26)) (.cells (eCs e A1 c1 A2 c2) 70))
  have X1 := Aside0.mk (blk_alloc (blk_new w (.cells (vCs v p) 26)) (.cells (eCs e A1 c1 A2 c2) 70))
  have X2 := Aside0.mk (blk_new (w.alloc (.cells (vCs v p) 26)) (.cells (eCs e A1 c1 A2 c2) 70))
  clear hC hW hs h1 h2 huf
  go_enter Try.func17, Try.ntmps17
  go_upto_region 1 with (fail)
  generalize hg2 : (w.alloc (.cells (vCs v p) 26)).heap.size = g2 at *
  have e2_ : w.heap.size + 1 = g2 := by rw [← hg2]; simp
  try rw [e2_]
  have N2 := Aside0.mk (show w.heap.size < g2 by omega)
  clear hg2 e2_
  generalize (w.alloc (.cells (vCs v p) 26)).alloc (.cells (eCs e A1 c1 A2 c2) 70) = w1 at *
  by_cases hm : manyP v
  · have MC := many51_calls w1 v p
    rw [decide_eq_true hm] at MC
    clear hm
    have b0 : w1.cell? ⟨w.heap.size, 0, none⟩ = some (.int .u64 v.log) := (blk_cell X1.out 0).trans rfl
    have b1 : w1.cell? ⟨w.heap.size, 1, none⟩ = some (.int .u64 v.next) := (blk_cell X1.out 1).trans rfl
    have b2 : w1.cell? ⟨w.heap.size, 2, none⟩ = some (.int .u64 v.seq) := (blk_cell X1.out 2).trans rfl
    have b3 : w1.cell? ⟨w.heap.size, 3, none⟩ = some (.slice p.a0 v.l0.length p.c0) := (blk_cell X1.out 3).trans rfl
    have b4 : w1.cell? ⟨w.heap.size, 4, none⟩ = some (.slice p.a1 v.l1.length p.c1) := (blk_cell X1.out 4).trans rfl
    have b5 : w1.cell? ⟨w.heap.size, 5, none⟩ = some (.slice p.a2 v.l2.length p.c2) := (blk_cell X1.out 5).trans rfl
    have b6 : w1.cell? ⟨w.heap.size, 6, none⟩ = some (.slice p.a3 v.l3.length p.c3) := (blk_cell X1.out 6).trans rfl
    go_wp2_with fail
    refine MC.mono ?_
    rintro x w2 ⟨rfl, hb⟩
    have HB2 := Aside0.mk (below_step HB1.out hb)
    clear hb MC b0 b1 b2 b3 b4 b5 b6
    go_wp2_with fail
    refine (awake14_calls _).mono ?_
    rintro x w9 ⟨rfl, hb⟩
    have HB9 := Aside0.mk (below_step HB2.out hb)
    clear hb
    go_wp2_with fail
    go_ret
    exact ⟨rfl, HB9.out⟩
  · have MC := many51_calls w1 v p
    rw [decide_eq_false hm] at MC
    have HL := Aside0.mk (show ∀ i, i < 4 → (v.lv i).length ≤ 80 from fun i hi => Classical.byContradiction fun h => hm ⟨i, hi, by omega⟩)
    clear hm
    have b0 : w1.cell? ⟨w.heap.size, 0, none⟩ = some (.int .u64 v.log) := (blk_cell X1.out 0).trans rfl
    have b1 : w1.cell? ⟨w.heap.size, 1, none⟩ = some (.int .u64 v.next) := (blk_cell X1.out 1).trans rfl
    have b2 : w1.cell? ⟨w.heap.size, 2, none⟩ = some (.int .u64 v.seq) := (blk_cell X1.out 2).trans rfl
    have b3 : w1.cell? ⟨w.heap.size, 3, none⟩ = some (.slice p.a0 v.l0.length p.c0) := (blk_cell X1.out 3).trans rfl
    have b4 : w1.cell? ⟨w.heap.size, 4, none⟩ = some (.slice p.a1 v.l1.length p.c1) := (blk_cell X1.out 4).trans rfl
    have b5 : w1.cell? ⟨w.heap.size, 5, none⟩ = some (.slice p.a2 v.l2.length p.c2) := (blk_cell X1.out 5).trans rfl
    have b6 : w1.cell? ⟨w.heap.size, 6, none⟩ = some (.slice p.a3 v.l3.length p.c3) := (blk_cell X1.out 6).trans rfl
    go_wp2_with fail
    refine MC.mono ?_
    rintro x w2 ⟨rfl, hb⟩
    have HB2 := Aside0.mk (below_step HB1.out hb)
    have X12 := Aside0.mk (blk_below X1.out hb)
    have X22 := Aside0.mk (blk_below X2.out hb)
    clear hb MC b0 b1 b2 b3 b4 b5 b6
    have e0 : w2.cell? ⟨g2, 0, none⟩ = some (.int .u64 e.log) := (blk_cell X22.out 0).trans rfl
    have e1 : w2.cell? ⟨g2, 1, none⟩ = some (.int .u64 e.next) := (blk_cell X22.out 1).trans rfl
    have e2 : w2.cell? ⟨g2, 2, none⟩ = some (.int .u64 e.seq) := (blk_cell X22.out 2).trans rfl
    have e3 : w2.cell? ⟨g2, 3, none⟩ = some (.slice A1 e.gone.length c1) := (blk_cell X22.out 3).trans rfl
    have e4 : w2.cell? ⟨g2, 4, none⟩ = some (.slice A2 e.added.length c2) := (blk_cell X22.out 4).trans rfl
    by_cases hm : longP e
    · have MC := long_calls w2 e A1 A2 c1 c2
      rw [decide_eq_true hm] at MC
      clear hm
      go_wp2_with fail
      refine MC.mono ?_
      rintro x w3 ⟨rfl, hb⟩
      have HB3 := Aside0.mk (below_step HB2.out hb)
      clear hb MC e0 e1 e2 e3 e4
      go_wp2_with fail
      refine (awake14_calls _).mono ?_
      rintro x w9 ⟨rfl, hb⟩
      have HB9 := Aside0.mk (below_step HB3.out hb)
      clear hb
      go_wp2_with fail
      go_ret
      exact ⟨rfl, HB9.out⟩
    · have MC := long_calls w2 e A1 A2 c1 c2
      rw [decide_eq_false hm] at MC
      have HLA := Aside0.mk (show e.added.length ≤ 100000 from Classical.byContradiction fun h => hm (.inr (by omega)))
      clear hm
      go_wp2_with fail
      refine MC.mono ?_
      rintro x w3 ⟨rfl, hb⟩
      have HB3 := Aside0.mk (below_step HB2.out hb)
      have X13 := Aside0.mk (blk_below X12.out hb)
      have X23 := Aside0.mk (blk_below X22.out hb)
      clear hb MC e0 e1 e2 e3 e4
      have b0 : w3.cell? ⟨w.heap.size, 0, none⟩ = some (.int .u64 v.log) := (blk_cell X13.out 0).trans rfl
      have b1 : w3.cell? ⟨w.heap.size, 1, none⟩ = some (.int .u64 v.next) := (blk_cell X13.out 1).trans rfl
      have b2 : w3.cell? ⟨w.heap.size, 2, none⟩ = some (.int .u64 v.seq) := (blk_cell X13.out 2).trans rfl
      have b3 : w3.cell? ⟨w.heap.size, 3, none⟩ = some (.slice p.a0 v.l0.length p.c0) := (blk_cell X13.out 3).trans rfl
      have b4 : w3.cell? ⟨w.heap.size, 4, none⟩ = some (.slice p.a1 v.l1.length p.c1) := (blk_cell X13.out 4).trans rfl
      have b5 : w3.cell? ⟨w.heap.size, 5, none⟩ = some (.slice p.a2 v.l2.length p.c2) := (blk_cell X13.out 5).trans rfl
      have b6 : w3.cell? ⟨w.heap.size, 6, none⟩ = some (.slice p.a3 v.l3.length p.c3) := (blk_cell X13.out 6).trans rfl
      have e0 : w3.cell? ⟨g2, 0, none⟩ = some (.int .u64 e.log) := (blk_cell X23.out 0).trans rfl
      have e1 : w3.cell? ⟨g2, 1, none⟩ = some (.int .u64 e.next) := (blk_cell X23.out 1).trans rfl
      have e2 : w3.cell? ⟨g2, 2, none⟩ = some (.int .u64 e.seq) := (blk_cell X23.out 2).trans rfl
      have e3 : w3.cell? ⟨g2, 3, none⟩ = some (.slice A1 e.gone.length c1) := (blk_cell X23.out 3).trans rfl
      have e4 : w3.cell? ⟨g2, 4, none⟩ = some (.slice A2 e.added.length c2) := (blk_cell X23.out 4).trans rfl
      go_wp2_with fail
      refine (apply2_calls _ v p e A1 A2 c1 c2 UF.out (HC.out.below HB3.out) HW.out (Kd.C_below H1.out HB3.out) (Kd.C_below H2.out HB3.out) (fun i hi => Nat.le_trans (HL.out i hi) (by decide)) HLA.out).mono ?_
      rintro x w4 ⟨q, rfl, hR4, hb⟩
      have HB4 := Aside0.mk (below_step HB3.out hb)
      have X14 := Aside0.mk (blk_below X13.out hb)
      have VU := Aside0.mk hR4.vc
      clear hb hR4 b0 b1 b2 b3 b4 b5 b6 e0 e1 e2 e3 e4
      have HB5 := Aside0.mk (below_alloc HB4.out (.cells (vCs u q) 26))
      have X15 := Aside0.mk (blk_alloc X14.out (.cells (vCs u q) 26))
      have X55 := Aside0.mk (blk_new w4 (.cells (vCs u q) 26))
      have VU5 := Aside0.mk (VU.out.below (below_alloc (Below.refl w4.heap.size w4) (.cells (vCs u q) 26)))
      go_upto_region 4 with (fail)
      generalize w4.heap.size = g5 at *
      generalize w4.alloc (.cells (vCs u q) 26) = w5 at *
      by_cases hf : f = 0
      · subst hf
        have HR := Aside0.mk (applyV_ok UF.out).1
        have HRU := Aside0.mk (applyV_ok UF.out).2
        have VWU := Aside0.mk (right_vw HRU.out)
        have b0 : w5.cell? ⟨w.heap.size, 0, none⟩ = some (.int .u64 v.log) := (blk_cell X15.out 0).trans rfl
        have b1 : w5.cell? ⟨w.heap.size, 1, none⟩ = some (.int .u64 v.next) := (blk_cell X15.out 1).trans rfl
        have b2 : w5.cell? ⟨w.heap.size, 2, none⟩ = some (.int .u64 v.seq) := (blk_cell X15.out 2).trans rfl
        have b3 : w5.cell? ⟨w.heap.size, 3, none⟩ = some (.slice p.a0 v.l0.length p.c0) := (blk_cell X15.out 3).trans rfl
        have b4 : w5.cell? ⟨w.heap.size, 4, none⟩ = some (.slice p.a1 v.l1.length p.c1) := (blk_cell X15.out 4).trans rfl
        have b5 : w5.cell? ⟨w.heap.size, 5, none⟩ = some (.slice p.a2 v.l2.length p.c2) := (blk_cell X15.out 5).trans rfl
        have b6 : w5.cell? ⟨w.heap.size, 6, none⟩ = some (.slice p.a3 v.l3.length p.c3) := (blk_cell X15.out 6).trans rfl
        go_wp2_with fail
        refine (right_calls _ v p (HC.out.below HB5.out) HW.out).mono ?_
        rintro x w51 ⟨rfl, hb⟩
        rw [decide_eq_true HR.out]
        have HB51 := Aside0.mk (below_step HB5.out hb)
        have X151 := Aside0.mk (blk_below X15.out hb)
        have X551 := Aside0.mk (blk_below X55.out hb)
        have VU51 := Aside0.mk (VU5.out.below hb)
        clear hb b0 b1 b2 b3 b4 b5 b6
        have c0 : w51.cell? ⟨g5, 0, none⟩ = some (.int .u64 u.log) := (blk_cell X551.out 0).trans rfl
        have c1 : w51.cell? ⟨g5, 1, none⟩ = some (.int .u64 u.next) := (blk_cell X551.out 1).trans rfl
        have c2 : w51.cell? ⟨g5, 2, none⟩ = some (.int .u64 u.seq) := (blk_cell X551.out 2).trans rfl
        have c3 : w51.cell? ⟨g5, 3, none⟩ = some (.slice q.a0 u.l0.length q.c0) := (blk_cell X551.out 3).trans rfl
        have c4 : w51.cell? ⟨g5, 4, none⟩ = some (.slice q.a1 u.l1.length q.c1) := (blk_cell X551.out 4).trans rfl
        have c5 : w51.cell? ⟨g5, 5, none⟩ = some (.slice q.a2 u.l2.length q.c2) := (blk_cell X551.out 5).trans rfl
        have c6 : w51.cell? ⟨g5, 6, none⟩ = some (.slice q.a3 u.l3.length q.c3) := (blk_cell X551.out 6).trans rfl
        go_wp2_with fail
        refine (right_calls _ u q VU51.out VWU.out).mono ?_
        rintro x w52 ⟨rfl, hb⟩
        rw [decide_eq_true HRU.out]
        have HB52 := Aside0.mk (below_step HB51.out hb)
        have X152 := Aside0.mk (blk_below X151.out hb)
        clear hb c0 c1 c2 c3 c4 c5 c6
        have b0 : w52.cell? ⟨w.heap.size, 0, none⟩ = some (.int .u64 v.log) := (blk_cell X152.out 0).trans rfl
        have b1 : w52.cell? ⟨w.heap.size, 1, none⟩ = some (.int .u64 v.next) := (blk_cell X152.out 1).trans rfl
        have b2 : w52.cell? ⟨w.heap.size, 2, none⟩ = some (.int .u64 v.seq) := (blk_cell X152.out 2).trans rfl
        have b3 : w52.cell? ⟨w.heap.size, 3, none⟩ = some (.slice p.a0 v.l0.length p.c0) := (blk_cell X152.out 3).trans rfl
        have b4 : w52.cell? ⟨w.heap.size, 4, none⟩ = some (.slice p.a1 v.l1.length p.c1) := (blk_cell X152.out 4).trans rfl
        have b5 : w52.cell? ⟨w.heap.size, 5, none⟩ = some (.slice p.a2 v.l2.length p.c2) := (blk_cell X152.out 5).trans rfl
        have b6 : w52.cell? ⟨w.heap.size, 6, none⟩ = some (.slice p.a3 v.l3.length p.c3) := (blk_cell X152.out 6).trans rfl
        go_wp2_with fail
        refine (right_calls _ v p (HC.out.below HB52.out) HW.out).mono ?_
        rintro x w6 ⟨rfl, hb⟩
        rw [decide_eq_true HR.out]
        have HB6 := Aside0.mk (below_step HB52.out hb)
        have X16 := Aside0.mk (blk_below X152.out hb)
        clear hb b0 b1 b2 b3 b4 b5 b6
        go_upto_region 8 with (fail)
        refine start_ (n := 10) (S := (fun w' => Below w6.heap.size w6 w' ∧ w'.heap[w.heap.size]? = some (.cells (vCs v p) 26 (0, 0)))) (ds := [8]) #[false, false, false, false, false, false, false, false, false, false] (by kernel_rfl) rfl rfl ⟨below_drew (Below.refl _ _), blk_drew X16.out⟩ (fun hHeld => ?_)
        generalize w6.drew = wd at hHeld ⊢
        -- 1: Op.load 26 t2
        refine take_ (i := 1) (N := (some 54)) (v := ?_) (a' := ?_) #[false, true, false, false, false, false, false, false, false, false] rfl rfl (by kernel_rfl) (fun _ _ _ h => h) (Or.inl ⟨by rfl, ?_⟩) hHeld ?_ ?_
        rotate_left
        · rintro w' ⟨s0, s1⟩
          have z0 : w'.cell? ⟨w.heap.size, 0, none⟩ = some (.int .u64 v.log) := (blk_cell s1 0).trans rfl
          have z1 : w'.cell? ⟨w.heap.size, 1, none⟩ = some (.int .u64 v.next) := (blk_cell s1 1).trans rfl
          have z2 : w'.cell? ⟨w.heap.size, 2, none⟩ = some (.int .u64 v.seq) := (blk_cell s1 2).trans rfl
          have z3 : w'.cell? ⟨w.heap.size, 3, none⟩ = some (.slice p.a0 v.l0.length p.c0) := (blk_cell s1 3).trans rfl
          have z4 : w'.cell? ⟨w.heap.size, 4, none⟩ = some (.slice p.a1 v.l1.length p.c1) := (blk_cell s1 4).trans rfl
          have z5 : w'.cell? ⟨w.heap.size, 5, none⟩ = some (.slice p.a2 v.l2.length p.c2) := (blk_cell s1 5).trans rfl
          have z6 : w'.cell? ⟨w.heap.size, 6, none⟩ = some (.slice p.a3 v.l3.length p.c3) := (blk_cell s1 6).trans rfl
          go_simp
          with_reducible rfl
        rotate_left
        · simp only [Act.put, List.setIfInBounds_toArray, List.set_cons_zero, List.set_cons_succ, i64_w, i32_w]
          rfl
        refine two_ (i := 0) (j := 7) (Ni := (some 53)) (Nj := (some 7)) #[true, true, false, false, false, false, false, false, false, false] #[false, true, false, false, false, false, false, true, false, false] rfl rfl rfl rfl (by kernel_rfl) (by decide) (by decide) (fun K hK => ?_) (fun K hK => ?_)
        · refine goes_ Try.func66 (by kernel_rfl) rfl #[] (by rfl) rfl rfl (by (try simp only [List.map_toArray, List.map_cons, List.map_nil]); first | done | rfl) ?_
          (with_reducible refine (first66_calls _).mono ?_)
          rintro e wA ⟨rfl, hb⟩
          refine ⟨_, rfl, ?_⟩
          have hOld := hHeld
          clear hHeld
          refine hK.out _ _ (⟨below_step hOld.1 hb, blk_below hOld.2 hb⟩) (fun hHeld => ?_)
          clear hOld hK K
          refine norm_ (a' := ?_) ?_ ?_
          rotate_left
          · show Act.put _ (some 53) _ = _
            simp only [Act.put, List.setIfInBounds_toArray, List.set_cons_zero, List.set_cons_succ, i64_w, i32_w]
            rfl
          refine two_ (i := 2) (j := 7) (Ni := (some 55)) (Nj := (some 7)) #[true, true, true, false, false, false, false, false, false, false] #[true, true, false, false, false, false, false, true, false, false] rfl rfl rfl rfl (by kernel_rfl) (by decide) (by decide) (fun K hK => ?_) (fun K hK => ?_)
          · refine goes_ Try.func59 (by kernel_rfl) rfl #[.agg (vCs v p)] (by rfl) rfl rfl (by (try simp only [List.map_toArray, List.map_cons, List.map_nil]); first | done | rfl) ?_
            (with_reducible refine (whole59_calls _ v p (HC.out.below (HB6.out.trans (hHeld.1.mono HB6.out.size))) HW.out).mono ?_)
            rintro e wB ⟨B1, cb1, rfl, hk1, hb⟩
            refine ⟨_, rfl, ?_⟩
            have KA := Aside0.mk hk1.2
            have hOld := hHeld
            clear hHeld
            refine hK.out _ _ (⟨below_step hOld.1 hb, blk_below hOld.2 hb⟩) (fun hHeld => ?_)
            clear hOld hK K
            refine norm_ (a' := ?_) ?_ ?_
            rotate_left
            · show Act.put _ (some 55) _ = _
              simp only [Act.put, List.setIfInBounds_toArray, List.set_cons_zero, List.set_cons_succ, i64_w, i32_w]
              rfl
            refine two_ (i := 3) (j := 7) (Ni := (some 56)) (Nj := (some 7)) #[true, true, true, true, false, false, false, false, false, false] #[true, true, true, false, false, false, false, true, false, false] rfl rfl rfl rfl (by kernel_rfl) (by decide) (by decide) (fun K hK => ?_) (fun K hK => ?_)
            · refine goes_ Try.func54 (by kernel_rfl) rfl #[.agg (vCs firstV firstP), .agg (eCs (wholeE v) none 0 B1 cb1)] (by rfl) rfl rfl (by (try simp only [List.map_toArray, List.map_cons, List.map_nil]); first | done | rfl) ?_
              (with_reducible refine (makes_calls _ v B1 cb1 HR.out HS.out HL.out KA.out).mono ?_)
              rintro e wC ⟨q9, rfl, hk9, hb⟩
              refine ⟨_, rfl, ?_⟩
              have KR := Aside0.mk hk9
              have hOld := hHeld
              clear hHeld
              refine hK.out _ _ (⟨below_step hOld.1 hb, blk_below hOld.2 hb⟩) (fun hHeld => ?_)
              clear hOld hK K
              refine norm_ (a' := ?_) ?_ ?_
              rotate_left
              · show Act.put _ (some 56) _ = _
                simp only [Act.put, List.setIfInBounds_toArray, List.set_cons_zero, List.set_cons_succ, i64_w, i32_w]
                rfl
              -- 4: Op.move t56
              refine pure_ (i := 4) (N := (some 52)) (v := ?_) (a' := ?_) #[true, true, true, true, true, false, false, false, false, false] rfl rfl (by kernel_rfl) (fun _ _ _ h => h) (Or.inl ⟨by rfl, ?_⟩) ?_ ?_
              rotate_left
              · intro w'
                go_simp
                with_reducible rfl
              rotate_left
              · simp only [Act.put, List.setIfInBounds_toArray, List.set_cons_zero, List.set_cons_succ, i64_w, i32_w]
                rfl
              -- 5: Op.extract t52 0
              refine pure_ (i := 5) (N := (some 57)) (v := ?_) (a' := ?_) #[true, true, true, true, true, true, false, false, false, false] rfl rfl (by kernel_rfl) (fun _ _ _ h => h) (Or.inl ⟨by rfl, ?_⟩) ?_ ?_
              rotate_left
              · intro w'
                go_simp
                with_reducible rfl
              rotate_left
              · simp only [Act.put, List.setIfInBounds_toArray, List.set_cons_zero, List.set_cons_succ, i64_w, i32_w]
                rfl
              -- 6: Op.extract t52 1
              refine pure_ (i := 6) (N := (some 58)) (v := ?_) (a' := ?_) #[true, true, true, true, true, true, true, false, false, false] rfl rfl (by kernel_rfl) (fun _ _ _ h => h) (Or.inl ⟨by rfl, ?_⟩) ?_ ?_
              rotate_left
              · intro w'
                go_simp
                with_reducible rfl
              rotate_left
              · simp only [Act.put, List.setIfInBounds_toArray, List.set_cons_zero, List.set_cons_succ, i64_w, i32_w]
                rfl
              -- 7: Op.alloc 26
              refine one_ (i := 7) (N := (some 7)) #[true, true, true, true, true, true, true, true, false, false] rfl rfl (by kernel_rfl) (by decide) (fun K hK => ?_)
              refine value_ (w1 := wC.alloc (.cells #[.int .u64 0, .int .u64 0, .int .u64 0, .slice none 0 0, .slice none 0 0, .slice none 0 0, .slice none 0 0] 26)) (v := .pointer (some ⟨wC.heap.size, 0, none⟩)) (by rfl) rfl (by go_simp) ?_
              have hb := (Below.refl wC.heap.size wC).alloc (Nat.le_refl _) (.cells #[.int .u64 0, .int .u64 0, .int .u64 0, .slice none 0 0, .slice none 0 0, .slice none 0 0, .slice none 0 0] 26)
              have XG := Aside0.mk (blk_new wC (.cells #[.int .u64 0, .int .u64 0, .int .u64 0, .slice none 0 0, .slice none 0 0, .slice none 0 0, .slice none 0 0] 26))
              replace KR := Aside0.mk (KR.out.below hb)
              have NG := Aside0.mk (show w6.heap.size ≤ wC.heap.size from hHeld.1.size)
              have hOld := hHeld
              clear hHeld
              refine hK.out _ _ (⟨below_step hOld.1 hb, blk_below hOld.2 hb⟩) (fun hHeld => ?_)
              clear hOld hK K
              refine norm_ (a' := ?_) ?_ ?_
              rotate_left
              · show Act.put _ (some 7) _ = _
                simp only [Act.put, List.setIfInBounds_toArray, List.set_cons_zero, List.set_cons_succ, i64_w, i32_w]
                rfl
              generalize wC.heap.size = g7 at *
              generalize wC.alloc (.cells #[.int .u64 0, .int .u64 0, .int .u64 0, .slice none 0 0, .slice none 0 0, .slice none 0 0, .slice none 0 0] 26) = wG at *
              have X1z := Aside0.mk hHeld.2
              have HBz := Aside0.mk (HB6.out.trans (hHeld.1.mono HB6.out.size))
              have hLast := hHeld.1
              -- 8: Op.store 26 t7 t57
              refine last_ (i := 8) (N := none) #[true, true, true, true, true, true, true, true, true, false] rfl rfl (by kernel_rfl) (by decide) (fun K hK => ?_)
              refine store_ (by rfl) rfl 26 (.tmp 7) (.tmp 57) rfl g7 26 rfl (vCs v q9) rfl _ XG.out (by rw [size26]; rfl) rfl (by simp [Value.oneCell']) ?_
              intro wS hS hSb hSo hSs
              try clear hHeld
              refine hK.out _ _ ?_
              clear hK K
              have X7z := Aside0.mk hS
              have NE := Aside0.mk (show w.heap.size ≠ g7 by have h1 := blk_lt X16.out; have h2 := NG.out; omega)
              have X1s := Aside0.mk ((hSo _ NE.out).trans X1z.out)
              have HBs := Aside0.mk (hSb _ _ HBz.out (show w.heap.size ≤ g7 by have h1 := NG.out; have h2 := HB6.out.size; omega))
              have KRs := Aside0.mk (RowsK.all (RowsK.other (n := 4) KR.out XG.out (by decide) hSo)).vc
              clear hS hSb hSo hSs hLast XG
              -- 9: Op.assign t58
              refine pure_ (i := 9) (N := (some 8)) (v := ?_) (a' := ?_) #[true, true, true, true, true, true, true, true, true, true] rfl rfl (by kernel_rfl) (fun _ _ _ h => h) (Or.inl ⟨by rfl, ?_⟩) ?_ ?_
              rotate_left
              · intro w'
                go_simp
                with_reducible rfl
              rotate_left
              · simp only [Act.put, List.setIfInBounds_toArray, List.set_cons_zero, List.set_cons_succ, i64_w, i32_w]
                rfl
              refine done_ (by kernel_rfl) ?_
              have c0 : wS.cell? ⟨g7, 0, none⟩ = some (.int .u64 v.log) := (blk_cell X7z.out 0).trans rfl
              have c1 : wS.cell? ⟨g7, 1, none⟩ = some (.int .u64 v.next) := (blk_cell X7z.out 1).trans rfl
              have c2 : wS.cell? ⟨g7, 2, none⟩ = some (.int .u64 v.seq) := (blk_cell X7z.out 2).trans rfl
              have c3 : wS.cell? ⟨g7, 3, none⟩ = some (.slice q9.a0 v.l0.length q9.c0) := (blk_cell X7z.out 3).trans rfl
              have c4 : wS.cell? ⟨g7, 4, none⟩ = some (.slice q9.a1 v.l1.length q9.c1) := (blk_cell X7z.out 4).trans rfl
              have c5 : wS.cell? ⟨g7, 5, none⟩ = some (.slice q9.a2 v.l2.length q9.c2) := (blk_cell X7z.out 5).trans rfl
              have c6 : wS.cell? ⟨g7, 6, none⟩ = some (.slice q9.a3 v.l3.length q9.c3) := (blk_cell X7z.out 6).trans rfl
              have b0 : wS.cell? ⟨w.heap.size, 0, none⟩ = some (.int .u64 v.log) := (blk_cell X1s.out 0).trans rfl
              have b1 : wS.cell? ⟨w.heap.size, 1, none⟩ = some (.int .u64 v.next) := (blk_cell X1s.out 1).trans rfl
              have b2 : wS.cell? ⟨w.heap.size, 2, none⟩ = some (.int .u64 v.seq) := (blk_cell X1s.out 2).trans rfl
              have b3 : wS.cell? ⟨w.heap.size, 3, none⟩ = some (.slice p.a0 v.l0.length p.c0) := (blk_cell X1s.out 3).trans rfl
              have b4 : wS.cell? ⟨w.heap.size, 4, none⟩ = some (.slice p.a1 v.l1.length p.c1) := (blk_cell X1s.out 4).trans rfl
              have b5 : wS.cell? ⟨w.heap.size, 5, none⟩ = some (.slice p.a2 v.l2.length p.c2) := (blk_cell X1s.out 5).trans rfl
              have b6 : wS.cell? ⟨w.heap.size, 6, none⟩ = some (.slice p.a3 v.l3.length p.c3) := (blk_cell X1s.out 6).trans rfl
              go_wp2_with fail
              refine (same_self _ v q9 p KRs.out (HC.out.below HBs.out)).mono ?_
              rintro x w8 ⟨rfl, hb⟩
              have HB8 := Aside0.mk (below_step HBs.out hb)
              clear hb b0 b1 b2 b3 b4 b5 b6 c0 c1 c2 c3 c4 c5 c6
              go_wp2_with fail
              refine (awake14_calls _).mono ?_
              rintro x w9 ⟨rfl, hb⟩
              have HB9 := Aside0.mk (below_step HB8.out hb)
              clear hb
              go_wp2_with fail
              go_ret
              exact ⟨rfl, HB9.out⟩
            · refine value_ (w1 := wB.alloc (.cells #[.int .u64 0, .int .u64 0, .int .u64 0, .slice none 0 0, .slice none 0 0, .slice none 0 0, .slice none 0 0] 26)) (v := .pointer (some ⟨wB.heap.size, 0, none⟩)) (by rfl) rfl (by go_simp) ?_
              have hb := (Below.refl wB.heap.size wB).alloc (Nat.le_refl _) (.cells #[.int .u64 0, .int .u64 0, .int .u64 0, .slice none 0 0, .slice none 0 0, .slice none 0 0, .slice none 0 0] 26)
              have XG := Aside0.mk (blk_new wB (.cells #[.int .u64 0, .int .u64 0, .int .u64 0, .slice none 0 0, .slice none 0 0, .slice none 0 0, .slice none 0 0] 26))
              replace KA := Aside0.mk (Kd.C_below KA.out hb)
              have NG := Aside0.mk (show w6.heap.size ≤ wB.heap.size from hHeld.1.size)
              have hOld := hHeld
              clear hHeld
              refine hK.out _ _ (⟨below_step hOld.1 hb, blk_below hOld.2 hb⟩) (fun hHeld => ?_)
              clear hOld hK K
              refine norm_ (a' := ?_) ?_ ?_
              rotate_left
              · show Act.put _ (some 7) _ = _
                simp only [Act.put, List.setIfInBounds_toArray, List.set_cons_zero, List.set_cons_succ, i64_w, i32_w]
                rfl
              generalize wB.heap.size = g7 at *
              generalize wB.alloc (.cells #[.int .u64 0, .int .u64 0, .int .u64 0, .slice none 0 0, .slice none 0 0, .slice none 0 0, .slice none 0 0] 26) = wG at *
              -- 3: Op.call { value (Operand.func 54), args := #[t53, t55], argTypes := #[26, 70] }
              refine one_ (i := 3) (N := (some 56)) #[true, true, true, true, false, false, false, true, false, false] rfl rfl (by kernel_rfl) (by decide) (fun K hK => ?_)
              refine goes_ Try.func54 (by kernel_rfl) rfl #[.agg (vCs firstV firstP), .agg (eCs (wholeE v) none 0 B1 cb1)] (by rfl) rfl rfl (by (try simp only [List.map_toArray, List.map_cons, List.map_nil]); first | done | rfl) ?_
              (with_reducible refine (makes_calls _ v B1 cb1 HR.out HS.out HL.out KA.out).mono ?_)
              rintro e wC ⟨q9, rfl, hk9, hb⟩
              refine ⟨_, rfl, ?_⟩
              have KR := Aside0.mk hk9
              replace XG := Aside0.mk (blk_below XG.out hb)
              have hOld := hHeld
              clear hHeld
              refine hK.out _ _ (⟨below_step hOld.1 hb, blk_below hOld.2 hb⟩) (fun hHeld => ?_)
              clear hOld hK K
              refine norm_ (a' := ?_) ?_ ?_
              rotate_left
              · show Act.put _ (some 56) _ = _
                simp only [Act.put, List.setIfInBounds_toArray, List.set_cons_zero, List.set_cons_succ, i64_w, i32_w]
                rfl
              -- 4: Op.move t56
              refine pure_ (i := 4) (N := (some 52)) (v := ?_) (a' := ?_) #[true, true, true, true, true, false, false, true, false, false] rfl rfl (by kernel_rfl) (fun _ _ _ h => h) (Or.inl ⟨by rfl, ?_⟩) ?_ ?_
              rotate_left
              · intro w'
                go_simp
                with_reducible rfl
              rotate_left
              · simp only [Act.put, List.setIfInBounds_toArray, List.set_cons_zero, List.set_cons_succ, i64_w, i32_w]
                rfl
              -- 5: Op.extract t52 0
              refine pure_ (i := 5) (N := (some 57)) (v := ?_) (a' := ?_) #[true, true, true, true, true, true, false, true, false, false] rfl rfl (by kernel_rfl) (fun _ _ _ h => h) (Or.inl ⟨by rfl, ?_⟩) ?_ ?_
              rotate_left
              · intro w'
                go_simp
                with_reducible rfl
              rotate_left
              · simp only [Act.put, List.setIfInBounds_toArray, List.set_cons_zero, List.set_cons_succ, i64_w, i32_w]
                rfl
              -- 6: Op.extract t52 1
              refine pure_ (i := 6) (N := (some 58)) (v := ?_) (a' := ?_) #[true, true, true, true, true, true, true, true, false, false] rfl rfl (by kernel_rfl) (fun _ _ _ h => h) (Or.inl ⟨by rfl, ?_⟩) ?_ ?_
              rotate_left
              · intro w'
                go_simp
                with_reducible rfl
              rotate_left
              · simp only [Act.put, List.setIfInBounds_toArray, List.set_cons_zero, List.set_cons_succ, i64_w, i32_w]
                rfl
              have X1z := Aside0.mk hHeld.2
              have HBz := Aside0.mk (HB6.out.trans (hHeld.1.mono HB6.out.size))
              have hLast := hHeld.1
              -- 8: Op.store 26 t7 t57
              refine last_ (i := 8) (N := none) #[true, true, true, true, true, true, true, true, true, false] rfl rfl (by kernel_rfl) (by decide) (fun K hK => ?_)
              refine store_ (by rfl) rfl 26 (.tmp 7) (.tmp 57) rfl g7 26 rfl (vCs v q9) rfl _ XG.out (by rw [size26]; rfl) rfl (by simp [Value.oneCell']) ?_
              intro wS hS hSb hSo hSs
              try clear hHeld
              refine hK.out _ _ ?_
              clear hK K
              have X7z := Aside0.mk hS
              have NE := Aside0.mk (show w.heap.size ≠ g7 by have h1 := blk_lt X16.out; have h2 := NG.out; omega)
              have X1s := Aside0.mk ((hSo _ NE.out).trans X1z.out)
              have HBs := Aside0.mk (hSb _ _ HBz.out (show w.heap.size ≤ g7 by have h1 := NG.out; have h2 := HB6.out.size; omega))
              have KRs := Aside0.mk (RowsK.all (RowsK.other (n := 4) KR.out XG.out (by decide) hSo)).vc
              clear hS hSb hSo hSs hLast XG
              -- 9: Op.assign t58
              refine pure_ (i := 9) (N := (some 8)) (v := ?_) (a' := ?_) #[true, true, true, true, true, true, true, true, true, true] rfl rfl (by kernel_rfl) (fun _ _ _ h => h) (Or.inl ⟨by rfl, ?_⟩) ?_ ?_
              rotate_left
              · intro w'
                go_simp
                with_reducible rfl
              rotate_left
              · simp only [Act.put, List.setIfInBounds_toArray, List.set_cons_zero, List.set_cons_succ, i64_w, i32_w]
                rfl
              refine done_ (by kernel_rfl) ?_
              have c0 : wS.cell? ⟨g7, 0, none⟩ = some (.int .u64 v.log) := (blk_cell X7z.out 0).trans rfl
              have c1 : wS.cell? ⟨g7, 1, none⟩ = some (.int .u64 v.next) := (blk_cell X7z.out 1).trans rfl
              have c2 : wS.cell? ⟨g7, 2, none⟩ = some (.int .u64 v.seq) := (blk_cell X7z.out 2).trans rfl
              have c3 : wS.cell? ⟨g7, 3, none⟩ = some (.slice q9.a0 v.l0.length q9.c0) := (blk_cell X7z.out 3).trans rfl
              have c4 : wS.cell? ⟨g7, 4, none⟩ = some (.slice q9.a1 v.l1.length q9.c1) := (blk_cell X7z.out 4).trans rfl
              have c5 : wS.cell? ⟨g7, 5, none⟩ = some (.slice q9.a2 v.l2.length q9.c2) := (blk_cell X7z.out 5).trans rfl
              have c6 : wS.cell? ⟨g7, 6, none⟩ = some (.slice q9.a3 v.l3.length q9.c3) := (blk_cell X7z.out 6).trans rfl
              have b0 : wS.cell? ⟨w.heap.size, 0, none⟩ = some (.int .u64 v.log) := (blk_cell X1s.out 0).trans rfl
              have b1 : wS.cell? ⟨w.heap.size, 1, none⟩ = some (.int .u64 v.next) := (blk_cell X1s.out 1).trans rfl
              have b2 : wS.cell? ⟨w.heap.size, 2, none⟩ = some (.int .u64 v.seq) := (blk_cell X1s.out 2).trans rfl
              have b3 : wS.cell? ⟨w.heap.size, 3, none⟩ = some (.slice p.a0 v.l0.length p.c0) := (blk_cell X1s.out 3).trans rfl
              have b4 : wS.cell? ⟨w.heap.size, 4, none⟩ = some (.slice p.a1 v.l1.length p.c1) := (blk_cell X1s.out 4).trans rfl
              have b5 : wS.cell? ⟨w.heap.size, 5, none⟩ = some (.slice p.a2 v.l2.length p.c2) := (blk_cell X1s.out 5).trans rfl
              have b6 : wS.cell? ⟨w.heap.size, 6, none⟩ = some (.slice p.a3 v.l3.length p.c3) := (blk_cell X1s.out 6).trans rfl
              go_wp2_with fail
              refine (same_self _ v q9 p KRs.out (HC.out.below HBs.out)).mono ?_
              rintro x w8 ⟨rfl, hb⟩
              have HB8 := Aside0.mk (below_step HBs.out hb)
              clear hb b0 b1 b2 b3 b4 b5 b6 c0 c1 c2 c3 c4 c5 c6
              go_wp2_with fail
              refine (awake14_calls _).mono ?_
              rintro x w9 ⟨rfl, hb⟩
              have HB9 := Aside0.mk (below_step HB8.out hb)
              clear hb
              go_wp2_with fail
              go_ret
              exact ⟨rfl, HB9.out⟩
          · refine value_ (w1 := wA.alloc (.cells #[.int .u64 0, .int .u64 0, .int .u64 0, .slice none 0 0, .slice none 0 0, .slice none 0 0, .slice none 0 0] 26)) (v := .pointer (some ⟨wA.heap.size, 0, none⟩)) (by rfl) rfl (by go_simp) ?_
            have hb := (Below.refl wA.heap.size wA).alloc (Nat.le_refl _) (.cells #[.int .u64 0, .int .u64 0, .int .u64 0, .slice none 0 0, .slice none 0 0, .slice none 0 0, .slice none 0 0] 26)
            have XG := Aside0.mk (blk_new wA (.cells #[.int .u64 0, .int .u64 0, .int .u64 0, .slice none 0 0, .slice none 0 0, .slice none 0 0, .slice none 0 0] 26))
            have NG := Aside0.mk (show w6.heap.size ≤ wA.heap.size from hHeld.1.size)
            have hOld := hHeld
            clear hHeld
            refine hK.out _ _ (⟨below_step hOld.1 hb, blk_below hOld.2 hb⟩) (fun hHeld => ?_)
            clear hOld hK K
            refine norm_ (a' := ?_) ?_ ?_
            rotate_left
            · show Act.put _ (some 7) _ = _
              simp only [Act.put, List.setIfInBounds_toArray, List.set_cons_zero, List.set_cons_succ, i64_w, i32_w]
              rfl
            generalize wA.heap.size = g7 at *
            generalize wA.alloc (.cells #[.int .u64 0, .int .u64 0, .int .u64 0, .slice none 0 0, .slice none 0 0, .slice none 0 0, .slice none 0 0] 26) = wG at *
            -- 2: Op.call { value (Operand.func 59), args := #[t54], argTypes := #[26] }
            refine one_ (i := 2) (N := (some 55)) #[true, true, true, false, false, false, false, true, false, false] rfl rfl (by kernel_rfl) (by decide) (fun K hK => ?_)
            refine goes_ Try.func59 (by kernel_rfl) rfl #[.agg (vCs v p)] (by rfl) rfl rfl (by (try simp only [List.map_toArray, List.map_cons, List.map_nil]); first | done | rfl) ?_
            (with_reducible refine (whole59_calls _ v p (HC.out.below (HB6.out.trans (hHeld.1.mono HB6.out.size))) HW.out).mono ?_)
            rintro e wB ⟨B1, cb1, rfl, hk1, hb⟩
            refine ⟨_, rfl, ?_⟩
            have KA := Aside0.mk hk1.2
            replace XG := Aside0.mk (blk_below XG.out hb)
            have hOld := hHeld
            clear hHeld
            refine hK.out _ _ (⟨below_step hOld.1 hb, blk_below hOld.2 hb⟩) (fun hHeld => ?_)
            clear hOld hK K
            refine norm_ (a' := ?_) ?_ ?_
            rotate_left
            · show Act.put _ (some 55) _ = _
              simp only [Act.put, List.setIfInBounds_toArray, List.set_cons_zero, List.set_cons_succ, i64_w, i32_w]
              rfl
            -- 3: Op.call { value (Operand.func 54), args := #[t53, t55], argTypes := #[26, 70] }
            refine one_ (i := 3) (N := (some 56)) #[true, true, true, true, false, false, false, true, false, false] rfl rfl (by kernel_rfl) (by decide) (fun K hK => ?_)
            refine goes_ Try.func54 (by kernel_rfl) rfl #[.agg (vCs firstV firstP), .agg (eCs (wholeE v) none 0 B1 cb1)] (by rfl) rfl rfl (by (try simp only [List.map_toArray, List.map_cons, List.map_nil]); first | done | rfl) ?_
            (with_reducible refine (makes_calls _ v B1 cb1 HR.out HS.out HL.out KA.out).mono ?_)
            rintro e wC ⟨q9, rfl, hk9, hb⟩
            refine ⟨_, rfl, ?_⟩
            have KR := Aside0.mk hk9
            replace XG := Aside0.mk (blk_below XG.out hb)
            have hOld := hHeld
            clear hHeld
            refine hK.out _ _ (⟨below_step hOld.1 hb, blk_below hOld.2 hb⟩) (fun hHeld => ?_)
            clear hOld hK K
            refine norm_ (a' := ?_) ?_ ?_
            rotate_left
            · show Act.put _ (some 56) _ = _
              simp only [Act.put, List.setIfInBounds_toArray, List.set_cons_zero, List.set_cons_succ, i64_w, i32_w]
              rfl
            -- 4: Op.move t56
            refine pure_ (i := 4) (N := (some 52)) (v := ?_) (a' := ?_) #[true, true, true, true, true, false, false, true, false, false] rfl rfl (by kernel_rfl) (fun _ _ _ h => h) (Or.inl ⟨by rfl, ?_⟩) ?_ ?_
            rotate_left
            · intro w'
              go_simp
              with_reducible rfl
            rotate_left
            · simp only [Act.put, List.setIfInBounds_toArray, List.set_cons_zero, List.set_cons_succ, i64_w, i32_w]
              rfl
            -- 5: Op.extract t52 0
            refine pure_ (i := 5) (N := (some 57)) (v := ?_) (a' := ?_) #[true, true, true, true, true, true, false, true, false, false] rfl rfl (by kernel_rfl) (fun _ _ _ h => h) (Or.inl ⟨by rfl, ?_⟩) ?_ ?_
            rotate_left
            · intro w'
              go_simp
              with_reducible rfl
            rotate_left
            · simp only [Act.put, List.setIfInBounds_toArray, List.set_cons_zero, List.set_cons_succ, i64_w, i32_w]
              rfl
            -- 6: Op.extract t52 1
            refine pure_ (i := 6) (N := (some 58)) (v := ?_) (a' := ?_) #[true, true, true, true, true, true, true, true, false, false] rfl rfl (by kernel_rfl) (fun _ _ _ h => h) (Or.inl ⟨by rfl, ?_⟩) ?_ ?_
            rotate_left
            · intro w'
              go_simp
              with_reducible rfl
            rotate_left
            · simp only [Act.put, List.setIfInBounds_toArray, List.set_cons_zero, List.set_cons_succ, i64_w, i32_w]
              rfl
            have X1z := Aside0.mk hHeld.2
            have HBz := Aside0.mk (HB6.out.trans (hHeld.1.mono HB6.out.size))
            have hLast := hHeld.1
            -- 8: Op.store 26 t7 t57
            refine last_ (i := 8) (N := none) #[true, true, true, true, true, true, true, true, true, false] rfl rfl (by kernel_rfl) (by decide) (fun K hK => ?_)
            refine store_ (by rfl) rfl 26 (.tmp 7) (.tmp 57) rfl g7 26 rfl (vCs v q9) rfl _ XG.out (by rw [size26]; rfl) rfl (by simp [Value.oneCell']) ?_
            intro wS hS hSb hSo hSs
            try clear hHeld
            refine hK.out _ _ ?_
            clear hK K
            have X7z := Aside0.mk hS
            have NE := Aside0.mk (show w.heap.size ≠ g7 by have h1 := blk_lt X16.out; have h2 := NG.out; omega)
            have X1s := Aside0.mk ((hSo _ NE.out).trans X1z.out)
            have HBs := Aside0.mk (hSb _ _ HBz.out (show w.heap.size ≤ g7 by have h1 := NG.out; have h2 := HB6.out.size; omega))
            have KRs := Aside0.mk (RowsK.all (RowsK.other (n := 4) KR.out XG.out (by decide) hSo)).vc
            clear hS hSb hSo hSs hLast XG
            -- 9: Op.assign t58
            refine pure_ (i := 9) (N := (some 8)) (v := ?_) (a' := ?_) #[true, true, true, true, true, true, true, true, true, true] rfl rfl (by kernel_rfl) (fun _ _ _ h => h) (Or.inl ⟨by rfl, ?_⟩) ?_ ?_
            rotate_left
            · intro w'
              go_simp
              with_reducible rfl
            rotate_left
            · simp only [Act.put, List.setIfInBounds_toArray, List.set_cons_zero, List.set_cons_succ, i64_w, i32_w]
              rfl
            refine done_ (by kernel_rfl) ?_
            have c0 : wS.cell? ⟨g7, 0, none⟩ = some (.int .u64 v.log) := (blk_cell X7z.out 0).trans rfl
            have c1 : wS.cell? ⟨g7, 1, none⟩ = some (.int .u64 v.next) := (blk_cell X7z.out 1).trans rfl
            have c2 : wS.cell? ⟨g7, 2, none⟩ = some (.int .u64 v.seq) := (blk_cell X7z.out 2).trans rfl
            have c3 : wS.cell? ⟨g7, 3, none⟩ = some (.slice q9.a0 v.l0.length q9.c0) := (blk_cell X7z.out 3).trans rfl
            have c4 : wS.cell? ⟨g7, 4, none⟩ = some (.slice q9.a1 v.l1.length q9.c1) := (blk_cell X7z.out 4).trans rfl
            have c5 : wS.cell? ⟨g7, 5, none⟩ = some (.slice q9.a2 v.l2.length q9.c2) := (blk_cell X7z.out 5).trans rfl
            have c6 : wS.cell? ⟨g7, 6, none⟩ = some (.slice q9.a3 v.l3.length q9.c3) := (blk_cell X7z.out 6).trans rfl
            have b0 : wS.cell? ⟨w.heap.size, 0, none⟩ = some (.int .u64 v.log) := (blk_cell X1s.out 0).trans rfl
            have b1 : wS.cell? ⟨w.heap.size, 1, none⟩ = some (.int .u64 v.next) := (blk_cell X1s.out 1).trans rfl
            have b2 : wS.cell? ⟨w.heap.size, 2, none⟩ = some (.int .u64 v.seq) := (blk_cell X1s.out 2).trans rfl
            have b3 : wS.cell? ⟨w.heap.size, 3, none⟩ = some (.slice p.a0 v.l0.length p.c0) := (blk_cell X1s.out 3).trans rfl
            have b4 : wS.cell? ⟨w.heap.size, 4, none⟩ = some (.slice p.a1 v.l1.length p.c1) := (blk_cell X1s.out 4).trans rfl
            have b5 : wS.cell? ⟨w.heap.size, 5, none⟩ = some (.slice p.a2 v.l2.length p.c2) := (blk_cell X1s.out 5).trans rfl
            have b6 : wS.cell? ⟨w.heap.size, 6, none⟩ = some (.slice p.a3 v.l3.length p.c3) := (blk_cell X1s.out 6).trans rfl
            go_wp2_with fail
            refine (same_self _ v q9 p KRs.out (HC.out.below HBs.out)).mono ?_
            rintro x w8 ⟨rfl, hb⟩
            have HB8 := Aside0.mk (below_step HBs.out hb)
            clear hb b0 b1 b2 b3 b4 b5 b6 c0 c1 c2 c3 c4 c5 c6
            go_wp2_with fail
            refine (awake14_calls _).mono ?_
            rintro x w9 ⟨rfl, hb⟩
            have HB9 := Aside0.mk (below_step HB8.out hb)
            clear hb
            go_wp2_with fail
            go_ret
            exact ⟨rfl, HB9.out⟩
        · refine value_ (w1 := wd.alloc (.cells #[.int .u64 0, .int .u64 0, .int .u64 0, .slice none 0 0, .slice none 0 0, .slice none 0 0, .slice none 0 0] 26)) (v := .pointer (some ⟨wd.heap.size, 0, none⟩)) (by rfl) rfl (by go_simp) ?_
          have hb := (Below.refl wd.heap.size wd).alloc (Nat.le_refl _) (.cells #[.int .u64 0, .int .u64 0, .int .u64 0, .slice none 0 0, .slice none 0 0, .slice none 0 0, .slice none 0 0] 26)
          have XG := Aside0.mk (blk_new wd (.cells #[.int .u64 0, .int .u64 0, .int .u64 0, .slice none 0 0, .slice none 0 0, .slice none 0 0, .slice none 0 0] 26))
          have NG := Aside0.mk (show w6.heap.size ≤ wd.heap.size from hHeld.1.size)
          have hOld := hHeld
          clear hHeld
          refine hK.out _ _ (⟨below_step hOld.1 hb, blk_below hOld.2 hb⟩) (fun hHeld => ?_)
          clear hOld hK K
          refine norm_ (a' := ?_) ?_ ?_
          rotate_left
          · show Act.put _ (some 7) _ = _
            simp only [Act.put, List.setIfInBounds_toArray, List.set_cons_zero, List.set_cons_succ, i64_w, i32_w]
            rfl
          generalize wd.heap.size = g7 at *
          generalize wd.alloc (.cells #[.int .u64 0, .int .u64 0, .int .u64 0, .slice none 0 0, .slice none 0 0, .slice none 0 0, .slice none 0 0] 26) = wG at *
          -- 0: Op.call { value (Operand.func 66), args := #[], argTypes := #[] }
          refine one_ (i := 0) (N := (some 53)) #[true, true, false, false, false, false, false, true, false, false] rfl rfl (by kernel_rfl) (by decide) (fun K hK => ?_)
          refine goes_ Try.func66 (by kernel_rfl) rfl #[] (by rfl) rfl rfl (by (try simp only [List.map_toArray, List.map_cons, List.map_nil]); first | done | rfl) ?_
          (with_reducible refine (first66_calls _).mono ?_)
          rintro e wA ⟨rfl, hb⟩
          refine ⟨_, rfl, ?_⟩
          replace XG := Aside0.mk (blk_below XG.out hb)
          have hOld := hHeld
          clear hHeld
          refine hK.out _ _ (⟨below_step hOld.1 hb, blk_below hOld.2 hb⟩) (fun hHeld => ?_)
          clear hOld hK K
          refine norm_ (a' := ?_) ?_ ?_
          rotate_left
          · show Act.put _ (some 53) _ = _
            simp only [Act.put, List.setIfInBounds_toArray, List.set_cons_zero, List.set_cons_succ, i64_w, i32_w]
            rfl
          -- 2: Op.call { value (Operand.func 59), args := #[t54], argTypes := #[26] }
          refine one_ (i := 2) (N := (some 55)) #[true, true, true, false, false, false, false, true, false, false] rfl rfl (by kernel_rfl) (by decide) (fun K hK => ?_)
          refine goes_ Try.func59 (by kernel_rfl) rfl #[.agg (vCs v p)] (by rfl) rfl rfl (by (try simp only [List.map_toArray, List.map_cons, List.map_nil]); first | done | rfl) ?_
          (with_reducible refine (whole59_calls _ v p (HC.out.below (HB6.out.trans (hHeld.1.mono HB6.out.size))) HW.out).mono ?_)
          rintro e wB ⟨B1, cb1, rfl, hk1, hb⟩
          refine ⟨_, rfl, ?_⟩
          have KA := Aside0.mk hk1.2
          replace XG := Aside0.mk (blk_below XG.out hb)
          have hOld := hHeld
          clear hHeld
          refine hK.out _ _ (⟨below_step hOld.1 hb, blk_below hOld.2 hb⟩) (fun hHeld => ?_)
          clear hOld hK K
          refine norm_ (a' := ?_) ?_ ?_
          rotate_left
          · show Act.put _ (some 55) _ = _
            simp only [Act.put, List.setIfInBounds_toArray, List.set_cons_zero, List.set_cons_succ, i64_w, i32_w]
            rfl
          -- 3: Op.call { value (Operand.func 54), args := #[t53, t55], argTypes := #[26, 70] }
          refine one_ (i := 3) (N := (some 56)) #[true, true, true, true, false, false, false, true, false, false] rfl rfl (by kernel_rfl) (by decide) (fun K hK => ?_)
          refine goes_ Try.func54 (by kernel_rfl) rfl #[.agg (vCs firstV firstP), .agg (eCs (wholeE v) none 0 B1 cb1)] (by rfl) rfl rfl (by (try simp only [List.map_toArray, List.map_cons, List.map_nil]); first | done | rfl) ?_
          (with_reducible refine (makes_calls _ v B1 cb1 HR.out HS.out HL.out KA.out).mono ?_)
          rintro e wC ⟨q9, rfl, hk9, hb⟩
          refine ⟨_, rfl, ?_⟩
          have KR := Aside0.mk hk9
          replace XG := Aside0.mk (blk_below XG.out hb)
          have hOld := hHeld
          clear hHeld
          refine hK.out _ _ (⟨below_step hOld.1 hb, blk_below hOld.2 hb⟩) (fun hHeld => ?_)
          clear hOld hK K
          refine norm_ (a' := ?_) ?_ ?_
          rotate_left
          · show Act.put _ (some 56) _ = _
            simp only [Act.put, List.setIfInBounds_toArray, List.set_cons_zero, List.set_cons_succ, i64_w, i32_w]
            rfl
          -- 4: Op.move t56
          refine pure_ (i := 4) (N := (some 52)) (v := ?_) (a' := ?_) #[true, true, true, true, true, false, false, true, false, false] rfl rfl (by kernel_rfl) (fun _ _ _ h => h) (Or.inl ⟨by rfl, ?_⟩) ?_ ?_
          rotate_left
          · intro w'
            go_simp
            with_reducible rfl
          rotate_left
          · simp only [Act.put, List.setIfInBounds_toArray, List.set_cons_zero, List.set_cons_succ, i64_w, i32_w]
            rfl
          -- 5: Op.extract t52 0
          refine pure_ (i := 5) (N := (some 57)) (v := ?_) (a' := ?_) #[true, true, true, true, true, true, false, true, false, false] rfl rfl (by kernel_rfl) (fun _ _ _ h => h) (Or.inl ⟨by rfl, ?_⟩) ?_ ?_
          rotate_left
          · intro w'
            go_simp
            with_reducible rfl
          rotate_left
          · simp only [Act.put, List.setIfInBounds_toArray, List.set_cons_zero, List.set_cons_succ, i64_w, i32_w]
            rfl
          -- 6: Op.extract t52 1
          refine pure_ (i := 6) (N := (some 58)) (v := ?_) (a' := ?_) #[true, true, true, true, true, true, true, true, false, false] rfl rfl (by kernel_rfl) (fun _ _ _ h => h) (Or.inl ⟨by rfl, ?_⟩) ?_ ?_
          rotate_left
          · intro w'
            go_simp
            with_reducible rfl
          rotate_left
          · simp only [Act.put, List.setIfInBounds_toArray, List.set_cons_zero, List.set_cons_succ, i64_w, i32_w]
            rfl
          have X1z := Aside0.mk hHeld.2
          have HBz := Aside0.mk (HB6.out.trans (hHeld.1.mono HB6.out.size))
          have hLast := hHeld.1
          -- 8: Op.store 26 t7 t57
          refine last_ (i := 8) (N := none) #[true, true, true, true, true, true, true, true, true, false] rfl rfl (by kernel_rfl) (by decide) (fun K hK => ?_)
          refine store_ (by rfl) rfl 26 (.tmp 7) (.tmp 57) rfl g7 26 rfl (vCs v q9) rfl _ XG.out (by rw [size26]; rfl) rfl (by simp [Value.oneCell']) ?_
          intro wS hS hSb hSo hSs
          try clear hHeld
          refine hK.out _ _ ?_
          clear hK K
          have X7z := Aside0.mk hS
          have NE := Aside0.mk (show w.heap.size ≠ g7 by have h1 := blk_lt X16.out; have h2 := NG.out; omega)
          have X1s := Aside0.mk ((hSo _ NE.out).trans X1z.out)
          have HBs := Aside0.mk (hSb _ _ HBz.out (show w.heap.size ≤ g7 by have h1 := NG.out; have h2 := HB6.out.size; omega))
          have KRs := Aside0.mk (RowsK.all (RowsK.other (n := 4) KR.out XG.out (by decide) hSo)).vc
          clear hS hSb hSo hSs hLast XG
          -- 9: Op.assign t58
          refine pure_ (i := 9) (N := (some 8)) (v := ?_) (a' := ?_) #[true, true, true, true, true, true, true, true, true, true] rfl rfl (by kernel_rfl) (fun _ _ _ h => h) (Or.inl ⟨by rfl, ?_⟩) ?_ ?_
          rotate_left
          · intro w'
            go_simp
            with_reducible rfl
          rotate_left
          · simp only [Act.put, List.setIfInBounds_toArray, List.set_cons_zero, List.set_cons_succ, i64_w, i32_w]
            rfl
          refine done_ (by kernel_rfl) ?_
          have c0 : wS.cell? ⟨g7, 0, none⟩ = some (.int .u64 v.log) := (blk_cell X7z.out 0).trans rfl
          have c1 : wS.cell? ⟨g7, 1, none⟩ = some (.int .u64 v.next) := (blk_cell X7z.out 1).trans rfl
          have c2 : wS.cell? ⟨g7, 2, none⟩ = some (.int .u64 v.seq) := (blk_cell X7z.out 2).trans rfl
          have c3 : wS.cell? ⟨g7, 3, none⟩ = some (.slice q9.a0 v.l0.length q9.c0) := (blk_cell X7z.out 3).trans rfl
          have c4 : wS.cell? ⟨g7, 4, none⟩ = some (.slice q9.a1 v.l1.length q9.c1) := (blk_cell X7z.out 4).trans rfl
          have c5 : wS.cell? ⟨g7, 5, none⟩ = some (.slice q9.a2 v.l2.length q9.c2) := (blk_cell X7z.out 5).trans rfl
          have c6 : wS.cell? ⟨g7, 6, none⟩ = some (.slice q9.a3 v.l3.length q9.c3) := (blk_cell X7z.out 6).trans rfl
          have b0 : wS.cell? ⟨w.heap.size, 0, none⟩ = some (.int .u64 v.log) := (blk_cell X1s.out 0).trans rfl
          have b1 : wS.cell? ⟨w.heap.size, 1, none⟩ = some (.int .u64 v.next) := (blk_cell X1s.out 1).trans rfl
          have b2 : wS.cell? ⟨w.heap.size, 2, none⟩ = some (.int .u64 v.seq) := (blk_cell X1s.out 2).trans rfl
          have b3 : wS.cell? ⟨w.heap.size, 3, none⟩ = some (.slice p.a0 v.l0.length p.c0) := (blk_cell X1s.out 3).trans rfl
          have b4 : wS.cell? ⟨w.heap.size, 4, none⟩ = some (.slice p.a1 v.l1.length p.c1) := (blk_cell X1s.out 4).trans rfl
          have b5 : wS.cell? ⟨w.heap.size, 5, none⟩ = some (.slice p.a2 v.l2.length p.c2) := (blk_cell X1s.out 5).trans rfl
          have b6 : wS.cell? ⟨w.heap.size, 6, none⟩ = some (.slice p.a3 v.l3.length p.c3) := (blk_cell X1s.out 6).trans rfl
          go_wp2_with fail
          refine (same_self _ v q9 p KRs.out (HC.out.below HBs.out)).mono ?_
          rintro x w8 ⟨rfl, hb⟩
          have HB8 := Aside0.mk (below_step HBs.out hb)
          clear hb b0 b1 b2 b3 b4 b5 b6 c0 c1 c2 c3 c4 c5 c6
          go_wp2_with fail
          refine (awake14_calls _).mono ?_
          rintro x w9 ⟨rfl, hb⟩
          have HB9 := Aside0.mk (below_step HB8.out hb)
          clear hb
          go_wp2_with fail
          go_ret
          exact ⟨rfl, HB9.out⟩
      · have EU := Aside0.mk (applyV_bad UF.out hf)
        have f0 : decide (f = 0) = false := decide_eq_false hf
        have f1 : (f == 0) = false := beq_eq_false_iff_ne.mpr hf
        have f2 : (f != 0) = true := bne_iff_ne.mpr hf
        have f3 : decide (¬ f = 0) = true := decide_eq_true hf
        have NF := Aside0.mk hf
        clear hf
        have c0 : w5.cell? ⟨g5, 0, none⟩ = some (.int .u64 u.log) := (blk_cell X55.out 0).trans rfl
        have c1 : w5.cell? ⟨g5, 1, none⟩ = some (.int .u64 u.next) := (blk_cell X55.out 1).trans rfl
        have c2 : w5.cell? ⟨g5, 2, none⟩ = some (.int .u64 u.seq) := (blk_cell X55.out 2).trans rfl
        have c3 : w5.cell? ⟨g5, 3, none⟩ = some (.slice q.a0 u.l0.length q.c0) := (blk_cell X55.out 3).trans rfl
        have c4 : w5.cell? ⟨g5, 4, none⟩ = some (.slice q.a1 u.l1.length q.c1) := (blk_cell X55.out 4).trans rfl
        have c5 : w5.cell? ⟨g5, 5, none⟩ = some (.slice q.a2 u.l2.length q.c2) := (blk_cell X55.out 5).trans rfl
        have c6 : w5.cell? ⟨g5, 6, none⟩ = some (.slice q.a3 u.l3.length q.c3) := (blk_cell X55.out 6).trans rfl
        go_wp2_with fail
        refine (show Calls Try.prog 61 #[.agg (vCs u q), .agg (vCs zeroV firstP)] w5 _ from by have h1 := VU5.out; have h2 := EU.out; subst h2; exact same_zero _ q h1).mono ?_
        rintro x w51 ⟨rfl, hb⟩
        have HB51 := Aside0.mk (below_step HB5.out hb)
        have X151 := Aside0.mk (blk_below X15.out hb)
        clear hb c0 c1 c2 c3 c4 c5 c6
        have b0 : w51.cell? ⟨w.heap.size, 0, none⟩ = some (.int .u64 v.log) := (blk_cell X151.out 0).trans rfl
        have b1 : w51.cell? ⟨w.heap.size, 1, none⟩ = some (.int .u64 v.next) := (blk_cell X151.out 1).trans rfl
        have b2 : w51.cell? ⟨w.heap.size, 2, none⟩ = some (.int .u64 v.seq) := (blk_cell X151.out 2).trans rfl
        have b3 : w51.cell? ⟨w.heap.size, 3, none⟩ = some (.slice p.a0 v.l0.length p.c0) := (blk_cell X151.out 3).trans rfl
        have b4 : w51.cell? ⟨w.heap.size, 4, none⟩ = some (.slice p.a1 v.l1.length p.c1) := (blk_cell X151.out 4).trans rfl
        have b5 : w51.cell? ⟨w.heap.size, 5, none⟩ = some (.slice p.a2 v.l2.length p.c2) := (blk_cell X151.out 5).trans rfl
        have b6 : w51.cell? ⟨w.heap.size, 6, none⟩ = some (.slice p.a3 v.l3.length p.c3) := (blk_cell X151.out 6).trans rfl
        go_wp2_with fail
        by_cases hr : rightP v
        · have HR := Aside0.mk hr
          clear hr
          refine (right_calls _ v p (HC.out.below HB51.out) HW.out).mono ?_
          rintro x w6 ⟨rfl, hb⟩
          rw [decide_eq_true HR.out]
          have HB6 := Aside0.mk (below_step HB51.out hb)
          have X16 := Aside0.mk (blk_below X151.out hb)
          clear hb b0 b1 b2 b3 b4 b5 b6
          go_upto_region 8 with (fail)
          refine start_ (n := 10) (S := (fun w' => Below w6.heap.size w6 w' ∧ w'.heap[w.heap.size]? = some (.cells (vCs v p) 26 (0, 0)))) (ds := [8]) #[false, false, false, false, false, false, false, false, false, false] (by kernel_rfl) rfl rfl ⟨below_drew (Below.refl _ _), blk_drew X16.out⟩ (fun hHeld => ?_)
          generalize w6.drew = wd at hHeld ⊢
          -- 1: Op.load 26 t2
          refine take_ (i := 1) (N := (some 54)) (v := ?_) (a' := ?_) #[false, true, false, false, false, false, false, false, false, false] rfl rfl (by kernel_rfl) (fun _ _ _ h => h) (Or.inl ⟨by rfl, ?_⟩) hHeld ?_ ?_
          rotate_left
          · rintro w' ⟨s0, s1⟩
            have z0 : w'.cell? ⟨w.heap.size, 0, none⟩ = some (.int .u64 v.log) := (blk_cell s1 0).trans rfl
            have z1 : w'.cell? ⟨w.heap.size, 1, none⟩ = some (.int .u64 v.next) := (blk_cell s1 1).trans rfl
            have z2 : w'.cell? ⟨w.heap.size, 2, none⟩ = some (.int .u64 v.seq) := (blk_cell s1 2).trans rfl
            have z3 : w'.cell? ⟨w.heap.size, 3, none⟩ = some (.slice p.a0 v.l0.length p.c0) := (blk_cell s1 3).trans rfl
            have z4 : w'.cell? ⟨w.heap.size, 4, none⟩ = some (.slice p.a1 v.l1.length p.c1) := (blk_cell s1 4).trans rfl
            have z5 : w'.cell? ⟨w.heap.size, 5, none⟩ = some (.slice p.a2 v.l2.length p.c2) := (blk_cell s1 5).trans rfl
            have z6 : w'.cell? ⟨w.heap.size, 6, none⟩ = some (.slice p.a3 v.l3.length p.c3) := (blk_cell s1 6).trans rfl
            go_simp
            with_reducible rfl
          rotate_left
          · simp only [Act.put, List.setIfInBounds_toArray, List.set_cons_zero, List.set_cons_succ, i64_w, i32_w]
            rfl
          refine two_ (i := 0) (j := 7) (Ni := (some 53)) (Nj := (some 7)) #[true, true, false, false, false, false, false, false, false, false] #[false, true, false, false, false, false, false, true, false, false] rfl rfl rfl rfl (by kernel_rfl) (by decide) (by decide) (fun K hK => ?_) (fun K hK => ?_)
          · refine goes_ Try.func66 (by kernel_rfl) rfl #[] (by rfl) rfl rfl (by (try simp only [List.map_toArray, List.map_cons, List.map_nil]); first | done | rfl) ?_
            (with_reducible refine (first66_calls _).mono ?_)
            rintro e wA ⟨rfl, hb⟩
            refine ⟨_, rfl, ?_⟩
            have hOld := hHeld
            clear hHeld
            refine hK.out _ _ (⟨below_step hOld.1 hb, blk_below hOld.2 hb⟩) (fun hHeld => ?_)
            clear hOld hK K
            refine norm_ (a' := ?_) ?_ ?_
            rotate_left
            · show Act.put _ (some 53) _ = _
              simp only [Act.put, List.setIfInBounds_toArray, List.set_cons_zero, List.set_cons_succ, i64_w, i32_w]
              rfl
            refine two_ (i := 2) (j := 7) (Ni := (some 55)) (Nj := (some 7)) #[true, true, true, false, false, false, false, false, false, false] #[true, true, false, false, false, false, false, true, false, false] rfl rfl rfl rfl (by kernel_rfl) (by decide) (by decide) (fun K hK => ?_) (fun K hK => ?_)
            · refine goes_ Try.func59 (by kernel_rfl) rfl #[.agg (vCs v p)] (by rfl) rfl rfl (by (try simp only [List.map_toArray, List.map_cons, List.map_nil]); first | done | rfl) ?_
              (with_reducible refine (whole59_calls _ v p (HC.out.below (HB6.out.trans (hHeld.1.mono HB6.out.size))) HW.out).mono ?_)
              rintro e wB ⟨B1, cb1, rfl, hk1, hb⟩
              refine ⟨_, rfl, ?_⟩
              have KA := Aside0.mk hk1.2
              have hOld := hHeld
              clear hHeld
              refine hK.out _ _ (⟨below_step hOld.1 hb, blk_below hOld.2 hb⟩) (fun hHeld => ?_)
              clear hOld hK K
              refine norm_ (a' := ?_) ?_ ?_
              rotate_left
              · show Act.put _ (some 55) _ = _
                simp only [Act.put, List.setIfInBounds_toArray, List.set_cons_zero, List.set_cons_succ, i64_w, i32_w]
                rfl
              refine two_ (i := 3) (j := 7) (Ni := (some 56)) (Nj := (some 7)) #[true, true, true, true, false, false, false, false, false, false] #[true, true, true, false, false, false, false, true, false, false] rfl rfl rfl rfl (by kernel_rfl) (by decide) (by decide) (fun K hK => ?_) (fun K hK => ?_)
              · refine goes_ Try.func54 (by kernel_rfl) rfl #[.agg (vCs firstV firstP), .agg (eCs (wholeE v) none 0 B1 cb1)] (by rfl) rfl rfl (by (try simp only [List.map_toArray, List.map_cons, List.map_nil]); first | done | rfl) ?_
                (with_reducible refine (makes_calls _ v B1 cb1 HR.out HS.out HL.out KA.out).mono ?_)
                rintro e wC ⟨q9, rfl, hk9, hb⟩
                refine ⟨_, rfl, ?_⟩
                have KR := Aside0.mk hk9
                have hOld := hHeld
                clear hHeld
                refine hK.out _ _ (⟨below_step hOld.1 hb, blk_below hOld.2 hb⟩) (fun hHeld => ?_)
                clear hOld hK K
                refine norm_ (a' := ?_) ?_ ?_
                rotate_left
                · show Act.put _ (some 56) _ = _
                  simp only [Act.put, List.setIfInBounds_toArray, List.set_cons_zero, List.set_cons_succ, i64_w, i32_w]
                  rfl
                -- 4: Op.move t56
                refine pure_ (i := 4) (N := (some 52)) (v := ?_) (a' := ?_) #[true, true, true, true, true, false, false, false, false, false] rfl rfl (by kernel_rfl) (fun _ _ _ h => h) (Or.inl ⟨by rfl, ?_⟩) ?_ ?_
                rotate_left
                · intro w'
                  go_simp
                  with_reducible rfl
                rotate_left
                · simp only [Act.put, List.setIfInBounds_toArray, List.set_cons_zero, List.set_cons_succ, i64_w, i32_w]
                  rfl
                -- 5: Op.extract t52 0
                refine pure_ (i := 5) (N := (some 57)) (v := ?_) (a' := ?_) #[true, true, true, true, true, true, false, false, false, false] rfl rfl (by kernel_rfl) (fun _ _ _ h => h) (Or.inl ⟨by rfl, ?_⟩) ?_ ?_
                rotate_left
                · intro w'
                  go_simp
                  with_reducible rfl
                rotate_left
                · simp only [Act.put, List.setIfInBounds_toArray, List.set_cons_zero, List.set_cons_succ, i64_w, i32_w]
                  rfl
                -- 6: Op.extract t52 1
                refine pure_ (i := 6) (N := (some 58)) (v := ?_) (a' := ?_) #[true, true, true, true, true, true, true, false, false, false] rfl rfl (by kernel_rfl) (fun _ _ _ h => h) (Or.inl ⟨by rfl, ?_⟩) ?_ ?_
                rotate_left
                · intro w'
                  go_simp
                  with_reducible rfl
                rotate_left
                · simp only [Act.put, List.setIfInBounds_toArray, List.set_cons_zero, List.set_cons_succ, i64_w, i32_w]
                  rfl
                -- 7: Op.alloc 26
                refine one_ (i := 7) (N := (some 7)) #[true, true, true, true, true, true, true, true, false, false] rfl rfl (by kernel_rfl) (by decide) (fun K hK => ?_)
                refine value_ (w1 := wC.alloc (.cells #[.int .u64 0, .int .u64 0, .int .u64 0, .slice none 0 0, .slice none 0 0, .slice none 0 0, .slice none 0 0] 26)) (v := .pointer (some ⟨wC.heap.size, 0, none⟩)) (by rfl) rfl (by go_simp) ?_
                have hb := (Below.refl wC.heap.size wC).alloc (Nat.le_refl _) (.cells #[.int .u64 0, .int .u64 0, .int .u64 0, .slice none 0 0, .slice none 0 0, .slice none 0 0, .slice none 0 0] 26)
                have XG := Aside0.mk (blk_new wC (.cells #[.int .u64 0, .int .u64 0, .int .u64 0, .slice none 0 0, .slice none 0 0, .slice none 0 0, .slice none 0 0] 26))
                replace KR := Aside0.mk (KR.out.below hb)
                have NG := Aside0.mk (show w6.heap.size ≤ wC.heap.size from hHeld.1.size)
                have hOld := hHeld
                clear hHeld
                refine hK.out _ _ (⟨below_step hOld.1 hb, blk_below hOld.2 hb⟩) (fun hHeld => ?_)
                clear hOld hK K
                refine norm_ (a' := ?_) ?_ ?_
                rotate_left
                · show Act.put _ (some 7) _ = _
                  simp only [Act.put, List.setIfInBounds_toArray, List.set_cons_zero, List.set_cons_succ, i64_w, i32_w]
                  rfl
                generalize wC.heap.size = g7 at *
                generalize wC.alloc (.cells #[.int .u64 0, .int .u64 0, .int .u64 0, .slice none 0 0, .slice none 0 0, .slice none 0 0, .slice none 0 0] 26) = wG at *
                have X1z := Aside0.mk hHeld.2
                have HBz := Aside0.mk (HB6.out.trans (hHeld.1.mono HB6.out.size))
                have hLast := hHeld.1
                -- 8: Op.store 26 t7 t57
                refine last_ (i := 8) (N := none) #[true, true, true, true, true, true, true, true, true, false] rfl rfl (by kernel_rfl) (by decide) (fun K hK => ?_)
                refine store_ (by rfl) rfl 26 (.tmp 7) (.tmp 57) rfl g7 26 rfl (vCs v q9) rfl _ XG.out (by rw [size26]; rfl) rfl (by simp [Value.oneCell']) ?_
                intro wS hS hSb hSo hSs
                try clear hHeld
                refine hK.out _ _ ?_
                clear hK K
                have X7z := Aside0.mk hS
                have NE := Aside0.mk (show w.heap.size ≠ g7 by have h1 := blk_lt X16.out; have h2 := NG.out; omega)
                have X1s := Aside0.mk ((hSo _ NE.out).trans X1z.out)
                have HBs := Aside0.mk (hSb _ _ HBz.out (show w.heap.size ≤ g7 by have h1 := NG.out; have h2 := HB6.out.size; omega))
                have KRs := Aside0.mk (RowsK.all (RowsK.other (n := 4) KR.out XG.out (by decide) hSo)).vc
                clear hS hSb hSo hSs hLast XG
                -- 9: Op.assign t58
                refine pure_ (i := 9) (N := (some 8)) (v := ?_) (a' := ?_) #[true, true, true, true, true, true, true, true, true, true] rfl rfl (by kernel_rfl) (fun _ _ _ h => h) (Or.inl ⟨by rfl, ?_⟩) ?_ ?_
                rotate_left
                · intro w'
                  go_simp
                  with_reducible rfl
                rotate_left
                · simp only [Act.put, List.setIfInBounds_toArray, List.set_cons_zero, List.set_cons_succ, i64_w, i32_w]
                  rfl
                refine done_ (by kernel_rfl) ?_
                have c0 : wS.cell? ⟨g7, 0, none⟩ = some (.int .u64 v.log) := (blk_cell X7z.out 0).trans rfl
                have c1 : wS.cell? ⟨g7, 1, none⟩ = some (.int .u64 v.next) := (blk_cell X7z.out 1).trans rfl
                have c2 : wS.cell? ⟨g7, 2, none⟩ = some (.int .u64 v.seq) := (blk_cell X7z.out 2).trans rfl
                have c3 : wS.cell? ⟨g7, 3, none⟩ = some (.slice q9.a0 v.l0.length q9.c0) := (blk_cell X7z.out 3).trans rfl
                have c4 : wS.cell? ⟨g7, 4, none⟩ = some (.slice q9.a1 v.l1.length q9.c1) := (blk_cell X7z.out 4).trans rfl
                have c5 : wS.cell? ⟨g7, 5, none⟩ = some (.slice q9.a2 v.l2.length q9.c2) := (blk_cell X7z.out 5).trans rfl
                have c6 : wS.cell? ⟨g7, 6, none⟩ = some (.slice q9.a3 v.l3.length q9.c3) := (blk_cell X7z.out 6).trans rfl
                have b0 : wS.cell? ⟨w.heap.size, 0, none⟩ = some (.int .u64 v.log) := (blk_cell X1s.out 0).trans rfl
                have b1 : wS.cell? ⟨w.heap.size, 1, none⟩ = some (.int .u64 v.next) := (blk_cell X1s.out 1).trans rfl
                have b2 : wS.cell? ⟨w.heap.size, 2, none⟩ = some (.int .u64 v.seq) := (blk_cell X1s.out 2).trans rfl
                have b3 : wS.cell? ⟨w.heap.size, 3, none⟩ = some (.slice p.a0 v.l0.length p.c0) := (blk_cell X1s.out 3).trans rfl
                have b4 : wS.cell? ⟨w.heap.size, 4, none⟩ = some (.slice p.a1 v.l1.length p.c1) := (blk_cell X1s.out 4).trans rfl
                have b5 : wS.cell? ⟨w.heap.size, 5, none⟩ = some (.slice p.a2 v.l2.length p.c2) := (blk_cell X1s.out 5).trans rfl
                have b6 : wS.cell? ⟨w.heap.size, 6, none⟩ = some (.slice p.a3 v.l3.length p.c3) := (blk_cell X1s.out 6).trans rfl
                go_wp2_with fail
                refine (same_self _ v q9 p KRs.out (HC.out.below HBs.out)).mono ?_
                rintro x w8 ⟨rfl, hb⟩
                have HB8 := Aside0.mk (below_step HBs.out hb)
                clear hb b0 b1 b2 b3 b4 b5 b6 c0 c1 c2 c3 c4 c5 c6
                go_wp2_with fail
                refine (awake14_calls _).mono ?_
                rintro x w9 ⟨rfl, hb⟩
                have HB9 := Aside0.mk (below_step HB8.out hb)
                clear hb
                go_wp2_with fail
                go_ret
                exact ⟨rfl, HB9.out⟩
              · refine value_ (w1 := wB.alloc (.cells #[.int .u64 0, .int .u64 0, .int .u64 0, .slice none 0 0, .slice none 0 0, .slice none 0 0, .slice none 0 0] 26)) (v := .pointer (some ⟨wB.heap.size, 0, none⟩)) (by rfl) rfl (by go_simp) ?_
                have hb := (Below.refl wB.heap.size wB).alloc (Nat.le_refl _) (.cells #[.int .u64 0, .int .u64 0, .int .u64 0, .slice none 0 0, .slice none 0 0, .slice none 0 0, .slice none 0 0] 26)
                have XG := Aside0.mk (blk_new wB (.cells #[.int .u64 0, .int .u64 0, .int .u64 0, .slice none 0 0, .slice none 0 0, .slice none 0 0, .slice none 0 0] 26))
                replace KA := Aside0.mk (Kd.C_below KA.out hb)
                have NG := Aside0.mk (show w6.heap.size ≤ wB.heap.size from hHeld.1.size)
                have hOld := hHeld
                clear hHeld
                refine hK.out _ _ (⟨below_step hOld.1 hb, blk_below hOld.2 hb⟩) (fun hHeld => ?_)
                clear hOld hK K
                refine norm_ (a' := ?_) ?_ ?_
                rotate_left
                · show Act.put _ (some 7) _ = _
                  simp only [Act.put, List.setIfInBounds_toArray, List.set_cons_zero, List.set_cons_succ, i64_w, i32_w]
                  rfl
                generalize wB.heap.size = g7 at *
                generalize wB.alloc (.cells #[.int .u64 0, .int .u64 0, .int .u64 0, .slice none 0 0, .slice none 0 0, .slice none 0 0, .slice none 0 0] 26) = wG at *
                -- 3: Op.call { value (Operand.func 54), args := #[t53, t55], argTypes := #[26, 70] }
                refine one_ (i := 3) (N := (some 56)) #[true, true, true, true, false, false, false, true, false, false] rfl rfl (by kernel_rfl) (by decide) (fun K hK => ?_)
                refine goes_ Try.func54 (by kernel_rfl) rfl #[.agg (vCs firstV firstP), .agg (eCs (wholeE v) none 0 B1 cb1)] (by rfl) rfl rfl (by (try simp only [List.map_toArray, List.map_cons, List.map_nil]); first | done | rfl) ?_
                (with_reducible refine (makes_calls _ v B1 cb1 HR.out HS.out HL.out KA.out).mono ?_)
                rintro e wC ⟨q9, rfl, hk9, hb⟩
                refine ⟨_, rfl, ?_⟩
                have KR := Aside0.mk hk9
                replace XG := Aside0.mk (blk_below XG.out hb)
                have hOld := hHeld
                clear hHeld
                refine hK.out _ _ (⟨below_step hOld.1 hb, blk_below hOld.2 hb⟩) (fun hHeld => ?_)
                clear hOld hK K
                refine norm_ (a' := ?_) ?_ ?_
                rotate_left
                · show Act.put _ (some 56) _ = _
                  simp only [Act.put, List.setIfInBounds_toArray, List.set_cons_zero, List.set_cons_succ, i64_w, i32_w]
                  rfl
                -- 4: Op.move t56
                refine pure_ (i := 4) (N := (some 52)) (v := ?_) (a' := ?_) #[true, true, true, true, true, false, false, true, false, false] rfl rfl (by kernel_rfl) (fun _ _ _ h => h) (Or.inl ⟨by rfl, ?_⟩) ?_ ?_
                rotate_left
                · intro w'
                  go_simp
                  with_reducible rfl
                rotate_left
                · simp only [Act.put, List.setIfInBounds_toArray, List.set_cons_zero, List.set_cons_succ, i64_w, i32_w]
                  rfl
                -- 5: Op.extract t52 0
                refine pure_ (i := 5) (N := (some 57)) (v := ?_) (a' := ?_) #[true, true, true, true, true, true, false, true, false, false] rfl rfl (by kernel_rfl) (fun _ _ _ h => h) (Or.inl ⟨by rfl, ?_⟩) ?_ ?_
                rotate_left
                · intro w'
                  go_simp
                  with_reducible rfl
                rotate_left
                · simp only [Act.put, List.setIfInBounds_toArray, List.set_cons_zero, List.set_cons_succ, i64_w, i32_w]
                  rfl
                -- 6: Op.extract t52 1
                refine pure_ (i := 6) (N := (some 58)) (v := ?_) (a' := ?_) #[true, true, true, true, true, true, true, true, false, false] rfl rfl (by kernel_rfl) (fun _ _ _ h => h) (Or.inl ⟨by rfl, ?_⟩) ?_ ?_
                rotate_left
                · intro w'
                  go_simp
                  with_reducible rfl
                rotate_left
                · simp only [Act.put, List.setIfInBounds_toArray, List.set_cons_zero, List.set_cons_succ, i64_w, i32_w]
                  rfl
                have X1z := Aside0.mk hHeld.2
                have HBz := Aside0.mk (HB6.out.trans (hHeld.1.mono HB6.out.size))
                have hLast := hHeld.1
                -- 8: Op.store 26 t7 t57
                refine last_ (i := 8) (N := none) #[true, true, true, true, true, true, true, true, true, false] rfl rfl (by kernel_rfl) (by decide) (fun K hK => ?_)
                refine store_ (by rfl) rfl 26 (.tmp 7) (.tmp 57) rfl g7 26 rfl (vCs v q9) rfl _ XG.out (by rw [size26]; rfl) rfl (by simp [Value.oneCell']) ?_
                intro wS hS hSb hSo hSs
                try clear hHeld
                refine hK.out _ _ ?_
                clear hK K
                have X7z := Aside0.mk hS
                have NE := Aside0.mk (show w.heap.size ≠ g7 by have h1 := blk_lt X16.out; have h2 := NG.out; omega)
                have X1s := Aside0.mk ((hSo _ NE.out).trans X1z.out)
                have HBs := Aside0.mk (hSb _ _ HBz.out (show w.heap.size ≤ g7 by have h1 := NG.out; have h2 := HB6.out.size; omega))
                have KRs := Aside0.mk (RowsK.all (RowsK.other (n := 4) KR.out XG.out (by decide) hSo)).vc
                clear hS hSb hSo hSs hLast XG
                -- 9: Op.assign t58
                refine pure_ (i := 9) (N := (some 8)) (v := ?_) (a' := ?_) #[true, true, true, true, true, true, true, true, true, true] rfl rfl (by kernel_rfl) (fun _ _ _ h => h) (Or.inl ⟨by rfl, ?_⟩) ?_ ?_
                rotate_left
                · intro w'
                  go_simp
                  with_reducible rfl
                rotate_left
                · simp only [Act.put, List.setIfInBounds_toArray, List.set_cons_zero, List.set_cons_succ, i64_w, i32_w]
                  rfl
                refine done_ (by kernel_rfl) ?_
                have c0 : wS.cell? ⟨g7, 0, none⟩ = some (.int .u64 v.log) := (blk_cell X7z.out 0).trans rfl
                have c1 : wS.cell? ⟨g7, 1, none⟩ = some (.int .u64 v.next) := (blk_cell X7z.out 1).trans rfl
                have c2 : wS.cell? ⟨g7, 2, none⟩ = some (.int .u64 v.seq) := (blk_cell X7z.out 2).trans rfl
                have c3 : wS.cell? ⟨g7, 3, none⟩ = some (.slice q9.a0 v.l0.length q9.c0) := (blk_cell X7z.out 3).trans rfl
                have c4 : wS.cell? ⟨g7, 4, none⟩ = some (.slice q9.a1 v.l1.length q9.c1) := (blk_cell X7z.out 4).trans rfl
                have c5 : wS.cell? ⟨g7, 5, none⟩ = some (.slice q9.a2 v.l2.length q9.c2) := (blk_cell X7z.out 5).trans rfl
                have c6 : wS.cell? ⟨g7, 6, none⟩ = some (.slice q9.a3 v.l3.length q9.c3) := (blk_cell X7z.out 6).trans rfl
                have b0 : wS.cell? ⟨w.heap.size, 0, none⟩ = some (.int .u64 v.log) := (blk_cell X1s.out 0).trans rfl
                have b1 : wS.cell? ⟨w.heap.size, 1, none⟩ = some (.int .u64 v.next) := (blk_cell X1s.out 1).trans rfl
                have b2 : wS.cell? ⟨w.heap.size, 2, none⟩ = some (.int .u64 v.seq) := (blk_cell X1s.out 2).trans rfl
                have b3 : wS.cell? ⟨w.heap.size, 3, none⟩ = some (.slice p.a0 v.l0.length p.c0) := (blk_cell X1s.out 3).trans rfl
                have b4 : wS.cell? ⟨w.heap.size, 4, none⟩ = some (.slice p.a1 v.l1.length p.c1) := (blk_cell X1s.out 4).trans rfl
                have b5 : wS.cell? ⟨w.heap.size, 5, none⟩ = some (.slice p.a2 v.l2.length p.c2) := (blk_cell X1s.out 5).trans rfl
                have b6 : wS.cell? ⟨w.heap.size, 6, none⟩ = some (.slice p.a3 v.l3.length p.c3) := (blk_cell X1s.out 6).trans rfl
                go_wp2_with fail
                refine (same_self _ v q9 p KRs.out (HC.out.below HBs.out)).mono ?_
                rintro x w8 ⟨rfl, hb⟩
                have HB8 := Aside0.mk (below_step HBs.out hb)
                clear hb b0 b1 b2 b3 b4 b5 b6 c0 c1 c2 c3 c4 c5 c6
                go_wp2_with fail
                refine (awake14_calls _).mono ?_
                rintro x w9 ⟨rfl, hb⟩
                have HB9 := Aside0.mk (below_step HB8.out hb)
                clear hb
                go_wp2_with fail
                go_ret
                exact ⟨rfl, HB9.out⟩
            · refine value_ (w1 := wA.alloc (.cells #[.int .u64 0, .int .u64 0, .int .u64 0, .slice none 0 0, .slice none 0 0, .slice none 0 0, .slice none 0 0] 26)) (v := .pointer (some ⟨wA.heap.size, 0, none⟩)) (by rfl) rfl (by go_simp) ?_
              have hb := (Below.refl wA.heap.size wA).alloc (Nat.le_refl _) (.cells #[.int .u64 0, .int .u64 0, .int .u64 0, .slice none 0 0, .slice none 0 0, .slice none 0 0, .slice none 0 0] 26)
              have XG := Aside0.mk (blk_new wA (.cells #[.int .u64 0, .int .u64 0, .int .u64 0, .slice none 0 0, .slice none 0 0, .slice none 0 0, .slice none 0 0] 26))
              have NG := Aside0.mk (show w6.heap.size ≤ wA.heap.size from hHeld.1.size)
              have hOld := hHeld
              clear hHeld
              refine hK.out _ _ (⟨below_step hOld.1 hb, blk_below hOld.2 hb⟩) (fun hHeld => ?_)
              clear hOld hK K
              refine norm_ (a' := ?_) ?_ ?_
              rotate_left
              · show Act.put _ (some 7) _ = _
                simp only [Act.put, List.setIfInBounds_toArray, List.set_cons_zero, List.set_cons_succ, i64_w, i32_w]
                rfl
              generalize wA.heap.size = g7 at *
              generalize wA.alloc (.cells #[.int .u64 0, .int .u64 0, .int .u64 0, .slice none 0 0, .slice none 0 0, .slice none 0 0, .slice none 0 0] 26) = wG at *
              -- 2: Op.call { value (Operand.func 59), args := #[t54], argTypes := #[26] }
              refine one_ (i := 2) (N := (some 55)) #[true, true, true, false, false, false, false, true, false, false] rfl rfl (by kernel_rfl) (by decide) (fun K hK => ?_)
              refine goes_ Try.func59 (by kernel_rfl) rfl #[.agg (vCs v p)] (by rfl) rfl rfl (by (try simp only [List.map_toArray, List.map_cons, List.map_nil]); first | done | rfl) ?_
              (with_reducible refine (whole59_calls _ v p (HC.out.below (HB6.out.trans (hHeld.1.mono HB6.out.size))) HW.out).mono ?_)
              rintro e wB ⟨B1, cb1, rfl, hk1, hb⟩
              refine ⟨_, rfl, ?_⟩
              have KA := Aside0.mk hk1.2
              replace XG := Aside0.mk (blk_below XG.out hb)
              have hOld := hHeld
              clear hHeld
              refine hK.out _ _ (⟨below_step hOld.1 hb, blk_below hOld.2 hb⟩) (fun hHeld => ?_)
              clear hOld hK K
              refine norm_ (a' := ?_) ?_ ?_
              rotate_left
              · show Act.put _ (some 55) _ = _
                simp only [Act.put, List.setIfInBounds_toArray, List.set_cons_zero, List.set_cons_succ, i64_w, i32_w]
                rfl
              -- 3: Op.call { value (Operand.func 54), args := #[t53, t55], argTypes := #[26, 70] }
              refine one_ (i := 3) (N := (some 56)) #[true, true, true, true, false, false, false, true, false, false] rfl rfl (by kernel_rfl) (by decide) (fun K hK => ?_)
              refine goes_ Try.func54 (by kernel_rfl) rfl #[.agg (vCs firstV firstP), .agg (eCs (wholeE v) none 0 B1 cb1)] (by rfl) rfl rfl (by (try simp only [List.map_toArray, List.map_cons, List.map_nil]); first | done | rfl) ?_
              (with_reducible refine (makes_calls _ v B1 cb1 HR.out HS.out HL.out KA.out).mono ?_)
              rintro e wC ⟨q9, rfl, hk9, hb⟩
              refine ⟨_, rfl, ?_⟩
              have KR := Aside0.mk hk9
              replace XG := Aside0.mk (blk_below XG.out hb)
              have hOld := hHeld
              clear hHeld
              refine hK.out _ _ (⟨below_step hOld.1 hb, blk_below hOld.2 hb⟩) (fun hHeld => ?_)
              clear hOld hK K
              refine norm_ (a' := ?_) ?_ ?_
              rotate_left
              · show Act.put _ (some 56) _ = _
                simp only [Act.put, List.setIfInBounds_toArray, List.set_cons_zero, List.set_cons_succ, i64_w, i32_w]
                rfl
              -- 4: Op.move t56
              refine pure_ (i := 4) (N := (some 52)) (v := ?_) (a' := ?_) #[true, true, true, true, true, false, false, true, false, false] rfl rfl (by kernel_rfl) (fun _ _ _ h => h) (Or.inl ⟨by rfl, ?_⟩) ?_ ?_
              rotate_left
              · intro w'
                go_simp
                with_reducible rfl
              rotate_left
              · simp only [Act.put, List.setIfInBounds_toArray, List.set_cons_zero, List.set_cons_succ, i64_w, i32_w]
                rfl
              -- 5: Op.extract t52 0
              refine pure_ (i := 5) (N := (some 57)) (v := ?_) (a' := ?_) #[true, true, true, true, true, true, false, true, false, false] rfl rfl (by kernel_rfl) (fun _ _ _ h => h) (Or.inl ⟨by rfl, ?_⟩) ?_ ?_
              rotate_left
              · intro w'
                go_simp
                with_reducible rfl
              rotate_left
              · simp only [Act.put, List.setIfInBounds_toArray, List.set_cons_zero, List.set_cons_succ, i64_w, i32_w]
                rfl
              -- 6: Op.extract t52 1
              refine pure_ (i := 6) (N := (some 58)) (v := ?_) (a' := ?_) #[true, true, true, true, true, true, true, true, false, false] rfl rfl (by kernel_rfl) (fun _ _ _ h => h) (Or.inl ⟨by rfl, ?_⟩) ?_ ?_
              rotate_left
              · intro w'
                go_simp
                with_reducible rfl
              rotate_left
              · simp only [Act.put, List.setIfInBounds_toArray, List.set_cons_zero, List.set_cons_succ, i64_w, i32_w]
                rfl
              have X1z := Aside0.mk hHeld.2
              have HBz := Aside0.mk (HB6.out.trans (hHeld.1.mono HB6.out.size))
              have hLast := hHeld.1
              -- 8: Op.store 26 t7 t57
              refine last_ (i := 8) (N := none) #[true, true, true, true, true, true, true, true, true, false] rfl rfl (by kernel_rfl) (by decide) (fun K hK => ?_)
              refine store_ (by rfl) rfl 26 (.tmp 7) (.tmp 57) rfl g7 26 rfl (vCs v q9) rfl _ XG.out (by rw [size26]; rfl) rfl (by simp [Value.oneCell']) ?_
              intro wS hS hSb hSo hSs
              try clear hHeld
              refine hK.out _ _ ?_
              clear hK K
              have X7z := Aside0.mk hS
              have NE := Aside0.mk (show w.heap.size ≠ g7 by have h1 := blk_lt X16.out; have h2 := NG.out; omega)
              have X1s := Aside0.mk ((hSo _ NE.out).trans X1z.out)
              have HBs := Aside0.mk (hSb _ _ HBz.out (show w.heap.size ≤ g7 by have h1 := NG.out; have h2 := HB6.out.size; omega))
              have KRs := Aside0.mk (RowsK.all (RowsK.other (n := 4) KR.out XG.out (by decide) hSo)).vc
              clear hS hSb hSo hSs hLast XG
              -- 9: Op.assign t58
              refine pure_ (i := 9) (N := (some 8)) (v := ?_) (a' := ?_) #[true, true, true, true, true, true, true, true, true, true] rfl rfl (by kernel_rfl) (fun _ _ _ h => h) (Or.inl ⟨by rfl, ?_⟩) ?_ ?_
              rotate_left
              · intro w'
                go_simp
                with_reducible rfl
              rotate_left
              · simp only [Act.put, List.setIfInBounds_toArray, List.set_cons_zero, List.set_cons_succ, i64_w, i32_w]
                rfl
              refine done_ (by kernel_rfl) ?_
              have c0 : wS.cell? ⟨g7, 0, none⟩ = some (.int .u64 v.log) := (blk_cell X7z.out 0).trans rfl
              have c1 : wS.cell? ⟨g7, 1, none⟩ = some (.int .u64 v.next) := (blk_cell X7z.out 1).trans rfl
              have c2 : wS.cell? ⟨g7, 2, none⟩ = some (.int .u64 v.seq) := (blk_cell X7z.out 2).trans rfl
              have c3 : wS.cell? ⟨g7, 3, none⟩ = some (.slice q9.a0 v.l0.length q9.c0) := (blk_cell X7z.out 3).trans rfl
              have c4 : wS.cell? ⟨g7, 4, none⟩ = some (.slice q9.a1 v.l1.length q9.c1) := (blk_cell X7z.out 4).trans rfl
              have c5 : wS.cell? ⟨g7, 5, none⟩ = some (.slice q9.a2 v.l2.length q9.c2) := (blk_cell X7z.out 5).trans rfl
              have c6 : wS.cell? ⟨g7, 6, none⟩ = some (.slice q9.a3 v.l3.length q9.c3) := (blk_cell X7z.out 6).trans rfl
              have b0 : wS.cell? ⟨w.heap.size, 0, none⟩ = some (.int .u64 v.log) := (blk_cell X1s.out 0).trans rfl
              have b1 : wS.cell? ⟨w.heap.size, 1, none⟩ = some (.int .u64 v.next) := (blk_cell X1s.out 1).trans rfl
              have b2 : wS.cell? ⟨w.heap.size, 2, none⟩ = some (.int .u64 v.seq) := (blk_cell X1s.out 2).trans rfl
              have b3 : wS.cell? ⟨w.heap.size, 3, none⟩ = some (.slice p.a0 v.l0.length p.c0) := (blk_cell X1s.out 3).trans rfl
              have b4 : wS.cell? ⟨w.heap.size, 4, none⟩ = some (.slice p.a1 v.l1.length p.c1) := (blk_cell X1s.out 4).trans rfl
              have b5 : wS.cell? ⟨w.heap.size, 5, none⟩ = some (.slice p.a2 v.l2.length p.c2) := (blk_cell X1s.out 5).trans rfl
              have b6 : wS.cell? ⟨w.heap.size, 6, none⟩ = some (.slice p.a3 v.l3.length p.c3) := (blk_cell X1s.out 6).trans rfl
              go_wp2_with fail
              refine (same_self _ v q9 p KRs.out (HC.out.below HBs.out)).mono ?_
              rintro x w8 ⟨rfl, hb⟩
              have HB8 := Aside0.mk (below_step HBs.out hb)
              clear hb b0 b1 b2 b3 b4 b5 b6 c0 c1 c2 c3 c4 c5 c6
              go_wp2_with fail
              refine (awake14_calls _).mono ?_
              rintro x w9 ⟨rfl, hb⟩
              have HB9 := Aside0.mk (below_step HB8.out hb)
              clear hb
              go_wp2_with fail
              go_ret
              exact ⟨rfl, HB9.out⟩
          · refine value_ (w1 := wd.alloc (.cells #[.int .u64 0, .int .u64 0, .int .u64 0, .slice none 0 0, .slice none 0 0, .slice none 0 0, .slice none 0 0] 26)) (v := .pointer (some ⟨wd.heap.size, 0, none⟩)) (by rfl) rfl (by go_simp) ?_
            have hb := (Below.refl wd.heap.size wd).alloc (Nat.le_refl _) (.cells #[.int .u64 0, .int .u64 0, .int .u64 0, .slice none 0 0, .slice none 0 0, .slice none 0 0, .slice none 0 0] 26)
            have XG := Aside0.mk (blk_new wd (.cells #[.int .u64 0, .int .u64 0, .int .u64 0, .slice none 0 0, .slice none 0 0, .slice none 0 0, .slice none 0 0] 26))
            have NG := Aside0.mk (show w6.heap.size ≤ wd.heap.size from hHeld.1.size)
            have hOld := hHeld
            clear hHeld
            refine hK.out _ _ (⟨below_step hOld.1 hb, blk_below hOld.2 hb⟩) (fun hHeld => ?_)
            clear hOld hK K
            refine norm_ (a' := ?_) ?_ ?_
            rotate_left
            · show Act.put _ (some 7) _ = _
              simp only [Act.put, List.setIfInBounds_toArray, List.set_cons_zero, List.set_cons_succ, i64_w, i32_w]
              rfl
            generalize wd.heap.size = g7 at *
            generalize wd.alloc (.cells #[.int .u64 0, .int .u64 0, .int .u64 0, .slice none 0 0, .slice none 0 0, .slice none 0 0, .slice none 0 0] 26) = wG at *
            -- 0: Op.call { value (Operand.func 66), args := #[], argTypes := #[] }
            refine one_ (i := 0) (N := (some 53)) #[true, true, false, false, false, false, false, true, false, false] rfl rfl (by kernel_rfl) (by decide) (fun K hK => ?_)
            refine goes_ Try.func66 (by kernel_rfl) rfl #[] (by rfl) rfl rfl (by (try simp only [List.map_toArray, List.map_cons, List.map_nil]); first | done | rfl) ?_
            (with_reducible refine (first66_calls _).mono ?_)
            rintro e wA ⟨rfl, hb⟩
            refine ⟨_, rfl, ?_⟩
            replace XG := Aside0.mk (blk_below XG.out hb)
            have hOld := hHeld
            clear hHeld
            refine hK.out _ _ (⟨below_step hOld.1 hb, blk_below hOld.2 hb⟩) (fun hHeld => ?_)
            clear hOld hK K
            refine norm_ (a' := ?_) ?_ ?_
            rotate_left
            · show Act.put _ (some 53) _ = _
              simp only [Act.put, List.setIfInBounds_toArray, List.set_cons_zero, List.set_cons_succ, i64_w, i32_w]
              rfl
            -- 2: Op.call { value (Operand.func 59), args := #[t54], argTypes := #[26] }
            refine one_ (i := 2) (N := (some 55)) #[true, true, true, false, false, false, false, true, false, false] rfl rfl (by kernel_rfl) (by decide) (fun K hK => ?_)
            refine goes_ Try.func59 (by kernel_rfl) rfl #[.agg (vCs v p)] (by rfl) rfl rfl (by (try simp only [List.map_toArray, List.map_cons, List.map_nil]); first | done | rfl) ?_
            (with_reducible refine (whole59_calls _ v p (HC.out.below (HB6.out.trans (hHeld.1.mono HB6.out.size))) HW.out).mono ?_)
            rintro e wB ⟨B1, cb1, rfl, hk1, hb⟩
            refine ⟨_, rfl, ?_⟩
            have KA := Aside0.mk hk1.2
            replace XG := Aside0.mk (blk_below XG.out hb)
            have hOld := hHeld
            clear hHeld
            refine hK.out _ _ (⟨below_step hOld.1 hb, blk_below hOld.2 hb⟩) (fun hHeld => ?_)
            clear hOld hK K
            refine norm_ (a' := ?_) ?_ ?_
            rotate_left
            · show Act.put _ (some 55) _ = _
              simp only [Act.put, List.setIfInBounds_toArray, List.set_cons_zero, List.set_cons_succ, i64_w, i32_w]
              rfl
            -- 3: Op.call { value (Operand.func 54), args := #[t53, t55], argTypes := #[26, 70] }
            refine one_ (i := 3) (N := (some 56)) #[true, true, true, true, false, false, false, true, false, false] rfl rfl (by kernel_rfl) (by decide) (fun K hK => ?_)
            refine goes_ Try.func54 (by kernel_rfl) rfl #[.agg (vCs firstV firstP), .agg (eCs (wholeE v) none 0 B1 cb1)] (by rfl) rfl rfl (by (try simp only [List.map_toArray, List.map_cons, List.map_nil]); first | done | rfl) ?_
            (with_reducible refine (makes_calls _ v B1 cb1 HR.out HS.out HL.out KA.out).mono ?_)
            rintro e wC ⟨q9, rfl, hk9, hb⟩
            refine ⟨_, rfl, ?_⟩
            have KR := Aside0.mk hk9
            replace XG := Aside0.mk (blk_below XG.out hb)
            have hOld := hHeld
            clear hHeld
            refine hK.out _ _ (⟨below_step hOld.1 hb, blk_below hOld.2 hb⟩) (fun hHeld => ?_)
            clear hOld hK K
            refine norm_ (a' := ?_) ?_ ?_
            rotate_left
            · show Act.put _ (some 56) _ = _
              simp only [Act.put, List.setIfInBounds_toArray, List.set_cons_zero, List.set_cons_succ, i64_w, i32_w]
              rfl
            -- 4: Op.move t56
            refine pure_ (i := 4) (N := (some 52)) (v := ?_) (a' := ?_) #[true, true, true, true, true, false, false, true, false, false] rfl rfl (by kernel_rfl) (fun _ _ _ h => h) (Or.inl ⟨by rfl, ?_⟩) ?_ ?_
            rotate_left
            · intro w'
              go_simp
              with_reducible rfl
            rotate_left
            · simp only [Act.put, List.setIfInBounds_toArray, List.set_cons_zero, List.set_cons_succ, i64_w, i32_w]
              rfl
            -- 5: Op.extract t52 0
            refine pure_ (i := 5) (N := (some 57)) (v := ?_) (a' := ?_) #[true, true, true, true, true, true, false, true, false, false] rfl rfl (by kernel_rfl) (fun _ _ _ h => h) (Or.inl ⟨by rfl, ?_⟩) ?_ ?_
            rotate_left
            · intro w'
              go_simp
              with_reducible rfl
            rotate_left
            · simp only [Act.put, List.setIfInBounds_toArray, List.set_cons_zero, List.set_cons_succ, i64_w, i32_w]
              rfl
            -- 6: Op.extract t52 1
            refine pure_ (i := 6) (N := (some 58)) (v := ?_) (a' := ?_) #[true, true, true, true, true, true, true, true, false, false] rfl rfl (by kernel_rfl) (fun _ _ _ h => h) (Or.inl ⟨by rfl, ?_⟩) ?_ ?_
            rotate_left
            · intro w'
              go_simp
              with_reducible rfl
            rotate_left
            · simp only [Act.put, List.setIfInBounds_toArray, List.set_cons_zero, List.set_cons_succ, i64_w, i32_w]
              rfl
            have X1z := Aside0.mk hHeld.2
            have HBz := Aside0.mk (HB6.out.trans (hHeld.1.mono HB6.out.size))
            have hLast := hHeld.1
            -- 8: Op.store 26 t7 t57
            refine last_ (i := 8) (N := none) #[true, true, true, true, true, true, true, true, true, false] rfl rfl (by kernel_rfl) (by decide) (fun K hK => ?_)
            refine store_ (by rfl) rfl 26 (.tmp 7) (.tmp 57) rfl g7 26 rfl (vCs v q9) rfl _ XG.out (by rw [size26]; rfl) rfl (by simp [Value.oneCell']) ?_
            intro wS hS hSb hSo hSs
            try clear hHeld
            refine hK.out _ _ ?_
            clear hK K
            have X7z := Aside0.mk hS
            have NE := Aside0.mk (show w.heap.size ≠ g7 by have h1 := blk_lt X16.out; have h2 := NG.out; omega)
            have X1s := Aside0.mk ((hSo _ NE.out).trans X1z.out)
            have HBs := Aside0.mk (hSb _ _ HBz.out (show w.heap.size ≤ g7 by have h1 := NG.out; have h2 := HB6.out.size; omega))
            have KRs := Aside0.mk (RowsK.all (RowsK.other (n := 4) KR.out XG.out (by decide) hSo)).vc
            clear hS hSb hSo hSs hLast XG
            -- 9: Op.assign t58
            refine pure_ (i := 9) (N := (some 8)) (v := ?_) (a' := ?_) #[true, true, true, true, true, true, true, true, true, true] rfl rfl (by kernel_rfl) (fun _ _ _ h => h) (Or.inl ⟨by rfl, ?_⟩) ?_ ?_
            rotate_left
            · intro w'
              go_simp
              with_reducible rfl
            rotate_left
            · simp only [Act.put, List.setIfInBounds_toArray, List.set_cons_zero, List.set_cons_succ, i64_w, i32_w]
              rfl
            refine done_ (by kernel_rfl) ?_
            have c0 : wS.cell? ⟨g7, 0, none⟩ = some (.int .u64 v.log) := (blk_cell X7z.out 0).trans rfl
            have c1 : wS.cell? ⟨g7, 1, none⟩ = some (.int .u64 v.next) := (blk_cell X7z.out 1).trans rfl
            have c2 : wS.cell? ⟨g7, 2, none⟩ = some (.int .u64 v.seq) := (blk_cell X7z.out 2).trans rfl
            have c3 : wS.cell? ⟨g7, 3, none⟩ = some (.slice q9.a0 v.l0.length q9.c0) := (blk_cell X7z.out 3).trans rfl
            have c4 : wS.cell? ⟨g7, 4, none⟩ = some (.slice q9.a1 v.l1.length q9.c1) := (blk_cell X7z.out 4).trans rfl
            have c5 : wS.cell? ⟨g7, 5, none⟩ = some (.slice q9.a2 v.l2.length q9.c2) := (blk_cell X7z.out 5).trans rfl
            have c6 : wS.cell? ⟨g7, 6, none⟩ = some (.slice q9.a3 v.l3.length q9.c3) := (blk_cell X7z.out 6).trans rfl
            have b0 : wS.cell? ⟨w.heap.size, 0, none⟩ = some (.int .u64 v.log) := (blk_cell X1s.out 0).trans rfl
            have b1 : wS.cell? ⟨w.heap.size, 1, none⟩ = some (.int .u64 v.next) := (blk_cell X1s.out 1).trans rfl
            have b2 : wS.cell? ⟨w.heap.size, 2, none⟩ = some (.int .u64 v.seq) := (blk_cell X1s.out 2).trans rfl
            have b3 : wS.cell? ⟨w.heap.size, 3, none⟩ = some (.slice p.a0 v.l0.length p.c0) := (blk_cell X1s.out 3).trans rfl
            have b4 : wS.cell? ⟨w.heap.size, 4, none⟩ = some (.slice p.a1 v.l1.length p.c1) := (blk_cell X1s.out 4).trans rfl
            have b5 : wS.cell? ⟨w.heap.size, 5, none⟩ = some (.slice p.a2 v.l2.length p.c2) := (blk_cell X1s.out 5).trans rfl
            have b6 : wS.cell? ⟨w.heap.size, 6, none⟩ = some (.slice p.a3 v.l3.length p.c3) := (blk_cell X1s.out 6).trans rfl
            go_wp2_with fail
            refine (same_self _ v q9 p KRs.out (HC.out.below HBs.out)).mono ?_
            rintro x w8 ⟨rfl, hb⟩
            have HB8 := Aside0.mk (below_step HBs.out hb)
            clear hb b0 b1 b2 b3 b4 b5 b6 c0 c1 c2 c3 c4 c5 c6
            go_wp2_with fail
            refine (awake14_calls _).mono ?_
            rintro x w9 ⟨rfl, hb⟩
            have HB9 := Aside0.mk (below_step HB8.out hb)
            clear hb
            go_wp2_with fail
            go_ret
            exact ⟨rfl, HB9.out⟩
        · have HR := Aside0.mk hr
          refine (right_calls _ v p (HC.out.below HB51.out) HW.out).mono ?_
          rintro x w6 ⟨rfl, hb⟩
          rw [decide_eq_false HR.out]
          have HB6 := Aside0.mk (below_step HB51.out hb)
          clear hb b0 b1 b2 b3 b4 b5 b6
          have F2 : f = 2 := by have h1 := UF.out; rw [applyV_not hr] at h1; injection h1 with _ h1; exact h1.symm
          clear hr
          subst F2
          go_wp2_with fail
          refine (awake14_calls _).mono ?_
          rintro x w9 ⟨rfl, hb⟩
          have HB9 := Aside0.mk (below_step HB6.out hb)
          clear hb
          go_wp2_with fail
          go_ret
          exact ⟨rfl, HB9.out⟩
end Go.Proofs.Ytkjepfofiegcdaa.V
