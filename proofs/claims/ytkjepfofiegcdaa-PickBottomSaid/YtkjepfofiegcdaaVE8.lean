import Derived.Test.YtkjepfofiegcdaaVE7
/- The law PickBottom, walked. Conditions: none. -/
namespace Go.Proofs.Ytkjepfofiegcdaa.V
set_option linter.unusedVariables false
set_option linter.unusedSimpArgs false
open Go.RowKit Go.Proofs.YtkjepfofiegcdaaW.PrintWords Go.Proofs.YtkjepfofiegcdaaW.PrintLast Go.Proofs.YtkjepfofiegcdaaW.PrintMore Go.Proofs.Ytkjepfofiegcdaa.PB14
set_option maxHeartbeats 8000000 in
set_option maxRecDepth 100000 in
theorem pickBottom_calls (w : World) (v : Ver) (p : Pl) (hC : VC w v p) (hW : VW v) (lev : Int) (A1 : Option Addr) (c1 : Nat) (In : List S58) (A2 : Option Addr) (c2 : Nat) (Ov : List S58) (h1 : k58.C w A1 In.length In) (hc1 : In.length ≤ c1) (h2 : k58.C w A2 Ov.length Ov) (hc2 : Ov.length ≤ c2) :
    Calls Try.prog 7 #[.agg (vCs v p), .agg #[.int .i64 lev, .slice A1 In.length c1, .slice A2 Ov.length c2]] w fun e w' => e = .returned (.bool true) ∧ Below w.heap.size w w' := by
  have HC := Aside0.mk hC
  have HW := Aside0.mk hW
  have H1 := Aside0.mk h1
  have H2 := Aside0.mk h2
  have Hc1 := Aside0.mk hc1
  have Hc2 := Aside0.mk hc2
  have HB := Aside0.mk (below_alloc ((Below.refl w.heap.size w).alloc (Nat.le_refl _) (.cells (vCs v p) 26)) (.cells #[.int .i64 lev, .slice A1 In.length c1, .slice A2 Ov.length c2] 52))
  have X2 := Aside0.mk (blk_alloc (blk_new w (.cells (vCs v p) 26)) (.cells #[.int .i64 lev, .slice A1 In.length c1, .slice A2 Ov.length c2] 52))
  have X3 := Aside0.mk (blk_new (w.alloc (.cells (vCs v p) 26)) (.cells #[.int .i64 lev, .slice A1 In.length c1, .slice A2 Ov.length c2] 52))
  clear hC h1 h2 hc1 hc2 hW
  go_enter Try.func7, Try.ntmps7
  go_upto_region 1 with (fail)
  generalize hg3 : (w.alloc (.cells (vCs v p) 26)).heap.size = g3 at *
  have e3 : w.heap.size + 1 = g3 := by rw [← hg3]; simp
  try rw [e3]
  clear hg3 e3
  generalize (w.alloc (.cells (vCs v p) 26)).alloc (.cells #[.int .i64 lev, .slice A1 In.length c1, .slice A2 Ov.length c2] 52) = w1 at *
  have b0 : w1.cell? ⟨w.heap.size, 0, none⟩ = some (.int .u64 v.log) := (blk_cell X2.out 0).trans rfl
  have b1 : w1.cell? ⟨w.heap.size, 1, none⟩ = some (.int .u64 v.next) := (blk_cell X2.out 1).trans rfl
  have b2 : w1.cell? ⟨w.heap.size, 2, none⟩ = some (.int .u64 v.seq) := (blk_cell X2.out 2).trans rfl
  have b3 : w1.cell? ⟨w.heap.size, 3, none⟩ = some (.slice p.a0 v.l0.length p.c0) := (blk_cell X2.out 3).trans rfl
  have b4 : w1.cell? ⟨w.heap.size, 4, none⟩ = some (.slice p.a1 v.l1.length p.c1) := (blk_cell X2.out 4).trans rfl
  have b5 : w1.cell? ⟨w.heap.size, 5, none⟩ = some (.slice p.a2 v.l2.length p.c2) := (blk_cell X2.out 5).trans rfl
  have b6 : w1.cell? ⟨w.heap.size, 6, none⟩ = some (.slice p.a3 v.l3.length p.c3) := (blk_cell X2.out 6).trans rfl
  go_wp2_with fail
  refine (many33_calls _ v p).mono ?_
  rintro e w2 ⟨rfl, hb⟩
  have HB2 := Aside0.mk (below_step HB.out hb)
  have X22 := Aside0.mk (blk_below X2.out hb)
  have X32 := Aside0.mk (blk_below X3.out hb)
  clear hb HB X2 X3 b0 b1 b2 b3 b4 b5 b6
  by_cases hm : manyP v
  · rw [decide_eq_true hm]
    clear hm
    go_wp2_with fail
    refine (awake16_calls _).mono ?_
    rintro e w9 ⟨rfl, hb⟩
    have HB9 := Aside0.mk (below_step HB2.out hb)
    clear hb
    go_wp2_with fail
    go_ret
    exact ⟨rfl, HB9.out⟩
  · rw [decide_eq_false hm]
    clear hm
    have y0 : w2.cell? ⟨g3, 0, none⟩ = some (.int .i64 lev) := (blk_cell X32.out 0).trans rfl
    have y1 : w2.cell? ⟨g3, 1, none⟩ = some (.slice A1 In.length c1) := (blk_cell X32.out 1).trans rfl
    have y2 : w2.cell? ⟨g3, 2, none⟩ = some (.slice A2 Ov.length c2) := (blk_cell X32.out 2).trans rfl
    go_wp2_with fail
    refine (great_calls _ lev A1 c1 In A2 c2 Ov).mono ?_
    rintro e w3 ⟨rfl, hb⟩
    have HB3 := Aside0.mk (below_step HB2.out hb)
    have X23 := Aside0.mk (blk_below X22.out hb)
    have X33 := Aside0.mk (blk_below X32.out hb)
    clear hb HB2 X22 X32 y0 y1 y2
    by_cases hg : greatP In Ov
    · rw [decide_eq_true hg]
      clear hg
      go_wp2_with fail
      refine (awake16_calls _).mono ?_
      rintro e w9 ⟨rfl, hb⟩
      have HB9 := Aside0.mk (below_step HB3.out hb)
      clear hb
      go_wp2_with fail
      go_ret
      exact ⟨rfl, HB9.out⟩
    · rw [decide_eq_false hg]
      have LI := Aside0.mk (show In.length ≤ 100000000 by have h1 : ¬ 80 < In.length := fun h => hg (.inl h); omega)
      have LO := Aside0.mk (show Ov.length ≤ 100000000 by have h1 : ¬ 80 < Ov.length := fun h => hg (.inr h); omega)
      clear hg
      have K1 := bottom_calls w3 v p (HC.out.below HB3.out) HW.out lev A1 c1 In A2 c2 Ov (Kd.C_below H1.out HB3.out) Hc1.out (Kd.C_below H2.out HB3.out) Hc2.out
      generalize hbb : botB v lev (In ++ Ov) = bb at *
      generalize hee : botE v lev = ee at *
      have BB := Aside0.mk hbb
      have EE := Aside0.mk hee
      clear hbb hee
      have b0 : w3.cell? ⟨w.heap.size, 0, none⟩ = some (.int .u64 v.log) := (blk_cell X23.out 0).trans rfl
      have b1 : w3.cell? ⟨w.heap.size, 1, none⟩ = some (.int .u64 v.next) := (blk_cell X23.out 1).trans rfl
      have b2 : w3.cell? ⟨w.heap.size, 2, none⟩ = some (.int .u64 v.seq) := (blk_cell X23.out 2).trans rfl
      have b3 : w3.cell? ⟨w.heap.size, 3, none⟩ = some (.slice p.a0 v.l0.length p.c0) := (blk_cell X23.out 3).trans rfl
      have b4 : w3.cell? ⟨w.heap.size, 4, none⟩ = some (.slice p.a1 v.l1.length p.c1) := (blk_cell X23.out 4).trans rfl
      have b5 : w3.cell? ⟨w.heap.size, 5, none⟩ = some (.slice p.a2 v.l2.length p.c2) := (blk_cell X23.out 5).trans rfl
      have b6 : w3.cell? ⟨w.heap.size, 6, none⟩ = some (.slice p.a3 v.l3.length p.c3) := (blk_cell X23.out 6).trans rfl
      have y0 : w3.cell? ⟨g3, 0, none⟩ = some (.int .i64 lev) := (blk_cell X33.out 0).trans rfl
      have y1 : w3.cell? ⟨g3, 1, none⟩ = some (.slice A1 In.length c1) := (blk_cell X33.out 1).trans rfl
      have y2 : w3.cell? ⟨g3, 2, none⟩ = some (.slice A2 Ov.length c2) := (blk_cell X33.out 2).trans rfl
      go_wp2_with fail
      refine K1.mono ?_
      clear K1
      rintro e w4 ⟨rfl, hb⟩
      have HB4 := Aside0.mk (below_step HB3.out hb)
      have X24 := Aside0.mk (blk_below X23.out hb)
      have X34 := Aside0.mk (blk_below X33.out hb)
      clear hb HB3 X23 X33 b0 b1 b2 b3 b4 b5 b6 y0 y1 y2
      have K2 := bottomR_calls w4 v p (HC.out.below HB4.out) lev A1 c1 In A2 c2 Ov (Kd.C_below H1.out HB4.out) (Kd.C_below H2.out HB4.out) LI.out LO.out
      rw [BB.out, EE.out] at K2
      have b0 : w4.cell? ⟨w.heap.size, 0, none⟩ = some (.int .u64 v.log) := (blk_cell X24.out 0).trans rfl
      have b1 : w4.cell? ⟨w.heap.size, 1, none⟩ = some (.int .u64 v.next) := (blk_cell X24.out 1).trans rfl
      have b2 : w4.cell? ⟨w.heap.size, 2, none⟩ = some (.int .u64 v.seq) := (blk_cell X24.out 2).trans rfl
      have b3 : w4.cell? ⟨w.heap.size, 3, none⟩ = some (.slice p.a0 v.l0.length p.c0) := (blk_cell X24.out 3).trans rfl
      have b4 : w4.cell? ⟨w.heap.size, 4, none⟩ = some (.slice p.a1 v.l1.length p.c1) := (blk_cell X24.out 4).trans rfl
      have b5 : w4.cell? ⟨w.heap.size, 5, none⟩ = some (.slice p.a2 v.l2.length p.c2) := (blk_cell X24.out 5).trans rfl
      have b6 : w4.cell? ⟨w.heap.size, 6, none⟩ = some (.slice p.a3 v.l3.length p.c3) := (blk_cell X24.out 6).trans rfl
      have y0 : w4.cell? ⟨g3, 0, none⟩ = some (.int .i64 lev) := (blk_cell X34.out 0).trans rfl
      have y1 : w4.cell? ⟨g3, 1, none⟩ = some (.slice A1 In.length c1) := (blk_cell X34.out 1).trans rfl
      have y2 : w4.cell? ⟨g3, 2, none⟩ = some (.slice A2 Ov.length c2) := (blk_cell X34.out 2).trans rfl
      go_wp2_with fail
      refine K2.mono ?_
      clear K2
      rintro e w5 ⟨rfl, hb⟩
      have HB5 := Aside0.mk (below_step HB4.out hb)
      clear hb HB4 X24 X34 b0 b1 b2 b3 b4 b5 b6 y0 y1 y2
      have t0 : (bb == bb) = true := beq_self_eq_true bb
      have t1 : (ee == ee) = true := beq_self_eq_true ee
      go_wp2_with fail
      refine (awake16_calls _).mono ?_
      rintro e w9 ⟨rfl, hb⟩
      have HB9 := Aside0.mk (below_step HB5.out hb)
      clear hb
      go_wp2_with fail
      go_ret
      exact ⟨rfl, HB9.out⟩
end Go.Proofs.Ytkjepfofiegcdaa.V
