import Derived.Test.YtkjepfofiegcdaaVB16
/- An answer that the document fixes (awake of layer 16), walked. Conditions: none. -/
namespace Go.Proofs.Ytkjepfofiegcdaa.V
set_option linter.unusedVariables false
set_option linter.unusedSimpArgs false
open Go.RowKit Go.Proofs.YtkjepfofiegcdaaW.PrintWords Go.Proofs.YtkjepfofiegcdaaW.PrintLast Go.Proofs.YtkjepfofiegcdaaW.PrintMore Go.Proofs.Ytkjepfofiegcdaa.PB14
def emV : Ver := ⟨1, 1, 0, [], [], [], []⟩
theorem aw_c : pickC samV 2 100 10 = ⟨0, [tb1, tb2], [tb3]⟩ := by kernel_rfl
theorem aw_e : pickE samV 2 100 10 = 0 := by kernel_rfl
theorem aw_b : botB samV 0 ([tb1, tb2] ++ [tb3]) = true := by kernel_rfl
theorem aw_f : botE samV 0 = 0 := by kernel_rfl
theorem aw_g : pickE emV 2 100 10 = 4 := by kernel_rfl
theorem aw_h : pickC emV 2 100 10 = ⟨0, [], []⟩ := by kernel_rfl
theorem samW : VW samV := fun i hi m hm => by
  rcases (by omega : i = 0 ∨ i = 1 ∨ i = 2 ∨ i = 3) with rfl | rfl | rfl | rfl
  · rcases List.mem_cons.mp hm with rfl | hm
    · decide
    · rw [List.mem_singleton.mp hm]; decide
  · rcases List.mem_cons.mp hm with rfl | hm
    · decide
    · rw [List.mem_singleton.mp hm]; decide
  · exact absurd hm List.not_mem_nil
  · exact absurd hm List.not_mem_nil
theorem emW : VW emV := fun i hi m hm => by
  rcases (by omega : i = 0 ∨ i = 1 ∨ i = 2 ∨ i = 3) with rfl | rfl | rfl | rfl <;> exact absurd hm List.not_mem_nil
def emP : Pl := ⟨none, none, none, none, 0, 0, 0, 0⟩
theorem emC (w : World) : VC w emV emP := fun i hi => by
  rcases (by omega : i = 0 ∨ i = 1 ∨ i = 2 ∨ i = 3) with rfl | rfl | rfl | rfl <;> exact ⟨Kd.C_nil _ _, Nat.le_refl _⟩
theorem pick_samV (w : World) (p : Pl) (hC : VC w samV p) : Calls Try.prog 36 #[.agg (vCs samV p), .agg #[.int .i64 2, .int .i64 100, .int .i64 10]] w fun e w' => ∃ Ai ci Ao co, e = .returned (.tuple #[.agg #[.int .i64 0, .slice Ai 2 ci, .slice Ao 1 co], .int .i64 0]) ∧ 2 ≤ ci ∧ 1 ≤ co ∧ k58.C w' Ai 2 [tb1, tb2] ∧ k58.C w' Ao 1 [tb3] ∧ Below w.heap.size w w' := by
  refine (pick_calls w samV p hC samW 2 100 10).mono ?_
  rw [aw_c, aw_e]
  rintro e w3 ⟨vi, vo, he, hRi, hRo, hb⟩
  obtain ⟨Ai, ci, hv⟩ := Kd.R_slice hRi
  subst hv
  obtain ⟨Ao, co, hv⟩ := Kd.R_slice hRo
  subst hv
  exact ⟨Ai, ci, Ao, co, he, (Kd.R_reads' hRi).2.1, (Kd.R_reads' hRo).2.1, (Kd.R_reads' hRi).2.2, (Kd.R_reads' hRo).2.2, hb⟩
theorem pick_emV (w : World) : Calls Try.prog 36 #[.agg #[.int .u64 1, .int .u64 1, .int .u64 0, .slice none 0 0, .slice none 0 0, .slice none 0 0, .slice none 0 0], .agg #[.int .i64 2, .int .i64 100, .int .i64 10]] w fun e w' => ∃ vi vo, e = .returned (.tuple #[.agg #[.int .i64 0, vi, vo], .int .i64 4]) ∧ (∃ A c, vi = .slice A 0 c) ∧ (∃ A c, vo = .slice A 0 c) ∧ Below w.heap.size w w' := by
  refine (pick_calls w emV emP (emC w) emW 2 100 10).mono ?_
  rw [aw_h, aw_g]
  rintro e w3 ⟨vi, vo, he, hRi, hRo, hb⟩
  exact ⟨vi, vo, he, Kd.R_slice hRi, Kd.R_slice hRo, hb⟩
theorem bottom_samV (w : World) (p : Pl) (hC : VC w samV p) (Ai : Option Addr) (ci : Nat) (Ao : Option Addr) (co : Nat) (h1 : k58.C w Ai 2 [tb1, tb2]) (hc1 : 2 ≤ ci) (h2 : k58.C w Ao 1 [tb3]) (hc2 : 1 ≤ co) : Calls Try.prog 45 #[.agg (vCs samV p), .agg #[.int .i64 0, .slice Ai 2 ci, .slice Ao 1 co]] w fun e w' => e = .returned (.tuple #[.bool true, .int .i64 0]) ∧ Below w.heap.size w w' := by
  have h := bottom_calls w samV p hC samW 0 Ai ci [tb1, tb2] Ao co [tb3] h1 hc1 h2 hc2
  rw [aw_b, aw_f] at h
  exact h
set_option maxHeartbeats 8000000 in
set_option maxRecDepth 100000 in
theorem awake16_calls (w : World) : Calls Try.prog 34 #[] w fun e w' => e = .returned (.bool true) ∧ Below w.heap.size w w' := by
  go_enter Try.func34, Try.ntmps34
  go_wp2_with fail
  refine (sample_calls w).mono ?_
  rintro e w1 ⟨p, rfl, hC, hb⟩
  have hb1 := (Below.refl w1.heap.size w1).alloc (Nat.le_refl _) (.cells (vCs samV p) 26)
  have HB := Aside0.mk (below_step hb hb1)
  have HC := Aside0.mk (hC.below hb1)
  have XV := Aside0.mk (blk_new w1 (.cells (vCs samV p) 26))
  clear hC hb hb1
  go_wp2_with fail
  generalize w1.heap.size = g1 at *
  generalize w1.alloc (.cells (vCs samV p) 26) = w2 at *
  refine (pick_samV w2 p HC.out).mono ?_
  rintro e w3 ⟨Ai, ci, Ao, co, rfl, h1, h2, hC1, hC2, hb⟩
  have hb1 := (Below.refl w3.heap.size w3).alloc (Nat.le_refl _) (.cells #[.int .i64 0, .slice Ai 2 ci, .slice Ao 1 co] 52)
  have HB4 := Aside0.mk (below_step (below_step HB.out hb) hb1)
  have HC4 := Aside0.mk ((HC.out.below hb).below hb1)
  have XV4 := Aside0.mk (blk_below (blk_below XV.out hb) hb1)
  have XC4 := Aside0.mk (blk_new w3 (.cells #[.int .i64 0, .slice Ai 2 ci, .slice Ao 1 co] 52))
  have K1 := Aside0.mk h1
  have K2 := Aside0.mk h2
  have C1 := Aside0.mk (Kd.C_below hC1 hb1)
  have C2 := Aside0.mk (Kd.C_below hC2 hb1)
  have v0 : (w3.alloc (.cells #[.int .i64 0, .slice Ai 2 ci, .slice Ao 1 co] 52)).cell? ⟨g1, 0, none⟩ = some (.int .u64 samV.log) := (blk_cell XV4.out 0).trans rfl
  have v1 : (w3.alloc (.cells #[.int .i64 0, .slice Ai 2 ci, .slice Ao 1 co] 52)).cell? ⟨g1, 1, none⟩ = some (.int .u64 samV.next) := (blk_cell XV4.out 1).trans rfl
  have v2 : (w3.alloc (.cells #[.int .i64 0, .slice Ai 2 ci, .slice Ao 1 co] 52)).cell? ⟨g1, 2, none⟩ = some (.int .u64 samV.seq) := (blk_cell XV4.out 2).trans rfl
  have v3 : (w3.alloc (.cells #[.int .i64 0, .slice Ai 2 ci, .slice Ao 1 co] 52)).cell? ⟨g1, 3, none⟩ = some (.slice p.a0 samV.l0.length p.c0) := (blk_cell XV4.out 3).trans rfl
  have v4 : (w3.alloc (.cells #[.int .i64 0, .slice Ai 2 ci, .slice Ao 1 co] 52)).cell? ⟨g1, 4, none⟩ = some (.slice p.a1 samV.l1.length p.c1) := (blk_cell XV4.out 4).trans rfl
  have v5 : (w3.alloc (.cells #[.int .i64 0, .slice Ai 2 ci, .slice Ao 1 co] 52)).cell? ⟨g1, 5, none⟩ = some (.slice p.a2 samV.l2.length p.c2) := (blk_cell XV4.out 5).trans rfl
  have v6 : (w3.alloc (.cells #[.int .i64 0, .slice Ai 2 ci, .slice Ao 1 co] 52)).cell? ⟨g1, 6, none⟩ = some (.slice p.a3 samV.l3.length p.c3) := (blk_cell XV4.out 6).trans rfl
  clear hb hb1 HB HC XV h1 h2 hC1 hC2
  go_wp2_with fail
  generalize w3.heap.size = g2 at *
  generalize w3.alloc (.cells #[.int .i64 0, .slice Ai 2 ci, .slice Ao 1 co] 52) = w4 at *
  refine (bottom_samV w4 p HC4.out Ai ci Ao co C1.out K1.out C2.out K2.out).mono ?_
  rintro e w5 ⟨rfl, hb⟩
  have HB5 := Aside0.mk (below_step HB4.out hb)
  have XC5 := Aside0.mk (blk_below XC4.out hb)
  have C25 := Aside0.mk (Kd.C_below C2.out hb)
  clear hb HB4 HC4 XV4 XC4 C1 C2 v0 v1 v2 v3 v4 v5 v6
  go_wp2_with fail
  refine (pick_emV w5).mono ?_
  rintro e w6 ⟨vi, vo, rfl, ⟨A5, c5, rfl⟩, ⟨A6, c6, rfl⟩, hb⟩
  have hb1 := (Below.refl w6.heap.size w6).alloc (Nat.le_refl _) (.cells #[.int .i64 0, .slice A5 0 c5, .slice A6 0 c6] 52)
  have HB7 := Aside0.mk (below_step (below_step HB5.out hb) hb1)
  have XC7 := Aside0.mk (blk_below (blk_below XC5.out hb) hb1)
  have C27 := Aside0.mk (Kd.C_below (Kd.C_below C25.out hb) hb1)
  clear hb hb1 HB5 XC5 C25
  have y0 : (w6.alloc (.cells #[.int .i64 0, .slice A5 0 c5, .slice A6 0 c6] 52)).cell? ⟨g2, 0, none⟩ = some (.int .i64 0) := (blk_cell XC7.out 0).trans rfl
  have y1 : (w6.alloc (.cells #[.int .i64 0, .slice A5 0 c5, .slice A6 0 c6] 52)).cell? ⟨g2, 1, none⟩ = some (.slice Ai 2 ci) := (blk_cell XC7.out 1).trans rfl
  have y2 : (w6.alloc (.cells #[.int .i64 0, .slice A5 0 c5, .slice A6 0 c6] 52)).cell? ⟨g2, 2, none⟩ = some (.slice Ao 1 co) := (blk_cell XC7.out 2).trans rfl
  obtain ⟨ad, ea, ha0, _, _, _, _, _, _⟩ := at_T58 C27.out 0 (by omega) (by omega)
  have az : ad.add (Int.toNat 0 * 7) = ad := by show ad.add 0 = ad; unfold Addr.add; rw [if_pos rfl]
  rw [az] at ha0
  replace ha0 : (w6.alloc (.cells #[.int .i64 0, .slice A5 0 c5, .slice A6 0 c6] 52)).cell? ad = some (.int .u64 3) := ha0
  subst ea
  clear az
  go_wp2_with fail
  go_ret
  exact ⟨rfl, HB7.out⟩
end Go.Proofs.Ytkjepfofiegcdaa.V
