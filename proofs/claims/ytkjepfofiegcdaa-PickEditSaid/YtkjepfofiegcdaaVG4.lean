import Derived.Test.YtkjepfofiegcdaaVG3
/- The law PickEdit, walked. Conditions: none. -/
namespace Go.Proofs.Ytkjepfofiegcdaa.V
set_option linter.unusedVariables false
set_option linter.unusedSimpArgs false
open Go.RowKit Go.Proofs.YtkjepfofiegcdaaW.PrintWords Go.Proofs.YtkjepfofiegcdaaW.PrintLast Go.Proofs.YtkjepfofiegcdaaW.PrintMore Go.Proofs.Ytkjepfofiegcdaa.PB14
set_option maxHeartbeats 8000000 in
set_option maxRecDepth 100000 in
theorem pickEdit_calls (w : World) (v : Ver) (p : Pl) (hC : VC w v p) (hW : VW v) (lev : Int) (A1 : Option Addr) (c1 : Nat) (In : List S58) (A2 : Option Addr) (c2 : Nat) (Ov : List S58) (A5 : Option Addr) (c5 : Nat) (out : List S58) (h1 : k58.C w A1 In.length In) (hc1 : In.length ≤ c1) (h2 : k58.C w A2 Ov.length Ov) (hc2 : Ov.length ≤ c2) (h5 : k58.C w A5 out.length out) (n1 : ∀ m, m ∈ In → 0 ≤ m.f0 ∧ m.f0 ≤ 18446744073709551615) (n2 : ∀ m, m ∈ Ov → 0 ≤ m.f0 ∧ m.f0 ≤ 18446744073709551615) :
    Calls Try.prog 11 #[.agg (vCs v p), .agg #[.int .i64 lev, .slice A1 In.length c1, .slice A2 Ov.length c2], .slice A5 out.length c5] w fun e w' => e = .returned (.bool true) ∧ Below w.heap.size w w' := by
  have HC := Aside0.mk hC
  have HW := Aside0.mk hW
  have H1 := Aside0.mk h1
  have H2 := Aside0.mk h2
  have H5 := Aside0.mk h5
  have Hc1 := Aside0.mk hc1
  have Hc2 := Aside0.mk hc2
  have WI := Aside0.mk n1
  have WO := Aside0.mk n2
  have HB := Aside0.mk (below_alloc ((Below.refl w.heap.size w).alloc (Nat.le_refl _) (.cells (vCs v p) 26)) (.cells #[.int .i64 lev, .slice A1 In.length c1, .slice A2 Ov.length c2] 52))
  have X2 := Aside0.mk (blk_alloc (blk_new w (.cells (vCs v p) 26)) (.cells #[.int .i64 lev, .slice A1 In.length c1, .slice A2 Ov.length c2] 52))
  have X3 := Aside0.mk (blk_new (w.alloc (.cells (vCs v p) 26)) (.cells #[.int .i64 lev, .slice A1 In.length c1, .slice A2 Ov.length c2] 52))
  clear hC h1 h2 h5 hc1 hc2 hW n1 n2
  go_enter Try.func11, Try.ntmps11
  go_upto_region 1 with (fail)
  generalize hg3 : (w.alloc (.cells (vCs v p) 26)).heap.size = g3 at *
  have e3 : w.heap.size + 1 = g3 := by rw [← hg3]; simp
  try rw [e3]
  clear hg3 e3
  generalize (w.alloc (.cells (vCs v p) 26)).alloc (.cells #[.int .i64 lev, .slice A1 In.length c1, .slice A2 Ov.length c2] 52) = w1 at *
  have b0 : w1.cell? ⟨w.heap.size, 0, none⟩ = some (.int .u64 v.log) := (blk_cell X2.out 0).trans rfl
  have b1 : w1.cell? ⟨w.heap.size, 1, none⟩ = some (.int .u64 v.next) := (blk_cell X2.out 1).trans rfl
  have b2 : w1.cell? ⟨w.heap.size, 2, none⟩ = some (.int .u64 v.seq) := (blk_cell X2.out 2).trans rfl
  have b3 : w1.cell? ⟨w.heap.size, 3, none⟩ = some (.slice p.a0 v.l0.length p.c0) := (blk_cell X2.out 3).trans rfl
  have b4 : w1.cell? ⟨w.heap.size, 4, none⟩ = some (.slice p.a1 v.l1.length p.c1) := (blk_cell X2.out 4).trans rfl
  have b5 : w1.cell? ⟨w.heap.size, 5, none⟩ = some (.slice p.a2 v.l2.length p.c2) := (blk_cell X2.out 5).trans rfl
  have b6 : w1.cell? ⟨w.heap.size, 6, none⟩ = some (.slice p.a3 v.l3.length p.c3) := (blk_cell X2.out 6).trans rfl
  go_wp2_with fail
  refine (many33_calls _ v p).mono ?_
  rintro e w2 ⟨rfl, hb⟩
  have HB2 := Aside0.mk (below_step HB.out hb)
  have X22 := Aside0.mk (blk_below X2.out hb)
  have X32 := Aside0.mk (blk_below X3.out hb)
  clear hb HB X2 X3 b0 b1 b2 b3 b4 b5 b6
  by_cases hm : manyP v
  · rw [decide_eq_true hm]
    clear hm
    go_wp2_with fail
    refine (awake16_calls _).mono ?_
    rintro e9 w9 ⟨rfl, hb⟩
    have HB9 := Aside0.mk (below_step HB2.out hb)
    clear hb
    go_wp2_with fail
    go_ret
    exact ⟨rfl, HB9.out⟩
  · rw [decide_eq_false hm]
    clear hm
    have y0 : w2.cell? ⟨g3, 0, none⟩ = some (.int .i64 lev) := (blk_cell X32.out 0).trans rfl
    have y1 : w2.cell? ⟨g3, 1, none⟩ = some (.slice A1 In.length c1) := (blk_cell X32.out 1).trans rfl
    have y2 : w2.cell? ⟨g3, 2, none⟩ = some (.slice A2 Ov.length c2) := (blk_cell X32.out 2).trans rfl
    go_wp2_with fail
    refine (great_calls _ lev A1 c1 In A2 c2 Ov).mono ?_
    rintro e w3 ⟨rfl, hb⟩
    have HB3 := Aside0.mk (below_step HB2.out hb)
    have X23 := Aside0.mk (blk_below X22.out hb)
    have X33 := Aside0.mk (blk_below X32.out hb)
    clear hb HB2 X22 X32 y0 y1 y2
    by_cases hg : greatP In Ov
    · rw [decide_eq_true hg]
      clear hg
      go_wp2_with fail
      refine (awake16_calls _).mono ?_
      rintro e9 w9 ⟨rfl, hb⟩
      have HB9 := Aside0.mk (below_step HB3.out hb)
      clear hb
      go_wp2_with fail
      go_ret
      exact ⟨rfl, HB9.out⟩
    · rw [decide_eq_false hg]
      have LI := Aside0.mk (show In.length ≤ 100000000 by have h1 : ¬ 80 < In.length := fun h => hg (.inl h); omega)
      have LO := Aside0.mk (show Ov.length ≤ 100000000 by have h1 : ¬ 80 < Ov.length := fun h => hg (.inr h); omega)
      clear hg
      by_cases ho : 80 < out.length
      · have t0 : decide ((80 : Int) < (out.length : Int)) = true := decide_eq_true (by omega)
        have t1 : decide (80 < out.length) = true := decide_eq_true ho
        clear ho
        go_wp2_with fail
        refine (awake16_calls _).mono ?_
        rintro e9 w9 ⟨rfl, hb⟩
        have HB9 := Aside0.mk (below_step HB3.out hb)
        clear hb
        go_wp2_with fail
        go_ret
        exact ⟨rfl, HB9.out⟩
      · have t0 : decide ((80 : Int) < (out.length : Int)) = false := decide_eq_false (by omega)
        have t1 : decide (80 < out.length) = false := decide_eq_false ho
        have LT := Aside0.mk (show out.length ≤ 100000000 by omega)
        clear ho
        have K1 := edit_calls w3 v p (HC.out.below HB3.out) HW.out lev A1 c1 In A2 c2 Ov A5 c5 out (Kd.C_below H1.out HB3.out) Hc1.out (Kd.C_below H2.out HB3.out) Hc2.out (Kd.C_below H5.out HB3.out) LI.out LO.out LT.out WI.out WO.out
        generalize hee : edV v lev In Ov out = e at *
        generalize hff : edE v lev In Ov out = f at *
        have EE := Aside0.mk hee
        have FF := Aside0.mk hff
        clear hee hff
        have b0 : w3.cell? ⟨w.heap.size, 0, none⟩ = some (.int .u64 v.log) := (blk_cell X23.out 0).trans rfl
        have b1 : w3.cell? ⟨w.heap.size, 1, none⟩ = some (.int .u64 v.next) := (blk_cell X23.out 1).trans rfl
        have b2 : w3.cell? ⟨w.heap.size, 2, none⟩ = some (.int .u64 v.seq) := (blk_cell X23.out 2).trans rfl
        have b3 : w3.cell? ⟨w.heap.size, 3, none⟩ = some (.slice p.a0 v.l0.length p.c0) := (blk_cell X23.out 3).trans rfl
        have b4 : w3.cell? ⟨w.heap.size, 4, none⟩ = some (.slice p.a1 v.l1.length p.c1) := (blk_cell X23.out 4).trans rfl
        have b5 : w3.cell? ⟨w.heap.size, 5, none⟩ = some (.slice p.a2 v.l2.length p.c2) := (blk_cell X23.out 5).trans rfl
        have b6 : w3.cell? ⟨w.heap.size, 6, none⟩ = some (.slice p.a3 v.l3.length p.c3) := (blk_cell X23.out 6).trans rfl
        have y0 : w3.cell? ⟨g3, 0, none⟩ = some (.int .i64 lev) := (blk_cell X33.out 0).trans rfl
        have y1 : w3.cell? ⟨g3, 1, none⟩ = some (.slice A1 In.length c1) := (blk_cell X33.out 1).trans rfl
        have y2 : w3.cell? ⟨g3, 2, none⟩ = some (.slice A2 Ov.length c2) := (blk_cell X33.out 2).trans rfl
        go_wp2_with fail
        refine K1.mono ?_
        clear K1
        rintro x w4 ⟨B1, Bc1, B2, Bc2, rfl, hR1, hR2, hb⟩
        have hb1 := (Below.refl w4.heap.size w4).alloc (Nat.le_refl _) (.cells (eCs e B1 Bc1 B2 Bc2) 70)
        have hb2 := below_step hb hb1
        have HB5 := Aside0.mk (below_step HB3.out hb2)
        have X25 := Aside0.mk (blk_below X23.out hb2)
        have X35 := Aside0.mk (blk_below X33.out hb2)
        have XE5 := Aside0.mk (blk_new w4 (.cells (eCs e B1 Bc1 B2 Bc2) 70))
        have C1 := Aside0.mk (Kd.C_below (Kd.R_reads' hR1).2.2 hb1)
        have C2 := Aside0.mk (Kd.C_below (Kd.R_reads' hR2).2.2 hb1)
        clear hb hb1 hb2 hR1 hR2 HB3 X23 X33 b0 b1 b2 b3 b4 b5 b6 y0 y1 y2 t0 t1
        go_upto_region 4 with (fail)
        generalize w4.heap.size = g5 at *
        generalize w4.alloc (.cells (eCs e B1 Bc1 B2 Bc2) 70) = w5 at *
        have K2 := editR_calls w5 v p (HC.out.below HB5.out) lev A1 c1 In A2 c2 Ov A5 c5 out (Kd.C_below H1.out HB5.out) (Kd.C_below H2.out HB5.out) (Kd.C_below H5.out HB5.out) LI.out LO.out LT.out
        rw [EE.out, FF.out] at K2
        have b0 : w5.cell? ⟨w.heap.size, 0, none⟩ = some (.int .u64 v.log) := (blk_cell X25.out 0).trans rfl
        have b1 : w5.cell? ⟨w.heap.size, 1, none⟩ = some (.int .u64 v.next) := (blk_cell X25.out 1).trans rfl
        have b2 : w5.cell? ⟨w.heap.size, 2, none⟩ = some (.int .u64 v.seq) := (blk_cell X25.out 2).trans rfl
        have b3 : w5.cell? ⟨w.heap.size, 3, none⟩ = some (.slice p.a0 v.l0.length p.c0) := (blk_cell X25.out 3).trans rfl
        have b4 : w5.cell? ⟨w.heap.size, 4, none⟩ = some (.slice p.a1 v.l1.length p.c1) := (blk_cell X25.out 4).trans rfl
        have b5 : w5.cell? ⟨w.heap.size, 5, none⟩ = some (.slice p.a2 v.l2.length p.c2) := (blk_cell X25.out 5).trans rfl
        have b6 : w5.cell? ⟨w.heap.size, 6, none⟩ = some (.slice p.a3 v.l3.length p.c3) := (blk_cell X25.out 6).trans rfl
        have y0 : w5.cell? ⟨g3, 0, none⟩ = some (.int .i64 lev) := (blk_cell X35.out 0).trans rfl
        have y1 : w5.cell? ⟨g3, 1, none⟩ = some (.slice A1 In.length c1) := (blk_cell X35.out 1).trans rfl
        have y2 : w5.cell? ⟨g3, 2, none⟩ = some (.slice A2 Ov.length c2) := (blk_cell X35.out 2).trans rfl
        go_wp2_with fail
        refine K2.mono ?_
        clear K2
        rintro x w6 ⟨D1, Dc1, D2, Dc2, rfl, hR1, hR2, hb⟩
        have hb1 := (Below.refl w6.heap.size w6).alloc (Nat.le_refl _) (.cells (eCs e D1 Dc1 D2 Dc2) 70)
        have hb2 := below_step hb hb1
        have HB7 := Aside0.mk (below_step HB5.out hb2)
        have XE7 := Aside0.mk (blk_below XE5.out hb2)
        have XF7 := Aside0.mk (blk_new w6 (.cells (eCs e D1 Dc1 D2 Dc2) 70))
        have C17 := Aside0.mk (Kd.C_below C1.out hb2)
        have C27 := Aside0.mk (Kd.C_below C2.out hb2)
        have D17 := Aside0.mk (Kd.C_below (Kd.R_reads' hR1).2.2 hb1)
        have D27 := Aside0.mk (Kd.C_below (Kd.R_reads' hR2).2.2 hb1)
        clear hb hb1 hb2 hR1 hR2 HB5 X25 X35 XE5 C1 C2 b0 b1 b2 b3 b4 b5 b6 y0 y1 y2
        go_upto_region 5 with (fail)
        generalize w6.heap.size = g7 at *
        generalize w6.alloc (.cells (eCs e D1 Dc1 D2 Dc2) 70) = w7 at *
        have K3 := sameE_calls w7 e e B1 B2 D1 D2 Bc1 Bc2 Dc1 Dc2 C17.out C27.out D17.out D27.out
        rw [decide_eq_true (rfl : e = e)] at K3
        have y0 : w7.cell? ⟨g5, 0, none⟩ = some (.int .u64 e.log) := (blk_cell XE7.out 0).trans rfl
        have y1 : w7.cell? ⟨g5, 1, none⟩ = some (.int .u64 e.next) := (blk_cell XE7.out 1).trans rfl
        have y2 : w7.cell? ⟨g5, 2, none⟩ = some (.int .u64 e.seq) := (blk_cell XE7.out 2).trans rfl
        have y3 : w7.cell? ⟨g5, 3, none⟩ = some (.slice B1 e.gone.length Bc1) := (blk_cell XE7.out 3).trans rfl
        have y4 : w7.cell? ⟨g5, 4, none⟩ = some (.slice B2 e.added.length Bc2) := (blk_cell XE7.out 4).trans rfl
        have z0 : w7.cell? ⟨g7, 0, none⟩ = some (.int .u64 e.log) := (blk_cell XF7.out 0).trans rfl
        have z1 : w7.cell? ⟨g7, 1, none⟩ = some (.int .u64 e.next) := (blk_cell XF7.out 1).trans rfl
        have z2 : w7.cell? ⟨g7, 2, none⟩ = some (.int .u64 e.seq) := (blk_cell XF7.out 2).trans rfl
        have z3 : w7.cell? ⟨g7, 3, none⟩ = some (.slice D1 e.gone.length Dc1) := (blk_cell XF7.out 3).trans rfl
        have z4 : w7.cell? ⟨g7, 4, none⟩ = some (.slice D2 e.added.length Dc2) := (blk_cell XF7.out 4).trans rfl
        go_wp2_with fail
        refine K3.mono ?_
        clear K3
        rintro x w8 ⟨rfl, hb⟩
        have HB8 := Aside0.mk (below_step HB7.out hb)
        clear hb y0 y1 y2 y3 y4 z0 z1 z2 z3 z4
        have t2 : (f == f) = true := beq_self_eq_true f
        go_wp2_with fail
        refine (awake16_calls _).mono ?_
        rintro e9 w9 ⟨rfl, hb⟩
        have HB9 := Aside0.mk (below_step HB8.out hb)
        clear hb
        go_wp2_with fail
        go_ret
        exact ⟨rfl, HB9.out⟩
end Go.Proofs.Ytkjepfofiegcdaa.V
