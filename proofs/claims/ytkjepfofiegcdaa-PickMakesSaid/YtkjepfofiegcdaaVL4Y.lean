import Derived.Test.YtkjepfofiegcdaaVM4Y
/- The law PickMakes (20), walked. Conditions: numbers are such as the machine has. -/
namespace Go.Proofs.Ytkjepfofiegcdaa.V
set_option linter.unusedVariables false
set_option linter.unusedSimpArgs false
open Go.RowKit Go.Proofs.YtkjepfofiegcdaaW.PrintWords Go.Proofs.YtkjepfofiegcdaaW.PrintLast Go.Proofs.YtkjepfofiegcdaaW.PrintMore Go.Proofs.Ytkjepfofiegcdaa.PB14
def bl (n k : Nat) (ks : List Nat) : Array Bool := ((List.range n).map fun i => decide (i < k) || ks.contains i).toArray
theorem sA_ {α : Type} (l : List α) (i : Nat) (a : α) : l.toArray.setIfInBounds i a = (l.set i a).toArray := List.setIfInBounds_toArray ..
theorem sB_ {α : Type} (a b : α) (l : List α) : (a :: l).set 0 b = b :: l := rfl
theorem sC_ {α : Type} (a b : α) (l : List α) (n : Nat) : (a :: l).set (n + 1) b = a :: l.set n b := rfl
theorem WR1 (a b c : Nat) (h : c + b = a) (ha : a ≤ 80) : wrap64 ((a : Int) - (b : Int)) = (c : Int) := by unfold wrap64; omega
theorem WR2 (a b c d : Nat) (h : c + b = a + d) (ha : a ≤ 80) (hd : d ≤ 80) (hb : b ≤ a) : wrap64 (wrap64 ((a : Int) - (b : Int)) + (d : Int)) = (c : Int) := by unfold wrap64; omega
theorem sameM_true (w : World) (A B : Option Addr) (c d : Nat) (xs ys : List S58) (hx : k58.C w A xs.length xs) (hy : k58.C w B ys.length ys) (h : xs = ys) : Calls Try.prog 47 #[.slice A xs.length c, .slice B ys.length d] w fun e w' => e = .returned (.bool true) ∧ Below w.heap.size w w' := by
 have h2 := sameM_calls w A B c d xs ys hx hy
 rw [decide_eq_true h] at h2
 exact h2
set_option maxHeartbeats 8000000 in
set_option maxRecDepth 100000 in
theorem pickMakes_calls (w : World) (v : Ver) (p : Pl) (hC : VC w v p) (hW : VW v) (hs : 0 ≤ v.seq) (many base times : Int) (A2 : Option Addr) (c2 : Nat) (out : List S58) (h5 : k58.C w A2 out.length out) : Calls Try.prog 20 #[.agg (vCs v p), .agg #[.int .i64 many, .int .i64 base, .int .i64 times], .slice A2 out.length c2] w fun x w' => x = .returned (.bool true) ∧ Below w.heap.size w w' := by
 have HC := Aside0.mk hC
 have HW := Aside0.mk hW
 have HS := Aside0.mk hs
 have C5 := Aside0.mk h5
 have HB1 := Aside0.mk (below_alloc ((Below.refl w.heap.size w).alloc (Nat.le_refl _) (.cells (vCs v p) 26)) (.cells #[.int .i64 many, .int .i64 base, .int .i64 times] 48))
 have X1 := Aside0.mk (blk_alloc (blk_new w (.cells (vCs v p) 26)) (.cells #[.int .i64 many, .int .i64 base, .int .i64 times] 48))
 have X4 := Aside0.mk (blk_new (w.alloc (.cells (vCs v p) 26)) (.cells #[.int .i64 many, .int .i64 base, .int .i64 times] 48))
 clear hC hW hs h5
 go_enter Try.func20, Try.ntmps20
 go_upto_region 1 with (fail)
 generalize hg4 : (w.alloc (.cells (vCs v p) 26)).heap.size = g4 at *
 have e4_ : w.heap.size + 1 = g4 := by rw [← hg4]; simp
 try rw [e4_]
 clear hg4 e4_
 generalize (w.alloc (.cells (vCs v p) 26)).alloc (.cells #[.int .i64 many, .int .i64 base, .int .i64 times] 48) = w1 at *
 by_cases hm : manyP v
 ·have MC := many33_calls w1 v p
  rw [decide_eq_true hm] at MC
  clear hm
  have b0 : w1.cell? ⟨w.heap.size, 0, none⟩ = some (.int .u64 v.log) := (blk_cell X1.out 0).trans rfl
  have b1 : w1.cell? ⟨w.heap.size, 1, none⟩ = some (.int .u64 v.next) := (blk_cell X1.out 1).trans rfl
  have b2 : w1.cell? ⟨w.heap.size, 2, none⟩ = some (.int .u64 v.seq) := (blk_cell X1.out 2).trans rfl
  have b3 : w1.cell? ⟨w.heap.size, 3, none⟩ = some (.slice p.a0 v.l0.length p.c0) := (blk_cell X1.out 3).trans rfl
  have b4 : w1.cell? ⟨w.heap.size, 4, none⟩ = some (.slice p.a1 v.l1.length p.c1) := (blk_cell X1.out 4).trans rfl
  have b5 : w1.cell? ⟨w.heap.size, 5, none⟩ = some (.slice p.a2 v.l2.length p.c2) := (blk_cell X1.out 5).trans rfl
  have b6 : w1.cell? ⟨w.heap.size, 6, none⟩ = some (.slice p.a3 v.l3.length p.c3) := (blk_cell X1.out 6).trans rfl
  go_wp2_with fail
  refine MC.mono ?_
  rintro x w2 ⟨rfl, hb⟩
  have HB2 := Aside0.mk (below_step HB1.out hb)
  clear hb MC b0 b1 b2 b3 b4 b5 b6
  go_wp2_with fail
  refine (awake16_calls _).mono ?_
  rintro x w9 ⟨rfl, hb⟩
  have HB9 := Aside0.mk (below_step HB2.out hb)
  clear hb
  go_wp2_with fail
  go_ret
  exact ⟨rfl, HB9.out⟩
 ·have MC := many33_calls w1 v p
  rw [decide_eq_false hm] at MC
  have LV := Aside0.mk (show ∀ i, i < 4 → (v.lv i).length ≤ 80 from fun i hi => Classical.byContradiction fun h => hm ⟨i, hi, by omega⟩)
  clear hm
  have b0 : w1.cell? ⟨w.heap.size, 0, none⟩ = some (.int .u64 v.log) := (blk_cell X1.out 0).trans rfl
  have b1 : w1.cell? ⟨w.heap.size, 1, none⟩ = some (.int .u64 v.next) := (blk_cell X1.out 1).trans rfl
  have b2 : w1.cell? ⟨w.heap.size, 2, none⟩ = some (.int .u64 v.seq) := (blk_cell X1.out 2).trans rfl
  have b3 : w1.cell? ⟨w.heap.size, 3, none⟩ = some (.slice p.a0 v.l0.length p.c0) := (blk_cell X1.out 3).trans rfl
  have b4 : w1.cell? ⟨w.heap.size, 4, none⟩ = some (.slice p.a1 v.l1.length p.c1) := (blk_cell X1.out 4).trans rfl
  have b5 : w1.cell? ⟨w.heap.size, 5, none⟩ = some (.slice p.a2 v.l2.length p.c2) := (blk_cell X1.out 5).trans rfl
  have b6 : w1.cell? ⟨w.heap.size, 6, none⟩ = some (.slice p.a3 v.l3.length p.c3) := (blk_cell X1.out 6).trans rfl
  by_cases hl : 80 < out.length
  ·have t0 : decide (80 < out.length) = true := decide_eq_true hl
   have t1 : decide (80 < (out.length : Int)) = true := decide_eq_true (by omega)
   clear hl
   go_wp2_with fail
   refine MC.mono ?_
   rintro x w2 ⟨rfl, hb⟩
   have HB2 := Aside0.mk (below_step HB1.out hb)
   clear hb MC b0 b1 b2 b3 b4 b5 b6
   go_wp2_with fail
   refine (awake16_calls _).mono ?_
   rintro x w9 ⟨rfl, hb⟩
   have HB9 := Aside0.mk (below_step HB2.out hb)
   clear hb
   go_wp2_with fail
   go_ret
   exact ⟨rfl, HB9.out⟩
  ·have t0 : decide (80 < out.length) = false := decide_eq_false hl
   have t1 : decide (80 < (out.length : Int)) = false := decide_eq_false (by omega)
   have LOUT := Aside0.mk (show out.length ≤ 80 by omega)
   clear hl
   go_wp2_with fail
   refine MC.mono ?_
   rintro x w2 ⟨rfl, hb⟩
   have HB2 := Aside0.mk (below_step HB1.out hb)
   have X12 := Aside0.mk (blk_below X1.out hb)
   have X42 := Aside0.mk (blk_below X4.out hb)
   clear hb MC b0 b1 b2 b3 b4 b5 b6
   obtain ⟨cc, hcc⟩ : ∃ cc, cc = pickC v many base times := ⟨_, rfl⟩
   obtain ⟨ff, hff⟩ : ∃ ff, ff = pickE v many base times := ⟨_, rfl⟩
   have PC := pick_calls w2 v p (HC.out.below HB2.out) HW.out many base times
   rw [← hcc, ← hff] at PC
   have CE := Aside0.mk hcc
   have FE := Aside0.mk hff
   clear hcc hff
   rcases pick_cases v many base times with ⟨hne, hcz⟩ | ⟨lev, hl, hr, hO, hd, hz, hcz⟩
   ·have NF := Aside0.mk (show ¬ ff = 0 from fun e => hne (FE.out.symm.trans e))
    rw [hcz] at CE
    have ce := CE.out
    subst ce
    clear hne hcz CE
    have b0 : w2.cell? ⟨w.heap.size, 0, none⟩ = some (.int .u64 v.log) := (blk_cell X12.out 0).trans rfl
    have b1 : w2.cell? ⟨w.heap.size, 1, none⟩ = some (.int .u64 v.next) := (blk_cell X12.out 1).trans rfl
    have b2 : w2.cell? ⟨w.heap.size, 2, none⟩ = some (.int .u64 v.seq) := (blk_cell X12.out 2).trans rfl
    have b3 : w2.cell? ⟨w.heap.size, 3, none⟩ = some (.slice p.a0 v.l0.length p.c0) := (blk_cell X12.out 3).trans rfl
    have b4 : w2.cell? ⟨w.heap.size, 4, none⟩ = some (.slice p.a1 v.l1.length p.c1) := (blk_cell X12.out 4).trans rfl
    have b5 : w2.cell? ⟨w.heap.size, 5, none⟩ = some (.slice p.a2 v.l2.length p.c2) := (blk_cell X12.out 5).trans rfl
    have b6 : w2.cell? ⟨w.heap.size, 6, none⟩ = some (.slice p.a3 v.l3.length p.c3) := (blk_cell X12.out 6).trans rfl
    have o0 : w2.cell? ⟨g4, 0, none⟩ = some (.int .i64 many) := (blk_cell X42.out 0).trans rfl
    have o1 : w2.cell? ⟨g4, 1, none⟩ = some (.int .i64 base) := (blk_cell X42.out 1).trans rfl
    have o2 : w2.cell? ⟨g4, 2, none⟩ = some (.int .i64 times) := (blk_cell X42.out 2).trans rfl
    go_wp2_with fail
    refine PC.mono ?_
    clear PC
    rintro x w4 ⟨vi, vo, rfl, hRi, hRo, hb⟩
    dsimp only at hRi hRo ⊢
    obtain ⟨Ai, ci, hvi⟩ := Kd.R_slice hRi
    subst hvi
    obtain ⟨Ao, co, hvo⟩ := Kd.R_slice hRo
    subst hvo
    have HB5 := Aside0.mk (below_alloc (below_step HB2.out hb) (.cells #[.int .i64 0, .slice Ai ([] : List S58).length ci, .slice Ao ([] : List S58).length co] 52))
    have X15 := Aside0.mk (blk_alloc (blk_below X12.out hb) (.cells #[.int .i64 0, .slice Ai ([] : List S58).length ci, .slice Ao ([] : List S58).length co] 52))
    have X75 := Aside0.mk (blk_new w4 (.cells #[.int .i64 0, .slice Ai ([] : List S58).length ci, .slice Ao ([] : List S58).length co] 52))
    have RI := Aside0.mk (Kd.R_below hRi (below_alloc (Below.refl w4.heap.size w4) (.cells #[.int .i64 0, .slice Ai ([] : List S58).length ci, .slice Ao ([] : List S58).length co] 52)))
    have RO := Aside0.mk (Kd.R_below hRo (below_alloc (Below.refl w4.heap.size w4) (.cells #[.int .i64 0, .slice Ai ([] : List S58).length ci, .slice Ao ([] : List S58).length co] 52)))
    clear hb hRi hRo b0 b1 b2 b3 b4 b5 b6 o0 o1 o2
    go_upto_region 4 with (fail)
    generalize w4.heap.size = g7 at *
    generalize w4.alloc (.cells #[.int .i64 0, .slice Ai ([] : List S58).length ci, .slice Ao ([] : List S58).length co] 52) = w5 at *
    have f0 : decide (ff = 0) = false := decide_eq_false NF.out
    have f1 : (ff == 0) = false := beq_eq_false_iff_ne.mpr NF.out
    have f2 : (ff != 0) = true := bne_iff_ne.mpr NF.out
    have f3 : decide (¬ ff = 0) = true := decide_eq_true NF.out
    have k1 : w5.cell? ⟨g7, 1, none⟩ = some (.slice Ai 0 ci) := (blk_cell X75.out 1).trans rfl
    have k2 : w5.cell? ⟨g7, 2, none⟩ = some (.slice Ao 0 co) := (blk_cell X75.out 2).trans rfl
    go_wp2_with fail
    refine (awake16_calls _).mono ?_
    rintro x w9 ⟨rfl, hb⟩
    have HB9 := Aside0.mk (below_step HB5.out hb)
    clear hb
    go_wp2_with fail
    go_ret
    exact ⟨rfl, HB9.out⟩
   ·rw [hcz] at CE
    have fz : ff = 0 := FE.out.trans hz
    subst fz
    obtain ⟨clev, In, Ov⟩ := cc
    have ce := CE.out
    injection ce with e1 e2 e3
    have NEI := Aside0.mk (show In ≠ [] by rw [e2]; exact hd)
    have SIN := Aside0.mk (show In.Sublist (v.lv lev) by rw [e2]; exact due_sub hO hl hd)
    have OVE := Aside0.mk (show Ov = ovrL v lev In by rw [e3, e2])
    have SOV := Aside0.mk (show Ov.Sublist (v.lv (lev + 1)) by rw [e3]; exact ovr_sub v lev _)
    have RV := Aside0.mk hr
    have HL3 := Aside0.mk hl
    have LIN := Aside0.mk (show In.length ≤ 64 from Nat.le_trans SIN.out.length_le (hr.2.1.1 lev (by omega)))
    have LOV := Aside0.mk (show Ov.length ≤ 64 from Nat.le_trans SOV.out.length_le (hr.2.1.1 (lev + 1) (by omega)))
    have OVL := Aside0.mk (show Ov.length ≤ (v.lv (lev + 1)).length from SOV.out.length_le)
    subst e1
    clear CE e2 e3 hl hr hO hd hz hcz FE
    have b0 : w2.cell? ⟨w.heap.size, 0, none⟩ = some (.int .u64 v.log) := (blk_cell X12.out 0).trans rfl
    have b1 : w2.cell? ⟨w.heap.size, 1, none⟩ = some (.int .u64 v.next) := (blk_cell X12.out 1).trans rfl
    have b2 : w2.cell? ⟨w.heap.size, 2, none⟩ = some (.int .u64 v.seq) := (blk_cell X12.out 2).trans rfl
    have b3 : w2.cell? ⟨w.heap.size, 3, none⟩ = some (.slice p.a0 v.l0.length p.c0) := (blk_cell X12.out 3).trans rfl
    have b4 : w2.cell? ⟨w.heap.size, 4, none⟩ = some (.slice p.a1 v.l1.length p.c1) := (blk_cell X12.out 4).trans rfl
    have b5 : w2.cell? ⟨w.heap.size, 5, none⟩ = some (.slice p.a2 v.l2.length p.c2) := (blk_cell X12.out 5).trans rfl
    have b6 : w2.cell? ⟨w.heap.size, 6, none⟩ = some (.slice p.a3 v.l3.length p.c3) := (blk_cell X12.out 6).trans rfl
    have o0 : w2.cell? ⟨g4, 0, none⟩ = some (.int .i64 many) := (blk_cell X42.out 0).trans rfl
    have o1 : w2.cell? ⟨g4, 1, none⟩ = some (.int .i64 base) := (blk_cell X42.out 1).trans rfl
    have o2 : w2.cell? ⟨g4, 2, none⟩ = some (.int .i64 times) := (blk_cell X42.out 2).trans rfl
    go_wp2_with fail
    refine PC.mono ?_
    clear PC
    rintro x w4 ⟨vi, vo, rfl, hRi, hRo, hb⟩
    dsimp only at hRi hRo ⊢
    obtain ⟨Ai, ci, hvi⟩ := Kd.R_slice hRi
    subst hvi
    obtain ⟨Ao, co, hvo⟩ := Kd.R_slice hRo
    subst hvo
    have HB5 := Aside0.mk (below_alloc (below_step HB2.out hb) (.cells #[.int .i64 (lev : Int), .slice Ai In.length ci, .slice Ao Ov.length co] 52))
    have X15 := Aside0.mk (blk_alloc (blk_below X12.out hb) (.cells #[.int .i64 (lev : Int), .slice Ai In.length ci, .slice Ao Ov.length co] 52))
    have X75 := Aside0.mk (blk_new w4 (.cells #[.int .i64 (lev : Int), .slice Ai In.length ci, .slice Ao Ov.length co] 52))
    have RI := Aside0.mk (Kd.R_below hRi (below_alloc (Below.refl w4.heap.size w4) (.cells #[.int .i64 (lev : Int), .slice Ai In.length ci, .slice Ao Ov.length co] 52)))
    have RO := Aside0.mk (Kd.R_below hRo (below_alloc (Below.refl w4.heap.size w4) (.cells #[.int .i64 (lev : Int), .slice Ai In.length ci, .slice Ao Ov.length co] 52)))
    clear hb hRi hRo b0 b1 b2 b3 b4 b5 b6 o0 o1 o2
    go_upto_region 4 with (fail)
    generalize w4.heap.size = g7 at *
    generalize w4.alloc (.cells #[.int .i64 (lev : Int), .slice Ai In.length ci, .slice Ao Ov.length co] 52) = w5 at *
    have FIT := fits_calls w5 v p (HC.out.below HB5.out) lev HL3.out Ai ci In Ao co Ov A2 c2 out (Kd.R_reads' RI.out).2.2 (Kd.R_reads' RO.out).2.2 (Kd.C_below C5.out HB5.out) NEI.out (Nat.le_trans LIN.out (by decide)) (Nat.le_trans LOV.out (by decide)) LOUT.out LV.out OVL.out
    have b0 : w5.cell? ⟨w.heap.size, 0, none⟩ = some (.int .u64 v.log) := (blk_cell X15.out 0).trans rfl
    have b1 : w5.cell? ⟨w.heap.size, 1, none⟩ = some (.int .u64 v.next) := (blk_cell X15.out 1).trans rfl
    have b2 : w5.cell? ⟨w.heap.size, 2, none⟩ = some (.int .u64 v.seq) := (blk_cell X15.out 2).trans rfl
    have b3 : w5.cell? ⟨w.heap.size, 3, none⟩ = some (.slice p.a0 v.l0.length p.c0) := (blk_cell X15.out 3).trans rfl
    have b4 : w5.cell? ⟨w.heap.size, 4, none⟩ = some (.slice p.a1 v.l1.length p.c1) := (blk_cell X15.out 4).trans rfl
    have b5 : w5.cell? ⟨w.heap.size, 5, none⟩ = some (.slice p.a2 v.l2.length p.c2) := (blk_cell X15.out 5).trans rfl
    have b6 : w5.cell? ⟨w.heap.size, 6, none⟩ = some (.slice p.a3 v.l3.length p.c3) := (blk_cell X15.out 6).trans rfl
    have k0 : w5.cell? ⟨g7, 0, none⟩ = some (.int .i64 (lev : Int)) := (blk_cell X75.out 0).trans rfl
    have k1 : w5.cell? ⟨g7, 1, none⟩ = some (.slice Ai In.length ci) := (blk_cell X75.out 1).trans rfl
    have k2 : w5.cell? ⟨g7, 2, none⟩ = some (.slice Ao Ov.length co) := (blk_cell X75.out 2).trans rfl
    go_wp2_with fail
    refine FIT.mono ?_
    clear FIT
    rintro x w6 ⟨bf, rfl, hfit, hb⟩
    have HB6 := Aside0.mk (below_step HB5.out hb)
    have X16 := Aside0.mk (blk_below X15.out hb)
    have X76 := Aside0.mk (blk_below X75.out hb)
    have RI6 := Aside0.mk (Kd.R_below RI.out hb)
    have RO6 := Aside0.mk (Kd.R_below RO.out hb)
    clear hb b0 b1 b2 b3 b4 b5 b6 k0 k1 k2 RI RO
    cases bf with
    | false =>
     go_wp2_with fail
     refine (awake16_calls _).mono ?_
     rintro x w9 ⟨rfl, hb⟩
     have HB9 := Aside0.mk (below_step HB6.out hb)
     clear hb
     go_wp2_with fail
     go_ret
     exact ⟨rfl, HB9.out⟩
    | true =>
     have MK_ := Aside0.mk (pick_makes RV.out HL3.out NEI.out SIN.out OVE.out (hfit rfl) HS.out)
     clear hfit
     obtain ⟨hee, hadd, u, hu, hlg, hsq, huli, hulv, hulo⟩ := MK_.out
     obtain ⟨e, hev⟩ : ∃ e, e = edV v (lev : Int) In Ov out := ⟨_, rfl⟩
     have EDC := edit_calls w6 v p (HC.out.below HB6.out) HW.out (lev : Int) Ai ci In Ao co Ov A2 c2 out (Kd.R_reads' RI6.out).2.2 (Kd.R_reads' RI6.out).2.1 (Kd.R_reads' RO6.out).2.2 (Kd.R_reads' RO6.out).2.1 (Kd.C_below C5.out HB6.out) (Nat.le_trans LIN.out (by decide)) (Nat.le_trans LOV.out (by decide)) (Nat.le_trans LOUT.out (by decide)) (fun m hm => HW.out lev (by have := HL3.out; omega) m (SIN.out.subset hm)) (fun m hm => HW.out (lev + 1) (by have := HL3.out; omega) m (SOV.out.subset hm))
     rw [← hev, hee] at EDC
     rw [← hev] at hu hadd
     have UF := Aside0.mk hu
     have EA := Aside0.mk (show e.added.length ≤ 100000 by rw [hadd]; exact Nat.le_trans LOUT.out (by decide))
     have ULG := Aside0.mk hlg
     have USQ := Aside0.mk hsq
     have ULI := Aside0.mk huli
     have ULV := Aside0.mk hulv
     have ULO := Aside0.mk hulo
     have RU := Aside0.mk (applyV_ok UF.out).2
     clear hee hadd hu hlg hsq huli hulv hulo hev MK_
     have b0 : w6.cell? ⟨w.heap.size, 0, none⟩ = some (.int .u64 v.log) := (blk_cell X16.out 0).trans rfl
     have b1 : w6.cell? ⟨w.heap.size, 1, none⟩ = some (.int .u64 v.next) := (blk_cell X16.out 1).trans rfl
     have b2 : w6.cell? ⟨w.heap.size, 2, none⟩ = some (.int .u64 v.seq) := (blk_cell X16.out 2).trans rfl
     have b3 : w6.cell? ⟨w.heap.size, 3, none⟩ = some (.slice p.a0 v.l0.length p.c0) := (blk_cell X16.out 3).trans rfl
     have b4 : w6.cell? ⟨w.heap.size, 4, none⟩ = some (.slice p.a1 v.l1.length p.c1) := (blk_cell X16.out 4).trans rfl
     have b5 : w6.cell? ⟨w.heap.size, 5, none⟩ = some (.slice p.a2 v.l2.length p.c2) := (blk_cell X16.out 5).trans rfl
     have b6 : w6.cell? ⟨w.heap.size, 6, none⟩ = some (.slice p.a3 v.l3.length p.c3) := (blk_cell X16.out 6).trans rfl
     have k0 : w6.cell? ⟨g7, 0, none⟩ = some (.int .i64 (lev : Int)) := (blk_cell X76.out 0).trans rfl
     have k1 : w6.cell? ⟨g7, 1, none⟩ = some (.slice Ai In.length ci) := (blk_cell X76.out 1).trans rfl
     have k2 : w6.cell? ⟨g7, 2, none⟩ = some (.slice Ao Ov.length co) := (blk_cell X76.out 2).trans rfl
     go_wp2_with fail
     refine EDC.mono ?_
     clear EDC
     rintro x w7 ⟨A1, c1, A2_, c2_, rfl, hR1, hR2, hb⟩
     have HB7 := Aside0.mk (below_alloc (below_step HB6.out hb) (.cells (eCs e A1 c1 A2_ c2_) 70))
     have X17 := Aside0.mk (blk_alloc (blk_below X16.out hb) (.cells (eCs e A1 c1 A2_ c2_) 70))
     have X77 := Aside0.mk (blk_alloc (blk_below X76.out hb) (.cells (eCs e A1 c1 A2_ c2_) 70))
     have X97 := Aside0.mk (blk_new w7 (.cells (eCs e A1 c1 A2_ c2_) 70))
     have K1 := Aside0.mk (Kd.C_below (Kd.R_reads' hR1).2.2 (below_alloc (Below.refl w7.heap.size w7) (.cells (eCs e A1 c1 A2_ c2_) 70)))
     have K2 := Aside0.mk (Kd.C_below (Kd.R_reads' hR2).2.2 (below_alloc (Below.refl w7.heap.size w7) (.cells (eCs e A1 c1 A2_ c2_) 70)))
     clear hb hR1 hR2 b0 b1 b2 b3 b4 b5 b6 k0 k1 k2
     go_upto_region 7 with (fail)
     generalize w7.heap.size = g9 at *
     generalize w7.alloc (.cells (eCs e A1 c1 A2_ c2_) 70) = w8 at *
     have b0 : w8.cell? ⟨w.heap.size, 0, none⟩ = some (.int .u64 v.log) := (blk_cell X17.out 0).trans rfl
     have b1 : w8.cell? ⟨w.heap.size, 1, none⟩ = some (.int .u64 v.next) := (blk_cell X17.out 1).trans rfl
     have b2 : w8.cell? ⟨w.heap.size, 2, none⟩ = some (.int .u64 v.seq) := (blk_cell X17.out 2).trans rfl
     have b3 : w8.cell? ⟨w.heap.size, 3, none⟩ = some (.slice p.a0 v.l0.length p.c0) := (blk_cell X17.out 3).trans rfl
     have b4 : w8.cell? ⟨w.heap.size, 4, none⟩ = some (.slice p.a1 v.l1.length p.c1) := (blk_cell X17.out 4).trans rfl
     have b5 : w8.cell? ⟨w.heap.size, 5, none⟩ = some (.slice p.a2 v.l2.length p.c2) := (blk_cell X17.out 5).trans rfl
     have b6 : w8.cell? ⟨w.heap.size, 6, none⟩ = some (.slice p.a3 v.l3.length p.c3) := (blk_cell X17.out 6).trans rfl
     have e0 : w8.cell? ⟨g9, 0, none⟩ = some (.int .u64 e.log) := (blk_cell X97.out 0).trans rfl
     have e1 : w8.cell? ⟨g9, 1, none⟩ = some (.int .u64 e.next) := (blk_cell X97.out 1).trans rfl
     have e2 : w8.cell? ⟨g9, 2, none⟩ = some (.int .u64 e.seq) := (blk_cell X97.out 2).trans rfl
     have e3 : w8.cell? ⟨g9, 3, none⟩ = some (.slice A1 e.gone.length c1) := (blk_cell X97.out 3).trans rfl
     have e4 : w8.cell? ⟨g9, 4, none⟩ = some (.slice A2_ e.added.length c2_) := (blk_cell X97.out 4).trans rfl
     go_wp2_with fail
     refine (apply2_calls _ v p e A1 A2_ c1 c2_ UF.out (HC.out.below HB7.out) HW.out K1.out K2.out (fun j hj => Nat.le_trans (LV.out j hj) (by decide)) EA.out).mono ?_
     rintro x w10 ⟨q2, rfl, hR8, hb⟩
     have HB8 := Aside0.mk (below_alloc (below_step HB7.out hb) (.cells (vCs u q2) 26))
     have X18 := Aside0.mk (blk_alloc (blk_below X17.out hb) (.cells (vCs u q2) 26))
     have X78 := Aside0.mk (blk_alloc (blk_below X77.out hb) (.cells (vCs u q2) 26))
     have X118 := Aside0.mk (blk_new w10 (.cells (vCs u q2) 26))
     have VU8 := Aside0.mk (hR8.vc.below (below_alloc (Below.refl w10.heap.size w10) (.cells (vCs u q2) 26)))
     clear hb hR8 b0 b1 b2 b3 b4 b5 b6 e0 e1 e2 e3 e4
     go_upto_region 8 with (fail)
     generalize w10.heap.size = g11 at *
     generalize w10.alloc (.cells (vCs u q2) 26) = w11 at *
     have c0 : w11.cell? ⟨g11, 0, none⟩ = some (.int .u64 u.log) := (blk_cell X118.out 0).trans rfl
     have c1 : w11.cell? ⟨g11, 1, none⟩ = some (.int .u64 u.next) := (blk_cell X118.out 1).trans rfl
     have c2 : w11.cell? ⟨g11, 2, none⟩ = some (.int .u64 u.seq) := (blk_cell X118.out 2).trans rfl
     have c3 : w11.cell? ⟨g11, 3, none⟩ = some (.slice q2.a0 u.l0.length q2.c0) := (blk_cell X118.out 3).trans rfl
     have c4 : w11.cell? ⟨g11, 4, none⟩ = some (.slice q2.a1 u.l1.length q2.c1) := (blk_cell X118.out 4).trans rfl
     have c5 : w11.cell? ⟨g11, 5, none⟩ = some (.slice q2.a2 u.l2.length q2.c2) := (blk_cell X118.out 5).trans rfl
     have c6 : w11.cell? ⟨g11, 6, none⟩ = some (.slice q2.a3 u.l3.length q2.c3) := (blk_cell X118.out 6).trans rfl
     go_wp2_with fail
     refine (right_calls _ u q2 VU8.out (right_vw RU.out)).mono ?_
     rintro x w9 ⟨rfl, hb⟩
     rw [decide_eq_true RU.out]
     have HB9 := Aside0.mk (below_step HB8.out hb)
     have X19 := Aside0.mk (blk_below X18.out hb)
     have X79 := Aside0.mk (blk_below X78.out hb)
     have X119 := Aside0.mk (blk_below X118.out hb)
     have VU9 := Aside0.mk (VU8.out.below hb)
     clear hb c0 c1 c2 c3 c4 c5 c6
     have c0 : w9.cell? ⟨g11, 0, none⟩ = some (.int .u64 v.log) := by rw [← ULG.out]; exact (blk_cell X119.out 0).trans rfl
     have c2 : w9.cell? ⟨g11, 2, none⟩ = some (.int .u64 v.seq) := by rw [← USQ.out]; exact (blk_cell X119.out 2).trans rfl
     have b0 : w9.cell? ⟨w.heap.size, 0, none⟩ = some (.int .u64 v.log) := (blk_cell X19.out 0).trans rfl
     have b2 : w9.cell? ⟨w.heap.size, 2, none⟩ = some (.int .u64 v.seq) := (blk_cell X19.out 2).trans rfl
     go_upto_region 10 with (fail)
     clear c0 c2 b0 b2
     have HL3_ := HL3.out
     rcases (by omega : lev = 0 ∨ lev = 1 ∨ lev = 2) with rfl | rfl | rfl
     ·have WIN := Aside0.mk (show wrap64 ((v.l0.length : Int) - (In.length : Int)) = (u.l0.length : Int) from WR1 _ _ _ (ULI.out) (LV.out 0 (by omega)))
      have WOV := Aside0.mk (show wrap64 (wrap64 ((v.l1.length : Int) - (Ov.length : Int)) + (out.length : Int)) = (u.l1.length : Int) from WR2 _ _ _ _ ULV.out (LV.out 1 (by omega)) LOUT.out OVL.out)
      go_wp2_with fail
      go_loopg [13, 14] 4 (fun kq v13 v14 w' => ∃ x : Int, v13 = .int .i64 x ∧ Aside0 ((kq : Int) + x = 4 ∧ 0 ≤ x) ∧ Aside0 (Below w9.heap.size w9 w'))
      case atStart => exact ⟨0, rfl, ⟨by omega⟩, ⟨Below.refl _ _⟩⟩
      case round =>
       obtain ⟨x, rfl, HK, HBW⟩ := hrel
       have HBr := Aside0.mk (below_step HB9.out HBW.out)
       cases gk with
       | zero =>
        obtain rfl : x = 4 := by have := HK.out; omega
        go_wp2_with fail
        refine (awake16_calls _).mono ?_
        rintro x w9 ⟨rfl, hb⟩
        have HB9 := Aside0.mk (below_step HBr.out hb)
        clear hb
        go_wp2_with fail
        go_ret
        exact ⟨rfl, HB9.out⟩
       | succ z =>
        have X1r := Aside0.mk (blk_below X19.out HBW.out)
        have X7r := Aside0.mk (blk_below X79.out HBW.out)
        have X11r := Aside0.mk (blk_below X119.out HBW.out)
        rcases (by have := HK.out; omega : x = 0 ∨ x = 1 ∨ x = 2 ∨ x = 3) with rfl | rfl | rfl | rfl
        ·have b3 : wr.cell? ⟨w.heap.size, 3, none⟩ = some (.slice p.a0 v.l0.length p.c0) := (blk_cell X1r.out 3).trans rfl
         have k0 : wr.cell? ⟨g7, 0, none⟩ = some (.int .i64 0) := (blk_cell X7r.out 0).trans rfl
         have k1 : wr.cell? ⟨g7, 1, none⟩ = some (.slice Ai In.length ci) := (blk_cell X7r.out 1).trans rfl
         have k2 : wr.cell? ⟨g7, 2, none⟩ = some (.slice Ao Ov.length co) := (blk_cell X7r.out 2).trans rfl
         have c3 : wr.cell? ⟨g11, 3, none⟩ = some (.slice q2.a0 u.l0.length q2.c0) := (blk_cell X11r.out 3).trans rfl
         go_upto_region 18 with (fail)
         rw [WIN.out]
         go_quiet (fail)
         go_wp2_with fail
         go_roundg z
         case measure => omega
         case rel => exact ⟨1, rfl, ⟨by have := HK.out; omega⟩, ⟨pw_below_drewN HBW.out nq⟩⟩
        ·have b4 : wr.cell? ⟨w.heap.size, 4, none⟩ = some (.slice p.a1 v.l1.length p.c1) := (blk_cell X1r.out 4).trans rfl
         have k0 : wr.cell? ⟨g7, 0, none⟩ = some (.int .i64 0) := (blk_cell X7r.out 0).trans rfl
         have k1 : wr.cell? ⟨g7, 1, none⟩ = some (.slice Ai In.length ci) := (blk_cell X7r.out 1).trans rfl
         have k2 : wr.cell? ⟨g7, 2, none⟩ = some (.slice Ao Ov.length co) := (blk_cell X7r.out 2).trans rfl
         have c4 : wr.cell? ⟨g11, 4, none⟩ = some (.slice q2.a1 u.l1.length q2.c1) := (blk_cell X11r.out 4).trans rfl
         go_upto_region 18 with (fail)
         rw [WOV.out]
         go_quiet (fail)
         go_wp2_with fail
         go_roundg z
         case measure => omega
         case rel => exact ⟨2, rfl, ⟨by have := HK.out; omega⟩, ⟨pw_below_drewN HBW.out nq⟩⟩
        ·have b5 : wr.cell? ⟨w.heap.size, 5, none⟩ = some (.slice p.a2 v.l2.length p.c2) := (blk_cell X1r.out 5).trans rfl
         have k0 : wr.cell? ⟨g7, 0, none⟩ = some (.int .i64 0) := (blk_cell X7r.out 0).trans rfl
         have k1 : wr.cell? ⟨g7, 1, none⟩ = some (.slice Ai In.length ci) := (blk_cell X7r.out 1).trans rfl
         have k2 : wr.cell? ⟨g7, 2, none⟩ = some (.slice Ao Ov.length co) := (blk_cell X7r.out 2).trans rfl
         have c5 : wr.cell? ⟨g11, 5, none⟩ = some (.slice q2.a2 u.l2.length q2.c2) := (blk_cell X11r.out 5).trans rfl
         have LQ : u.l2 = v.l2 := ULO.out 2 (by omega) (by omega) (by omega)
         have SMET := fun (w' : World) (h1 : Below w9.heap.size w9 w') (h2 : Below w.heap.size w w') => sameM_true w' q2.a2 p.a2 q2.c2 p.c2 v.l2 v.l2 (by rw [← LQ]; exact Kd.C_below (VU9.out 2 (by omega)).1 h1) (Kd.C_below (HC.out 2 (by omega)).1 h2) rfl
         go_upto_region 18 with (fail)
         clear b5 c5 k0 k1 k2
         refine start_ (n := 32) (S := (fun w' => w'.heap[w.heap.size]? = some (.cells (vCs v p) 26 (0, 0)) ∧ w'.heap[g7]? = some (.cells #[.int .i64 0, .slice Ai In.length ci, .slice Ao Ov.length co] 52 (0, 0)) ∧ w'.heap[g11]? = some (.cells (vCs u q2) 26 (0, 0)))) (ds := []) (bl 32 0 []) (by kernel_rfl) rfl (by kernel_rfl) ⟨blk_drew X1r.out, blk_drew X7r.out, blk_drew X11r.out⟩ (fun hHeld => ?_)
         have HBd := Aside0.mk (below_drew HBr.out)
         have HBWd := Aside0.mk (below_drew HBW.out)
         clear X1r X7r X11r HBr HBW
         generalize wr.drew = wd at *
         refine pure_ (i := 0) (N := (some 122)) (v := ?_) (a' := ?_) (bl 32 1 []) rfl rfl (by kernel_rfl) (fun _ _ _ h => h) (Or.inl ⟨by rfl, ?_⟩) ?_ ?_
         rotate_left
         ·intro w'
          go_simp
          with_reducible rfl
         rotate_left
         ·simp only [Act.put, sA_, sB_, sC_, i64_w, i32_w]
          rfl
         refine pure_ (i := 1) (N := (some 123)) (v := ?_) (a' := ?_) (bl 32 2 []) rfl rfl (by kernel_rfl) (fun _ _ _ h => h) (Or.inl ⟨by rfl, ?_⟩) ?_ ?_
         rotate_left
         ·intro w'
          go_simp
          with_reducible rfl
         rotate_left
         ·simp only [Act.put, sA_, sB_, sC_, i64_w, i32_w]
          rfl
         refine pure_ (i := 2) (N := (some 124)) (v := ?_) (a' := ?_) (bl 32 3 []) rfl rfl (by kernel_rfl) (fun _ _ _ h => h) (Or.inl ⟨by rfl, ?_⟩) ?_ ?_
         rotate_left
         ·intro w'
          go_simp
          with_reducible rfl
         rotate_left
         ·simp only [Act.put, sA_, sB_, sC_, i64_w, i32_w]
          rfl
         refine take_ (i := 3) (N := (some 125)) (v := ?_) (a' := ?_) (bl 32 4 []) rfl rfl (by kernel_rfl) (fun _ _ _ h => h) (Or.inl ⟨by rfl, ?_⟩) hHeld ?_ ?_
         rotate_left
         ·rintro w' ⟨s0, s1, s2⟩
          have z1 : w'.cell? ⟨g11, 5, none⟩ = some (.slice q2.a2 v.l2.length q2.c2) := by rw [← LQ]; exact (blk_cell s2 5).trans rfl
          go_simp
          with_reducible rfl
         rotate_left
         ·simp only [Act.put, sA_, sB_, sC_, i64_w, i32_w]
          rfl
         refine pure_ (i := 4) (N := (some 126)) (v := ?_) (a' := ?_) (bl 32 5 []) rfl rfl (by kernel_rfl) (fun _ _ _ h => h) (Or.inl ⟨by rfl, ?_⟩) ?_ ?_
         rotate_left
         ·intro w'
          go_simp
          with_reducible rfl
         rotate_left
         ·simp only [Act.put, sA_, sB_, sC_, i64_w, i32_w]
          rfl
         refine pure_ (i := 5) (N := (some 127)) (v := ?_) (a' := ?_) (bl 32 6 []) rfl rfl (by kernel_rfl) (fun _ _ _ h => h) (Or.inl ⟨by rfl, ?_⟩) ?_ ?_
         rotate_left
         ·intro w'
          go_simp
          with_reducible rfl
         rotate_left
         ·simp only [Act.put, sA_, sB_, sC_, i64_w, i32_w]
          rfl
         refine pure_ (i := 6) (N := (some 128)) (v := ?_) (a' := ?_) (bl 32 7 []) rfl rfl (by kernel_rfl) (fun _ _ _ h => h) (Or.inl ⟨by rfl, ?_⟩) ?_ ?_
         rotate_left
         ·intro w'
          go_simp
          with_reducible rfl
         rotate_left
         ·simp only [Act.put, sA_, sB_, sC_, i64_w, i32_w]
          rfl
         refine pure_ (i := 7) (N := (some 129)) (v := ?_) (a' := ?_) (bl 32 8 []) rfl rfl (by kernel_rfl) (fun _ _ _ h => h) (Or.inl ⟨by rfl, ?_⟩) ?_ ?_
         rotate_left
         ·intro w'
          go_simp
          with_reducible rfl
         rotate_left
         ·simp only [Act.put, sA_, sB_, sC_, i64_w, i32_w]
          rfl
         refine pure_ (i := 8) (N := (some 130)) (v := ?_) (a' := ?_) (bl 32 9 []) rfl rfl (by kernel_rfl) (fun _ _ _ h => h) (Or.inl ⟨by rfl, ?_⟩) ?_ ?_
         rotate_left
         ·intro w'
          go_simp
          with_reducible rfl
         rotate_left
         ·simp only [Act.put, sA_, sB_, sC_, i64_w, i32_w]
          rfl
         refine pure_ (i := 9) (N := (some 131)) (v := ?_) (a' := ?_) (bl 32 10 []) rfl rfl (by kernel_rfl) (fun _ _ _ h => h) (Or.inl ⟨by rfl, ?_⟩) ?_ ?_
         rotate_left
         ·intro w'
          go_simp
          with_reducible rfl
         rotate_left
         ·simp only [Act.put, sA_, sB_, sC_, i64_w, i32_w]
          rfl
         refine take_ (i := 10) (N := (some 132)) (v := ?_) (a' := ?_) (bl 32 11 []) rfl rfl (by kernel_rfl) (fun _ _ _ h => h) (Or.inl ⟨by rfl, ?_⟩) hHeld ?_ ?_
         rotate_left
         ·rintro w' ⟨s0, s1, s2⟩
          have z3 : w'.cell? ⟨g7, 0, none⟩ = some (.int .i64 0) := (blk_cell s1 0).trans rfl
          go_simp
          with_reducible rfl
         rotate_left
         ·simp only [Act.put, sA_, sB_, sC_, i64_w, i32_w]
          rfl
         refine pure_ (i := 11) (N := (some 133)) (v := ?_) (a' := ?_) (bl 32 12 []) rfl rfl (by kernel_rfl) (fun _ _ _ h => h) (Or.inl ⟨by rfl, ?_⟩) ?_ ?_
         rotate_left
         ·intro w'
          go_simp
          with_reducible rfl
         rotate_left
         ·simp only [Act.put, sA_, sB_, sC_, i64_w, i32_w]
          rfl
         refine pure_ (i := 12) (N := (some 134)) (v := ?_) (a' := ?_) (bl 32 13 []) rfl rfl (by kernel_rfl) (fun _ _ _ h => h) (Or.inl ⟨by rfl, ?_⟩) ?_ ?_
         rotate_left
         ·intro w'
          go_simp
          with_reducible rfl
         rotate_left
         ·simp only [Act.put, sA_, sB_, sC_, i64_w, i32_w]
          rfl
         refine pure_ (i := 13) (N := (some 135)) (v := ?_) (a' := ?_) (bl 32 14 []) rfl rfl (by kernel_rfl) (fun _ _ _ h => h) (Or.inl ⟨by rfl, ?_⟩) ?_ ?_
         rotate_left
         ·intro w'
          go_simp
          with_reducible rfl
         rotate_left
         ·simp only [Act.put, sA_, sB_, sC_, i64_w, i32_w]
          rfl
         refine pure_ (i := 14) (N := (some 136)) (v := ?_) (a' := ?_) (bl 32 15 []) rfl rfl (by kernel_rfl) (fun _ _ _ h => h) (Or.inl ⟨by rfl, ?_⟩) ?_ ?_
         rotate_left
         ·intro w'
          go_simp
          with_reducible rfl
         rotate_left
         ·simp only [Act.put, sA_, sB_, sC_, i64_w, i32_w]
          rfl
         refine take_ (i := 15) (N := (some 137)) (v := ?_) (a' := ?_) (bl 32 16 []) rfl rfl (by kernel_rfl) (fun _ _ _ h => h) (Or.inl ⟨by rfl, ?_⟩) hHeld ?_ ?_
         rotate_left
         ·rintro w' ⟨s0, s1, s2⟩
          have z3 : w'.cell? ⟨g7, 0, none⟩ = some (.int .i64 0) := (blk_cell s1 0).trans rfl
          go_simp
          with_reducible rfl
         rotate_left
         ·simp only [Act.put, sA_, sB_, sC_, i64_w, i32_w]
          rfl
         refine pure_ (i := 16) (N := (some 138)) (v := ?_) (a' := ?_) (bl 32 17 []) rfl rfl (by kernel_rfl) (fun _ _ _ h => h) (Or.inl ⟨by rfl, ?_⟩) ?_ ?_
         rotate_left
         ·intro w'
          go_simp
          with_reducible rfl
         rotate_left
         ·simp only [Act.put, sA_, sB_, sC_, i64_w, i32_w]
          rfl
         rw [show wrap64 (1 : Int) = 1 from by unfold wrap64; omega]
         refine pure_ (i := 17) (N := (some 139)) (v := ?_) (a' := ?_) (bl 32 18 []) rfl rfl (by kernel_rfl) (fun _ _ _ h => h) (Or.inl ⟨by rfl, ?_⟩) ?_ ?_
         rotate_left
         ·intro w'
          go_simp
          with_reducible rfl
         rotate_left
         ·simp only [Act.put, sA_, sB_, sC_, i64_w, i32_w]
          rfl
         refine pure_ (i := 18) (N := (some 140)) (v := ?_) (a' := ?_) (bl 32 19 []) rfl rfl (by kernel_rfl) (fun _ _ _ h => h) (Or.inl ⟨by rfl, ?_⟩) ?_ ?_
         rotate_left
         ·intro w'
          go_simp
          with_reducible rfl
         rotate_left
         ·simp only [Act.put, sA_, sB_, sC_, i64_w, i32_w]
          rfl
         refine pure_ (i := 19) (N := (some 141)) (v := ?_) (a' := ?_) (bl 32 20 []) rfl rfl (by kernel_rfl) (fun _ _ _ h => h) (Or.inl ⟨by rfl, ?_⟩) ?_ ?_
         rotate_left
         ·intro w'
          go_simp
          with_reducible rfl
         rotate_left
         ·simp only [Act.put, sA_, sB_, sC_, i64_w, i32_w]
          rfl
         refine pure_ (i := 20) (N := (some 142)) (v := ?_) (a' := ?_) (bl 32 21 []) rfl rfl (by kernel_rfl) (fun _ _ _ h => h) (Or.inl ⟨by rfl, ?_⟩) ?_ ?_
         rotate_left
         ·intro w'
          go_simp
          with_reducible rfl
         rotate_left
         ·simp only [Act.put, sA_, sB_, sC_, i64_w, i32_w]
          rfl
         refine pure_ (i := 21) (N := (some 143)) (v := ?_) (a' := ?_) (bl 32 22 []) rfl rfl (by kernel_rfl) (fun _ _ _ h => h) (Or.inl ⟨by rfl, ?_⟩) ?_ ?_
         rotate_left
         ·intro w'
          go_simp
          with_reducible rfl
         rotate_left
         ·simp only [Act.put, sA_, sB_, sC_, i64_w, i32_w]
          rfl
         refine pure_ (i := 22) (N := (some 144)) (v := ?_) (a' := ?_) (bl 32 23 []) rfl rfl (by kernel_rfl) (fun _ _ _ h => h) (Or.inl ⟨by rfl, ?_⟩) ?_ ?_
         rotate_left
         ·intro w'
          go_simp
          with_reducible rfl
         rotate_left
         ·simp only [Act.put, sA_, sB_, sC_, i64_w, i32_w]
          rfl
         refine take_ (i := 23) (N := (some 145)) (v := ?_) (a' := ?_) (bl 32 24 []) rfl rfl (by kernel_rfl) (fun _ _ _ h => h) (Or.inl ⟨by rfl, ?_⟩) hHeld ?_ ?_
         rotate_left
         ·rintro w' ⟨s0, s1, s2⟩
          have z1 : w'.cell? ⟨g11, 5, none⟩ = some (.slice q2.a2 v.l2.length q2.c2) := by rw [← LQ]; exact (blk_cell s2 5).trans rfl
          go_simp
          with_reducible rfl
         rotate_left
         ·simp only [Act.put, sA_, sB_, sC_, i64_w, i32_w]
          rfl
         refine pure_ (i := 24) (N := (some 146)) (v := ?_) (a' := ?_) (bl 32 25 []) rfl rfl (by kernel_rfl) (fun _ _ _ h => h) (Or.inl ⟨by rfl, ?_⟩) ?_ ?_
         rotate_left
         ·intro w'
          go_simp
          with_reducible rfl
         rotate_left
         ·simp only [Act.put, sA_, sB_, sC_, i64_w, i32_w]
          rfl
         refine pure_ (i := 25) (N := (some 147)) (v := ?_) (a' := ?_) (bl 32 26 []) rfl rfl (by kernel_rfl) (fun _ _ _ h => h) (Or.inl ⟨by rfl, ?_⟩) ?_ ?_
         rotate_left
         ·intro w'
          go_simp
          with_reducible rfl
         rotate_left
         ·simp only [Act.put, sA_, sB_, sC_, i64_w, i32_w]
          rfl
         refine pure_ (i := 26) (N := (some 148)) (v := ?_) (a' := ?_) (bl 32 27 []) rfl rfl (by kernel_rfl) (fun _ _ _ h => h) (Or.inl ⟨by rfl, ?_⟩) ?_ ?_
         rotate_left
         ·intro w'
          go_simp
          with_reducible rfl
         rotate_left
         ·simp only [Act.put, sA_, sB_, sC_, i64_w, i32_w]
          rfl
         refine take_ (i := 27) (N := (some 149)) (v := ?_) (a' := ?_) (bl 32 28 []) rfl rfl (by kernel_rfl) (fun _ _ _ h => h) (Or.inl ⟨by rfl, ?_⟩) hHeld ?_ ?_
         rotate_left
         ·rintro w' ⟨s0, s1, s2⟩
          have z2 : w'.cell? ⟨w.heap.size, 5, none⟩ = some (.slice p.a2 v.l2.length p.c2) := (blk_cell s0 5).trans rfl
          go_simp
          with_reducible rfl
         rotate_left
         ·simp only [Act.put, sA_, sB_, sC_, i64_w, i32_w]
          rfl
         refine one_ (i := 28) (N := (some 150)) (bl 32 29 []) rfl rfl (by kernel_rfl) (by decide) (fun K hK => ?_)
         refine goes_ Try.func47 (by kernel_rfl) rfl #[.slice q2.a2 v.l2.length q2.c2, .slice p.a2 v.l2.length p.c2] (by rfl) rfl rfl (by (try simp only [List.map_toArray, List.map_cons, List.map_nil]); first | done | rfl) ?_
         (with_reducible refine (SMET wd HBWd.out HBd.out).mono ?_)
         rintro e wA ⟨rfl, hb⟩
         refine ⟨_, rfl, ?_⟩
         have HBWA := Aside0.mk (below_step HBWd.out hb)
         clear HBWd HBd
         have hOld := hHeld
         clear hHeld
         refine hK.out _ _ (⟨blk_below hOld.1 hb, blk_below hOld.2.1 hb, blk_below hOld.2.2 hb⟩) (fun hHeld => ?_)
         clear hOld hK K
         refine norm_ (a' := ?_) ?_ ?_
         rotate_left
         ·show Act.put _ (some 150) _ = _
          simp only [Act.put, List.setIfInBounds_toArray, List.set_cons_zero, List.set_cons_succ, i64_w, i32_w]
          rfl
         refine pure_ (i := 29) (N := (some 151)) (v := ?_) (a' := ?_) (bl 32 30 []) rfl rfl (by kernel_rfl) (fun _ _ _ h => h) (Or.inl ⟨by rfl, ?_⟩) ?_ ?_
         rotate_left
         ·intro w'
          go_simp
          with_reducible rfl
         rotate_left
         ·simp only [Act.put, sA_, sB_, sC_, i64_w, i32_w]
          rfl
         refine pure_ (i := 30) (N := (some 152)) (v := ?_) (a' := ?_) (bl 32 31 []) rfl rfl (by kernel_rfl) (fun _ _ _ h => h) (Or.inl ⟨by rfl, ?_⟩) ?_ ?_
         rotate_left
         ·intro w'
          go_simp
          with_reducible rfl
         rotate_left
         ·simp only [Act.put, sA_, sB_, sC_, i64_w, i32_w]
          rfl
         refine pure_ (i := 31) (N := (some 153)) (v := ?_) (a' := ?_) (bl 32 32 []) rfl rfl (by kernel_rfl) (fun _ _ _ h => h) (Or.inl ⟨by rfl, ?_⟩) ?_ ?_
         rotate_left
         ·intro w'
          go_simp
          with_reducible rfl
         rotate_left
         ·simp only [Act.put, sA_, sB_, sC_, i64_w, i32_w]
          rfl
         refine done_ (by kernel_rfl) ?_
         clear hHeld
         go_wp2_with fail
         go_roundg z
         case measure => omega
         case rel => exact ⟨3, rfl, ⟨by have := HK.out; omega⟩, HBWA⟩
        ·have b6 : wr.cell? ⟨w.heap.size, 6, none⟩ = some (.slice p.a3 v.l3.length p.c3) := (blk_cell X1r.out 6).trans rfl
         have k0 : wr.cell? ⟨g7, 0, none⟩ = some (.int .i64 0) := (blk_cell X7r.out 0).trans rfl
         have k1 : wr.cell? ⟨g7, 1, none⟩ = some (.slice Ai In.length ci) := (blk_cell X7r.out 1).trans rfl
         have k2 : wr.cell? ⟨g7, 2, none⟩ = some (.slice Ao Ov.length co) := (blk_cell X7r.out 2).trans rfl
         have c6 : wr.cell? ⟨g11, 6, none⟩ = some (.slice q2.a3 u.l3.length q2.c3) := (blk_cell X11r.out 6).trans rfl
         have LQ : u.l3 = v.l3 := ULO.out 3 (by omega) (by omega) (by omega)
         have SMET := fun (w' : World) (h1 : Below w9.heap.size w9 w') (h2 : Below w.heap.size w w') => sameM_true w' q2.a3 p.a3 q2.c3 p.c3 v.l3 v.l3 (by rw [← LQ]; exact Kd.C_below (VU9.out 3 (by omega)).1 h1) (Kd.C_below (HC.out 3 (by omega)).1 h2) rfl
         go_upto_region 18 with (fail)
         clear b6 c6 k0 k1 k2
         refine start_ (n := 32) (S := (fun w' => w'.heap[w.heap.size]? = some (.cells (vCs v p) 26 (0, 0)) ∧ w'.heap[g7]? = some (.cells #[.int .i64 0, .slice Ai In.length ci, .slice Ao Ov.length co] 52 (0, 0)) ∧ w'.heap[g11]? = some (.cells (vCs u q2) 26 (0, 0)))) (ds := []) (bl 32 0 []) (by kernel_rfl) rfl (by kernel_rfl) ⟨blk_drew X1r.out, blk_drew X7r.out, blk_drew X11r.out⟩ (fun hHeld => ?_)
         have HBd := Aside0.mk (below_drew HBr.out)
         have HBWd := Aside0.mk (below_drew HBW.out)
         clear X1r X7r X11r HBr HBW
         generalize wr.drew = wd at *
         refine pure_ (i := 0) (N := (some 122)) (v := ?_) (a' := ?_) (bl 32 1 []) rfl rfl (by kernel_rfl) (fun _ _ _ h => h) (Or.inl ⟨by rfl, ?_⟩) ?_ ?_
         rotate_left
         ·intro w'
          go_simp
          with_reducible rfl
         rotate_left
         ·simp only [Act.put, sA_, sB_, sC_, i64_w, i32_w]
          rfl
         refine pure_ (i := 1) (N := (some 123)) (v := ?_) (a' := ?_) (bl 32 2 []) rfl rfl (by kernel_rfl) (fun _ _ _ h => h) (Or.inl ⟨by rfl, ?_⟩) ?_ ?_
         rotate_left
         ·intro w'
          go_simp
          with_reducible rfl
         rotate_left
         ·simp only [Act.put, sA_, sB_, sC_, i64_w, i32_w]
          rfl
         refine pure_ (i := 2) (N := (some 124)) (v := ?_) (a' := ?_) (bl 32 3 []) rfl rfl (by kernel_rfl) (fun _ _ _ h => h) (Or.inl ⟨by rfl, ?_⟩) ?_ ?_
         rotate_left
         ·intro w'
          go_simp
          with_reducible rfl
         rotate_left
         ·simp only [Act.put, sA_, sB_, sC_, i64_w, i32_w]
          rfl
         refine take_ (i := 3) (N := (some 125)) (v := ?_) (a' := ?_) (bl 32 4 []) rfl rfl (by kernel_rfl) (fun _ _ _ h => h) (Or.inl ⟨by rfl, ?_⟩) hHeld ?_ ?_
         rotate_left
         ·rintro w' ⟨s0, s1, s2⟩
          have z1 : w'.cell? ⟨g11, 6, none⟩ = some (.slice q2.a3 v.l3.length q2.c3) := by rw [← LQ]; exact (blk_cell s2 6).trans rfl
          go_simp
          with_reducible rfl
         rotate_left
         ·simp only [Act.put, sA_, sB_, sC_, i64_w, i32_w]
          rfl
         refine pure_ (i := 4) (N := (some 126)) (v := ?_) (a' := ?_) (bl 32 5 []) rfl rfl (by kernel_rfl) (fun _ _ _ h => h) (Or.inl ⟨by rfl, ?_⟩) ?_ ?_
         rotate_left
         ·intro w'
          go_simp
          with_reducible rfl
         rotate_left
         ·simp only [Act.put, sA_, sB_, sC_, i64_w, i32_w]
          rfl
         refine pure_ (i := 5) (N := (some 127)) (v := ?_) (a' := ?_) (bl 32 6 []) rfl rfl (by kernel_rfl) (fun _ _ _ h => h) (Or.inl ⟨by rfl, ?_⟩) ?_ ?_
         rotate_left
         ·intro w'
          go_simp
          with_reducible rfl
         rotate_left
         ·simp only [Act.put, sA_, sB_, sC_, i64_w, i32_w]
          rfl
         refine pure_ (i := 6) (N := (some 128)) (v := ?_) (a' := ?_) (bl 32 7 []) rfl rfl (by kernel_rfl) (fun _ _ _ h => h) (Or.inl ⟨by rfl, ?_⟩) ?_ ?_
         rotate_left
         ·intro w'
          go_simp
          with_reducible rfl
         rotate_left
         ·simp only [Act.put, sA_, sB_, sC_, i64_w, i32_w]
          rfl
         refine pure_ (i := 7) (N := (some 129)) (v := ?_) (a' := ?_) (bl 32 8 []) rfl rfl (by kernel_rfl) (fun _ _ _ h => h) (Or.inl ⟨by rfl, ?_⟩) ?_ ?_
         rotate_left
         ·intro w'
          go_simp
          with_reducible rfl
         rotate_left
         ·simp only [Act.put, sA_, sB_, sC_, i64_w, i32_w]
          rfl
         refine pure_ (i := 8) (N := (some 130)) (v := ?_) (a' := ?_) (bl 32 9 []) rfl rfl (by kernel_rfl) (fun _ _ _ h => h) (Or.inl ⟨by rfl, ?_⟩) ?_ ?_
         rotate_left
         ·intro w'
          go_simp
          with_reducible rfl
         rotate_left
         ·simp only [Act.put, sA_, sB_, sC_, i64_w, i32_w]
          rfl
         refine pure_ (i := 9) (N := (some 131)) (v := ?_) (a' := ?_) (bl 32 10 []) rfl rfl (by kernel_rfl) (fun _ _ _ h => h) (Or.inl ⟨by rfl, ?_⟩) ?_ ?_
         rotate_left
         ·intro w'
          go_simp
          with_reducible rfl
         rotate_left
         ·simp only [Act.put, sA_, sB_, sC_, i64_w, i32_w]
          rfl
         refine take_ (i := 10) (N := (some 132)) (v := ?_) (a' := ?_) (bl 32 11 []) rfl rfl (by kernel_rfl) (fun _ _ _ h => h) (Or.inl ⟨by rfl, ?_⟩) hHeld ?_ ?_
         rotate_left
         ·rintro w' ⟨s0, s1, s2⟩
          have z3 : w'.cell? ⟨g7, 0, none⟩ = some (.int .i64 0) := (blk_cell s1 0).trans rfl
          go_simp
          with_reducible rfl
         rotate_left
         ·simp only [Act.put, sA_, sB_, sC_, i64_w, i32_w]
          rfl
         refine pure_ (i := 11) (N := (some 133)) (v := ?_) (a' := ?_) (bl 32 12 []) rfl rfl (by kernel_rfl) (fun _ _ _ h => h) (Or.inl ⟨by rfl, ?_⟩) ?_ ?_
         rotate_left
         ·intro w'
          go_simp
          with_reducible rfl
         rotate_left
         ·simp only [Act.put, sA_, sB_, sC_, i64_w, i32_w]
          rfl
         refine pure_ (i := 12) (N := (some 134)) (v := ?_) (a' := ?_) (bl 32 13 []) rfl rfl (by kernel_rfl) (fun _ _ _ h => h) (Or.inl ⟨by rfl, ?_⟩) ?_ ?_
         rotate_left
         ·intro w'
          go_simp
          with_reducible rfl
         rotate_left
         ·simp only [Act.put, sA_, sB_, sC_, i64_w, i32_w]
          rfl
         refine pure_ (i := 13) (N := (some 135)) (v := ?_) (a' := ?_) (bl 32 14 []) rfl rfl (by kernel_rfl) (fun _ _ _ h => h) (Or.inl ⟨by rfl, ?_⟩) ?_ ?_
         rotate_left
         ·intro w'
          go_simp
          with_reducible rfl
         rotate_left
         ·simp only [Act.put, sA_, sB_, sC_, i64_w, i32_w]
          rfl
         refine pure_ (i := 14) (N := (some 136)) (v := ?_) (a' := ?_) (bl 32 15 []) rfl rfl (by kernel_rfl) (fun _ _ _ h => h) (Or.inl ⟨by rfl, ?_⟩) ?_ ?_
         rotate_left
         ·intro w'
          go_simp
          with_reducible rfl
         rotate_left
         ·simp only [Act.put, sA_, sB_, sC_, i64_w, i32_w]
          rfl
         refine take_ (i := 15) (N := (some 137)) (v := ?_) (a' := ?_) (bl 32 16 []) rfl rfl (by kernel_rfl) (fun _ _ _ h => h) (Or.inl ⟨by rfl, ?_⟩) hHeld ?_ ?_
         rotate_left
         ·rintro w' ⟨s0, s1, s2⟩
          have z3 : w'.cell? ⟨g7, 0, none⟩ = some (.int .i64 0) := (blk_cell s1 0).trans rfl
          go_simp
          with_reducible rfl
         rotate_left
         ·simp only [Act.put, sA_, sB_, sC_, i64_w, i32_w]
          rfl
         refine pure_ (i := 16) (N := (some 138)) (v := ?_) (a' := ?_) (bl 32 17 []) rfl rfl (by kernel_rfl) (fun _ _ _ h => h) (Or.inl ⟨by rfl, ?_⟩) ?_ ?_
         rotate_left
         ·intro w'
          go_simp
          with_reducible rfl
         rotate_left
         ·simp only [Act.put, sA_, sB_, sC_, i64_w, i32_w]
          rfl
         rw [show wrap64 (1 : Int) = 1 from by unfold wrap64; omega]
         refine pure_ (i := 17) (N := (some 139)) (v := ?_) (a' := ?_) (bl 32 18 []) rfl rfl (by kernel_rfl) (fun _ _ _ h => h) (Or.inl ⟨by rfl, ?_⟩) ?_ ?_
         rotate_left
         ·intro w'
          go_simp
          with_reducible rfl
         rotate_left
         ·simp only [Act.put, sA_, sB_, sC_, i64_w, i32_w]
          rfl
         refine pure_ (i := 18) (N := (some 140)) (v := ?_) (a' := ?_) (bl 32 19 []) rfl rfl (by kernel_rfl) (fun _ _ _ h => h) (Or.inl ⟨by rfl, ?_⟩) ?_ ?_
         rotate_left
         ·intro w'
          go_simp
          with_reducible rfl
         rotate_left
         ·simp only [Act.put, sA_, sB_, sC_, i64_w, i32_w]
          rfl
         refine pure_ (i := 19) (N := (some 141)) (v := ?_) (a' := ?_) (bl 32 20 []) rfl rfl (by kernel_rfl) (fun _ _ _ h => h) (Or.inl ⟨by rfl, ?_⟩) ?_ ?_
         rotate_left
         ·intro w'
          go_simp
          with_reducible rfl
         rotate_left
         ·simp only [Act.put, sA_, sB_, sC_, i64_w, i32_w]
          rfl
         refine pure_ (i := 20) (N := (some 142)) (v := ?_) (a' := ?_) (bl 32 21 []) rfl rfl (by kernel_rfl) (fun _ _ _ h => h) (Or.inl ⟨by rfl, ?_⟩) ?_ ?_
         rotate_left
         ·intro w'
          go_simp
          with_reducible rfl
         rotate_left
         ·simp only [Act.put, sA_, sB_, sC_, i64_w, i32_w]
          rfl
         refine pure_ (i := 21) (N := (some 143)) (v := ?_) (a' := ?_) (bl 32 22 []) rfl rfl (by kernel_rfl) (fun _ _ _ h => h) (Or.inl ⟨by rfl, ?_⟩) ?_ ?_
         rotate_left
         ·intro w'
          go_simp
          with_reducible rfl
         rotate_left
         ·simp only [Act.put, sA_, sB_, sC_, i64_w, i32_w]
          rfl
         refine pure_ (i := 22) (N := (some 144)) (v := ?_) (a' := ?_) (bl 32 23 []) rfl rfl (by kernel_rfl) (fun _ _ _ h => h) (Or.inl ⟨by rfl, ?_⟩) ?_ ?_
         rotate_left
         ·intro w'
          go_simp
          with_reducible rfl
         rotate_left
         ·simp only [Act.put, sA_, sB_, sC_, i64_w, i32_w]
          rfl
         refine take_ (i := 23) (N := (some 145)) (v := ?_) (a' := ?_) (bl 32 24 []) rfl rfl (by kernel_rfl) (fun _ _ _ h => h) (Or.inl ⟨by rfl, ?_⟩) hHeld ?_ ?_
         rotate_left
         ·rintro w' ⟨s0, s1, s2⟩
          have z1 : w'.cell? ⟨g11, 6, none⟩ = some (.slice q2.a3 v.l3.length q2.c3) := by rw [← LQ]; exact (blk_cell s2 6).trans rfl
          go_simp
          with_reducible rfl
         rotate_left
         ·simp only [Act.put, sA_, sB_, sC_, i64_w, i32_w]
          rfl
         refine pure_ (i := 24) (N := (some 146)) (v := ?_) (a' := ?_) (bl 32 25 []) rfl rfl (by kernel_rfl) (fun _ _ _ h => h) (Or.inl ⟨by rfl, ?_⟩) ?_ ?_
         rotate_left
         ·intro w'
          go_simp
          with_reducible rfl
         rotate_left
         ·simp only [Act.put, sA_, sB_, sC_, i64_w, i32_w]
          rfl
         refine pure_ (i := 25) (N := (some 147)) (v := ?_) (a' := ?_) (bl 32 26 []) rfl rfl (by kernel_rfl) (fun _ _ _ h => h) (Or.inl ⟨by rfl, ?_⟩) ?_ ?_
         rotate_left
         ·intro w'
          go_simp
          with_reducible rfl
         rotate_left
         ·simp only [Act.put, sA_, sB_, sC_, i64_w, i32_w]
          rfl
         refine pure_ (i := 26) (N := (some 148)) (v := ?_) (a' := ?_) (bl 32 27 []) rfl rfl (by kernel_rfl) (fun _ _ _ h => h) (Or.inl ⟨by rfl, ?_⟩) ?_ ?_
         rotate_left
         ·intro w'
          go_simp
          with_reducible rfl
         rotate_left
         ·simp only [Act.put, sA_, sB_, sC_, i64_w, i32_w]
          rfl
         refine take_ (i := 27) (N := (some 149)) (v := ?_) (a' := ?_) (bl 32 28 []) rfl rfl (by kernel_rfl) (fun _ _ _ h => h) (Or.inl ⟨by rfl, ?_⟩) hHeld ?_ ?_
         rotate_left
         ·rintro w' ⟨s0, s1, s2⟩
          have z2 : w'.cell? ⟨w.heap.size, 6, none⟩ = some (.slice p.a3 v.l3.length p.c3) := (blk_cell s0 6).trans rfl
          go_simp
          with_reducible rfl
         rotate_left
         ·simp only [Act.put, sA_, sB_, sC_, i64_w, i32_w]
          rfl
         refine one_ (i := 28) (N := (some 150)) (bl 32 29 []) rfl rfl (by kernel_rfl) (by decide) (fun K hK => ?_)
         refine goes_ Try.func47 (by kernel_rfl) rfl #[.slice q2.a3 v.l3.length q2.c3, .slice p.a3 v.l3.length p.c3] (by rfl) rfl rfl (by (try simp only [List.map_toArray, List.map_cons, List.map_nil]); first | done | rfl) ?_
         (with_reducible refine (SMET wd HBWd.out HBd.out).mono ?_)
         rintro e wA ⟨rfl, hb⟩
         refine ⟨_, rfl, ?_⟩
         have HBWA := Aside0.mk (below_step HBWd.out hb)
         clear HBWd HBd
         have hOld := hHeld
         clear hHeld
         refine hK.out _ _ (⟨blk_below hOld.1 hb, blk_below hOld.2.1 hb, blk_below hOld.2.2 hb⟩) (fun hHeld => ?_)
         clear hOld hK K
         refine norm_ (a' := ?_) ?_ ?_
         rotate_left
         ·show Act.put _ (some 150) _ = _
          simp only [Act.put, List.setIfInBounds_toArray, List.set_cons_zero, List.set_cons_succ, i64_w, i32_w]
          rfl
         refine pure_ (i := 29) (N := (some 151)) (v := ?_) (a' := ?_) (bl 32 30 []) rfl rfl (by kernel_rfl) (fun _ _ _ h => h) (Or.inl ⟨by rfl, ?_⟩) ?_ ?_
         rotate_left
         ·intro w'
          go_simp
          with_reducible rfl
         rotate_left
         ·simp only [Act.put, sA_, sB_, sC_, i64_w, i32_w]
          rfl
         refine pure_ (i := 30) (N := (some 152)) (v := ?_) (a' := ?_) (bl 32 31 []) rfl rfl (by kernel_rfl) (fun _ _ _ h => h) (Or.inl ⟨by rfl, ?_⟩) ?_ ?_
         rotate_left
         ·intro w'
          go_simp
          with_reducible rfl
         rotate_left
         ·simp only [Act.put, sA_, sB_, sC_, i64_w, i32_w]
          rfl
         refine pure_ (i := 31) (N := (some 153)) (v := ?_) (a' := ?_) (bl 32 32 []) rfl rfl (by kernel_rfl) (fun _ _ _ h => h) (Or.inl ⟨by rfl, ?_⟩) ?_ ?_
         rotate_left
         ·intro w'
          go_simp
          with_reducible rfl
         rotate_left
         ·simp only [Act.put, sA_, sB_, sC_, i64_w, i32_w]
          rfl
         refine done_ (by kernel_rfl) ?_
         clear hHeld
         go_wp2_with fail
         go_roundg z
         case measure => omega
         case rel => exact ⟨4, rfl, ⟨by have := HK.out; omega⟩, HBWA⟩
     ·have WIN := Aside0.mk (show wrap64 ((v.l1.length : Int) - (In.length : Int)) = (u.l1.length : Int) from WR1 _ _ _ (ULI.out) (LV.out 1 (by omega)))
      have WOV := Aside0.mk (show wrap64 (wrap64 ((v.l2.length : Int) - (Ov.length : Int)) + (out.length : Int)) = (u.l2.length : Int) from WR2 _ _ _ _ ULV.out (LV.out 2 (by omega)) LOUT.out OVL.out)
      go_wp2_with fail
      go_loopg [13, 14] 4 (fun kq v13 v14 w' => ∃ x : Int, v13 = .int .i64 x ∧ Aside0 ((kq : Int) + x = 4 ∧ 0 ≤ x) ∧ Aside0 (Below w9.heap.size w9 w'))
      case atStart => exact ⟨0, rfl, ⟨by omega⟩, ⟨Below.refl _ _⟩⟩
      case round =>
       obtain ⟨x, rfl, HK, HBW⟩ := hrel
       have HBr := Aside0.mk (below_step HB9.out HBW.out)
       cases gk with
       | zero =>
        obtain rfl : x = 4 := by have := HK.out; omega
        go_wp2_with fail
        refine (awake16_calls _).mono ?_
        rintro x w9 ⟨rfl, hb⟩
        have HB9 := Aside0.mk (below_step HBr.out hb)
        clear hb
        go_wp2_with fail
        go_ret
        exact ⟨rfl, HB9.out⟩
       | succ z =>
        have X1r := Aside0.mk (blk_below X19.out HBW.out)
        have X7r := Aside0.mk (blk_below X79.out HBW.out)
        have X11r := Aside0.mk (blk_below X119.out HBW.out)
        rcases (by have := HK.out; omega : x = 0 ∨ x = 1 ∨ x = 2 ∨ x = 3) with rfl | rfl | rfl | rfl
        ·have b3 : wr.cell? ⟨w.heap.size, 3, none⟩ = some (.slice p.a0 v.l0.length p.c0) := (blk_cell X1r.out 3).trans rfl
         have k0 : wr.cell? ⟨g7, 0, none⟩ = some (.int .i64 1) := (blk_cell X7r.out 0).trans rfl
         have k1 : wr.cell? ⟨g7, 1, none⟩ = some (.slice Ai In.length ci) := (blk_cell X7r.out 1).trans rfl
         have k2 : wr.cell? ⟨g7, 2, none⟩ = some (.slice Ao Ov.length co) := (blk_cell X7r.out 2).trans rfl
         have c3 : wr.cell? ⟨g11, 3, none⟩ = some (.slice q2.a0 u.l0.length q2.c0) := (blk_cell X11r.out 3).trans rfl
         have LQ : u.l0 = v.l0 := ULO.out 0 (by omega) (by omega) (by omega)
         have SMET := fun (w' : World) (h1 : Below w9.heap.size w9 w') (h2 : Below w.heap.size w w') => sameM_true w' q2.a0 p.a0 q2.c0 p.c0 v.l0 v.l0 (by rw [← LQ]; exact Kd.C_below (VU9.out 0 (by omega)).1 h1) (Kd.C_below (HC.out 0 (by omega)).1 h2) rfl
         go_upto_region 18 with (fail)
         clear b3 c3 k0 k1 k2
         refine start_ (n := 32) (S := (fun w' => w'.heap[w.heap.size]? = some (.cells (vCs v p) 26 (0, 0)) ∧ w'.heap[g7]? = some (.cells #[.int .i64 1, .slice Ai In.length ci, .slice Ao Ov.length co] 52 (0, 0)) ∧ w'.heap[g11]? = some (.cells (vCs u q2) 26 (0, 0)))) (ds := []) (bl 32 0 []) (by kernel_rfl) rfl (by kernel_rfl) ⟨blk_drew X1r.out, blk_drew X7r.out, blk_drew X11r.out⟩ (fun hHeld => ?_)
         have HBd := Aside0.mk (below_drew HBr.out)
         have HBWd := Aside0.mk (below_drew HBW.out)
         clear X1r X7r X11r HBr HBW
         generalize wr.drew = wd at *
         refine pure_ (i := 0) (N := (some 122)) (v := ?_) (a' := ?_) (bl 32 1 []) rfl rfl (by kernel_rfl) (fun _ _ _ h => h) (Or.inl ⟨by rfl, ?_⟩) ?_ ?_
         rotate_left
         ·intro w'
          go_simp
          with_reducible rfl
         rotate_left
         ·simp only [Act.put, sA_, sB_, sC_, i64_w, i32_w]
          rfl
         refine pure_ (i := 1) (N := (some 123)) (v := ?_) (a' := ?_) (bl 32 2 []) rfl rfl (by kernel_rfl) (fun _ _ _ h => h) (Or.inl ⟨by rfl, ?_⟩) ?_ ?_
         rotate_left
         ·intro w'
          go_simp
          with_reducible rfl
         rotate_left
         ·simp only [Act.put, sA_, sB_, sC_, i64_w, i32_w]
          rfl
         refine pure_ (i := 2) (N := (some 124)) (v := ?_) (a' := ?_) (bl 32 3 []) rfl rfl (by kernel_rfl) (fun _ _ _ h => h) (Or.inl ⟨by rfl, ?_⟩) ?_ ?_
         rotate_left
         ·intro w'
          go_simp
          with_reducible rfl
         rotate_left
         ·simp only [Act.put, sA_, sB_, sC_, i64_w, i32_w]
          rfl
         refine take_ (i := 3) (N := (some 125)) (v := ?_) (a' := ?_) (bl 32 4 []) rfl rfl (by kernel_rfl) (fun _ _ _ h => h) (Or.inl ⟨by rfl, ?_⟩) hHeld ?_ ?_
         rotate_left
         ·rintro w' ⟨s0, s1, s2⟩
          have z1 : w'.cell? ⟨g11, 3, none⟩ = some (.slice q2.a0 v.l0.length q2.c0) := by rw [← LQ]; exact (blk_cell s2 3).trans rfl
          go_simp
          with_reducible rfl
         rotate_left
         ·simp only [Act.put, sA_, sB_, sC_, i64_w, i32_w]
          rfl
         refine pure_ (i := 4) (N := (some 126)) (v := ?_) (a' := ?_) (bl 32 5 []) rfl rfl (by kernel_rfl) (fun _ _ _ h => h) (Or.inl ⟨by rfl, ?_⟩) ?_ ?_
         rotate_left
         ·intro w'
          go_simp
          with_reducible rfl
         rotate_left
         ·simp only [Act.put, sA_, sB_, sC_, i64_w, i32_w]
          rfl
         refine pure_ (i := 5) (N := (some 127)) (v := ?_) (a' := ?_) (bl 32 6 []) rfl rfl (by kernel_rfl) (fun _ _ _ h => h) (Or.inl ⟨by rfl, ?_⟩) ?_ ?_
         rotate_left
         ·intro w'
          go_simp
          with_reducible rfl
         rotate_left
         ·simp only [Act.put, sA_, sB_, sC_, i64_w, i32_w]
          rfl
         refine pure_ (i := 6) (N := (some 128)) (v := ?_) (a' := ?_) (bl 32 7 []) rfl rfl (by kernel_rfl) (fun _ _ _ h => h) (Or.inl ⟨by rfl, ?_⟩) ?_ ?_
         rotate_left
         ·intro w'
          go_simp
          with_reducible rfl
         rotate_left
         ·simp only [Act.put, sA_, sB_, sC_, i64_w, i32_w]
          rfl
         refine pure_ (i := 7) (N := (some 129)) (v := ?_) (a' := ?_) (bl 32 8 []) rfl rfl (by kernel_rfl) (fun _ _ _ h => h) (Or.inl ⟨by rfl, ?_⟩) ?_ ?_
         rotate_left
         ·intro w'
          go_simp
          with_reducible rfl
         rotate_left
         ·simp only [Act.put, sA_, sB_, sC_, i64_w, i32_w]
          rfl
         refine pure_ (i := 8) (N := (some 130)) (v := ?_) (a' := ?_) (bl 32 9 []) rfl rfl (by kernel_rfl) (fun _ _ _ h => h) (Or.inl ⟨by rfl, ?_⟩) ?_ ?_
         rotate_left
         ·intro w'
          go_simp
          with_reducible rfl
         rotate_left
         ·simp only [Act.put, sA_, sB_, sC_, i64_w, i32_w]
          rfl
         refine pure_ (i := 9) (N := (some 131)) (v := ?_) (a' := ?_) (bl 32 10 []) rfl rfl (by kernel_rfl) (fun _ _ _ h => h) (Or.inl ⟨by rfl, ?_⟩) ?_ ?_
         rotate_left
         ·intro w'
          go_simp
          with_reducible rfl
         rotate_left
         ·simp only [Act.put, sA_, sB_, sC_, i64_w, i32_w]
          rfl
         refine take_ (i := 10) (N := (some 132)) (v := ?_) (a' := ?_) (bl 32 11 []) rfl rfl (by kernel_rfl) (fun _ _ _ h => h) (Or.inl ⟨by rfl, ?_⟩) hHeld ?_ ?_
         rotate_left
         ·rintro w' ⟨s0, s1, s2⟩
          have z3 : w'.cell? ⟨g7, 0, none⟩ = some (.int .i64 1) := (blk_cell s1 0).trans rfl
          go_simp
          with_reducible rfl
         rotate_left
         ·simp only [Act.put, sA_, sB_, sC_, i64_w, i32_w]
          rfl
         refine pure_ (i := 11) (N := (some 133)) (v := ?_) (a' := ?_) (bl 32 12 []) rfl rfl (by kernel_rfl) (fun _ _ _ h => h) (Or.inl ⟨by rfl, ?_⟩) ?_ ?_
         rotate_left
         ·intro w'
          go_simp
          with_reducible rfl
         rotate_left
         ·simp only [Act.put, sA_, sB_, sC_, i64_w, i32_w]
          rfl
         refine pure_ (i := 12) (N := (some 134)) (v := ?_) (a' := ?_) (bl 32 13 []) rfl rfl (by kernel_rfl) (fun _ _ _ h => h) (Or.inl ⟨by rfl, ?_⟩) ?_ ?_
         rotate_left
         ·intro w'
          go_simp
          with_reducible rfl
         rotate_left
         ·simp only [Act.put, sA_, sB_, sC_, i64_w, i32_w]
          rfl
         refine pure_ (i := 13) (N := (some 135)) (v := undef) (a' := ?_) (bl 32 14 []) rfl rfl (by kernel_rfl) (fun _ _ _ h => h) (Or.inr ⟨by rfl, rfl⟩) ?_ ?_
         rotate_left
         ·simp only [Act.put, sA_, sB_, sC_, i64_w, i32_w]
          rfl
         refine pure_ (i := 14) (N := (some 136)) (v := undef) (a' := ?_) (bl 32 15 []) rfl rfl (by kernel_rfl) (fun _ _ _ h => h) (Or.inr ⟨by rfl, rfl⟩) ?_ ?_
         rotate_left
         ·simp only [Act.put, sA_, sB_, sC_, i64_w, i32_w]
          rfl
         refine pure_ (i := 15) (N := (some 137)) (v := undef) (a' := ?_) (bl 32 16 []) rfl rfl (by kernel_rfl) (fun _ _ _ h => h) (Or.inr ⟨by rfl, rfl⟩) ?_ ?_
         rotate_left
         ·simp only [Act.put, sA_, sB_, sC_, i64_w, i32_w]
          rfl
         refine pure_ (i := 16) (N := (some 138)) (v := undef) (a' := ?_) (bl 32 17 []) rfl rfl (by kernel_rfl) (fun _ _ _ h => h) (Or.inr ⟨by rfl, rfl⟩) ?_ ?_
         rotate_left
         ·simp only [Act.put, sA_, sB_, sC_, i64_w, i32_w]
          rfl
         refine pure_ (i := 17) (N := (some 139)) (v := undef) (a' := ?_) (bl 32 18 []) rfl rfl (by kernel_rfl) (fun _ _ _ h => h) (Or.inr ⟨by rfl, rfl⟩) ?_ ?_
         rotate_left
         ·simp only [Act.put, sA_, sB_, sC_, i64_w, i32_w]
          rfl
         refine pure_ (i := 18) (N := (some 140)) (v := ?_) (a' := ?_) (bl 32 19 []) rfl rfl (by kernel_rfl) (fun _ _ _ h => h) (Or.inl ⟨by rfl, ?_⟩) ?_ ?_
         rotate_left
         ·intro w'
          go_simp
          with_reducible rfl
         rotate_left
         ·simp only [Act.put, sA_, sB_, sC_, i64_w, i32_w]
          rfl
         refine pure_ (i := 19) (N := (some 141)) (v := ?_) (a' := ?_) (bl 32 20 []) rfl rfl (by kernel_rfl) (fun _ _ _ h => h) (Or.inl ⟨by rfl, ?_⟩) ?_ ?_
         rotate_left
         ·intro w'
          go_simp
          with_reducible rfl
         rotate_left
         ·simp only [Act.put, sA_, sB_, sC_, i64_w, i32_w]
          rfl
         refine pure_ (i := 20) (N := (some 142)) (v := ?_) (a' := ?_) (bl 32 21 []) rfl rfl (by kernel_rfl) (fun _ _ _ h => h) (Or.inl ⟨by rfl, ?_⟩) ?_ ?_
         rotate_left
         ·intro w'
          go_simp
          with_reducible rfl
         rotate_left
         ·simp only [Act.put, sA_, sB_, sC_, i64_w, i32_w]
          rfl
         refine pure_ (i := 21) (N := (some 143)) (v := ?_) (a' := ?_) (bl 32 22 []) rfl rfl (by kernel_rfl) (fun _ _ _ h => h) (Or.inl ⟨by rfl, ?_⟩) ?_ ?_
         rotate_left
         ·intro w'
          go_simp
          with_reducible rfl
         rotate_left
         ·simp only [Act.put, sA_, sB_, sC_, i64_w, i32_w]
          rfl
         refine pure_ (i := 22) (N := (some 144)) (v := ?_) (a' := ?_) (bl 32 23 []) rfl rfl (by kernel_rfl) (fun _ _ _ h => h) (Or.inl ⟨by rfl, ?_⟩) ?_ ?_
         rotate_left
         ·intro w'
          go_simp
          with_reducible rfl
         rotate_left
         ·simp only [Act.put, sA_, sB_, sC_, i64_w, i32_w]
          rfl
         refine take_ (i := 23) (N := (some 145)) (v := ?_) (a' := ?_) (bl 32 24 []) rfl rfl (by kernel_rfl) (fun _ _ _ h => h) (Or.inl ⟨by rfl, ?_⟩) hHeld ?_ ?_
         rotate_left
         ·rintro w' ⟨s0, s1, s2⟩
          have z1 : w'.cell? ⟨g11, 3, none⟩ = some (.slice q2.a0 v.l0.length q2.c0) := by rw [← LQ]; exact (blk_cell s2 3).trans rfl
          go_simp
          with_reducible rfl
         rotate_left
         ·simp only [Act.put, sA_, sB_, sC_, i64_w, i32_w]
          rfl
         refine pure_ (i := 24) (N := (some 146)) (v := ?_) (a' := ?_) (bl 32 25 []) rfl rfl (by kernel_rfl) (fun _ _ _ h => h) (Or.inl ⟨by rfl, ?_⟩) ?_ ?_
         rotate_left
         ·intro w'
          go_simp
          with_reducible rfl
         rotate_left
         ·simp only [Act.put, sA_, sB_, sC_, i64_w, i32_w]
          rfl
         refine pure_ (i := 25) (N := (some 147)) (v := ?_) (a' := ?_) (bl 32 26 []) rfl rfl (by kernel_rfl) (fun _ _ _ h => h) (Or.inl ⟨by rfl, ?_⟩) ?_ ?_
         rotate_left
         ·intro w'
          go_simp
          with_reducible rfl
         rotate_left
         ·simp only [Act.put, sA_, sB_, sC_, i64_w, i32_w]
          rfl
         refine pure_ (i := 26) (N := (some 148)) (v := ?_) (a' := ?_) (bl 32 27 []) rfl rfl (by kernel_rfl) (fun _ _ _ h => h) (Or.inl ⟨by rfl, ?_⟩) ?_ ?_
         rotate_left
         ·intro w'
          go_simp
          with_reducible rfl
         rotate_left
         ·simp only [Act.put, sA_, sB_, sC_, i64_w, i32_w]
          rfl
         refine take_ (i := 27) (N := (some 149)) (v := ?_) (a' := ?_) (bl 32 28 []) rfl rfl (by kernel_rfl) (fun _ _ _ h => h) (Or.inl ⟨by rfl, ?_⟩) hHeld ?_ ?_
         rotate_left
         ·rintro w' ⟨s0, s1, s2⟩
          have z2 : w'.cell? ⟨w.heap.size, 3, none⟩ = some (.slice p.a0 v.l0.length p.c0) := (blk_cell s0 3).trans rfl
          go_simp
          with_reducible rfl
         rotate_left
         ·simp only [Act.put, sA_, sB_, sC_, i64_w, i32_w]
          rfl
         refine one_ (i := 28) (N := (some 150)) (bl 32 29 []) rfl rfl (by kernel_rfl) (by decide) (fun K hK => ?_)
         refine goes_ Try.func47 (by kernel_rfl) rfl #[.slice q2.a0 v.l0.length q2.c0, .slice p.a0 v.l0.length p.c0] (by rfl) rfl rfl (by (try simp only [List.map_toArray, List.map_cons, List.map_nil]); first | done | rfl) ?_
         (with_reducible refine (SMET wd HBWd.out HBd.out).mono ?_)
         rintro e wA ⟨rfl, hb⟩
         refine ⟨_, rfl, ?_⟩
         have HBWA := Aside0.mk (below_step HBWd.out hb)
         clear HBWd HBd
         have hOld := hHeld
         clear hHeld
         refine hK.out _ _ (⟨blk_below hOld.1 hb, blk_below hOld.2.1 hb, blk_below hOld.2.2 hb⟩) (fun hHeld => ?_)
         clear hOld hK K
         refine norm_ (a' := ?_) ?_ ?_
         rotate_left
         ·show Act.put _ (some 150) _ = _
          simp only [Act.put, List.setIfInBounds_toArray, List.set_cons_zero, List.set_cons_succ, i64_w, i32_w]
          rfl
         refine pure_ (i := 29) (N := (some 151)) (v := ?_) (a' := ?_) (bl 32 30 []) rfl rfl (by kernel_rfl) (fun _ _ _ h => h) (Or.inl ⟨by rfl, ?_⟩) ?_ ?_
         rotate_left
         ·intro w'
          go_simp
          with_reducible rfl
         rotate_left
         ·simp only [Act.put, sA_, sB_, sC_, i64_w, i32_w]
          rfl
         refine pure_ (i := 30) (N := (some 152)) (v := ?_) (a' := ?_) (bl 32 31 []) rfl rfl (by kernel_rfl) (fun _ _ _ h => h) (Or.inl ⟨by rfl, ?_⟩) ?_ ?_
         rotate_left
         ·intro w'
          go_simp
          with_reducible rfl
         rotate_left
         ·simp only [Act.put, sA_, sB_, sC_, i64_w, i32_w]
          rfl
         refine pure_ (i := 31) (N := (some 153)) (v := ?_) (a' := ?_) (bl 32 32 []) rfl rfl (by kernel_rfl) (fun _ _ _ h => h) (Or.inl ⟨by rfl, ?_⟩) ?_ ?_
         rotate_left
         ·intro w'
          go_simp
          with_reducible rfl
         rotate_left
         ·simp only [Act.put, sA_, sB_, sC_, i64_w, i32_w]
          rfl
         refine done_ (by kernel_rfl) ?_
         clear hHeld
         go_wp2_with fail
         go_roundg z
         case measure => omega
         case rel => exact ⟨1, rfl, ⟨by have := HK.out; omega⟩, HBWA⟩
        ·have b4 : wr.cell? ⟨w.heap.size, 4, none⟩ = some (.slice p.a1 v.l1.length p.c1) := (blk_cell X1r.out 4).trans rfl
         have k0 : wr.cell? ⟨g7, 0, none⟩ = some (.int .i64 1) := (blk_cell X7r.out 0).trans rfl
         have k1 : wr.cell? ⟨g7, 1, none⟩ = some (.slice Ai In.length ci) := (blk_cell X7r.out 1).trans rfl
         have k2 : wr.cell? ⟨g7, 2, none⟩ = some (.slice Ao Ov.length co) := (blk_cell X7r.out 2).trans rfl
         have c4 : wr.cell? ⟨g11, 4, none⟩ = some (.slice q2.a1 u.l1.length q2.c1) := (blk_cell X11r.out 4).trans rfl
         go_upto_region 18 with (fail)
         rw [WIN.out]
         go_quiet (fail)
         go_wp2_with fail
         go_roundg z
         case measure => omega
         case rel => exact ⟨2, rfl, ⟨by have := HK.out; omega⟩, ⟨pw_below_drewN HBW.out nq⟩⟩
        ·have b5 : wr.cell? ⟨w.heap.size, 5, none⟩ = some (.slice p.a2 v.l2.length p.c2) := (blk_cell X1r.out 5).trans rfl
         have k0 : wr.cell? ⟨g7, 0, none⟩ = some (.int .i64 1) := (blk_cell X7r.out 0).trans rfl
         have k1 : wr.cell? ⟨g7, 1, none⟩ = some (.slice Ai In.length ci) := (blk_cell X7r.out 1).trans rfl
         have k2 : wr.cell? ⟨g7, 2, none⟩ = some (.slice Ao Ov.length co) := (blk_cell X7r.out 2).trans rfl
         have c5 : wr.cell? ⟨g11, 5, none⟩ = some (.slice q2.a2 u.l2.length q2.c2) := (blk_cell X11r.out 5).trans rfl
         go_upto_region 18 with (fail)
         rw [WOV.out]
         go_quiet (fail)
         go_wp2_with fail
         go_roundg z
         case measure => omega
         case rel => exact ⟨3, rfl, ⟨by have := HK.out; omega⟩, ⟨pw_below_drewN HBW.out nq⟩⟩
        ·have b6 : wr.cell? ⟨w.heap.size, 6, none⟩ = some (.slice p.a3 v.l3.length p.c3) := (blk_cell X1r.out 6).trans rfl
         have k0 : wr.cell? ⟨g7, 0, none⟩ = some (.int .i64 1) := (blk_cell X7r.out 0).trans rfl
         have k1 : wr.cell? ⟨g7, 1, none⟩ = some (.slice Ai In.length ci) := (blk_cell X7r.out 1).trans rfl
         have k2 : wr.cell? ⟨g7, 2, none⟩ = some (.slice Ao Ov.length co) := (blk_cell X7r.out 2).trans rfl
         have c6 : wr.cell? ⟨g11, 6, none⟩ = some (.slice q2.a3 u.l3.length q2.c3) := (blk_cell X11r.out 6).trans rfl
         have LQ : u.l3 = v.l3 := ULO.out 3 (by omega) (by omega) (by omega)
         have SMET := fun (w' : World) (h1 : Below w9.heap.size w9 w') (h2 : Below w.heap.size w w') => sameM_true w' q2.a3 p.a3 q2.c3 p.c3 v.l3 v.l3 (by rw [← LQ]; exact Kd.C_below (VU9.out 3 (by omega)).1 h1) (Kd.C_below (HC.out 3 (by omega)).1 h2) rfl
         go_upto_region 18 with (fail)
         clear b6 c6 k0 k1 k2
         refine start_ (n := 32) (S := (fun w' => w'.heap[w.heap.size]? = some (.cells (vCs v p) 26 (0, 0)) ∧ w'.heap[g7]? = some (.cells #[.int .i64 1, .slice Ai In.length ci, .slice Ao Ov.length co] 52 (0, 0)) ∧ w'.heap[g11]? = some (.cells (vCs u q2) 26 (0, 0)))) (ds := []) (bl 32 0 []) (by kernel_rfl) rfl (by kernel_rfl) ⟨blk_drew X1r.out, blk_drew X7r.out, blk_drew X11r.out⟩ (fun hHeld => ?_)
         have HBd := Aside0.mk (below_drew HBr.out)
         have HBWd := Aside0.mk (below_drew HBW.out)
         clear X1r X7r X11r HBr HBW
         generalize wr.drew = wd at *
         refine pure_ (i := 0) (N := (some 122)) (v := ?_) (a' := ?_) (bl 32 1 []) rfl rfl (by kernel_rfl) (fun _ _ _ h => h) (Or.inl ⟨by rfl, ?_⟩) ?_ ?_
         rotate_left
         ·intro w'
          go_simp
          with_reducible rfl
         rotate_left
         ·simp only [Act.put, sA_, sB_, sC_, i64_w, i32_w]
          rfl
         refine pure_ (i := 1) (N := (some 123)) (v := ?_) (a' := ?_) (bl 32 2 []) rfl rfl (by kernel_rfl) (fun _ _ _ h => h) (Or.inl ⟨by rfl, ?_⟩) ?_ ?_
         rotate_left
         ·intro w'
          go_simp
          with_reducible rfl
         rotate_left
         ·simp only [Act.put, sA_, sB_, sC_, i64_w, i32_w]
          rfl
         refine pure_ (i := 2) (N := (some 124)) (v := ?_) (a' := ?_) (bl 32 3 []) rfl rfl (by kernel_rfl) (fun _ _ _ h => h) (Or.inl ⟨by rfl, ?_⟩) ?_ ?_
         rotate_left
         ·intro w'
          go_simp
          with_reducible rfl
         rotate_left
         ·simp only [Act.put, sA_, sB_, sC_, i64_w, i32_w]
          rfl
         refine take_ (i := 3) (N := (some 125)) (v := ?_) (a' := ?_) (bl 32 4 []) rfl rfl (by kernel_rfl) (fun _ _ _ h => h) (Or.inl ⟨by rfl, ?_⟩) hHeld ?_ ?_
         rotate_left
         ·rintro w' ⟨s0, s1, s2⟩
          have z1 : w'.cell? ⟨g11, 6, none⟩ = some (.slice q2.a3 v.l3.length q2.c3) := by rw [← LQ]; exact (blk_cell s2 6).trans rfl
          go_simp
          with_reducible rfl
         rotate_left
         ·simp only [Act.put, sA_, sB_, sC_, i64_w, i32_w]
          rfl
         refine pure_ (i := 4) (N := (some 126)) (v := ?_) (a' := ?_) (bl 32 5 []) rfl rfl (by kernel_rfl) (fun _ _ _ h => h) (Or.inl ⟨by rfl, ?_⟩) ?_ ?_
         rotate_left
         ·intro w'
          go_simp
          with_reducible rfl
         rotate_left
         ·simp only [Act.put, sA_, sB_, sC_, i64_w, i32_w]
          rfl
         refine pure_ (i := 5) (N := (some 127)) (v := ?_) (a' := ?_) (bl 32 6 []) rfl rfl (by kernel_rfl) (fun _ _ _ h => h) (Or.inl ⟨by rfl, ?_⟩) ?_ ?_
         rotate_left
         ·intro w'
          go_simp
          with_reducible rfl
         rotate_left
         ·simp only [Act.put, sA_, sB_, sC_, i64_w, i32_w]
          rfl
         refine pure_ (i := 6) (N := (some 128)) (v := ?_) (a' := ?_) (bl 32 7 []) rfl rfl (by kernel_rfl) (fun _ _ _ h => h) (Or.inl ⟨by rfl, ?_⟩) ?_ ?_
         rotate_left
         ·intro w'
          go_simp
          with_reducible rfl
         rotate_left
         ·simp only [Act.put, sA_, sB_, sC_, i64_w, i32_w]
          rfl
         refine pure_ (i := 7) (N := (some 129)) (v := ?_) (a' := ?_) (bl 32 8 []) rfl rfl (by kernel_rfl) (fun _ _ _ h => h) (Or.inl ⟨by rfl, ?_⟩) ?_ ?_
         rotate_left
         ·intro w'
          go_simp
          with_reducible rfl
         rotate_left
         ·simp only [Act.put, sA_, sB_, sC_, i64_w, i32_w]
          rfl
         refine pure_ (i := 8) (N := (some 130)) (v := ?_) (a' := ?_) (bl 32 9 []) rfl rfl (by kernel_rfl) (fun _ _ _ h => h) (Or.inl ⟨by rfl, ?_⟩) ?_ ?_
         rotate_left
         ·intro w'
          go_simp
          with_reducible rfl
         rotate_left
         ·simp only [Act.put, sA_, sB_, sC_, i64_w, i32_w]
          rfl
         refine pure_ (i := 9) (N := (some 131)) (v := ?_) (a' := ?_) (bl 32 10 []) rfl rfl (by kernel_rfl) (fun _ _ _ h => h) (Or.inl ⟨by rfl, ?_⟩) ?_ ?_
         rotate_left
         ·intro w'
          go_simp
          with_reducible rfl
         rotate_left
         ·simp only [Act.put, sA_, sB_, sC_, i64_w, i32_w]
          rfl
         refine take_ (i := 10) (N := (some 132)) (v := ?_) (a' := ?_) (bl 32 11 []) rfl rfl (by kernel_rfl) (fun _ _ _ h => h) (Or.inl ⟨by rfl, ?_⟩) hHeld ?_ ?_
         rotate_left
         ·rintro w' ⟨s0, s1, s2⟩
          have z3 : w'.cell? ⟨g7, 0, none⟩ = some (.int .i64 1) := (blk_cell s1 0).trans rfl
          go_simp
          with_reducible rfl
         rotate_left
         ·simp only [Act.put, sA_, sB_, sC_, i64_w, i32_w]
          rfl
         refine pure_ (i := 11) (N := (some 133)) (v := ?_) (a' := ?_) (bl 32 12 []) rfl rfl (by kernel_rfl) (fun _ _ _ h => h) (Or.inl ⟨by rfl, ?_⟩) ?_ ?_
         rotate_left
         ·intro w'
          go_simp
          with_reducible rfl
         rotate_left
         ·simp only [Act.put, sA_, sB_, sC_, i64_w, i32_w]
          rfl
         refine pure_ (i := 12) (N := (some 134)) (v := ?_) (a' := ?_) (bl 32 13 []) rfl rfl (by kernel_rfl) (fun _ _ _ h => h) (Or.inl ⟨by rfl, ?_⟩) ?_ ?_
         rotate_left
         ·intro w'
          go_simp
          with_reducible rfl
         rotate_left
         ·simp only [Act.put, sA_, sB_, sC_, i64_w, i32_w]
          rfl
         refine pure_ (i := 13) (N := (some 135)) (v := ?_) (a' := ?_) (bl 32 14 []) rfl rfl (by kernel_rfl) (fun _ _ _ h => h) (Or.inl ⟨by rfl, ?_⟩) ?_ ?_
         rotate_left
         ·intro w'
          go_simp
          with_reducible rfl
         rotate_left
         ·simp only [Act.put, sA_, sB_, sC_, i64_w, i32_w]
          rfl
         refine pure_ (i := 14) (N := (some 136)) (v := ?_) (a' := ?_) (bl 32 15 []) rfl rfl (by kernel_rfl) (fun _ _ _ h => h) (Or.inl ⟨by rfl, ?_⟩) ?_ ?_
         rotate_left
         ·intro w'
          go_simp
          with_reducible rfl
         rotate_left
         ·simp only [Act.put, sA_, sB_, sC_, i64_w, i32_w]
          rfl
         refine take_ (i := 15) (N := (some 137)) (v := ?_) (a' := ?_) (bl 32 16 []) rfl rfl (by kernel_rfl) (fun _ _ _ h => h) (Or.inl ⟨by rfl, ?_⟩) hHeld ?_ ?_
         rotate_left
         ·rintro w' ⟨s0, s1, s2⟩
          have z3 : w'.cell? ⟨g7, 0, none⟩ = some (.int .i64 1) := (blk_cell s1 0).trans rfl
          go_simp
          with_reducible rfl
         rotate_left
         ·simp only [Act.put, sA_, sB_, sC_, i64_w, i32_w]
          rfl
         refine pure_ (i := 16) (N := (some 138)) (v := ?_) (a' := ?_) (bl 32 17 []) rfl rfl (by kernel_rfl) (fun _ _ _ h => h) (Or.inl ⟨by rfl, ?_⟩) ?_ ?_
         rotate_left
         ·intro w'
          go_simp
          with_reducible rfl
         rotate_left
         ·simp only [Act.put, sA_, sB_, sC_, i64_w, i32_w]
          rfl
         rw [show wrap64 (2 : Int) = 2 from by unfold wrap64; omega]
         refine pure_ (i := 17) (N := (some 139)) (v := ?_) (a' := ?_) (bl 32 18 []) rfl rfl (by kernel_rfl) (fun _ _ _ h => h) (Or.inl ⟨by rfl, ?_⟩) ?_ ?_
         rotate_left
         ·intro w'
          go_simp
          with_reducible rfl
         rotate_left
         ·simp only [Act.put, sA_, sB_, sC_, i64_w, i32_w]
          rfl
         refine pure_ (i := 18) (N := (some 140)) (v := ?_) (a' := ?_) (bl 32 19 []) rfl rfl (by kernel_rfl) (fun _ _ _ h => h) (Or.inl ⟨by rfl, ?_⟩) ?_ ?_
         rotate_left
         ·intro w'
          go_simp
          with_reducible rfl
         rotate_left
         ·simp only [Act.put, sA_, sB_, sC_, i64_w, i32_w]
          rfl
         refine pure_ (i := 19) (N := (some 141)) (v := ?_) (a' := ?_) (bl 32 20 []) rfl rfl (by kernel_rfl) (fun _ _ _ h => h) (Or.inl ⟨by rfl, ?_⟩) ?_ ?_
         rotate_left
         ·intro w'
          go_simp
          with_reducible rfl
         rotate_left
         ·simp only [Act.put, sA_, sB_, sC_, i64_w, i32_w]
          rfl
         refine pure_ (i := 20) (N := (some 142)) (v := ?_) (a' := ?_) (bl 32 21 []) rfl rfl (by kernel_rfl) (fun _ _ _ h => h) (Or.inl ⟨by rfl, ?_⟩) ?_ ?_
         rotate_left
         ·intro w'
          go_simp
          with_reducible rfl
         rotate_left
         ·simp only [Act.put, sA_, sB_, sC_, i64_w, i32_w]
          rfl
         refine pure_ (i := 21) (N := (some 143)) (v := ?_) (a' := ?_) (bl 32 22 []) rfl rfl (by kernel_rfl) (fun _ _ _ h => h) (Or.inl ⟨by rfl, ?_⟩) ?_ ?_
         rotate_left
         ·intro w'
          go_simp
          with_reducible rfl
         rotate_left
         ·simp only [Act.put, sA_, sB_, sC_, i64_w, i32_w]
          rfl
         refine pure_ (i := 22) (N := (some 144)) (v := ?_) (a' := ?_) (bl 32 23 []) rfl rfl (by kernel_rfl) (fun _ _ _ h => h) (Or.inl ⟨by rfl, ?_⟩) ?_ ?_
         rotate_left
         ·intro w'
          go_simp
          with_reducible rfl
         rotate_left
         ·simp only [Act.put, sA_, sB_, sC_, i64_w, i32_w]
          rfl
         refine take_ (i := 23) (N := (some 145)) (v := ?_) (a' := ?_) (bl 32 24 []) rfl rfl (by kernel_rfl) (fun _ _ _ h => h) (Or.inl ⟨by rfl, ?_⟩) hHeld ?_ ?_
         rotate_left
         ·rintro w' ⟨s0, s1, s2⟩
          have z1 : w'.cell? ⟨g11, 6, none⟩ = some (.slice q2.a3 v.l3.length q2.c3) := by rw [← LQ]; exact (blk_cell s2 6).trans rfl
          go_simp
          with_reducible rfl
         rotate_left
         ·simp only [Act.put, sA_, sB_, sC_, i64_w, i32_w]
          rfl
         refine pure_ (i := 24) (N := (some 146)) (v := ?_) (a' := ?_) (bl 32 25 []) rfl rfl (by kernel_rfl) (fun _ _ _ h => h) (Or.inl ⟨by rfl, ?_⟩) ?_ ?_
         rotate_left
         ·intro w'
          go_simp
          with_reducible rfl
         rotate_left
         ·simp only [Act.put, sA_, sB_, sC_, i64_w, i32_w]
          rfl
         refine pure_ (i := 25) (N := (some 147)) (v := ?_) (a' := ?_) (bl 32 26 []) rfl rfl (by kernel_rfl) (fun _ _ _ h => h) (Or.inl ⟨by rfl, ?_⟩) ?_ ?_
         rotate_left
         ·intro w'
          go_simp
          with_reducible rfl
         rotate_left
         ·simp only [Act.put, sA_, sB_, sC_, i64_w, i32_w]
          rfl
         refine pure_ (i := 26) (N := (some 148)) (v := ?_) (a' := ?_) (bl 32 27 []) rfl rfl (by kernel_rfl) (fun _ _ _ h => h) (Or.inl ⟨by rfl, ?_⟩) ?_ ?_
         rotate_left
         ·intro w'
          go_simp
          with_reducible rfl
         rotate_left
         ·simp only [Act.put, sA_, sB_, sC_, i64_w, i32_w]
          rfl
         refine take_ (i := 27) (N := (some 149)) (v := ?_) (a' := ?_) (bl 32 28 []) rfl rfl (by kernel_rfl) (fun _ _ _ h => h) (Or.inl ⟨by rfl, ?_⟩) hHeld ?_ ?_
         rotate_left
         ·rintro w' ⟨s0, s1, s2⟩
          have z2 : w'.cell? ⟨w.heap.size, 6, none⟩ = some (.slice p.a3 v.l3.length p.c3) := (blk_cell s0 6).trans rfl
          go_simp
          with_reducible rfl
         rotate_left
         ·simp only [Act.put, sA_, sB_, sC_, i64_w, i32_w]
          rfl
         refine one_ (i := 28) (N := (some 150)) (bl 32 29 []) rfl rfl (by kernel_rfl) (by decide) (fun K hK => ?_)
         refine goes_ Try.func47 (by kernel_rfl) rfl #[.slice q2.a3 v.l3.length q2.c3, .slice p.a3 v.l3.length p.c3] (by rfl) rfl rfl (by (try simp only [List.map_toArray, List.map_cons, List.map_nil]); first | done | rfl) ?_
         (with_reducible refine (SMET wd HBWd.out HBd.out).mono ?_)
         rintro e wA ⟨rfl, hb⟩
         refine ⟨_, rfl, ?_⟩
         have HBWA := Aside0.mk (below_step HBWd.out hb)
         clear HBWd HBd
         have hOld := hHeld
         clear hHeld
         refine hK.out _ _ (⟨blk_below hOld.1 hb, blk_below hOld.2.1 hb, blk_below hOld.2.2 hb⟩) (fun hHeld => ?_)
         clear hOld hK K
         refine norm_ (a' := ?_) ?_ ?_
         rotate_left
         ·show Act.put _ (some 150) _ = _
          simp only [Act.put, List.setIfInBounds_toArray, List.set_cons_zero, List.set_cons_succ, i64_w, i32_w]
          rfl
         refine pure_ (i := 29) (N := (some 151)) (v := ?_) (a' := ?_) (bl 32 30 []) rfl rfl (by kernel_rfl) (fun _ _ _ h => h) (Or.inl ⟨by rfl, ?_⟩) ?_ ?_
         rotate_left
         ·intro w'
          go_simp
          with_reducible rfl
         rotate_left
         ·simp only [Act.put, sA_, sB_, sC_, i64_w, i32_w]
          rfl
         refine pure_ (i := 30) (N := (some 152)) (v := ?_) (a' := ?_) (bl 32 31 []) rfl rfl (by kernel_rfl) (fun _ _ _ h => h) (Or.inl ⟨by rfl, ?_⟩) ?_ ?_
         rotate_left
         ·intro w'
          go_simp
          with_reducible rfl
         rotate_left
         ·simp only [Act.put, sA_, sB_, sC_, i64_w, i32_w]
          rfl
         refine pure_ (i := 31) (N := (some 153)) (v := ?_) (a' := ?_) (bl 32 32 []) rfl rfl (by kernel_rfl) (fun _ _ _ h => h) (Or.inl ⟨by rfl, ?_⟩) ?_ ?_
         rotate_left
         ·intro w'
          go_simp
          with_reducible rfl
         rotate_left
         ·simp only [Act.put, sA_, sB_, sC_, i64_w, i32_w]
          rfl
         refine done_ (by kernel_rfl) ?_
         clear hHeld
         go_wp2_with fail
         go_roundg z
         case measure => omega
         case rel => exact ⟨4, rfl, ⟨by have := HK.out; omega⟩, HBWA⟩
     ·have WIN := Aside0.mk (show wrap64 ((v.l2.length : Int) - (In.length : Int)) = (u.l2.length : Int) from WR1 _ _ _ (ULI.out) (LV.out 2 (by omega)))
      have WOV := Aside0.mk (show wrap64 (wrap64 ((v.l3.length : Int) - (Ov.length : Int)) + (out.length : Int)) = (u.l3.length : Int) from WR2 _ _ _ _ ULV.out (LV.out 3 (by omega)) LOUT.out OVL.out)
      go_wp2_with fail
      go_loopg [13, 14] 4 (fun kq v13 v14 w' => ∃ x : Int, v13 = .int .i64 x ∧ Aside0 ((kq : Int) + x = 4 ∧ 0 ≤ x) ∧ Aside0 (Below w9.heap.size w9 w'))
      case atStart => exact ⟨0, rfl, ⟨by omega⟩, ⟨Below.refl _ _⟩⟩
      case round =>
       obtain ⟨x, rfl, HK, HBW⟩ := hrel
       have HBr := Aside0.mk (below_step HB9.out HBW.out)
       cases gk with
       | zero =>
        obtain rfl : x = 4 := by have := HK.out; omega
        go_wp2_with fail
        refine (awake16_calls _).mono ?_
        rintro x w9 ⟨rfl, hb⟩
        have HB9 := Aside0.mk (below_step HBr.out hb)
        clear hb
        go_wp2_with fail
        go_ret
        exact ⟨rfl, HB9.out⟩
       | succ z =>
        have X1r := Aside0.mk (blk_below X19.out HBW.out)
        have X7r := Aside0.mk (blk_below X79.out HBW.out)
        have X11r := Aside0.mk (blk_below X119.out HBW.out)
        rcases (by have := HK.out; omega : x = 0 ∨ x = 1 ∨ x = 2 ∨ x = 3) with rfl | rfl | rfl | rfl
        ·have b3 : wr.cell? ⟨w.heap.size, 3, none⟩ = some (.slice p.a0 v.l0.length p.c0) := (blk_cell X1r.out 3).trans rfl
         have k0 : wr.cell? ⟨g7, 0, none⟩ = some (.int .i64 2) := (blk_cell X7r.out 0).trans rfl
         have k1 : wr.cell? ⟨g7, 1, none⟩ = some (.slice Ai In.length ci) := (blk_cell X7r.out 1).trans rfl
         have k2 : wr.cell? ⟨g7, 2, none⟩ = some (.slice Ao Ov.length co) := (blk_cell X7r.out 2).trans rfl
         have c3 : wr.cell? ⟨g11, 3, none⟩ = some (.slice q2.a0 u.l0.length q2.c0) := (blk_cell X11r.out 3).trans rfl
         have LQ : u.l0 = v.l0 := ULO.out 0 (by omega) (by omega) (by omega)
         have SMET := fun (w' : World) (h1 : Below w9.heap.size w9 w') (h2 : Below w.heap.size w w') => sameM_true w' q2.a0 p.a0 q2.c0 p.c0 v.l0 v.l0 (by rw [← LQ]; exact Kd.C_below (VU9.out 0 (by omega)).1 h1) (Kd.C_below (HC.out 0 (by omega)).1 h2) rfl
         go_upto_region 18 with (fail)
         clear b3 c3 k0 k1 k2
         refine start_ (n := 32) (S := (fun w' => w'.heap[w.heap.size]? = some (.cells (vCs v p) 26 (0, 0)) ∧ w'.heap[g7]? = some (.cells #[.int .i64 2, .slice Ai In.length ci, .slice Ao Ov.length co] 52 (0, 0)) ∧ w'.heap[g11]? = some (.cells (vCs u q2) 26 (0, 0)))) (ds := []) (bl 32 0 []) (by kernel_rfl) rfl (by kernel_rfl) ⟨blk_drew X1r.out, blk_drew X7r.out, blk_drew X11r.out⟩ (fun hHeld => ?_)
         have HBd := Aside0.mk (below_drew HBr.out)
         have HBWd := Aside0.mk (below_drew HBW.out)
         clear X1r X7r X11r HBr HBW
         generalize wr.drew = wd at *
         refine pure_ (i := 0) (N := (some 122)) (v := ?_) (a' := ?_) (bl 32 1 []) rfl rfl (by kernel_rfl) (fun _ _ _ h => h) (Or.inl ⟨by rfl, ?_⟩) ?_ ?_
         rotate_left
         ·intro w'
          go_simp
          with_reducible rfl
         rotate_left
         ·simp only [Act.put, sA_, sB_, sC_, i64_w, i32_w]
          rfl
         refine pure_ (i := 1) (N := (some 123)) (v := ?_) (a' := ?_) (bl 32 2 []) rfl rfl (by kernel_rfl) (fun _ _ _ h => h) (Or.inl ⟨by rfl, ?_⟩) ?_ ?_
         rotate_left
         ·intro w'
          go_simp
          with_reducible rfl
         rotate_left
         ·simp only [Act.put, sA_, sB_, sC_, i64_w, i32_w]
          rfl
         refine pure_ (i := 2) (N := (some 124)) (v := ?_) (a' := ?_) (bl 32 3 []) rfl rfl (by kernel_rfl) (fun _ _ _ h => h) (Or.inl ⟨by rfl, ?_⟩) ?_ ?_
         rotate_left
         ·intro w'
          go_simp
          with_reducible rfl
         rotate_left
         ·simp only [Act.put, sA_, sB_, sC_, i64_w, i32_w]
          rfl
         refine take_ (i := 3) (N := (some 125)) (v := ?_) (a' := ?_) (bl 32 4 []) rfl rfl (by kernel_rfl) (fun _ _ _ h => h) (Or.inl ⟨by rfl, ?_⟩) hHeld ?_ ?_
         rotate_left
         ·rintro w' ⟨s0, s1, s2⟩
          have z1 : w'.cell? ⟨g11, 3, none⟩ = some (.slice q2.a0 v.l0.length q2.c0) := by rw [← LQ]; exact (blk_cell s2 3).trans rfl
          go_simp
          with_reducible rfl
         rotate_left
         ·simp only [Act.put, sA_, sB_, sC_, i64_w, i32_w]
          rfl
         refine pure_ (i := 4) (N := (some 126)) (v := ?_) (a' := ?_) (bl 32 5 []) rfl rfl (by kernel_rfl) (fun _ _ _ h => h) (Or.inl ⟨by rfl, ?_⟩) ?_ ?_
         rotate_left
         ·intro w'
          go_simp
          with_reducible rfl
         rotate_left
         ·simp only [Act.put, sA_, sB_, sC_, i64_w, i32_w]
          rfl
         refine pure_ (i := 5) (N := (some 127)) (v := ?_) (a' := ?_) (bl 32 6 []) rfl rfl (by kernel_rfl) (fun _ _ _ h => h) (Or.inl ⟨by rfl, ?_⟩) ?_ ?_
         rotate_left
         ·intro w'
          go_simp
          with_reducible rfl
         rotate_left
         ·simp only [Act.put, sA_, sB_, sC_, i64_w, i32_w]
          rfl
         refine pure_ (i := 6) (N := (some 128)) (v := ?_) (a' := ?_) (bl 32 7 []) rfl rfl (by kernel_rfl) (fun _ _ _ h => h) (Or.inl ⟨by rfl, ?_⟩) ?_ ?_
         rotate_left
         ·intro w'
          go_simp
          with_reducible rfl
         rotate_left
         ·simp only [Act.put, sA_, sB_, sC_, i64_w, i32_w]
          rfl
         refine pure_ (i := 7) (N := (some 129)) (v := ?_) (a' := ?_) (bl 32 8 []) rfl rfl (by kernel_rfl) (fun _ _ _ h => h) (Or.inl ⟨by rfl, ?_⟩) ?_ ?_
         rotate_left
         ·intro w'
          go_simp
          with_reducible rfl
         rotate_left
         ·simp only [Act.put, sA_, sB_, sC_, i64_w, i32_w]
          rfl
         refine pure_ (i := 8) (N := (some 130)) (v := ?_) (a' := ?_) (bl 32 9 []) rfl rfl (by kernel_rfl) (fun _ _ _ h => h) (Or.inl ⟨by rfl, ?_⟩) ?_ ?_
         rotate_left
         ·intro w'
          go_simp
          with_reducible rfl
         rotate_left
         ·simp only [Act.put, sA_, sB_, sC_, i64_w, i32_w]
          rfl
         refine pure_ (i := 9) (N := (some 131)) (v := ?_) (a' := ?_) (bl 32 10 []) rfl rfl (by kernel_rfl) (fun _ _ _ h => h) (Or.inl ⟨by rfl, ?_⟩) ?_ ?_
         rotate_left
         ·intro w'
          go_simp
          with_reducible rfl
         rotate_left
         ·simp only [Act.put, sA_, sB_, sC_, i64_w, i32_w]
          rfl
         refine take_ (i := 10) (N := (some 132)) (v := ?_) (a' := ?_) (bl 32 11 []) rfl rfl (by kernel_rfl) (fun _ _ _ h => h) (Or.inl ⟨by rfl, ?_⟩) hHeld ?_ ?_
         rotate_left
         ·rintro w' ⟨s0, s1, s2⟩
          have z3 : w'.cell? ⟨g7, 0, none⟩ = some (.int .i64 2) := (blk_cell s1 0).trans rfl
          go_simp
          with_reducible rfl
         rotate_left
         ·simp only [Act.put, sA_, sB_, sC_, i64_w, i32_w]
          rfl
         refine pure_ (i := 11) (N := (some 133)) (v := ?_) (a' := ?_) (bl 32 12 []) rfl rfl (by kernel_rfl) (fun _ _ _ h => h) (Or.inl ⟨by rfl, ?_⟩) ?_ ?_
         rotate_left
         ·intro w'
          go_simp
          with_reducible rfl
         rotate_left
         ·simp only [Act.put, sA_, sB_, sC_, i64_w, i32_w]
          rfl
         refine pure_ (i := 12) (N := (some 134)) (v := ?_) (a' := ?_) (bl 32 13 []) rfl rfl (by kernel_rfl) (fun _ _ _ h => h) (Or.inl ⟨by rfl, ?_⟩) ?_ ?_
         rotate_left
         ·intro w'
          go_simp
          with_reducible rfl
         rotate_left
         ·simp only [Act.put, sA_, sB_, sC_, i64_w, i32_w]
          rfl
         refine pure_ (i := 13) (N := (some 135)) (v := undef) (a' := ?_) (bl 32 14 []) rfl rfl (by kernel_rfl) (fun _ _ _ h => h) (Or.inr ⟨by rfl, rfl⟩) ?_ ?_
         rotate_left
         ·simp only [Act.put, sA_, sB_, sC_, i64_w, i32_w]
          rfl
         refine pure_ (i := 14) (N := (some 136)) (v := undef) (a' := ?_) (bl 32 15 []) rfl rfl (by kernel_rfl) (fun _ _ _ h => h) (Or.inr ⟨by rfl, rfl⟩) ?_ ?_
         rotate_left
         ·simp only [Act.put, sA_, sB_, sC_, i64_w, i32_w]
          rfl
         refine pure_ (i := 15) (N := (some 137)) (v := undef) (a' := ?_) (bl 32 16 []) rfl rfl (by kernel_rfl) (fun _ _ _ h => h) (Or.inr ⟨by rfl, rfl⟩) ?_ ?_
         rotate_left
         ·simp only [Act.put, sA_, sB_, sC_, i64_w, i32_w]
          rfl
         refine pure_ (i := 16) (N := (some 138)) (v := undef) (a' := ?_) (bl 32 17 []) rfl rfl (by kernel_rfl) (fun _ _ _ h => h) (Or.inr ⟨by rfl, rfl⟩) ?_ ?_
         rotate_left
         ·simp only [Act.put, sA_, sB_, sC_, i64_w, i32_w]
          rfl
         refine pure_ (i := 17) (N := (some 139)) (v := undef) (a' := ?_) (bl 32 18 []) rfl rfl (by kernel_rfl) (fun _ _ _ h => h) (Or.inr ⟨by rfl, rfl⟩) ?_ ?_
         rotate_left
         ·simp only [Act.put, sA_, sB_, sC_, i64_w, i32_w]
          rfl
         refine pure_ (i := 18) (N := (some 140)) (v := ?_) (a' := ?_) (bl 32 19 []) rfl rfl (by kernel_rfl) (fun _ _ _ h => h) (Or.inl ⟨by rfl, ?_⟩) ?_ ?_
         rotate_left
         ·intro w'
          go_simp
          with_reducible rfl
         rotate_left
         ·simp only [Act.put, sA_, sB_, sC_, i64_w, i32_w]
          rfl
         refine pure_ (i := 19) (N := (some 141)) (v := ?_) (a' := ?_) (bl 32 20 []) rfl rfl (by kernel_rfl) (fun _ _ _ h => h) (Or.inl ⟨by rfl, ?_⟩) ?_ ?_
         rotate_left
         ·intro w'
          go_simp
          with_reducible rfl
         rotate_left
         ·simp only [Act.put, sA_, sB_, sC_, i64_w, i32_w]
          rfl
         refine pure_ (i := 20) (N := (some 142)) (v := ?_) (a' := ?_) (bl 32 21 []) rfl rfl (by kernel_rfl) (fun _ _ _ h => h) (Or.inl ⟨by rfl, ?_⟩) ?_ ?_
         rotate_left
         ·intro w'
          go_simp
          with_reducible rfl
         rotate_left
         ·simp only [Act.put, sA_, sB_, sC_, i64_w, i32_w]
          rfl
         refine pure_ (i := 21) (N := (some 143)) (v := ?_) (a' := ?_) (bl 32 22 []) rfl rfl (by kernel_rfl) (fun _ _ _ h => h) (Or.inl ⟨by rfl, ?_⟩) ?_ ?_
         rotate_left
         ·intro w'
          go_simp
          with_reducible rfl
         rotate_left
         ·simp only [Act.put, sA_, sB_, sC_, i64_w, i32_w]
          rfl
         refine pure_ (i := 22) (N := (some 144)) (v := ?_) (a' := ?_) (bl 32 23 []) rfl rfl (by kernel_rfl) (fun _ _ _ h => h) (Or.inl ⟨by rfl, ?_⟩) ?_ ?_
         rotate_left
         ·intro w'
          go_simp
          with_reducible rfl
         rotate_left
         ·simp only [Act.put, sA_, sB_, sC_, i64_w, i32_w]
          rfl
         refine take_ (i := 23) (N := (some 145)) (v := ?_) (a' := ?_) (bl 32 24 []) rfl rfl (by kernel_rfl) (fun _ _ _ h => h) (Or.inl ⟨by rfl, ?_⟩) hHeld ?_ ?_
         rotate_left
         ·rintro w' ⟨s0, s1, s2⟩
          have z1 : w'.cell? ⟨g11, 3, none⟩ = some (.slice q2.a0 v.l0.length q2.c0) := by rw [← LQ]; exact (blk_cell s2 3).trans rfl
          go_simp
          with_reducible rfl
         rotate_left
         ·simp only [Act.put, sA_, sB_, sC_, i64_w, i32_w]
          rfl
         refine pure_ (i := 24) (N := (some 146)) (v := ?_) (a' := ?_) (bl 32 25 []) rfl rfl (by kernel_rfl) (fun _ _ _ h => h) (Or.inl ⟨by rfl, ?_⟩) ?_ ?_
         rotate_left
         ·intro w'
          go_simp
          with_reducible rfl
         rotate_left
         ·simp only [Act.put, sA_, sB_, sC_, i64_w, i32_w]
          rfl
         refine pure_ (i := 25) (N := (some 147)) (v := ?_) (a' := ?_) (bl 32 26 []) rfl rfl (by kernel_rfl) (fun _ _ _ h => h) (Or.inl ⟨by rfl, ?_⟩) ?_ ?_
         rotate_left
         ·intro w'
          go_simp
          with_reducible rfl
         rotate_left
         ·simp only [Act.put, sA_, sB_, sC_, i64_w, i32_w]
          rfl
         refine pure_ (i := 26) (N := (some 148)) (v := ?_) (a' := ?_) (bl 32 27 []) rfl rfl (by kernel_rfl) (fun _ _ _ h => h) (Or.inl ⟨by rfl, ?_⟩) ?_ ?_
         rotate_left
         ·intro w'
          go_simp
          with_reducible rfl
         rotate_left
         ·simp only [Act.put, sA_, sB_, sC_, i64_w, i32_w]
          rfl
         refine take_ (i := 27) (N := (some 149)) (v := ?_) (a' := ?_) (bl 32 28 []) rfl rfl (by kernel_rfl) (fun _ _ _ h => h) (Or.inl ⟨by rfl, ?_⟩) hHeld ?_ ?_
         rotate_left
         ·rintro w' ⟨s0, s1, s2⟩
          have z2 : w'.cell? ⟨w.heap.size, 3, none⟩ = some (.slice p.a0 v.l0.length p.c0) := (blk_cell s0 3).trans rfl
          go_simp
          with_reducible rfl
         rotate_left
         ·simp only [Act.put, sA_, sB_, sC_, i64_w, i32_w]
          rfl
         refine one_ (i := 28) (N := (some 150)) (bl 32 29 []) rfl rfl (by kernel_rfl) (by decide) (fun K hK => ?_)
         refine goes_ Try.func47 (by kernel_rfl) rfl #[.slice q2.a0 v.l0.length q2.c0, .slice p.a0 v.l0.length p.c0] (by rfl) rfl rfl (by (try simp only [List.map_toArray, List.map_cons, List.map_nil]); first | done | rfl) ?_
         (with_reducible refine (SMET wd HBWd.out HBd.out).mono ?_)
         rintro e wA ⟨rfl, hb⟩
         refine ⟨_, rfl, ?_⟩
         have HBWA := Aside0.mk (below_step HBWd.out hb)
         clear HBWd HBd
         have hOld := hHeld
         clear hHeld
         refine hK.out _ _ (⟨blk_below hOld.1 hb, blk_below hOld.2.1 hb, blk_below hOld.2.2 hb⟩) (fun hHeld => ?_)
         clear hOld hK K
         refine norm_ (a' := ?_) ?_ ?_
         rotate_left
         ·show Act.put _ (some 150) _ = _
          simp only [Act.put, List.setIfInBounds_toArray, List.set_cons_zero, List.set_cons_succ, i64_w, i32_w]
          rfl
         refine pure_ (i := 29) (N := (some 151)) (v := ?_) (a' := ?_) (bl 32 30 []) rfl rfl (by kernel_rfl) (fun _ _ _ h => h) (Or.inl ⟨by rfl, ?_⟩) ?_ ?_
         rotate_left
         ·intro w'
          go_simp
          with_reducible rfl
         rotate_left
         ·simp only [Act.put, sA_, sB_, sC_, i64_w, i32_w]
          rfl
         refine pure_ (i := 30) (N := (some 152)) (v := ?_) (a' := ?_) (bl 32 31 []) rfl rfl (by kernel_rfl) (fun _ _ _ h => h) (Or.inl ⟨by rfl, ?_⟩) ?_ ?_
         rotate_left
         ·intro w'
          go_simp
          with_reducible rfl
         rotate_left
         ·simp only [Act.put, sA_, sB_, sC_, i64_w, i32_w]
          rfl
         refine pure_ (i := 31) (N := (some 153)) (v := ?_) (a' := ?_) (bl 32 32 []) rfl rfl (by kernel_rfl) (fun _ _ _ h => h) (Or.inl ⟨by rfl, ?_⟩) ?_ ?_
         rotate_left
         ·intro w'
          go_simp
          with_reducible rfl
         rotate_left
         ·simp only [Act.put, sA_, sB_, sC_, i64_w, i32_w]
          rfl
         refine done_ (by kernel_rfl) ?_
         clear hHeld
         go_wp2_with fail
         go_roundg z
         case measure => omega
         case rel => exact ⟨1, rfl, ⟨by have := HK.out; omega⟩, HBWA⟩
        ·have b4 : wr.cell? ⟨w.heap.size, 4, none⟩ = some (.slice p.a1 v.l1.length p.c1) := (blk_cell X1r.out 4).trans rfl
         have k0 : wr.cell? ⟨g7, 0, none⟩ = some (.int .i64 2) := (blk_cell X7r.out 0).trans rfl
         have k1 : wr.cell? ⟨g7, 1, none⟩ = some (.slice Ai In.length ci) := (blk_cell X7r.out 1).trans rfl
         have k2 : wr.cell? ⟨g7, 2, none⟩ = some (.slice Ao Ov.length co) := (blk_cell X7r.out 2).trans rfl
         have c4 : wr.cell? ⟨g11, 4, none⟩ = some (.slice q2.a1 u.l1.length q2.c1) := (blk_cell X11r.out 4).trans rfl
         have LQ : u.l1 = v.l1 := ULO.out 1 (by omega) (by omega) (by omega)
         have SMET := fun (w' : World) (h1 : Below w9.heap.size w9 w') (h2 : Below w.heap.size w w') => sameM_true w' q2.a1 p.a1 q2.c1 p.c1 v.l1 v.l1 (by rw [← LQ]; exact Kd.C_below (VU9.out 1 (by omega)).1 h1) (Kd.C_below (HC.out 1 (by omega)).1 h2) rfl
         go_upto_region 18 with (fail)
         clear b4 c4 k0 k1 k2
         refine start_ (n := 32) (S := (fun w' => w'.heap[w.heap.size]? = some (.cells (vCs v p) 26 (0, 0)) ∧ w'.heap[g7]? = some (.cells #[.int .i64 2, .slice Ai In.length ci, .slice Ao Ov.length co] 52 (0, 0)) ∧ w'.heap[g11]? = some (.cells (vCs u q2) 26 (0, 0)))) (ds := []) (bl 32 0 []) (by kernel_rfl) rfl (by kernel_rfl) ⟨blk_drew X1r.out, blk_drew X7r.out, blk_drew X11r.out⟩ (fun hHeld => ?_)
         have HBd := Aside0.mk (below_drew HBr.out)
         have HBWd := Aside0.mk (below_drew HBW.out)
         clear X1r X7r X11r HBr HBW
         generalize wr.drew = wd at *
         refine pure_ (i := 0) (N := (some 122)) (v := ?_) (a' := ?_) (bl 32 1 []) rfl rfl (by kernel_rfl) (fun _ _ _ h => h) (Or.inl ⟨by rfl, ?_⟩) ?_ ?_
         rotate_left
         ·intro w'
          go_simp
          with_reducible rfl
         rotate_left
         ·simp only [Act.put, sA_, sB_, sC_, i64_w, i32_w]
          rfl
         refine pure_ (i := 1) (N := (some 123)) (v := ?_) (a' := ?_) (bl 32 2 []) rfl rfl (by kernel_rfl) (fun _ _ _ h => h) (Or.inl ⟨by rfl, ?_⟩) ?_ ?_
         rotate_left
         ·intro w'
          go_simp
          with_reducible rfl
         rotate_left
         ·simp only [Act.put, sA_, sB_, sC_, i64_w, i32_w]
          rfl
         refine pure_ (i := 2) (N := (some 124)) (v := ?_) (a' := ?_) (bl 32 3 []) rfl rfl (by kernel_rfl) (fun _ _ _ h => h) (Or.inl ⟨by rfl, ?_⟩) ?_ ?_
         rotate_left
         ·intro w'
          go_simp
          with_reducible rfl
         rotate_left
         ·simp only [Act.put, sA_, sB_, sC_, i64_w, i32_w]
          rfl
         refine take_ (i := 3) (N := (some 125)) (v := ?_) (a' := ?_) (bl 32 4 []) rfl rfl (by kernel_rfl) (fun _ _ _ h => h) (Or.inl ⟨by rfl, ?_⟩) hHeld ?_ ?_
         rotate_left
         ·rintro w' ⟨s0, s1, s2⟩
          have z1 : w'.cell? ⟨g11, 4, none⟩ = some (.slice q2.a1 v.l1.length q2.c1) := by rw [← LQ]; exact (blk_cell s2 4).trans rfl
          go_simp
          with_reducible rfl
         rotate_left
         ·simp only [Act.put, sA_, sB_, sC_, i64_w, i32_w]
          rfl
         refine pure_ (i := 4) (N := (some 126)) (v := ?_) (a' := ?_) (bl 32 5 []) rfl rfl (by kernel_rfl) (fun _ _ _ h => h) (Or.inl ⟨by rfl, ?_⟩) ?_ ?_
         rotate_left
         ·intro w'
          go_simp
          with_reducible rfl
         rotate_left
         ·simp only [Act.put, sA_, sB_, sC_, i64_w, i32_w]
          rfl
         refine pure_ (i := 5) (N := (some 127)) (v := ?_) (a' := ?_) (bl 32 6 []) rfl rfl (by kernel_rfl) (fun _ _ _ h => h) (Or.inl ⟨by rfl, ?_⟩) ?_ ?_
         rotate_left
         ·intro w'
          go_simp
          with_reducible rfl
         rotate_left
         ·simp only [Act.put, sA_, sB_, sC_, i64_w, i32_w]
          rfl
         refine pure_ (i := 6) (N := (some 128)) (v := ?_) (a' := ?_) (bl 32 7 []) rfl rfl (by kernel_rfl) (fun _ _ _ h => h) (Or.inl ⟨by rfl, ?_⟩) ?_ ?_
         rotate_left
         ·intro w'
          go_simp
          with_reducible rfl
         rotate_left
         ·simp only [Act.put, sA_, sB_, sC_, i64_w, i32_w]
          rfl
         refine pure_ (i := 7) (N := (some 129)) (v := ?_) (a' := ?_) (bl 32 8 []) rfl rfl (by kernel_rfl) (fun _ _ _ h => h) (Or.inl ⟨by rfl, ?_⟩) ?_ ?_
         rotate_left
         ·intro w'
          go_simp
          with_reducible rfl
         rotate_left
         ·simp only [Act.put, sA_, sB_, sC_, i64_w, i32_w]
          rfl
         refine pure_ (i := 8) (N := (some 130)) (v := ?_) (a' := ?_) (bl 32 9 []) rfl rfl (by kernel_rfl) (fun _ _ _ h => h) (Or.inl ⟨by rfl, ?_⟩) ?_ ?_
         rotate_left
         ·intro w'
          go_simp
          with_reducible rfl
         rotate_left
         ·simp only [Act.put, sA_, sB_, sC_, i64_w, i32_w]
          rfl
         refine pure_ (i := 9) (N := (some 131)) (v := ?_) (a' := ?_) (bl 32 10 []) rfl rfl (by kernel_rfl) (fun _ _ _ h => h) (Or.inl ⟨by rfl, ?_⟩) ?_ ?_
         rotate_left
         ·intro w'
          go_simp
          with_reducible rfl
         rotate_left
         ·simp only [Act.put, sA_, sB_, sC_, i64_w, i32_w]
          rfl
         refine take_ (i := 10) (N := (some 132)) (v := ?_) (a' := ?_) (bl 32 11 []) rfl rfl (by kernel_rfl) (fun _ _ _ h => h) (Or.inl ⟨by rfl, ?_⟩) hHeld ?_ ?_
         rotate_left
         ·rintro w' ⟨s0, s1, s2⟩
          have z3 : w'.cell? ⟨g7, 0, none⟩ = some (.int .i64 2) := (blk_cell s1 0).trans rfl
          go_simp
          with_reducible rfl
         rotate_left
         ·simp only [Act.put, sA_, sB_, sC_, i64_w, i32_w]
          rfl
         refine pure_ (i := 11) (N := (some 133)) (v := ?_) (a' := ?_) (bl 32 12 []) rfl rfl (by kernel_rfl) (fun _ _ _ h => h) (Or.inl ⟨by rfl, ?_⟩) ?_ ?_
         rotate_left
         ·intro w'
          go_simp
          with_reducible rfl
         rotate_left
         ·simp only [Act.put, sA_, sB_, sC_, i64_w, i32_w]
          rfl
         refine pure_ (i := 12) (N := (some 134)) (v := ?_) (a' := ?_) (bl 32 13 []) rfl rfl (by kernel_rfl) (fun _ _ _ h => h) (Or.inl ⟨by rfl, ?_⟩) ?_ ?_
         rotate_left
         ·intro w'
          go_simp
          with_reducible rfl
         rotate_left
         ·simp only [Act.put, sA_, sB_, sC_, i64_w, i32_w]
          rfl
         refine pure_ (i := 13) (N := (some 135)) (v := undef) (a' := ?_) (bl 32 14 []) rfl rfl (by kernel_rfl) (fun _ _ _ h => h) (Or.inr ⟨by rfl, rfl⟩) ?_ ?_
         rotate_left
         ·simp only [Act.put, sA_, sB_, sC_, i64_w, i32_w]
          rfl
         refine pure_ (i := 14) (N := (some 136)) (v := undef) (a' := ?_) (bl 32 15 []) rfl rfl (by kernel_rfl) (fun _ _ _ h => h) (Or.inr ⟨by rfl, rfl⟩) ?_ ?_
         rotate_left
         ·simp only [Act.put, sA_, sB_, sC_, i64_w, i32_w]
          rfl
         refine pure_ (i := 15) (N := (some 137)) (v := undef) (a' := ?_) (bl 32 16 []) rfl rfl (by kernel_rfl) (fun _ _ _ h => h) (Or.inr ⟨by rfl, rfl⟩) ?_ ?_
         rotate_left
         ·simp only [Act.put, sA_, sB_, sC_, i64_w, i32_w]
          rfl
         refine pure_ (i := 16) (N := (some 138)) (v := undef) (a' := ?_) (bl 32 17 []) rfl rfl (by kernel_rfl) (fun _ _ _ h => h) (Or.inr ⟨by rfl, rfl⟩) ?_ ?_
         rotate_left
         ·simp only [Act.put, sA_, sB_, sC_, i64_w, i32_w]
          rfl
         refine pure_ (i := 17) (N := (some 139)) (v := undef) (a' := ?_) (bl 32 18 []) rfl rfl (by kernel_rfl) (fun _ _ _ h => h) (Or.inr ⟨by rfl, rfl⟩) ?_ ?_
         rotate_left
         ·simp only [Act.put, sA_, sB_, sC_, i64_w, i32_w]
          rfl
         refine pure_ (i := 18) (N := (some 140)) (v := ?_) (a' := ?_) (bl 32 19 []) rfl rfl (by kernel_rfl) (fun _ _ _ h => h) (Or.inl ⟨by rfl, ?_⟩) ?_ ?_
         rotate_left
         ·intro w'
          go_simp
          with_reducible rfl
         rotate_left
         ·simp only [Act.put, sA_, sB_, sC_, i64_w, i32_w]
          rfl
         refine pure_ (i := 19) (N := (some 141)) (v := ?_) (a' := ?_) (bl 32 20 []) rfl rfl (by kernel_rfl) (fun _ _ _ h => h) (Or.inl ⟨by rfl, ?_⟩) ?_ ?_
         rotate_left
         ·intro w'
          go_simp
          with_reducible rfl
         rotate_left
         ·simp only [Act.put, sA_, sB_, sC_, i64_w, i32_w]
          rfl
         refine pure_ (i := 20) (N := (some 142)) (v := ?_) (a' := ?_) (bl 32 21 []) rfl rfl (by kernel_rfl) (fun _ _ _ h => h) (Or.inl ⟨by rfl, ?_⟩) ?_ ?_
         rotate_left
         ·intro w'
          go_simp
          with_reducible rfl
         rotate_left
         ·simp only [Act.put, sA_, sB_, sC_, i64_w, i32_w]
          rfl
         refine pure_ (i := 21) (N := (some 143)) (v := ?_) (a' := ?_) (bl 32 22 []) rfl rfl (by kernel_rfl) (fun _ _ _ h => h) (Or.inl ⟨by rfl, ?_⟩) ?_ ?_
         rotate_left
         ·intro w'
          go_simp
          with_reducible rfl
         rotate_left
         ·simp only [Act.put, sA_, sB_, sC_, i64_w, i32_w]
          rfl
         refine pure_ (i := 22) (N := (some 144)) (v := ?_) (a' := ?_) (bl 32 23 []) rfl rfl (by kernel_rfl) (fun _ _ _ h => h) (Or.inl ⟨by rfl, ?_⟩) ?_ ?_
         rotate_left
         ·intro w'
          go_simp
          with_reducible rfl
         rotate_left
         ·simp only [Act.put, sA_, sB_, sC_, i64_w, i32_w]
          rfl
         refine take_ (i := 23) (N := (some 145)) (v := ?_) (a' := ?_) (bl 32 24 []) rfl rfl (by kernel_rfl) (fun _ _ _ h => h) (Or.inl ⟨by rfl, ?_⟩) hHeld ?_ ?_
         rotate_left
         ·rintro w' ⟨s0, s1, s2⟩
          have z1 : w'.cell? ⟨g11, 4, none⟩ = some (.slice q2.a1 v.l1.length q2.c1) := by rw [← LQ]; exact (blk_cell s2 4).trans rfl
          go_simp
          with_reducible rfl
         rotate_left
         ·simp only [Act.put, sA_, sB_, sC_, i64_w, i32_w]
          rfl
         refine pure_ (i := 24) (N := (some 146)) (v := ?_) (a' := ?_) (bl 32 25 []) rfl rfl (by kernel_rfl) (fun _ _ _ h => h) (Or.inl ⟨by rfl, ?_⟩) ?_ ?_
         rotate_left
         ·intro w'
          go_simp
          with_reducible rfl
         rotate_left
         ·simp only [Act.put, sA_, sB_, sC_, i64_w, i32_w]
          rfl
         refine pure_ (i := 25) (N := (some 147)) (v := ?_) (a' := ?_) (bl 32 26 []) rfl rfl (by kernel_rfl) (fun _ _ _ h => h) (Or.inl ⟨by rfl, ?_⟩) ?_ ?_
         rotate_left
         ·intro w'
          go_simp
          with_reducible rfl
         rotate_left
         ·simp only [Act.put, sA_, sB_, sC_, i64_w, i32_w]
          rfl
         refine pure_ (i := 26) (N := (some 148)) (v := ?_) (a' := ?_) (bl 32 27 []) rfl rfl (by kernel_rfl) (fun _ _ _ h => h) (Or.inl ⟨by rfl, ?_⟩) ?_ ?_
         rotate_left
         ·intro w'
          go_simp
          with_reducible rfl
         rotate_left
         ·simp only [Act.put, sA_, sB_, sC_, i64_w, i32_w]
          rfl
         refine take_ (i := 27) (N := (some 149)) (v := ?_) (a' := ?_) (bl 32 28 []) rfl rfl (by kernel_rfl) (fun _ _ _ h => h) (Or.inl ⟨by rfl, ?_⟩) hHeld ?_ ?_
         rotate_left
         ·rintro w' ⟨s0, s1, s2⟩
          have z2 : w'.cell? ⟨w.heap.size, 4, none⟩ = some (.slice p.a1 v.l1.length p.c1) := (blk_cell s0 4).trans rfl
          go_simp
          with_reducible rfl
         rotate_left
         ·simp only [Act.put, sA_, sB_, sC_, i64_w, i32_w]
          rfl
         refine one_ (i := 28) (N := (some 150)) (bl 32 29 []) rfl rfl (by kernel_rfl) (by decide) (fun K hK => ?_)
         refine goes_ Try.func47 (by kernel_rfl) rfl #[.slice q2.a1 v.l1.length q2.c1, .slice p.a1 v.l1.length p.c1] (by rfl) rfl rfl (by (try simp only [List.map_toArray, List.map_cons, List.map_nil]); first | done | rfl) ?_
         (with_reducible refine (SMET wd HBWd.out HBd.out).mono ?_)
         rintro e wA ⟨rfl, hb⟩
         refine ⟨_, rfl, ?_⟩
         have HBWA := Aside0.mk (below_step HBWd.out hb)
         clear HBWd HBd
         have hOld := hHeld
         clear hHeld
         refine hK.out _ _ (⟨blk_below hOld.1 hb, blk_below hOld.2.1 hb, blk_below hOld.2.2 hb⟩) (fun hHeld => ?_)
         clear hOld hK K
         refine norm_ (a' := ?_) ?_ ?_
         rotate_left
         ·show Act.put _ (some 150) _ = _
          simp only [Act.put, List.setIfInBounds_toArray, List.set_cons_zero, List.set_cons_succ, i64_w, i32_w]
          rfl
         refine pure_ (i := 29) (N := (some 151)) (v := ?_) (a' := ?_) (bl 32 30 []) rfl rfl (by kernel_rfl) (fun _ _ _ h => h) (Or.inl ⟨by rfl, ?_⟩) ?_ ?_
         rotate_left
         ·intro w'
          go_simp
          with_reducible rfl
         rotate_left
         ·simp only [Act.put, sA_, sB_, sC_, i64_w, i32_w]
          rfl
         refine pure_ (i := 30) (N := (some 152)) (v := ?_) (a' := ?_) (bl 32 31 []) rfl rfl (by kernel_rfl) (fun _ _ _ h => h) (Or.inl ⟨by rfl, ?_⟩) ?_ ?_
         rotate_left
         ·intro w'
          go_simp
          with_reducible rfl
         rotate_left
         ·simp only [Act.put, sA_, sB_, sC_, i64_w, i32_w]
          rfl
         refine pure_ (i := 31) (N := (some 153)) (v := ?_) (a' := ?_) (bl 32 32 []) rfl rfl (by kernel_rfl) (fun _ _ _ h => h) (Or.inl ⟨by rfl, ?_⟩) ?_ ?_
         rotate_left
         ·intro w'
          go_simp
          with_reducible rfl
         rotate_left
         ·simp only [Act.put, sA_, sB_, sC_, i64_w, i32_w]
          rfl
         refine done_ (by kernel_rfl) ?_
         clear hHeld
         go_wp2_with fail
         go_roundg z
         case measure => omega
         case rel => exact ⟨2, rfl, ⟨by have := HK.out; omega⟩, HBWA⟩
        ·have b5 : wr.cell? ⟨w.heap.size, 5, none⟩ = some (.slice p.a2 v.l2.length p.c2) := (blk_cell X1r.out 5).trans rfl
         have k0 : wr.cell? ⟨g7, 0, none⟩ = some (.int .i64 2) := (blk_cell X7r.out 0).trans rfl
         have k1 : wr.cell? ⟨g7, 1, none⟩ = some (.slice Ai In.length ci) := (blk_cell X7r.out 1).trans rfl
         have k2 : wr.cell? ⟨g7, 2, none⟩ = some (.slice Ao Ov.length co) := (blk_cell X7r.out 2).trans rfl
         have c5 : wr.cell? ⟨g11, 5, none⟩ = some (.slice q2.a2 u.l2.length q2.c2) := (blk_cell X11r.out 5).trans rfl
         go_upto_region 18 with (fail)
         rw [WIN.out]
         go_quiet (fail)
         go_wp2_with fail
         go_roundg z
         case measure => omega
         case rel => exact ⟨3, rfl, ⟨by have := HK.out; omega⟩, ⟨pw_below_drewN HBW.out nq⟩⟩
        ·have b6 : wr.cell? ⟨w.heap.size, 6, none⟩ = some (.slice p.a3 v.l3.length p.c3) := (blk_cell X1r.out 6).trans rfl
         have k0 : wr.cell? ⟨g7, 0, none⟩ = some (.int .i64 2) := (blk_cell X7r.out 0).trans rfl
         have k1 : wr.cell? ⟨g7, 1, none⟩ = some (.slice Ai In.length ci) := (blk_cell X7r.out 1).trans rfl
         have k2 : wr.cell? ⟨g7, 2, none⟩ = some (.slice Ao Ov.length co) := (blk_cell X7r.out 2).trans rfl
         have c6 : wr.cell? ⟨g11, 6, none⟩ = some (.slice q2.a3 u.l3.length q2.c3) := (blk_cell X11r.out 6).trans rfl
         go_upto_region 18 with (fail)
         rw [WOV.out]
         go_quiet (fail)
         go_wp2_with fail
         go_roundg z
         case measure => omega
         case rel => exact ⟨4, rfl, ⟨by have := HK.out; omega⟩, ⟨pw_below_drewN HBW.out nq⟩⟩
end Go.Proofs.Ytkjepfofiegcdaa.V
