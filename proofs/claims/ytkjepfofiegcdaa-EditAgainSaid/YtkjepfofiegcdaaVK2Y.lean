import Derived.Test.YtkjepfofiegcdaaVM5Y
/- The law EditAgain (15), walked. Conditions: numbers are such as the machine has. -/
namespace Go.Proofs.Ytkjepfofiegcdaa.V
set_option linter.unusedVariables false
set_option linter.unusedSimpArgs false
open Go.RowKit Go.Proofs.YtkjepfofiegcdaaW.PrintWords Go.Proofs.YtkjepfofiegcdaaW.PrintLast Go.Proofs.YtkjepfofiegcdaaW.PrintMore Go.Proofs.Ytkjepfofiegcdaa.PB14
theorem backL_snoc (l : List S82) {k : Nat} (hk : k < l.length) : backL (l.take (k + 1)) = backL (l.take k) ++ [⟨(l.getD k z82).f0, (l.getD k z82).f1.f0⟩] := by
  unfold backL
  rw [take_snoc l z82 hk, List.map_append]
  rfl
set_option maxHeartbeats 8000000 in
set_option maxRecDepth 100000 in
theorem editAgain_calls (w : World) (v : Ver) (p : Pl) (A : Option Addr) (c : Nat) (l : List S82) (hC : VC w v p) (hW : VW v) (hL : k82.C w A l.length l) (hlc : l.length ≤ c) : Calls Try.prog 15 #[.agg (vCs v p), .slice A l.length c] w fun x w' => x = .returned (.bool true) ∧ Below w.heap.size w w' := by
  have HC := Aside0.mk hC
  have HW := Aside0.mk hW
  have H2 := Aside0.mk hL
  have HLC := Aside0.mk hlc
  obtain ⟨u, f, huf⟩ : ∃ u f, applyV v ⟨0, 0, 0, [], l⟩ = (u, f) := ⟨_, _, rfl⟩
  have UF := Aside0.mk huf
  have HB1 := Aside0.mk ((Below.refl w.heap.size w).alloc (Nat.le_refl _) (.cells (vCs v p) 26))
  have X1 := Aside0.mk (blk_new w (.cells (vCs v p) 26))
  clear hC hW hL hlc huf
  go_enter Try.func15, Try.ntmps15
  go_upto_region 1 with (fail)
  generalize w.alloc (.cells (vCs v p) 26) = w1 at *
  by_cases hm : manyP v
  · have MC := many51_calls w1 v p
    rw [decide_eq_true hm] at MC
    clear hm
    have b0 : w1.cell? ⟨w.heap.size, 0, none⟩ = some (.int .u64 v.log) := (blk_cell X1.out 0).trans rfl
    have b1 : w1.cell? ⟨w.heap.size, 1, none⟩ = some (.int .u64 v.next) := (blk_cell X1.out 1).trans rfl
    have b2 : w1.cell? ⟨w.heap.size, 2, none⟩ = some (.int .u64 v.seq) := (blk_cell X1.out 2).trans rfl
    have b3 : w1.cell? ⟨w.heap.size, 3, none⟩ = some (.slice p.a0 v.l0.length p.c0) := (blk_cell X1.out 3).trans rfl
    have b4 : w1.cell? ⟨w.heap.size, 4, none⟩ = some (.slice p.a1 v.l1.length p.c1) := (blk_cell X1.out 4).trans rfl
    have b5 : w1.cell? ⟨w.heap.size, 5, none⟩ = some (.slice p.a2 v.l2.length p.c2) := (blk_cell X1.out 5).trans rfl
    have b6 : w1.cell? ⟨w.heap.size, 6, none⟩ = some (.slice p.a3 v.l3.length p.c3) := (blk_cell X1.out 6).trans rfl
    go_wp2_with fail
    refine MC.mono ?_
    rintro x w2 ⟨rfl, hb⟩
    have HB2 := Aside0.mk (below_step HB1.out hb)
    clear hb MC b0 b1 b2 b3 b4 b5 b6
    go_wp2_with fail
    refine (awake14_calls _).mono ?_
    rintro x w9 ⟨rfl, hb⟩
    have HB9 := Aside0.mk (below_step HB2.out hb)
    clear hb
    go_wp2_with fail
    go_ret
    exact ⟨rfl, HB9.out⟩
  · have MC := many51_calls w1 v p
    rw [decide_eq_false hm] at MC
    have HL := Aside0.mk (show ∀ i, i < 4 → (v.lv i).length ≤ 80 from fun i hi => Classical.byContradiction fun h => hm ⟨i, hi, by omega⟩)
    clear hm
    have b0 : w1.cell? ⟨w.heap.size, 0, none⟩ = some (.int .u64 v.log) := (blk_cell X1.out 0).trans rfl
    have b1 : w1.cell? ⟨w.heap.size, 1, none⟩ = some (.int .u64 v.next) := (blk_cell X1.out 1).trans rfl
    have b2 : w1.cell? ⟨w.heap.size, 2, none⟩ = some (.int .u64 v.seq) := (blk_cell X1.out 2).trans rfl
    have b3 : w1.cell? ⟨w.heap.size, 3, none⟩ = some (.slice p.a0 v.l0.length p.c0) := (blk_cell X1.out 3).trans rfl
    have b4 : w1.cell? ⟨w.heap.size, 4, none⟩ = some (.slice p.a1 v.l1.length p.c1) := (blk_cell X1.out 4).trans rfl
    have b5 : w1.cell? ⟨w.heap.size, 5, none⟩ = some (.slice p.a2 v.l2.length p.c2) := (blk_cell X1.out 5).trans rfl
    have b6 : w1.cell? ⟨w.heap.size, 6, none⟩ = some (.slice p.a3 v.l3.length p.c3) := (blk_cell X1.out 6).trans rfl
    by_cases hl : 300 < l.length
    · have t0 : decide (300 < l.length) = true := decide_eq_true hl
      have t1 : decide (300 < (l.length : Int)) = true := decide_eq_true (by omega)
      clear hl
      go_wp2_with fail
      refine MC.mono ?_
      rintro x w2 ⟨rfl, hb⟩
      have HB2 := Aside0.mk (below_step HB1.out hb)
      clear hb MC b0 b1 b2 b3 b4 b5 b6
      go_wp2_with fail
      refine (awake14_calls _).mono ?_
      rintro x w9 ⟨rfl, hb⟩
      have HB9 := Aside0.mk (below_step HB2.out hb)
      clear hb
      go_wp2_with fail
      go_ret
      exact ⟨rfl, HB9.out⟩
    · have t0 : decide (300 < l.length) = false := decide_eq_false hl
      have t1 : decide (300 < (l.length : Int)) = false := decide_eq_false (by omega)
      have LL := Aside0.mk (show l.length ≤ 300 by omega)
      clear hl
      go_wp2_with fail
      refine MC.mono ?_
      rintro x w3 ⟨rfl, hb⟩
      have HB3 := Aside0.mk (below_step HB1.out hb)
      have X13 := Aside0.mk (blk_below X1.out hb)
      clear hb MC b0 b1 b2 b3 b4 b5 b6
      have b0 : w3.cell? ⟨w.heap.size, 0, none⟩ = some (.int .u64 v.log) := (blk_cell X13.out 0).trans rfl
      have b1 : w3.cell? ⟨w.heap.size, 1, none⟩ = some (.int .u64 v.next) := (blk_cell X13.out 1).trans rfl
      have b2 : w3.cell? ⟨w.heap.size, 2, none⟩ = some (.int .u64 v.seq) := (blk_cell X13.out 2).trans rfl
      have b3 : w3.cell? ⟨w.heap.size, 3, none⟩ = some (.slice p.a0 v.l0.length p.c0) := (blk_cell X13.out 3).trans rfl
      have b4 : w3.cell? ⟨w.heap.size, 4, none⟩ = some (.slice p.a1 v.l1.length p.c1) := (blk_cell X13.out 4).trans rfl
      have b5 : w3.cell? ⟨w.heap.size, 5, none⟩ = some (.slice p.a2 v.l2.length p.c2) := (blk_cell X13.out 5).trans rfl
      have b6 : w3.cell? ⟨w.heap.size, 6, none⟩ = some (.slice p.a3 v.l3.length p.c3) := (blk_cell X13.out 6).trans rfl
      go_wp2_with fail
      refine (apply2_calls _ v p ⟨0, 0, 0, [], l⟩ none A 0 c UF.out (HC.out.below HB3.out) HW.out (zero84 _) (Kd.C_below H2.out HB3.out) (fun i hi => Nat.le_trans (HL.out i hi) (by decide)) (Nat.le_trans LL.out (by decide))).mono ?_
      rintro x w4 ⟨q, rfl, hR4, hb⟩
      have HB4 := Aside0.mk (below_step HB3.out hb)
      have X14 := Aside0.mk (blk_below X13.out hb)
      have VU := Aside0.mk hR4.vc
      clear hb hR4 b0 b1 b2 b3 b4 b5 b6
      have HB5 := Aside0.mk (below_alloc HB4.out (.cells (vCs u q) 26))
      have X15 := Aside0.mk (blk_alloc X14.out (.cells (vCs u q) 26))
      have X55 := Aside0.mk (blk_new w4 (.cells (vCs u q) 26))
      have VU5 := Aside0.mk (VU.out.below (below_alloc (Below.refl w4.heap.size w4) (.cells (vCs u q) 26)))
      go_upto_region 4 with (fail)
      generalize w4.heap.size = g5 at *
      generalize w4.alloc (.cells (vCs u q) 26) = w5 at *
      by_cases hf : f = 0
      · subst hf
        have HR := Aside0.mk (applyV_ok UF.out).1
        have HRU := Aside0.mk (applyV_ok UF.out).2
        have VWU := Aside0.mk (right_vw HRU.out)
        have AG := Aside0.mk (again UF.out)
        go_wp2_with fail
        go_loopg [7, 8] l.length (fun kq v7 v8 w' => ∃ (i : Nat) (B : Option Addr) (cb : Nat), v8 = .int .i64 (i : Int) ∧ v7 = .slice B (backL (l.take i)).length cb ∧ Aside0 (kq + i = l.length) ∧ Aside0 (Below w5.heap.size w5 w') ∧ Aside0 (k84.R 84 w' w5.heap.size (fun _ => True) (.slice B (backL (l.take i)).length cb) (backL (l.take i))))
        case atStart => exact ⟨0, none, 0, rfl, rfl, ⟨by omega⟩, ⟨Below.refl _ _⟩, ⟨Kd.R_nil _ _ _ _ _⟩⟩
        case round =>
          obtain ⟨i, B, cb, rfl, rfl, HK, HBL, RG⟩ := hrel
          cases gk with
          | zero =>
            have ei : i = l.length := by have := HK.out; omega
            subst ei
            have d0 : decide ((l.length : Int) < (l.length : Int)) = false := by simp
            rw [List.take_length] at RG ⊢
            have HB6 := Aside0.mk (HB5.out.trans (HBL.out.mono HB5.out.size))
            have X16 := Aside0.mk (blk_below X15.out HBL.out)
            have X56 := Aside0.mk (blk_below X55.out HBL.out)
            have VU6 := Aside0.mk (VU5.out.below HBL.out)
            have KG := Aside0.mk (Kd.R_reads' RG.out).2.2
            have c0 : wr.cell? ⟨g5, 0, none⟩ = some (.int .u64 u.log) := (blk_cell X56.out 0).trans rfl
            have c1 : wr.cell? ⟨g5, 1, none⟩ = some (.int .u64 u.next) := (blk_cell X56.out 1).trans rfl
            have c2 : wr.cell? ⟨g5, 2, none⟩ = some (.int .u64 u.seq) := (blk_cell X56.out 2).trans rfl
            have c3 : wr.cell? ⟨g5, 3, none⟩ = some (.slice q.a0 u.l0.length q.c0) := (blk_cell X56.out 3).trans rfl
            have c4 : wr.cell? ⟨g5, 4, none⟩ = some (.slice q.a1 u.l1.length q.c1) := (blk_cell X56.out 4).trans rfl
            have c5 : wr.cell? ⟨g5, 5, none⟩ = some (.slice q.a2 u.l2.length q.c2) := (blk_cell X56.out 5).trans rfl
            have c6 : wr.cell? ⟨g5, 6, none⟩ = some (.slice q.a3 u.l3.length q.c3) := (blk_cell X56.out 6).trans rfl
            go_wp2_with fail
            refine (apply2_calls _ u q ⟨0, 0, 0, backL l, []⟩ B none cb 0 AG.out VU6.out VWU.out KG.out (zero82 _) (fun j hj => Nat.le_trans (HRU.out.2.1.1 j hj) (by decide)) (Nat.zero_le _)).mono ?_
            rintro x w7 ⟨q9, rfl, hR9, hb⟩
            have HB7 := Aside0.mk (below_step HB6.out hb)
            have X17 := Aside0.mk (blk_below X16.out hb)
            have V9 := Aside0.mk hR9.vc
            clear hb hR9 c0 c1 c2 c3 c4 c5 c6
            have HB8 := Aside0.mk (below_alloc HB7.out (.cells (vCs v q9) 26))
            have X18 := Aside0.mk (blk_alloc X17.out (.cells (vCs v q9) 26))
            have X98 := Aside0.mk (blk_new w7 (.cells (vCs v q9) 26))
            have V98 := Aside0.mk (V9.out.below (below_alloc (Below.refl w7.heap.size w7) (.cells (vCs v q9) 26)))
            go_upto_region 12 with (fail)
            generalize w7.heap.size = g9 at *
            generalize w7.alloc (.cells (vCs v q9) 26) = w8 at *
            have c0 : w8.cell? ⟨g9, 0, none⟩ = some (.int .u64 v.log) := (blk_cell X98.out 0).trans rfl
            have c1 : w8.cell? ⟨g9, 1, none⟩ = some (.int .u64 v.next) := (blk_cell X98.out 1).trans rfl
            have c2 : w8.cell? ⟨g9, 2, none⟩ = some (.int .u64 v.seq) := (blk_cell X98.out 2).trans rfl
            have c3 : w8.cell? ⟨g9, 3, none⟩ = some (.slice q9.a0 v.l0.length q9.c0) := (blk_cell X98.out 3).trans rfl
            have c4 : w8.cell? ⟨g9, 4, none⟩ = some (.slice q9.a1 v.l1.length q9.c1) := (blk_cell X98.out 4).trans rfl
            have c5 : w8.cell? ⟨g9, 5, none⟩ = some (.slice q9.a2 v.l2.length q9.c2) := (blk_cell X98.out 5).trans rfl
            have c6 : w8.cell? ⟨g9, 6, none⟩ = some (.slice q9.a3 v.l3.length q9.c3) := (blk_cell X98.out 6).trans rfl
            have b0 : w8.cell? ⟨w.heap.size, 0, none⟩ = some (.int .u64 v.log) := (blk_cell X18.out 0).trans rfl
            have b1 : w8.cell? ⟨w.heap.size, 1, none⟩ = some (.int .u64 v.next) := (blk_cell X18.out 1).trans rfl
            have b2 : w8.cell? ⟨w.heap.size, 2, none⟩ = some (.int .u64 v.seq) := (blk_cell X18.out 2).trans rfl
            have b3 : w8.cell? ⟨w.heap.size, 3, none⟩ = some (.slice p.a0 v.l0.length p.c0) := (blk_cell X18.out 3).trans rfl
            have b4 : w8.cell? ⟨w.heap.size, 4, none⟩ = some (.slice p.a1 v.l1.length p.c1) := (blk_cell X18.out 4).trans rfl
            have b5 : w8.cell? ⟨w.heap.size, 5, none⟩ = some (.slice p.a2 v.l2.length p.c2) := (blk_cell X18.out 5).trans rfl
            have b6 : w8.cell? ⟨w.heap.size, 6, none⟩ = some (.slice p.a3 v.l3.length p.c3) := (blk_cell X18.out 6).trans rfl
            go_wp2_with fail
            refine (same_self _ v q9 p V98.out (HC.out.below HB8.out)).mono ?_
            rintro x w10 ⟨rfl, hb⟩
            have HB10 := Aside0.mk (below_step HB8.out hb)
            clear hb b0 b1 b2 b3 b4 b5 b6 c0 c1 c2 c3 c4 c5 c6
            go_wp2_with fail
            refine (awake14_calls _).mono ?_
            rintro x w9 ⟨rfl, hb⟩
            have HB9 := Aside0.mk (below_step HB10.out hb)
            clear hb
            go_wp2_with fail
            go_ret
            exact ⟨rfl, HB9.out⟩
          | succ z =>
            have hi : i < l.length := by have := HK.out; omega
            have HI := Aside0.mk hi
            have d0 : decide ((i : Int) < (l.length : Int)) = true := decide_eq_true (by omega)
            have d1 : decide (i < l.length) = true := decide_eq_true hi
            have p0 : 0 ≤ (i : Int) := Int.natCast_nonneg _
            have p1 : (i : Int) < (l.length : Int) := by omega
            obtain ⟨ad, ea, ha0, ha1, _, _, _, _, _, _⟩ := at_T82 (Kd.C_below H2.out (HB5.out.trans (HBL.out.mono HB5.out.size))) (i : Int) p0 p1
            rw [Int.toNat_natCast] at ha0 ha1
            have EM := Aside0.mk (show rd_T82 l (i : Int) = l.getD i z82 by unfold rd_T82; rw [Int.toNat_natCast])
            generalize rd_T82 l (i : Int) = x at *
            rw [ea]
            have HAX := Aside0.mk ea
            have ew : wrap64 ((i : Int) + 1) = ((i + 1 : Nat) : Int) := by have h1 := LL.out; unfold wrap64; omega
            obtain ⟨G, hG⟩ : ∃ G, backL (l.take i) = G := ⟨_, rfl⟩
            rw [hG] at RG ⊢
            have GE := Aside0.mk hG
            have GLN := Aside0.mk (show G.length ≤ 300 by rw [← hG]; unfold backL; rw [List.length_map, List.length_take]; have := LL.out; omega)
            clear hG hi ea
            go_upto_region 10 with (fail)
            refine start_ (n := 16) (S := (fun w' => w'.cell? (ad.add (i * 8)) = some (.int .i64 x.f0) ∧ w'.cell? ⟨(ad.add (i * 8)).block, (ad.add (i * 8)).off + 1, none⟩ = some (.int .u64 x.f1.f0))) (ds := [14]) #[false, false, false, false, false, false, false, false, false, false, false, false, false, false, false, false] (by kernel_rfl) rfl rfl ⟨ha0, ha1⟩ (fun hHeld => ?_)
            have HBd := Aside0.mk (below_drew HBL.out)
            have RGd := Aside0.mk (Kd.R_below RG.out (below_drew (Below.refl _ _)))
            clear HBL RG ha0 ha1
            generalize wr.drew = wd at *
            -- 0: Op.move t7
            refine pure_ (i := 0) (N := (some 40)) (v := ?_) (a' := ?_) #[true, false, false, false, false, false, false, false, false, false, false, false, false, false, false, false] rfl rfl (by kernel_rfl) (fun _ _ _ h => h) (Or.inl ⟨by rfl, ?_⟩) ?_ ?_
            rotate_left
            · intro w'
              go_simp
              with_reducible rfl
            rotate_left
            · simp only [Act.put, List.setIfInBounds_toArray, List.set_cons_zero, List.set_cons_succ, i64_w, i32_w]
              rfl
            -- 1: Op.move t1
            refine pure_ (i := 1) (N := (some 41)) (v := ?_) (a' := ?_) #[true, true, false, false, false, false, false, false, false, false, false, false, false, false, false, false] rfl rfl (by kernel_rfl) (fun _ _ _ h => h) (Or.inl ⟨by rfl, ?_⟩) ?_ ?_
            rotate_left
            · intro w'
              go_simp
              with_reducible rfl
            rotate_left
            · simp only [Act.put, List.setIfInBounds_toArray, List.set_cons_zero, List.set_cons_succ, i64_w, i32_w]
              rfl
            -- 2: Op.move t8
            refine pure_ (i := 2) (N := (some 42)) (v := ?_) (a' := ?_) #[true, true, true, false, false, false, false, false, false, false, false, false, false, false, false, false] rfl rfl (by kernel_rfl) (fun _ _ _ h => h) (Or.inl ⟨by rfl, ?_⟩) ?_ ?_
            rotate_left
            · intro w'
              go_simp
              with_reducible rfl
            rotate_left
            · simp only [Act.put, List.setIfInBounds_toArray, List.set_cons_zero, List.set_cons_succ, i64_w, i32_w]
              rfl
            -- 3: Op.indexAddr 68 t41 t42
            refine pure_ (i := 3) (N := (some 43)) (v := ?_) (a' := ?_) #[true, true, true, true, false, false, false, false, false, false, false, false, false, false, false, false] rfl rfl (by kernel_rfl) (fun _ _ _ h => h) (Or.inl ⟨by rfl, ?_⟩) ?_ ?_
            rotate_left
            · intro w'
              go_simp
              with_reducible rfl
            rotate_left
            · simp only [Act.put, List.setIfInBounds_toArray, List.set_cons_zero, List.set_cons_succ, i64_w, i32_w]
              rfl
            -- 4: Op.fieldAddr 82 t43 0
            refine pure_ (i := 4) (N := (some 44)) (v := ?_) (a' := ?_) #[true, true, true, true, true, false, false, false, false, false, false, false, false, false, false, false] rfl rfl (by kernel_rfl) (fun _ _ _ h => h) (Or.inl ⟨by rfl, ?_⟩) ?_ ?_
            rotate_left
            · intro w'
              go_simp
              with_reducible rfl
            rotate_left
            · simp only [Act.put, List.setIfInBounds_toArray, List.set_cons_zero, List.set_cons_succ, i64_w, i32_w]
              rfl
            -- 5: Op.load 3 t44
            refine take_ (i := 5) (N := (some 45)) (v := ?_) (a' := ?_) #[true, true, true, true, true, true, false, false, false, false, false, false, false, false, false, false] rfl rfl (by kernel_rfl) (fun _ _ _ h => h) (Or.inl ⟨by rfl, ?_⟩) hHeld ?_ ?_
            rotate_left
            · rintro w' ⟨s0, s1⟩
              go_simp
              with_reducible rfl
            rotate_left
            · simp only [Act.put, List.setIfInBounds_toArray, List.set_cons_zero, List.set_cons_succ, i64_w, i32_w]
              rfl
            -- 6: Op.move t1
            refine pure_ (i := 6) (N := (some 46)) (v := ?_) (a' := ?_) #[true, true, true, true, true, true, true, false, false, false, false, false, false, false, false, false] rfl rfl (by kernel_rfl) (fun _ _ _ h => h) (Or.inl ⟨by rfl, ?_⟩) ?_ ?_
            rotate_left
            · intro w'
              go_simp
              with_reducible rfl
            rotate_left
            · simp only [Act.put, List.setIfInBounds_toArray, List.set_cons_zero, List.set_cons_succ, i64_w, i32_w]
              rfl
            -- 7: Op.move t8
            refine pure_ (i := 7) (N := (some 47)) (v := ?_) (a' := ?_) #[true, true, true, true, true, true, true, true, false, false, false, false, false, false, false, false] rfl rfl (by kernel_rfl) (fun _ _ _ h => h) (Or.inl ⟨by rfl, ?_⟩) ?_ ?_
            rotate_left
            · intro w'
              go_simp
              with_reducible rfl
            rotate_left
            · simp only [Act.put, List.setIfInBounds_toArray, List.set_cons_zero, List.set_cons_succ, i64_w, i32_w]
              rfl
            -- 8: Op.indexAddr 68 t46 t47
            refine pure_ (i := 8) (N := (some 48)) (v := ?_) (a' := ?_) #[true, true, true, true, true, true, true, true, true, false, false, false, false, false, false, false] rfl rfl (by kernel_rfl) (fun _ _ _ h => h) (Or.inl ⟨by rfl, ?_⟩) ?_ ?_
            rotate_left
            · intro w'
              go_simp
              with_reducible rfl
            rotate_left
            · simp only [Act.put, List.setIfInBounds_toArray, List.set_cons_zero, List.set_cons_succ, i64_w, i32_w]
              rfl
            -- 9: Op.fieldAddr 82 t48 1
            refine pure_ (i := 9) (N := (some 49)) (v := ?_) (a' := ?_) #[true, true, true, true, true, true, true, true, true, true, false, false, false, false, false, false] rfl rfl (by kernel_rfl) (fun _ _ _ h => h) (Or.inl ⟨by rfl, ?_⟩) ?_ ?_
            rotate_left
            · intro w'
              go_simp
              with_reducible rfl
            rotate_left
            · simp only [Act.put, List.setIfInBounds_toArray, List.set_cons_zero, List.set_cons_succ, i64_w, i32_w]
              rfl
            -- 10: Op.fieldAddr 58 t49 0
            refine pure_ (i := 10) (N := (some 50)) (v := ?_) (a' := ?_) #[true, true, true, true, true, true, true, true, true, true, true, false, false, false, false, false] rfl rfl (by kernel_rfl) (fun _ _ _ h => h) (Or.inl ⟨by rfl, ?_⟩) ?_ ?_
            rotate_left
            · intro w'
              go_simp
              with_reducible rfl
            rotate_left
            · simp only [Act.put, List.setIfInBounds_toArray, List.set_cons_zero, List.set_cons_succ, i64_w, i32_w]
              rfl
            -- 11: Op.load 22 t50
            refine take_ (i := 11) (N := (some 51)) (v := ?_) (a' := ?_) #[true, true, true, true, true, true, true, true, true, true, true, true, false, false, false, false] rfl rfl (by kernel_rfl) (fun _ _ _ h => h) (Or.inl ⟨by rfl, ?_⟩) hHeld ?_ ?_
            rotate_left
            · rintro w' ⟨s0, s1⟩
              go_simp
              with_reducible rfl
            rotate_left
            · simp only [Act.put, List.setIfInBounds_toArray, List.set_cons_zero, List.set_cons_succ, i64_w, i32_w]
              rfl
            -- 12: Op.build 84 #[(0, t45), (1, t51)]
            refine pure_ (i := 12) (N := (some 52)) (v := ?_) (a' := ?_) #[true, true, true, true, true, true, true, true, true, true, true, true, true, false, false, false] rfl rfl (by kernel_rfl) (fun _ _ _ h => h) (Or.inl ⟨by rfl, ?_⟩) ?_ ?_
            rotate_left
            · intro w'
              go_simp
              with_reducible rfl
            rotate_left
            · simp only [Act.put, List.setIfInBounds_toArray, List.set_cons_zero, List.set_cons_succ, i64_w, i32_w]
              rfl
            -- 13: Op.buildSlice 67 1 #[(0, t52)]
            refine one_ (i := 13) (N := (some 53)) #[true, true, true, true, true, true, true, true, true, true, true, true, true, true, false, false] rfl rfl (by kernel_rfl) (by decide) (fun K hK => ?_)
            refine value_ (w1 := wd.alloc (.cells #[.int .i64 x.f0, .int .u64 x.f1.f0] 84)) (v := .slice (some ⟨wd.heap.size, 0, none⟩) 1 1) (by rfl) rfl (by go_simp) ?_
            have hb := (Below.refl wd.heap.size wd).alloc (Nat.le_refl _) (.cells #[.int .i64 x.f0, .int .u64 x.f1.f0] 84)
            have hOld := hHeld
            clear hHeld
            refine hK.out _ _ (⟨pw_cell_below hb hOld.1, pw_cell_below hb hOld.2⟩) (fun hHeld => ?_)
            clear hOld hK K
            refine norm_ (a' := ?_) ?_ ?_
            rotate_left
            · show Act.put _ (some 53) _ = _
              simp only [Act.put, List.setIfInBounds_toArray, List.set_cons_zero, List.set_cons_succ, i64_w, i32_w]
              rfl
            -- 14: Op.call { builtin append, args := #[t40, t53], argTypes := #[67, 67] }
            refine last_ (i := 14) (N := (some 54)) #[true, true, true, true, true, true, true, true, true, true, true, true, true, true, true, false] rfl rfl (by kernel_rfl) (by decide) (fun K hK => ?_)
            refine Kd.R_append_step k84 (w0 := w5) (W := wd) w5.heap.size (by rfl) (.tmp 40) (.tmp 53) 67 84 (.agg #[(.int .i64 0), (.int .u64 0)]) 16 (by rfl) Try.underlying67 info84 rfl (by decide) (by omega) (.slice B G.length cb) G (⟨x.f0, x.f1.f0⟩ : S84) [.int .i64 x.f0, .int .u64 x.f1.f0] (fun _ => True) (fun _ => False) (by rfl) (by rfl) (k84_mkM _ _ _ (⟨x.f0, x.f1.f0⟩ : S84)) (fun _ h => h.elim) (fun _ _ => trivial) RGd.out HBd.out HBd.out.size (by have := GLN.out; omega) ?_
            intro va wa ho hb hg hat
            try clear hHeld
            refine hK.out _ _ ?_
            clear hK K
            refine norm_ (a' := ?_) ?_ ?_
            rotate_left
            · show Act.put _ (some 54) _ = _
              simp only [Act.put, List.setIfInBounds_toArray, List.set_cons_zero, List.set_cons_succ, i64_w, i32_w]
              rfl
            have HBa := Aside0.mk hb
            obtain ⟨G2, hG2⟩ : ∃ G2, G2 = G ++ [(⟨x.f0, x.f1.f0⟩ : S84)] := ⟨_, rfl⟩
            rw [← hG2] at ho
            obtain ⟨B', cb', hv'⟩ := Kd.R_slice ho
            subst hv'
            have RGa := Aside0.mk ho
            have GE2 := Aside0.mk hG2
            clear ho hb hg hat hG2
            -- 15: Op.assign t54
            refine pure_ (i := 15) (N := (some 7)) (v := ?_) (a' := ?_) #[true, true, true, true, true, true, true, true, true, true, true, true, true, true, true, true] rfl rfl (by kernel_rfl) (fun _ _ _ h => h) (Or.inl ⟨by rfl, ?_⟩) ?_ ?_
            rotate_left
            · intro w'
              go_simp
              with_reducible rfl
            rotate_left
            · simp only [Act.put, List.setIfInBounds_toArray, List.set_cons_zero, List.set_cons_succ, i64_w, i32_w]
              rfl
            refine done_ (by kernel_rfl) ?_
            go_wp2_with fail
            try rw [ew]
            rw [← HAX.out]
            clear ew
            have GN := Aside0.mk (show backL (l.take (i + 1)) = G2 by rw [backL_snoc l HI.out, GE.out, ← EM.out]; exact GE2.out.symm)
            go_roundg z
            case measure => omega
            case rel => exact ⟨i + 1, B', cb', rfl, by rw [GN.out], ⟨by have := HK.out; omega⟩, HBa, by rw [GN.out]; exact RGa⟩
      · have EU := Aside0.mk (applyV_bad UF.out hf)
        have f0 : decide (f = 0) = false := decide_eq_false hf
        have f1 : (f == 0) = false := beq_eq_false_iff_ne.mpr hf
        have f2 : (f != 0) = true := bne_iff_ne.mpr hf
        have f3 : decide (¬ f = 0) = true := decide_eq_true hf
        clear hf
        have c0 : w5.cell? ⟨g5, 0, none⟩ = some (.int .u64 u.log) := (blk_cell X55.out 0).trans rfl
        have c1 : w5.cell? ⟨g5, 1, none⟩ = some (.int .u64 u.next) := (blk_cell X55.out 1).trans rfl
        have c2 : w5.cell? ⟨g5, 2, none⟩ = some (.int .u64 u.seq) := (blk_cell X55.out 2).trans rfl
        have c3 : w5.cell? ⟨g5, 3, none⟩ = some (.slice q.a0 u.l0.length q.c0) := (blk_cell X55.out 3).trans rfl
        have c4 : w5.cell? ⟨g5, 4, none⟩ = some (.slice q.a1 u.l1.length q.c1) := (blk_cell X55.out 4).trans rfl
        have c5 : w5.cell? ⟨g5, 5, none⟩ = some (.slice q.a2 u.l2.length q.c2) := (blk_cell X55.out 5).trans rfl
        have c6 : w5.cell? ⟨g5, 6, none⟩ = some (.slice q.a3 u.l3.length q.c3) := (blk_cell X55.out 6).trans rfl
        go_wp2_with fail
        refine (show Calls Try.prog 61 #[.agg (vCs u q), .agg (vCs zeroV firstP)] w5 _ from by have h1 := VU5.out; have h2 := EU.out; subst h2; exact same_zero _ q h1).mono ?_
        rintro x w51 ⟨rfl, hb⟩
        have HB51 := Aside0.mk (below_step HB5.out hb)
        clear hb c0 c1 c2 c3 c4 c5 c6
        go_wp2_with fail
        refine (awake14_calls _).mono ?_
        rintro x w9 ⟨rfl, hb⟩
        have HB9 := Aside0.mk (below_step HB51.out hb)
        clear hb
        go_wp2_with fail
        go_ret
        exact ⟨rfl, HB9.out⟩
end Go.Proofs.Ytkjepfofiegcdaa.V
