import Derived.Test.YtkjepfofiegcdaaVE9Y
/- slices.Equal of tables, edit.Same, First, walked. Conditions: none. -/
namespace Go.Proofs.Ytkjepfofiegcdaa.V
set_option linter.unusedVariables false
set_option linter.unusedSimpArgs false
open Go.RowKit Go.Proofs.YtkjepfofiegcdaaW.PrintWords Go.Proofs.YtkjepfofiegcdaaW.PrintLast Go.Proofs.YtkjepfofiegcdaaW.PrintMore Go.Proofs.Ytkjepfofiegcdaa.PB14
attribute [local go_sem high] eqA58
set_option maxHeartbeats 8000000 in
set_option maxRecDepth 100000 in
theorem eqM_calls (w : World) (A B : Option Addr) (c d : Nat) (xs ys : List S58) (hx : k58.C w A xs.length xs) (hy : k58.C w B ys.length ys) : Calls Try.prog 116 #[.slice A xs.length c, .slice B ys.length d] w fun e w' => e = .returned (.bool (decide (xs = ys))) ∧ Below w.heap.size w w' := by
  have HX := Aside0.mk hx
  have HY := Aside0.mk hy
  clear hx hy
  obtain ⟨r, hr⟩ : ∃ r, r = decide (xs = ys) := ⟨_, rfl⟩
  rw [← hr]
  have HRR := Aside0.mk hr
  clear hr
  by_cases hl : xs.length = ys.length
  · have l0 : ((xs.length : Int) != (ys.length : Int)) = false := by rw [hl]; simp
    have l1 : (xs.length != ys.length) = false := by rw [hl]; simp
    have l2 : ((xs.length : Int) == (ys.length : Int)) = true := by rw [hl]; simp
    have l3 : (xs.length == ys.length) = true := by rw [hl]; simp
    have HL := Aside0.mk hl
    clear hl
    go_enter Try.func116, Try.ntmps116
    go_wp2_with fail
    clear l0 l1 l2 l3
    go_loopg [5, 13] xs.length (fun kq v5 v13 w' => ∃ k : Nat, v13 = .int .i64 (k : Int) ∧ Aside0 (kq + k = xs.length) ∧ Aside0 (Below w.heap.size w w') ∧ Aside0 (xs.take k = ys.take k))
    case atStart => exact ⟨0, rfl, ⟨by omega⟩, ⟨Below.refl _ _⟩, ⟨rfl⟩⟩
    case round =>
      obtain ⟨k, rfl, HK, HB, HT⟩ := hrel
      cases gk with
      | zero =>
        have ek : k = xs.length := by have := HK.out; omega
        subst ek
        have d0 : decide ((xs.length : Int) < (xs.length : Int)) = false := by simp
        go_wp2_with fail
        go_ret
        refine ⟨ret_bool ?_, HB.out⟩
        have h1 := HT.out
        rw [List.take_length] at h1
        have h2 : xs = ys := h1.trans (List.take_of_length_le (by have := HL.out; omega))
        rw [HRR.out]
        symm
        exact decide_eq_true h2
      | succ q =>
        have hk : k < xs.length := by have := HK.out; omega
        have HM := Aside0.mk (show xs.length ≤ 9223372036854775807 from HX.out.2.1)
        have d0 : decide ((k : Int) < (xs.length : Int)) = true := decide_eq_true (by omega)
        have d1 : decide (k < xs.length) = true := decide_eq_true hk
        have p0 : 0 ≤ (k : Int) := Int.natCast_nonneg _
        have p1 : (k : Int) < (xs.length : Int) := by omega
        have p2 : (k : Int) < (ys.length : Int) := by have := HL.out; omega
        have CX := Kd.C_below HX.out HB.out
        have CY := Kd.C_below HY.out HB.out
        obtain ⟨ad, ea, ha0, ha1, ha2, ha3, ha4, ha5, ha6⟩ := at_T58 CX (k : Int) p0 p1
        obtain ⟨bd, eb, hb0, hb1, hb2, hb3, hb4, hb5, hb6⟩ := at_T58 CY (k : Int) p0 p2
        rw [Int.toNat_natCast] at ha0 ha1 ha2 ha3 ha4 ha5 ha6 hb0 hb1 hb2 hb3 hb4 hb5 hb6
        clear CX CY
        have EA := Aside0.mk (show rd_T58 xs (k : Int) = xs.getD k z58 by unfold rd_T58; rw [Int.toNat_natCast])
        have EB := Aside0.mk (show rd_T58 ys (k : Int) = ys.getD k z58 by unfold rd_T58; rw [Int.toNat_natCast])
        generalize rd_T58 xs (k : Int) = a at *
        generalize rd_T58 ys (k : Int) = b at *
        rw [ea, eb]
        have HAX := Aside0.mk ea
        have HBX := Aside0.mk eb
        have HK1 := Aside0.mk hk
        have ew : wrap64 ((k : Int) + 1) = ((k + 1 : Nat) : Int) := by have h1 := HM.out; unfold wrap64; omega
        clear ea eb hk
        by_cases hab : a = b
        · have e0 : decide (a = b) = true := decide_eq_true hab
          have HAB := Aside0.mk (show xs.getD k z58 = ys.getD k z58 by rw [← EA.out, ← EB.out, hab])
          clear hab
          go_wp2_with fail
          go_quiet (fail)
          go_wp2_with fail
          try rw [ew]
          rw [← HAX.out, ← HBX.out]
          go_roundg q
          case measure => omega
          case rel => exact ⟨k + 1, rfl, ⟨by have := HK.out; omega⟩, ⟨pw_below_drewN HB.out nq⟩, ⟨take_eq HK1.out (by have := HL.out; have := HK1.out; omega) HAB.out HT.out⟩⟩
        · have e0 : decide (a = b) = false := decide_eq_false hab
          have HAB := Aside0.mk (show ¬ xs = ys from take_ne HK1.out (by have := HL.out; have := HK1.out; omega) (by rw [← EA.out, ← EB.out]; exact hab))
          clear hab
          go_wp2_with fail
          go_quiet (fail)
          go_wp2_with fail
          go_ret
          exact ⟨ret_bool (by rw [HRR.out]; symm; exact decide_eq_false HAB.out), pw_below_drewN HB.out nq⟩
  · have l0 : ((xs.length : Int) != (ys.length : Int)) = true := by simp; omega
    have l1 : (xs.length != ys.length) = true := by simp [hl]
    have l2 : ((xs.length : Int) == (ys.length : Int)) = false := by simp; omega
    have l3 : (xs.length == ys.length) = false := by simp [hl]
    have HN := Aside0.mk (show ¬ xs = ys from fun e => hl (by rw [e]))
    clear hl
    go_enter Try.func116, Try.ntmps116
    go_wp2_with fail
    go_ret
    exact ⟨ret_bool (by rw [HRR.out]; symm; exact decide_eq_false HN.out), Below.refl _ _⟩
set_option maxHeartbeats 8000000 in
set_option maxRecDepth 100000 in
theorem same61_calls (w : World) (a b : Ver) (p q : Pl) (ha : VC w a p) (hb : VC w b q) : Calls Try.prog 61 #[.agg (vCs a p), .agg (vCs b q)] w fun e w' => e = .returned (.bool (decide (sameP a b))) ∧ Below w.heap.size w w' := by
  have HA := Aside0.mk ha
  have HBV := Aside0.mk hb
  have HB := Aside0.mk (below_alloc ((Below.refl w.heap.size w).alloc (Nat.le_refl _) (.cells (vCs a p) 26)) (.cells (vCs b q) 26))
  have X2 := Aside0.mk (blk_alloc (blk_new w (.cells (vCs a p) 26)) (.cells (vCs b q) 26))
  have X3 := Aside0.mk (blk_new (w.alloc (.cells (vCs a p) 26)) (.cells (vCs b q) 26))
  clear ha hb
  obtain ⟨r, hr⟩ : ∃ r, r = decide (sameP a b) := ⟨_, rfl⟩
  rw [← hr]
  have HRR := Aside0.mk hr
  clear hr
  go_enter Try.func61, Try.ntmps61
  go_upto_region 1 with (fail)
  generalize hg3 : (w.alloc (.cells (vCs a p) 26)).heap.size = g3 at *
  have e3 : w.heap.size + 1 = g3 := by rw [← hg3]; simp
  try rw [e3]
  clear hg3 e3
  generalize (w.alloc (.cells (vCs a p) 26)).alloc (.cells (vCs b q) 26) = w1 at *
  have b0 : w1.cell? ⟨w.heap.size, 0, none⟩ = some (.int .u64 a.log) := (blk_cell X2.out 0).trans rfl
  have b1 : w1.cell? ⟨w.heap.size, 1, none⟩ = some (.int .u64 a.next) := (blk_cell X2.out 1).trans rfl
  have b2 : w1.cell? ⟨w.heap.size, 2, none⟩ = some (.int .u64 a.seq) := (blk_cell X2.out 2).trans rfl
  have d0 : w1.cell? ⟨g3, 0, none⟩ = some (.int .u64 b.log) := (blk_cell X3.out 0).trans rfl
  have d1 : w1.cell? ⟨g3, 1, none⟩ = some (.int .u64 b.next) := (blk_cell X3.out 1).trans rfl
  have d2 : w1.cell? ⟨g3, 2, none⟩ = some (.int .u64 b.seq) := (blk_cell X3.out 2).trans rfl
  go_wp2_with fail
  clear b0 b1 b2 d0 d1 d2
  go_loopg [5, 6] 4 (fun kq v5 v6 w' => ∃ i : Nat, v6 = .int .i64 (i : Int) ∧ Aside0 (kq + i = 4) ∧ Aside0 (Below w1.heap.size w1 w') ∧ Aside0 (∀ j, j < i → a.lv j = b.lv j))
  case atStart => exact ⟨0, rfl, ⟨by omega⟩, ⟨Below.refl _ _⟩, ⟨fun j hj => by omega⟩⟩
  case round =>
    obtain ⟨i, rfl, HK, HBB, HJ⟩ := hrel
    cases gk with
    | zero =>
      have ei : i = 4 := by have := HK.out; omega
      subst ei
      have HB9 := Aside0.mk (below_step HB.out HBB.out)
      have Y2 := blk_below X2.out HBB.out
      have Y3 := blk_below X3.out HBB.out
      have b0 : wr.cell? ⟨w.heap.size, 0, none⟩ = some (.int .u64 a.log) := (blk_cell Y2 0).trans rfl
      have b1 : wr.cell? ⟨w.heap.size, 1, none⟩ = some (.int .u64 a.next) := (blk_cell Y2 1).trans rfl
      have b2 : wr.cell? ⟨w.heap.size, 2, none⟩ = some (.int .u64 a.seq) := (blk_cell Y2 2).trans rfl
      have d0 : wr.cell? ⟨g3, 0, none⟩ = some (.int .u64 b.log) := (blk_cell Y3 0).trans rfl
      have d1 : wr.cell? ⟨g3, 1, none⟩ = some (.int .u64 b.next) := (blk_cell Y3 1).trans rfl
      have d2 : wr.cell? ⟨g3, 2, none⟩ = some (.int .u64 b.seq) := (blk_cell Y3 2).trans rfl
      clear Y2 Y3
      by_cases hx0 : a.log = b.log
      · have t0 : (a.log == b.log) = true := beq_iff_eq.mpr hx0
        have E0 := Aside0.mk hx0
        clear hx0
        by_cases hx1 : a.next = b.next
        · have t1 : (a.next == b.next) = true := beq_iff_eq.mpr hx1
          have E1 := Aside0.mk hx1
          clear hx1
          by_cases hx2 : a.seq = b.seq
          · have t2 : (a.seq == b.seq) = true := beq_iff_eq.mpr hx2
            have E2 := Aside0.mk hx2
            clear hx2
            go_wp2_with fail
            go_ret
            exact ⟨ret_bool (by rw [HRR.out]; symm; exact decide_eq_true ⟨⟨E0.out, E1.out, E2.out⟩, HJ.out⟩), HB9.out⟩
          · have t2 : (a.seq == b.seq) = false := beq_eq_false_iff_ne.mpr hx2
            have HN := Aside0.mk (show ¬ sameP a b from fun h => hx2 h.1.2.2)
            clear hx2
            go_wp2_with fail
            go_ret
            exact ⟨ret_bool (by rw [HRR.out]; symm; exact decide_eq_false HN.out), HB9.out⟩
        · have t1 : (a.next == b.next) = false := beq_eq_false_iff_ne.mpr hx1
          have HN := Aside0.mk (show ¬ sameP a b from fun h => hx1 h.1.2.1)
          clear hx1
          go_wp2_with fail
          go_ret
          exact ⟨ret_bool (by rw [HRR.out]; symm; exact decide_eq_false HN.out), HB9.out⟩
      · have t0 : (a.log == b.log) = false := beq_eq_false_iff_ne.mpr hx0
        have HN := Aside0.mk (show ¬ sameP a b from fun h => hx0 h.1.1)
        clear hx0
        go_wp2_with fail
        go_ret
        exact ⟨ret_bool (by rw [HRR.out]; symm; exact decide_eq_false HN.out), HB9.out⟩
    | succ z =>
      have hi : i < 4 := by have := HK.out; omega
      have HI := Aside0.mk hi
      have d0 : decide ((i : Int) < 4) = true := decide_eq_true (by omega)
      have i0 : 0 ≤ (i : Int) := Int.natCast_nonneg _
      have i1 : (i : Int) < 4 := by omega
      have hv := vcell (blk_below X2.out HBB.out) i hi
      have hu := vcell (blk_below X3.out HBB.out) i hi
      have ew : wrap64 ((i : Int) + 1) = ((i + 1 : Nat) : Int) := by unfold wrap64; omega
      obtain ⟨l, hl⟩ : ∃ l, l = a.lv i := ⟨_, rfl⟩
      obtain ⟨m, hm⟩ : ∃ m, m = b.lv i := ⟨_, rfl⟩
      rw [← hl] at hv
      rw [← hm] at hu
      have LA := Aside0.mk hl
      have LB := Aside0.mk hm
      have KK := eqM_calls wr.drew (p.a i) (q.a i) (p.c i) (q.c i) l m (by rw [hl]; exact Kd.C_drew ((HA.out.below (below_step HB.out HBB.out)) i HI.out).1) (by rw [hm]; exact Kd.C_drew ((HBV.out.below (below_step HB.out HBB.out)) i HI.out).1)
      clear hl hm hi
      by_cases hx : l = m
      · rw [decide_eq_true hx] at KK
        have EX := Aside0.mk hx
        clear hx
        go_wp2_with fail
        go_still_tail 8, (by kernel_rfl)
        go_wp2_with fail
        refine KK.mono ?_
        clear KK
        rintro e w8 ⟨rfl, hb⟩
        replace hb : Below wr.heap.size wr w8 := (below_drew (Below.refl wr.heap.size wr)).trans hb
        have HB8 := Aside0.mk (below_step HBB.out hb)
        clear hb hv hu
        go_wp2_with fail
        try rw [ew]
        clear ew
        go_roundg z
        case measure => omega
        case rel => exact ⟨i + 1, rfl, ⟨by have := HK.out; omega⟩, HB8, ⟨fun j hj => by
          by_cases e : j = i
          · subst e; rw [← LA.out, ← LB.out]; exact EX.out
          · exact HJ.out j (by omega)⟩⟩
      · rw [decide_eq_false hx] at KK
        have HN := Aside0.mk (show ¬ sameP a b from fun h => hx (by rw [LA.out, LB.out]; exact h.2 i HI.out))
        clear hx
        go_wp2_with fail
        go_still_tail 8, (by kernel_rfl)
        go_wp2_with fail
        refine KK.mono ?_
        clear KK
        rintro e w8 ⟨rfl, hb⟩
        replace hb : Below wr.heap.size wr w8 := (below_drew (Below.refl wr.heap.size wr)).trans hb
        have HB8 := Aside0.mk (below_step HBB.out hb)
        clear hb hv hu
        go_wp2_with fail
        go_ret
        exact ⟨ret_bool (by rw [HRR.out]; symm; exact decide_eq_false HN.out), below_step HB.out HB8.out⟩
def firstV : Ver := ⟨1, 1, 0, [], [], [], []⟩
def firstP : Pl := ⟨none, none, none, none, 0, 0, 0, 0⟩
set_option maxHeartbeats 4000000 in
set_option maxRecDepth 100000 in
theorem first66_calls (w : World) : Calls Try.prog 66 #[] w fun e w' => e = .returned (.agg (vCs firstV firstP)) ∧ Below w.heap.size w w' := by
  have HB := Aside0.mk ((Below.refl w.heap.size w).alloc (Nat.le_refl _) (.cells #[.int .u64 0, .int .u64 0, .int .u64 0, .slice none 0 0, .slice none 0 0, .slice none 0 0, .slice none 0 0] 26))
  have X2 := Aside0.mk (blk_new w (.cells #[.int .u64 0, .int .u64 0, .int .u64 0, .slice none 0 0, .slice none 0 0, .slice none 0 0, .slice none 0 0] 26))
  go_enter Try.func66, Try.ntmps66
  go_upto_region 1 with (fail)
  generalize w.alloc (.cells #[.int .u64 0, .int .u64 0, .int .u64 0, .slice none 0 0, .slice none 0 0, .slice none 0 0, .slice none 0 0] 26) = w1 at *
  go_wp2_with (first | (refine st_arr rfl 26 _ _ rfl w.heap.size 26 ?hx (vCs firstV firstP) ?hy _ X2.out (by rw [size26]; rfl) rfl (by simp [Value.oneCell']) ?_; (case hx => rfl); (case hy => rfl); intro w5 hb5 hbb hk5 hs5; have HB5 := Aside0.mk (hbb _ _ HB.out (Nat.le_refl _)); have X5 := Aside0.mk hb5; clear hb5 hbb hk5 hs5) | fail)
  have r0 : w5.cell? ⟨w.heap.size, 0, none⟩ = some (.int .u64 1) := (blk_cell X5.out 0).trans rfl
  have r1 : w5.cell? ⟨w.heap.size, 1, none⟩ = some (.int .u64 1) := (blk_cell X5.out 1).trans rfl
  have r2 : w5.cell? ⟨w.heap.size, 2, none⟩ = some (.int .u64 0) := (blk_cell X5.out 2).trans rfl
  have r3 : w5.cell? ⟨w.heap.size, 3, none⟩ = some (.slice none 0 0) := (blk_cell X5.out 3).trans rfl
  have r4 : w5.cell? ⟨w.heap.size, 4, none⟩ = some (.slice none 0 0) := (blk_cell X5.out 4).trans rfl
  have r5 : w5.cell? ⟨w.heap.size, 5, none⟩ = some (.slice none 0 0) := (blk_cell X5.out 5).trans rfl
  have r6 : w5.cell? ⟨w.heap.size, 6, none⟩ = some (.slice none 0 0) := (blk_cell X5.out 6).trans rfl
  exact bodyPost_ret (v := .agg (vCs firstV firstP)) (by simp [results, Try.results66, go_sem, r0, r1, r2, r3, r4, r5, r6, firstV, firstP]) rfl ⟨rfl, HB5.out⟩
set_option maxHeartbeats 4000000 in
set_option maxRecDepth 100000 in
theorem first67_calls (w : World) : Calls Try.prog 67 #[] w fun e w' => e = .returned (.agg (vCs firstV firstP)) ∧ Below w.heap.size w w' := by
  have HB := Aside0.mk ((Below.refl w.heap.size w).alloc (Nat.le_refl _) (.cells #[.int .u64 0, .int .u64 0, .int .u64 0, .slice none 0 0, .slice none 0 0, .slice none 0 0, .slice none 0 0] 26))
  have X2 := Aside0.mk (blk_new w (.cells #[.int .u64 0, .int .u64 0, .int .u64 0, .slice none 0 0, .slice none 0 0, .slice none 0 0, .slice none 0 0] 26))
  go_enter Try.func67, Try.ntmps67
  go_upto_region 1 with (fail)
  generalize w.alloc (.cells #[.int .u64 0, .int .u64 0, .int .u64 0, .slice none 0 0, .slice none 0 0, .slice none 0 0, .slice none 0 0] 26) = w1 at *
  go_wp2_with (first | (refine st_arr rfl 26 _ _ rfl w.heap.size 26 ?hx (vCs firstV firstP) ?hy _ X2.out (by rw [size26]; rfl) rfl (by simp [Value.oneCell']) ?_; (case hx => rfl); (case hy => rfl); intro w5 hb5 hbb hk5 hs5; have HB5 := Aside0.mk (hbb _ _ HB.out (Nat.le_refl _)); have X5 := Aside0.mk hb5; clear hb5 hbb hk5 hs5) | fail)
  have r0 : w5.cell? ⟨w.heap.size, 0, none⟩ = some (.int .u64 1) := (blk_cell X5.out 0).trans rfl
  have r1 : w5.cell? ⟨w.heap.size, 1, none⟩ = some (.int .u64 1) := (blk_cell X5.out 1).trans rfl
  have r2 : w5.cell? ⟨w.heap.size, 2, none⟩ = some (.int .u64 0) := (blk_cell X5.out 2).trans rfl
  have r3 : w5.cell? ⟨w.heap.size, 3, none⟩ = some (.slice none 0 0) := (blk_cell X5.out 3).trans rfl
  have r4 : w5.cell? ⟨w.heap.size, 4, none⟩ = some (.slice none 0 0) := (blk_cell X5.out 4).trans rfl
  have r5 : w5.cell? ⟨w.heap.size, 5, none⟩ = some (.slice none 0 0) := (blk_cell X5.out 5).trans rfl
  have r6 : w5.cell? ⟨w.heap.size, 6, none⟩ = some (.slice none 0 0) := (blk_cell X5.out 6).trans rfl
  exact bodyPost_ret (v := .agg (vCs firstV firstP)) (by simp [results, Try.results67, go_sem, r0, r1, r2, r3, r4, r5, r6, firstV, firstP]) rfl ⟨rfl, HB5.out⟩
end Go.Proofs.Ytkjepfofiegcdaa.V
