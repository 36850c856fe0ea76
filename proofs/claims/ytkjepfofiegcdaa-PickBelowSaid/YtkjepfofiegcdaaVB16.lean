import Derived.Test.YtkjepfofiegcdaaVB15
/- The version of the document's example (sample), walked. Conditions: none. -/
namespace Go.Proofs.Ytkjepfofiegcdaa.V
set_option linter.unusedVariables false
set_option linter.unusedSimpArgs false
open Go.RowKit Go.Proofs.YtkjepfofiegcdaaW.PrintWords Go.Proofs.YtkjepfofiegcdaaW.PrintLast Go.Proofs.YtkjepfofiegcdaaW.PrintMore Go.Proofs.Ytkjepfofiegcdaa.PB14
def tb1 : S58 := ⟨1, 9, 1, ⟨#[97]⟩, ⟨#[99]⟩, 1, 1⟩
def tb2 : S58 := ⟨2, 9, 1, ⟨#[98]⟩, ⟨#[100]⟩, 2, 2⟩
def tb3 : S58 := ⟨3, 60, 1, ⟨#[97]⟩, ⟨#[97]⟩, 1, 1⟩
def tb4 : S58 := ⟨4, 50, 1, ⟨#[101]⟩, ⟨#[102]⟩, 1, 1⟩
def samV : Ver := ⟨1, 5, 9, [tb1, tb2], [tb3, tb4], [], []⟩
theorem C58_two (x y : S58) {w : World} {g t : Nat} (hg : w.heap[g]? = some (.cells (mCs x ++ mCs y) t (0, 0))) : k58.C w (some ⟨g, 0, none⟩) 2 [x, y] := by
  refine ⟨rfl, by decide, fun _ => ⟨_, rfl, fun j q hj => ?_⟩⟩
  have hj2 : j = 0 ∨ j = 1 := by
    match j, hj with
    | 0, _ => exact .inl rfl
    | 1, _ => exact .inr rfl
    | n + 2, hj => simp at hj
  rcases hj2 with rfl | rfl
  · simp at hj
    subst hj
    refine ⟨(mCs x).toList, rfl, k58_mk w x, fun i u hu => ?_⟩
    show w.cell? ((⟨g, 0, none⟩ : Addr).add (0 * 7 + i)) = _
    rw [Addr.add_mid, blk_cell hg]
    have hi : i < 7 := (List.getElem?_eq_some_iff.mp hu).1
    rcases (by omega : i = 0 ∨ i = 1 ∨ i = 2 ∨ i = 3 ∨ i = 4 ∨ i = 5 ∨ i = 6) with rfl | rfl | rfl | rfl | rfl | rfl | rfl <;> exact hu
  · simp at hj
    subst hj
    refine ⟨(mCs y).toList, rfl, k58_mk w y, fun i u hu => ?_⟩
    show w.cell? ((⟨g, 0, none⟩ : Addr).add (1 * 7 + i)) = _
    rw [Addr.add_mid, blk_cell hg]
    have hi : i < 7 := (List.getElem?_eq_some_iff.mp hu).1
    rcases (by omega : i = 0 ∨ i = 1 ∨ i = 2 ∨ i = 3 ∨ i = 4 ∨ i = 5 ∨ i = 6) with rfl | rfl | rfl | rfl | rfl | rfl | rfl <;> exact hu
theorem size26 : (Try.prog.info? 26).map (·.size) = some 7 := by kernel_rfl
set_option maxHeartbeats 8000000 in
set_option maxRecDepth 100000 in
theorem sample_calls (w : World) : Calls Try.prog 89 #[] w fun e w' => ∃ p : Pl, e = .returned (.agg (vCs samV p)) ∧ VC w' samV p ∧ Below w.heap.size w w' := by
  have HB := Aside0.mk (below_alloc ((Below.refl w.heap.size w).alloc (Nat.le_refl _) (.cells #[.int .u64 0, .int .u64 0, .int .u64 0, .slice none 0 0, .slice none 0 0, .slice none 0 0, .slice none 0 0] 26)) (.cells #[.int .u64 1, .int .u64 5, .int .u64 9, .slice none 0 0, .slice none 0 0, .slice none 0 0, .slice none 0 0] 26))
  have X0 := Aside0.mk (blk_alloc (blk_new w (.cells #[.int .u64 0, .int .u64 0, .int .u64 0, .slice none 0 0, .slice none 0 0, .slice none 0 0, .slice none 0 0] 26)) (.cells #[.int .u64 1, .int .u64 5, .int .u64 9, .slice none 0 0, .slice none 0 0, .slice none 0 0, .slice none 0 0] 26))
  have X1 := Aside0.mk (blk_new (w.alloc (.cells #[.int .u64 0, .int .u64 0, .int .u64 0, .slice none 0 0, .slice none 0 0, .slice none 0 0, .slice none 0 0] 26)) (.cells #[.int .u64 1, .int .u64 5, .int .u64 9, .slice none 0 0, .slice none 0 0, .slice none 0 0, .slice none 0 0] 26))
  go_enter Try.func89, Try.ntmps89
  go_upto_region 2 with (fail)
  generalize hg1 : (w.alloc (.cells #[.int .u64 0, .int .u64 0, .int .u64 0, .slice none 0 0, .slice none 0 0, .slice none 0 0, .slice none 0 0] 26)).heap.size = g1 at *
  have e1 : w.heap.size + 1 = g1 := by rw [← hg1]; simp
  try rw [e1]
  have N1 := Aside0.mk (show w.heap.size < g1 by omega)
  clear hg1 e1
  generalize (w.alloc (.cells #[.int .u64 0, .int .u64 0, .int .u64 0, .slice none 0 0, .slice none 0 0, .slice none 0 0, .slice none 0 0] 26)).alloc (.cells #[.int .u64 1, .int .u64 5, .int .u64 9, .slice none 0 0, .slice none 0 0, .slice none 0 0, .slice none 0 0] 26) = w1 at *
  have HB2 := Aside0.mk (below_set (j := 3) (v := .slice (some ⟨w1.heap.size, 0, none⟩) 2 2) (below_alloc HB.out (.cells #[.int .u64 1, .int .i64 9, .int .i64 1, .string ⟨#[97]⟩, .string ⟨#[99]⟩, .int .u64 1, .int .u64 1, .int .u64 2, .int .i64 9, .int .i64 1, .string ⟨#[98]⟩, .string ⟨#[100]⟩, .int .u64 2, .int .u64 2] 58)) (show w.heap.size ≤ g1 by have := N1.out; omega))
  have X02 := Aside0.mk (blk_far (blk_alloc X0.out (.cells #[.int .u64 1, .int .i64 9, .int .i64 1, .string ⟨#[97]⟩, .string ⟨#[99]⟩, .int .u64 1, .int .u64 1, .int .u64 2, .int .i64 9, .int .i64 1, .string ⟨#[98]⟩, .string ⟨#[100]⟩, .int .u64 2, .int .u64 2] 58)) (p := ⟨g1, 3, none⟩) (show w.heap.size ≠ g1 by have := N1.out; omega) (.slice (some ⟨w1.heap.size, 0, none⟩) 2 2))
  have X1a := Aside0.mk (blk_alloc X1.out (.cells #[.int .u64 1, .int .i64 9, .int .i64 1, .string ⟨#[97]⟩, .string ⟨#[99]⟩, .int .u64 1, .int .u64 1, .int .u64 2, .int .i64 9, .int .i64 1, .string ⟨#[98]⟩, .string ⟨#[100]⟩, .int .u64 2, .int .u64 2] 58))
  have X12 := Aside0.mk (blk_put (cs' := #[.int .u64 1, .int .u64 5, .int .u64 9, .slice (some ⟨w1.heap.size, 0, none⟩) 2 2, .slice none 0 0, .slice none 0 0, .slice none 0 0]) X1a.out 3 (.slice (some ⟨w1.heap.size, 0, none⟩) 2 2) rfl)
  have NG := Aside0.mk (show g1 < w1.heap.size from blk_lt X1.out)
  have A12 := Aside0.mk ((blk_far (blk_new w1 (.cells #[.int .u64 1, .int .i64 9, .int .i64 1, .string ⟨#[97]⟩, .string ⟨#[99]⟩, .int .u64 1, .int .u64 1, .int .u64 2, .int .i64 9, .int .i64 1, .string ⟨#[98]⟩, .string ⟨#[100]⟩, .int .u64 2, .int .u64 2] 58)) (p := ⟨g1, 3, none⟩) (show w1.heap.size ≠ g1 by have := NG.out; omega) (.slice (some ⟨w1.heap.size, 0, none⟩) 2 2)))
  have y3 : (w1.alloc (.cells #[.int .u64 1, .int .i64 9, .int .i64 1, .string ⟨#[97]⟩, .string ⟨#[99]⟩, .int .u64 1, .int .u64 1, .int .u64 2, .int .i64 9, .int .i64 1, .string ⟨#[98]⟩, .string ⟨#[100]⟩, .int .u64 2, .int .u64 2] 58)).cell? ⟨g1, 3, none⟩ = some (.slice none 0 0) := (blk_cell X1a.out 3).trans rfl
  have f3 := blk_frozen X1a.out 3
  clear HB X0 X1
  go_upto_region 3 with (fail)
  clear y3 f3 X1a
  generalize hga : w1.heap.size = ga at *
  generalize (w1.alloc (.cells #[.int .u64 1, .int .i64 9, .int .i64 1, .string ⟨#[97]⟩, .string ⟨#[99]⟩, .int .u64 1, .int .u64 1, .int .u64 2, .int .i64 9, .int .i64 1, .string ⟨#[98]⟩, .string ⟨#[100]⟩, .int .u64 2, .int .u64 2] 58)).setCell ⟨g1, 3, none⟩ (.slice (some ⟨ga, 0, none⟩) 2 2) = w2 at *
  clear hga
  have HB3 := Aside0.mk (below_set (j := 4) (v := .slice (some ⟨w2.heap.size, 0, none⟩) 2 2) (below_alloc HB2.out (.cells #[.int .u64 3, .int .i64 60, .int .i64 1, .string ⟨#[97]⟩, .string ⟨#[97]⟩, .int .u64 1, .int .u64 1, .int .u64 4, .int .i64 50, .int .i64 1, .string ⟨#[101]⟩, .string ⟨#[102]⟩, .int .u64 1, .int .u64 1] 58)) (show w.heap.size ≤ g1 by have := N1.out; omega))
  have X03 := Aside0.mk (blk_far (blk_alloc X02.out (.cells #[.int .u64 3, .int .i64 60, .int .i64 1, .string ⟨#[97]⟩, .string ⟨#[97]⟩, .int .u64 1, .int .u64 1, .int .u64 4, .int .i64 50, .int .i64 1, .string ⟨#[101]⟩, .string ⟨#[102]⟩, .int .u64 1, .int .u64 1] 58)) (p := ⟨g1, 4, none⟩) (show w.heap.size ≠ g1 by have := N1.out; omega) (.slice (some ⟨w2.heap.size, 0, none⟩) 2 2))
  have X1b := Aside0.mk (blk_alloc X12.out (.cells #[.int .u64 3, .int .i64 60, .int .i64 1, .string ⟨#[97]⟩, .string ⟨#[97]⟩, .int .u64 1, .int .u64 1, .int .u64 4, .int .i64 50, .int .i64 1, .string ⟨#[101]⟩, .string ⟨#[102]⟩, .int .u64 1, .int .u64 1] 58))
  have X13 := Aside0.mk (blk_put (cs' := #[.int .u64 1, .int .u64 5, .int .u64 9, .slice (some ⟨ga, 0, none⟩) 2 2, .slice (some ⟨w2.heap.size, 0, none⟩) 2 2, .slice none 0 0, .slice none 0 0]) X1b.out 4 (.slice (some ⟨w2.heap.size, 0, none⟩) 2 2) rfl)
  have NG2 := Aside0.mk (show g1 < w2.heap.size from blk_lt X12.out)
  have A13 := Aside0.mk (blk_far (blk_alloc A12.out (.cells #[.int .u64 3, .int .i64 60, .int .i64 1, .string ⟨#[97]⟩, .string ⟨#[97]⟩, .int .u64 1, .int .u64 1, .int .u64 4, .int .i64 50, .int .i64 1, .string ⟨#[101]⟩, .string ⟨#[102]⟩, .int .u64 1, .int .u64 1] 58)) (p := ⟨g1, 4, none⟩) (show ga ≠ g1 by have := NG.out; omega) (.slice (some ⟨w2.heap.size, 0, none⟩) 2 2))
  have B13 := Aside0.mk ((blk_far (blk_new w2 (.cells #[.int .u64 3, .int .i64 60, .int .i64 1, .string ⟨#[97]⟩, .string ⟨#[97]⟩, .int .u64 1, .int .u64 1, .int .u64 4, .int .i64 50, .int .i64 1, .string ⟨#[101]⟩, .string ⟨#[102]⟩, .int .u64 1, .int .u64 1] 58)) (p := ⟨g1, 4, none⟩) (show w2.heap.size ≠ g1 by have := NG2.out; omega) (.slice (some ⟨w2.heap.size, 0, none⟩) 2 2)))
  have y4 : (w2.alloc (.cells #[.int .u64 3, .int .i64 60, .int .i64 1, .string ⟨#[97]⟩, .string ⟨#[97]⟩, .int .u64 1, .int .u64 1, .int .u64 4, .int .i64 50, .int .i64 1, .string ⟨#[101]⟩, .string ⟨#[102]⟩, .int .u64 1, .int .u64 1] 58)).cell? ⟨g1, 4, none⟩ = some (.slice none 0 0) := (blk_cell X1b.out 4).trans rfl
  have f4 := blk_frozen X1b.out 4
  clear HB2 X02 X12
  go_upto_region 4 with (fail)
  clear y4 f4 X1b A12
  generalize hgb : w2.heap.size = gb at *
  generalize (w2.alloc (.cells #[.int .u64 3, .int .i64 60, .int .i64 1, .string ⟨#[97]⟩, .string ⟨#[97]⟩, .int .u64 1, .int .u64 1, .int .u64 4, .int .i64 50, .int .i64 1, .string ⟨#[101]⟩, .string ⟨#[102]⟩, .int .u64 1, .int .u64 1] 58)).setCell ⟨g1, 4, none⟩ (.slice (some ⟨gb, 0, none⟩) 2 2) = w3 at *
  clear hgb
  have c0 : w3.cell? ⟨g1, 0, none⟩ = some (.int .u64 1) := (blk_cell X13.out 0).trans rfl
  have c1 : w3.cell? ⟨g1, 1, none⟩ = some (.int .u64 5) := (blk_cell X13.out 1).trans rfl
  have c2 : w3.cell? ⟨g1, 2, none⟩ = some (.int .u64 9) := (blk_cell X13.out 2).trans rfl
  have c3 : w3.cell? ⟨g1, 3, none⟩ = some (.slice (some ⟨ga, 0, none⟩) 2 2) := (blk_cell X13.out 3).trans rfl
  have c4 : w3.cell? ⟨g1, 4, none⟩ = some (.slice (some ⟨gb, 0, none⟩) 2 2) := (blk_cell X13.out 4).trans rfl
  have c5 : w3.cell? ⟨g1, 5, none⟩ = some (.slice none 0 0) := (blk_cell X13.out 5).trans rfl
  have c6 : w3.cell? ⟨g1, 6, none⟩ = some (.slice none 0 0) := (blk_cell X13.out 6).trans rfl
  go_wp2_with (first | (refine st_arr rfl 26 _ _ rfl w.heap.size 26 ?hx #[.int .u64 1, .int .u64 5, .int .u64 9, .slice (some ⟨ga, 0, none⟩) 2 2, .slice (some ⟨gb, 0, none⟩) 2 2, .slice none 0 0, .slice none 0 0] ?hy _ X03.out (by rw [size26]; rfl) rfl (by simp [Value.oneCell']) ?_; (case hx => rfl); (case hy => rfl); intro w4 hb5 hbb hk5 hs5; have HB4 := Aside0.mk (hbb _ _ HB3.out (Nat.le_refl _)); have X04 := Aside0.mk hb5; have HK5 := Aside0.mk hk5; clear hb5 hbb hk5 hs5) | fail)
  have r0 : w4.cell? ⟨w.heap.size, 0, none⟩ = some (.int .u64 1) := (blk_cell X04.out 0).trans rfl
  have r1 : w4.cell? ⟨w.heap.size, 1, none⟩ = some (.int .u64 5) := (blk_cell X04.out 1).trans rfl
  have r2 : w4.cell? ⟨w.heap.size, 2, none⟩ = some (.int .u64 9) := (blk_cell X04.out 2).trans rfl
  have r3 : w4.cell? ⟨w.heap.size, 3, none⟩ = some (.slice (some ⟨ga, 0, none⟩) 2 2) := (blk_cell X04.out 3).trans rfl
  have r4 : w4.cell? ⟨w.heap.size, 4, none⟩ = some (.slice (some ⟨gb, 0, none⟩) 2 2) := (blk_cell X04.out 4).trans rfl
  have r5 : w4.cell? ⟨w.heap.size, 5, none⟩ = some (.slice none 0 0) := (blk_cell X04.out 5).trans rfl
  have r6 : w4.cell? ⟨w.heap.size, 6, none⟩ = some (.slice none 0 0) := (blk_cell X04.out 6).trans rfl
  refine bodyPost_ret (v := .agg #[.int .u64 1, .int .u64 5, .int .u64 9, .slice (some ⟨ga, 0, none⟩) 2 2, .slice (some ⟨gb, 0, none⟩) 2 2, .slice none 0 0, .slice none 0 0]) (by simp [results, Try.results89, go_sem, r0, r1, r2, r3, r4, r5, r6]) rfl ⟨⟨some ⟨ga, 0, none⟩, some ⟨gb, 0, none⟩, none, none, 2, 2, 0, 0⟩, rfl, fun i hi => ?_, HB4.out⟩
  rcases (by omega : i = 0 ∨ i = 1 ∨ i = 2 ∨ i = 3) with rfl | rfl | rfl | rfl
  · exact ⟨C58_two tb1 tb2 ((HK5.out ga (by have := NG.out; have := N1.out; omega)).trans A13.out), Nat.le_refl _⟩
  · exact ⟨C58_two tb3 tb4 ((HK5.out gb (by have := NG2.out; have := N1.out; omega)).trans B13.out), Nat.le_refl _⟩
  · exact ⟨Kd.C_nil _ _, Nat.le_refl _⟩
  · exact ⟨Kd.C_nil _ _, Nat.le_refl _⟩
end Go.Proofs.Ytkjepfofiegcdaa.V
