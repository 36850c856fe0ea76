import Derived.Test.YtkjepfofiegcdaaVE9Y
/- slices.Equal of tables, edit.Same, First, walked. Conditions: none. -/
namespace Go.Proofs.Ytkjepfofiegcdaa.V
set_option linter.unusedVariables false
set_option linter.unusedSimpArgs false
open Go.RowKit Go.Proofs.YtkjepfofiegcdaaW.PrintWords Go.Proofs.YtkjepfofiegcdaaW.PrintLast Go.Proofs.YtkjepfofiegcdaaW.PrintMore Go.Proofs.Ytkjepfofiegcdaa.PB14
attribute [local go_sem high] eqA58
def firstV : Ver := ⟨1, 1, 0, [], [], [], []⟩
def firstP : Pl := ⟨none, none, none, none, 0, 0, 0, 0⟩
set_option maxHeartbeats 4000000 in
set_option maxRecDepth 100000 in
theorem first66_calls (w : World) : Calls Try.prog 66 #[] w fun e w' => e = .returned (.agg (vCs firstV firstP)) ∧ Below w.heap.size w w' := by
  have HB := Aside0.mk ((Below.refl w.heap.size w).alloc (Nat.le_refl _) (.cells #[.int .u64 0, .int .u64 0, .int .u64 0, .slice none 0 0, .slice none 0 0, .slice none 0 0, .slice none 0 0] 26))
  have X2 := Aside0.mk (blk_new w (.cells #[.int .u64 0, .int .u64 0, .int .u64 0, .slice none 0 0, .slice none 0 0, .slice none 0 0, .slice none 0 0] 26))
  go_enter Try.func66, Try.ntmps66
  go_upto_region 1 with (fail)
  generalize w.alloc (.cells #[.int .u64 0, .int .u64 0, .int .u64 0, .slice none 0 0, .slice none 0 0, .slice none 0 0, .slice none 0 0] 26) = w1 at *
  go_wp2_with (first | (refine st_arr rfl 26 _ _ rfl w.heap.size 26 ?hx (vCs firstV firstP) ?hy _ X2.out (by rw [size26]; rfl) rfl (by simp [Value.oneCell']) ?_; (case hx => rfl); (case hy => rfl); intro w5 hb5 hbb hk5 hs5; have HB5 := Aside0.mk (hbb _ _ HB.out (Nat.le_refl _)); have X5 := Aside0.mk hb5; clear hb5 hbb hk5 hs5) | fail)
  have r0 : w5.cell? ⟨w.heap.size, 0, none⟩ = some (.int .u64 1) := (blk_cell X5.out 0).trans rfl
  have r1 : w5.cell? ⟨w.heap.size, 1, none⟩ = some (.int .u64 1) := (blk_cell X5.out 1).trans rfl
  have r2 : w5.cell? ⟨w.heap.size, 2, none⟩ = some (.int .u64 0) := (blk_cell X5.out 2).trans rfl
  have r3 : w5.cell? ⟨w.heap.size, 3, none⟩ = some (.slice none 0 0) := (blk_cell X5.out 3).trans rfl
  have r4 : w5.cell? ⟨w.heap.size, 4, none⟩ = some (.slice none 0 0) := (blk_cell X5.out 4).trans rfl
  have r5 : w5.cell? ⟨w.heap.size, 5, none⟩ = some (.slice none 0 0) := (blk_cell X5.out 5).trans rfl
  have r6 : w5.cell? ⟨w.heap.size, 6, none⟩ = some (.slice none 0 0) := (blk_cell X5.out 6).trans rfl
  exact bodyPost_ret (v := .agg (vCs firstV firstP)) (by simp [results, Try.results66, go_sem, r0, r1, r2, r3, r4, r5, r6, firstV, firstP]) rfl ⟨rfl, HB5.out⟩
end Go.Proofs.Ytkjepfofiegcdaa.V
