import Derived.Test.YtkjepfofiegcdaaVB2
import Derived.Test.YtkjepfofiegcdaaVB5
/- edit.Right, walked. Conditions: none. -/
namespace Go.Proofs.Ytkjepfofiegcdaa.V
set_option linter.unusedVariables false
set_option linter.unusedSimpArgs false
open Go.RowKit Go.Proofs.YtkjepfofiegcdaaW.PrintWords Go.Proofs.YtkjepfofiegcdaaW.PrintLast Go.Proofs.YtkjepfofiegcdaaW.PrintMore Go.Proofs.Ytkjepfofiegcdaa.PB14
def partP (v : Ver) : Nat → Prop
  | 0 => boundsP v
  | 1 => tabP v
  | _ => ordP v
instance (v : Ver) (i : Nat) : Decidable (partP v i) := by unfold partP; split <;> infer_instance
theorem partP_all {v : Ver} (h : ∀ i, i < 3 → partP v i) : rightP v := ⟨h 0 (by omega), h 1 (by omega), h 2 (by omega)⟩
theorem partP_of {v : Ver} (h : rightP v) : ∀ i, i < 3 → partP v i := fun i hi => by
  rcases (by omega : i = 0 ∨ i = 1 ∨ i = 2) with rfl | rfl | rfl
  · exact h.1
  · exact h.2.1
  · exact h.2.2
set_option maxHeartbeats 4000000 in
set_option maxRecDepth 100000 in
theorem right_calls (w : World) (v : Ver) (p : Pl) (hC : VC w v p) (hW : VW v) : Calls Try.prog 62 #[.agg (vCs v p)] w fun e w' => e = .returned (.bool (decide (rightP v))) ∧ Below w.heap.size w w' := by
  have HC := Aside0.mk hC
  have HW := Aside0.mk hW
  clear hC hW
  have HB := Aside0.mk (below_alloc ((Below.refl w.heap.size w).alloc (Nat.le_refl _) (.cells (vCs v p) 26)) (.cells #[.func (.func 117) #[] #[], .func (.func 118) #[] #[], .func (.func 119) #[] #[]] 141))
  have BX := Aside0.mk (blk_alloc (blk_new w (.cells (vCs v p) 26)) (.cells #[.func (.func 117) #[] #[], .func (.func 118) #[] #[], .func (.func 119) #[] #[]] 141))
  have BF := Aside0.mk (blk_new (w.alloc (.cells (vCs v p) 26)) (.cells #[.func (.func 117) #[] #[], .func (.func 118) #[] #[], .func (.func 119) #[] #[]] 141))
  go_enter Try.func62, Try.ntmps62
  go_wp2_with fail
  generalize hgf : (w.alloc (.cells (vCs v p) 26)).heap.size = gf at *
  have e7 : w.heap.size + 1 = gf := by rw [← hgf]; simp
  try rw [e7]
  clear hgf e7
  generalize (w.alloc (.cells (vCs v p) 26)).alloc (.cells #[.func (.func 117) #[] #[], .func (.func 118) #[] #[], .func (.func 119) #[] #[]] 141) = w1 at *
  go_loopg [4, 7] 3 (fun kq v4 v7 w' => ∃ i : Nat, v7 = .int .i64 (i : Int) ∧ Aside0 (kq + i = 3) ∧ Aside0 (Below w.heap.size w w') ∧ Aside0 (w'.heap[w.heap.size]? = some (.cells (vCs v p) 26 (0, 0))) ∧ Aside0 (w'.heap[gf]? = some (.cells #[.func (.func 117) #[] #[], .func (.func 118) #[] #[], .func (.func 119) #[] #[]] 141 (0, 0))) ∧ Aside0 (∀ j, j < i → partP v j))
  case atStart => exact ⟨0, rfl, ⟨by omega⟩, HB, BX, BF, ⟨fun j hj => by omega⟩⟩
  case round =>
    clear HB BX BF
    obtain ⟨i, rfl, HK, HB, BX, BF, HP⟩ := hrel
    have HI := Aside0.mk (show i ≤ 3 by have := HK.out; omega)
    cases gk with
    | zero =>
      have ei : i = 3 := by have := HK.out; omega
      subst ei
      go_wp2_with fail
      go_ret
      exact ⟨ret_bool (by symm; rw [decide_eq_true_iff]; exact partP_all HP.out), HB.out⟩
    | succ q =>
      have d0 : decide ((i : Int) < 3) = true := decide_eq_true (by have := HK.out; omega)
      have i0 : 0 ≤ (i : Int) := Int.natCast_nonneg _
      have i1 : (i : Int) < 3 := by have := HK.out; omega
      have b0 : wr.cell? ⟨w.heap.size, 0, none⟩ = some (.int .u64 v.log) := (blk_cell BX.out 0).trans rfl
      have b1 : wr.cell? ⟨w.heap.size, 1, none⟩ = some (.int .u64 v.next) := (blk_cell BX.out 1).trans rfl
      have b2 : wr.cell? ⟨w.heap.size, 2, none⟩ = some (.int .u64 v.seq) := (blk_cell BX.out 2).trans rfl
      have b3 : wr.cell? ⟨w.heap.size, 3, none⟩ = some (.slice p.a0 v.l0.length p.c0) := (blk_cell BX.out 3).trans rfl
      have b4 : wr.cell? ⟨w.heap.size, 4, none⟩ = some (.slice p.a1 v.l1.length p.c1) := (blk_cell BX.out 4).trans rfl
      have b5 : wr.cell? ⟨w.heap.size, 5, none⟩ = some (.slice p.a2 v.l2.length p.c2) := (blk_cell BX.out 5).trans rfl
      have b6 : wr.cell? ⟨w.heap.size, 6, none⟩ = some (.slice p.a3 v.l3.length p.c3) := (blk_cell BX.out 6).trans rfl
      have hi3 := HK.out
      rcases (by omega : i = 0 ∨ i = 1 ∨ i = 2) with rfl | rfl | rfl
      · have f0 : wr.cell? ⟨gf, 0, none⟩ = some (.func (.func 117) #[] #[]) := (blk_cell BF.out 0).trans rfl
        go_wp2_with fail
        refine (bounds_calls _ v p).mono ?_
        rintro e w3 ⟨rfl, hb⟩
        have HB3 := Aside0.mk (below_step HB.out hb)
        have BX3 := Aside0.mk (blk_below BX.out hb)
        have BF3 := Aside0.mk (blk_below BF.out hb)
        clear hb HB BX BF b0 b1 b2 b3 b4 b5 b6 f0
        by_cases hp : boundsP v
        · rw [decide_eq_true hp]
          have OKP := Aside0.mk hp
          clear hp
          go_wp2_with fail
          go_roundg q
          case measure => omega
          case rel => exact ⟨1, rfl, ⟨by have := HK.out; omega⟩, HB3, BX3, BF3, ⟨fun j hj => by
            by_cases e : j = 0
            · subst e; exact OKP.out
            · exact HP.out j (by omega)⟩⟩
        · rw [decide_eq_false hp]
          have BAD := Aside0.mk (show ¬ rightP v from fun h => hp (partP_of h 0 (by omega)))
          clear hp
          go_wp2_with fail
          go_ret
          exact ⟨ret_bool (by symm; rw [decide_eq_false_iff_not]; exact BAD.out), HB3.out⟩
      · have f0 : wr.cell? ⟨gf, 1, none⟩ = some (.func (.func 118) #[] #[]) := (blk_cell BF.out 1).trans rfl
        go_wp2_with fail
        refine (tables_calls _ v p (HC.out.below HB.out) HW.out).mono ?_
        rintro e w3 ⟨rfl, hb⟩
        have HB3 := Aside0.mk (below_step HB.out hb)
        have BX3 := Aside0.mk (blk_below BX.out hb)
        have BF3 := Aside0.mk (blk_below BF.out hb)
        clear hb HB BX BF b0 b1 b2 b3 b4 b5 b6 f0
        by_cases hp : tabP v
        · rw [decide_eq_true hp]
          have OKP := Aside0.mk hp
          clear hp
          go_wp2_with fail
          go_roundg q
          case measure => omega
          case rel => exact ⟨2, rfl, ⟨by have := HK.out; omega⟩, HB3, BX3, BF3, ⟨fun j hj => by
            by_cases e : j = 1
            · subst e; exact OKP.out
            · exact HP.out j (by omega)⟩⟩
        · rw [decide_eq_false hp]
          have BAD := Aside0.mk (show ¬ rightP v from fun h => hp (partP_of h 1 (by omega)))
          clear hp
          go_wp2_with fail
          go_ret
          exact ⟨ret_bool (by symm; rw [decide_eq_false_iff_not]; exact BAD.out), HB3.out⟩
      · have f0 : wr.cell? ⟨gf, 2, none⟩ = some (.func (.func 119) #[] #[]) := (blk_cell BF.out 2).trans rfl
        go_wp2_with fail
        refine (order_calls _ v p (HC.out.below HB.out)).mono ?_
        rintro e w3 ⟨rfl, hb⟩
        have HB3 := Aside0.mk (below_step HB.out hb)
        have BX3 := Aside0.mk (blk_below BX.out hb)
        have BF3 := Aside0.mk (blk_below BF.out hb)
        clear hb HB BX BF b0 b1 b2 b3 b4 b5 b6 f0
        by_cases hp : ordP v
        · rw [decide_eq_true hp]
          have OKP := Aside0.mk hp
          clear hp
          go_wp2_with fail
          go_roundg q
          case measure => omega
          case rel => exact ⟨3, rfl, ⟨by have := HK.out; omega⟩, HB3, BX3, BF3, ⟨fun j hj => by
            by_cases e : j = 2
            · subst e; exact OKP.out
            · exact HP.out j (by omega)⟩⟩
        · rw [decide_eq_false hp]
          have BAD := Aside0.mk (show ¬ rightP v from fun h => hp (partP_of h 2 (by omega)))
          clear hp
          go_wp2_with fail
          go_ret
          exact ⟨ret_bool (by symm; rw [decide_eq_false_iff_not]; exact BAD.out), HB3.out⟩
end Go.Proofs.Ytkjepfofiegcdaa.V
