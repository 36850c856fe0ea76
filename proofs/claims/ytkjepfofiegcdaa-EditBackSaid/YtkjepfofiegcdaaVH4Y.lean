import Derived.Test.YtkjepfofiegcdaaVF1Y
/- The closure of Apply (105), slices.IndexFunc at it (104), walked. Conditions: none. -/
namespace Go.Proofs.Ytkjepfofiegcdaa.V
set_option linter.unusedVariables false
set_option linter.unusedSimpArgs false
open Go.RowKit Go.Proofs.YtkjepfofiegcdaaW.PrintWords Go.Proofs.YtkjepfofiegcdaaW.PrintLast Go.Proofs.YtkjepfofiegcdaaW.PrintMore Go.Proofs.Ytkjepfofiegcdaa.PB14
set_option maxHeartbeats 4000000 in
set_option maxRecDepth 100000 in
theorem pred105_calls (w : World) (m : S58) (x : S84) (gb : Nat) (hx : w.heap[gb]? = some (.cells (gCs x) 84 (0, 0))) :
    Calls Try.prog 105 #[.agg (mCs m), .pointer (some ⟨gb, 0, none⟩)] w fun e w' => e = .returned (.bool (decide (m.f0 = x.f1))) ∧ Below w.heap.size w w' := by
  have HB := Aside0.mk ((Below.refl w.heap.size w).alloc (Nat.le_refl _) (.cells (mCs m) 58))
  have X1 := Aside0.mk (blk_new w (.cells (mCs m) 58))
  have X2 := Aside0.mk (blk_alloc hx (.cells (mCs m) 58))
  clear hx
  go_enter Try.func105, Try.ntmps105
  go_upto_region 1 with (fail)
  generalize w.alloc (.cells (mCs m) 58) = w1 at *
  have y0 : w1.cell? ⟨w.heap.size, 0, none⟩ = some (.int .u64 m.f0) := (blk_cell X1.out 0).trans rfl
  have y1 : w1.cell? ⟨gb, 1, none⟩ = some (.int .u64 x.f1) := (blk_cell X2.out 1).trans rfl
  go_wp2_with fail
  go_ret
  exact ⟨ret_bool (by rw [Bool.eq_iff_iff]; simp), HB.out⟩
set_option maxHeartbeats 8000000 in
set_option maxRecDepth 100000 in
theorem indexF_calls (w : World) (A : Option Addr) (c : Nat) (l : List S58) (x : S84) (gb : Nat) (hC : k58.C w A l.length l) (hx : w.heap[gb]? = some (.cells (gCs x) 84 (0, 0))) :
    Calls Try.prog 104 #[.slice A l.length c, .func (.func 105) #[] #[.pointer (some ⟨gb, 0, none⟩)]] w fun e w' => ∃ i : Int, e = .returned (.int .i64 i) ∧ ((i = -1 ∧ ∀ j, j < l.length → ¬ (l.getD j z58).f0 = x.f1) ∨ ∃ k : Nat, i = (k : Int) ∧ k < l.length ∧ (l.getD k z58).f0 = x.f1 ∧ ∀ j, j < k → ¬ (l.getD j z58).f0 = x.f1) ∧ Below w.heap.size w w' := by
  have HC := Aside0.mk hC
  have HX := Aside0.mk hx
  clear hC hx
  go_enter Try.func104, Try.ntmps104
  go_wp2_with fail
  go_loopg [5, 8] l.length (fun kq v5 v8 w' => ∃ k : Nat, v8 = .int .i64 (k : Int) ∧ Aside0 (kq + k = l.length) ∧ Aside0 (Below w.heap.size w w') ∧ Aside0 (∀ j, j < k → ¬ (l.getD j z58).f0 = x.f1))
  case atStart => exact ⟨0, rfl, ⟨by omega⟩, ⟨Below.refl _ _⟩, ⟨fun j hj => by omega⟩⟩
  case round =>
    obtain ⟨k, rfl, HK, HB, HJ⟩ := hrel
    cases gk with
    | zero =>
      have ek : k = l.length := by have := HK.out; omega
      subst ek
      have d0 : decide ((l.length : Int) < (l.length : Int)) = false := by simp
      go_wp2_with fail
      go_ret
      exact ⟨-1, rfl, .inl ⟨rfl, HJ.out⟩, HB.out⟩
    | succ q =>
      have hk : k < l.length := by have := HK.out; omega
      have HM := Aside0.mk (show l.length ≤ 9223372036854775807 from HC.out.2.1)
      have d0 : decide ((k : Int) < (l.length : Int)) = true := decide_eq_true (by omega)
      have d1 : decide (k < l.length) = true := decide_eq_true hk
      have p0 : 0 ≤ (k : Int) := Int.natCast_nonneg _
      have p1 : (k : Int) < (l.length : Int) := by omega
      have HC1 := Aside0.mk (Kd.C_below HC.out HB.out)
      obtain ⟨ad, ea, ha0, ha1, ha2, ha3, ha4, ha5, ha6⟩ := at_T58 HC1.out (k : Int) p0 p1
      rw [Int.toNat_natCast] at ha0 ha1 ha2 ha3 ha4 ha5 ha6
      have EM := Aside0.mk (show rd_T58 l (k : Int) = l.getD k z58 by unfold rd_T58; rw [Int.toNat_natCast])
      generalize rd_T58 l (k : Int) = m at *
      have ew : wrap64 ((k : Int) + 1) = ((k + 1 : Nat) : Int) := by have h1 := HM.out; unfold wrap64; omega
      have KL := Aside0.mk hk
      have HX1 := Aside0.mk (blk_below HX.out HB.out)
      rw [ea]
      have HAX := Aside0.mk ea
      clear ea hk HC1
      by_cases hm : m.f0 = x.f1
      · have D := Aside0.mk (decide_eq_true hm)
        have EX := Aside0.mk (show (l.getD k z58).f0 = x.f1 by rw [← EM.out]; exact hm)
        clear hm
        go_wp2_with fail
        refine (pred105_calls _ m x gb HX1.out).mono ?_
        rintro e w3 ⟨rfl, hb⟩
        rw [D.out]
        have HB3 := Aside0.mk (below_step HB.out hb)
        clear hb
        go_wp2_with fail
        go_ret
        exact ⟨(k : Int), rfl, .inr ⟨k, rfl, KL.out, EX.out, HJ.out⟩, HB3.out⟩
      · have D := Aside0.mk (decide_eq_false hm)
        have EX := Aside0.mk (show ¬ (l.getD k z58).f0 = x.f1 by rw [← EM.out]; exact hm)
        clear hm
        go_wp2_with fail
        refine (pred105_calls _ m x gb HX1.out).mono ?_
        rintro e w3 ⟨rfl, hb⟩
        rw [D.out]
        have HB3 := Aside0.mk (below_step HB.out hb)
        clear hb
        go_wp2_with fail
        try rw [ew]
        rw [← HAX.out]
        clear ew
        go_roundg q
        case measure => omega
        case rel => exact ⟨k + 1, rfl, ⟨by have := HK.out; omega⟩, HB3, ⟨fun j hj => by
          by_cases e : j = k
          · subst e; exact EX.out
          · exact HJ.out j (by omega)⟩⟩
end Go.Proofs.Ytkjepfofiegcdaa.V
