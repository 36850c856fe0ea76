import Derived.Test.YtkjepfofiegcdaaVB1
/- The order of the tables of a version, walked (version.order). Conditions: none. -/
namespace Go.Proofs.Ytkjepfofiegcdaa.V
set_option linter.unusedVariables false
set_option linter.unusedSimpArgs false
open Go.RowKit Go.Proofs.YtkjepfofiegcdaaW.PrintWords Go.Proofs.YtkjepfofiegcdaaW.PrintLast Go.Proofs.YtkjepfofiegcdaaW.PrintMore Go.Proofs.Ytkjepfofiegcdaa.PB14
set_option maxHeartbeats 4000000 in
set_option maxRecDepth 100000 in
theorem order_calls (w : World) (v : Ver) (p : Pl) (hC : VC w v p) : Calls Try.prog 119 #[.agg (vCs v p)] w fun e w' => e = .returned (.bool (decide (ordP v))) ∧ Below w.heap.size w w' := by
  have HC := Aside0.mk hC
  clear hC
  have HB := Aside0.mk ((Below.refl w.heap.size w).alloc (Nat.le_refl _) (.cells (vCs v p) 143))
  go_enter Try.func119, Try.ntmps119
  go_wp2_with fail
  go_loopg [3, 4, 5, 9] 4 (fun kq v3 v4 v5 v9 w' => ∃ i : Nat, v9 = .int .i64 (i : Int) ∧ Aside0 (kq + i = 4) ∧ Aside0 (Below w.heap.size w w') ∧ Aside0 (∀ j, j < i → ∀ k, k < (v.lv j).length - 1 → gapP j ((v.lv j).getD k z58) ((v.lv j).getD (k + 1) z58)))
  case atStart => exact ⟨0, rfl, ⟨by omega⟩, HB, ⟨fun j hj => by omega⟩⟩
  case round =>
    clear HB
    obtain ⟨i, rfl, HK, HB, HJ⟩ := hrel
    cases gk with
    | zero =>
      have ei : i = 4 := by have := HK.out; omega
      subst ei
      go_wp2_with fail
      go_ret
      exact ⟨ret_bool (by symm; rw [decide_eq_true_iff]; exact HJ.out), HB.out⟩
    | succ q =>
      have hi : i < 4 := by have := HK.out; omega
      have HI := Aside0.mk hi
      have d0 : decide ((i : Int) < 4) = true := decide_eq_true (by omega)
      have HC1 := Aside0.mk (Kd.C_below (HC.out i hi).1 HB.out)
      have HCc := Aside0.mk (HC.out i hi).2
      have hx : ∀ W : World, (Instr.index 24 (.agg #[.slice p.a0 v.l0.length p.c0, .slice p.a1 v.l1.length p.c1, .slice p.a2 v.l2.length p.c2, .slice p.a3 v.l3.length p.c3]) (.int .i64 (i : Int))).run Try.prog W = .ok (.slice (p.a i) (v.lv i).length (p.c i)) W := fun W => idx_lv v p i hi W
      obtain ⟨l, hl⟩ : ∃ l, v.lv i = l := ⟨_, rfl⟩
      rw [hl] at HC1 HCc hx
      have HE := Aside0.mk hl
      clear hl
      clear hi
      go_wp2_with fail
      go_loopg [5] l.length (fun kq v5 w' => ∃ x : Int, v5 = .int .i64 x ∧ 1 ≤ x ∧ Aside0 ((l.length : Int) + 1 ≤ x + (kq : Int)) ∧ Aside0 (Below w.heap.size w w') ∧ Aside0 (∀ k : Nat, (k : Int) + 1 < x → k < l.length - 1 → gapP i (l.getD k z58) (l.getD (k + 1) z58)))
      case atStart => exact ⟨1, rfl, by omega, ⟨by omega⟩, HB, ⟨fun k hk => by omega⟩⟩
      case round =>
        have HC0 := HC1
        clear HB HC1
        obtain ⟨x, rfl, hx1, HL, HB, HG⟩ := hrel
        by_cases hlt : x < (l.length : Int)
        · have HC1 := Aside0.mk (Kd.C_below (HC.out i HI.out).1 HB.out)
          rw [HE.out] at HC1
          have e0 : decide (x < (l.length : Int)) = true := decide_eq_true hlt
          have HLT := Aside0.mk hlt
          have HX1 := Aside0.mk hx1
          have HM := Aside0.mk (show l.length ≤ 9223372036854775807 from HC1.out.2.1)
          have p0 : 0 ≤ x := by omega
          obtain ⟨y, hy⟩ : ∃ y, y = x - 1 := ⟨_, rfl⟩
          have p1 : 0 ≤ y := by omega
          have p2 : y < (l.length : Int) := by omega
          obtain ⟨ad, ea, ha0, _, _, ha3, ha4, _, _⟩ := at_T58 HC1.out y p1 p2
          obtain ⟨ad', eb, hb0, _, _, hb3, hb4, _, _⟩ := at_T58 HC1.out x p0 hlt
          rw [ea] at eb
          cases eb
          obtain ⟨k, hk⟩ : ∃ k : Nat, x = (k : Int) + 1 := ⟨(x - 1).toNat, by omega⟩
          have EA := Aside0.mk (show rd_T58 l y = l.getD k z58 by unfold rd_T58; rw [hy, hk]; congr 1; omega)
          have EB := Aside0.mk (show rd_T58 l x = l.getD (k + 1) z58 by unfold rd_T58; rw [hk]; congr 1)
          generalize rd_T58 l y = a at *
          generalize rd_T58 l x = b at *
          have KX := Aside0.mk hk
          have ew : IntKind.i64.wrap (x - 1) = y := by have := HM.out; rw [IntKind.wrap_i64]; omega
          have ew2 : wrap64 (x - 1) = y := by have := HM.out; unfold wrap64; omega
          have ew1 : wrap64 (x + 1) = x + 1 := by have := HM.out; unfold wrap64; omega
          have hax : p.a i = some ad := ea
          rw [hax]
          have HAX := Aside0.mk hax
          clear hk hx1 ea hax hy
          by_cases hg : gapP i a b
          · have GG := Aside0.mk hg
            by_cases h0 : i = 0
            · have t0 : ((i : Int) == 0) = true := by rw [h0]; rfl
              have t1 : decide (0 < (i : Int)) = false := decide_eq_false (by omega)
              have t3 : decide (0 < i) = false := decide_eq_false (by omega)
              have t2 : decide (b.f0 ≤ a.f0) = false := by unfold gapP at hg; rw [if_pos h0] at hg; exact decide_eq_false (by omega)
              clear h0 hg
              go_wp2_with fail
              go_quiet (fail)
              go_wp2_with fail
              try rw [ew1]
              rw [← HAX.out]
              go_roundg (gk - 1)
              case measure => (have := HL.out; have := HLT.out; omega)
              case rel => exact ⟨x + 1, rfl, by have := HX1.out; omega, ⟨by have := HL.out; have := HLT.out; omega⟩, ⟨pw_below_drewN HB.out nq⟩, ⟨fun k' hk' hk2 => by
                by_cases e : (k' : Int) + 1 = x
                · have e2 : k' = k := by have := KX.out; omega
                  subst e2
                  rw [← EA.out, ← EB.out]; exact GG.out
                · exact HG.out k' (by omega) hk2⟩⟩
            · have t0 : ((i : Int) == 0) = false := by rw [beq_eq_false_iff_ne]; omega
              have t1 : decide (0 < (i : Int)) = true := decide_eq_true (by omega)
              have t3 : decide (0 < i) = true := decide_eq_true (by omega)
              have t2 : Op.bytesLess a.f4.toList b.f3.toList = true := by unfold gapP at hg; rw [if_neg h0] at hg; exact hg
              clear h0 hg
              go_wp2_with fail
              go_quiet (fail)
              go_wp2_with fail
              try rw [ew1]
              rw [← HAX.out]
              go_roundg (gk - 1)
              case measure => (have := HL.out; have := HLT.out; omega)
              case rel => exact ⟨x + 1, rfl, by have := HX1.out; omega, ⟨by have := HL.out; have := HLT.out; omega⟩, ⟨pw_below_drewN HB.out nq⟩, ⟨fun k' hk' hk2 => by
                by_cases e : (k' : Int) + 1 = x
                · have e2 : k' = k := by have := KX.out; omega
                  subst e2
                  rw [← EA.out, ← EB.out]; exact GG.out
                · exact HG.out k' (by omega) hk2⟩⟩
          · have GG := Aside0.mk hg
            by_cases h0 : i = 0
            · have t0 : ((i : Int) == 0) = true := by rw [h0]; rfl
              have t1 : decide (0 < (i : Int)) = false := decide_eq_false (by omega)
              have t3 : decide (0 < i) = false := decide_eq_false (by omega)
              have t2 : decide (b.f0 ≤ a.f0) = true := by unfold gapP at hg; rw [if_pos h0] at hg; exact decide_eq_true (by omega)
              clear h0 hg
              go_wp2_with fail
              go_quiet (fail)
              go_wp2_with fail
              go_ret
              exact ⟨ret_bool (by symm; rw [decide_eq_false_iff_not]; intro ho; exact GG.out (by rw [EA.out, EB.out]; have h1 := ho i HI.out k; rw [HE.out] at h1; exact h1 (by have := KX.out; have := HLT.out; omega))), pw_below_drewN HB.out nq⟩
            · have t0 : ((i : Int) == 0) = false := by rw [beq_eq_false_iff_ne]; omega
              have t1 : decide (0 < (i : Int)) = true := decide_eq_true (by omega)
              have t3 : decide (0 < i) = true := decide_eq_true (by omega)
              have t2 : Op.bytesLess a.f4.toList b.f3.toList = false := by unfold gapP at hg; rw [if_neg h0] at hg; simpa using hg
              clear h0 hg
              go_wp2_with fail
              go_quiet (fail)
              go_wp2_with fail
              go_ret
              exact ⟨ret_bool (by symm; rw [decide_eq_false_iff_not]; intro ho; exact GG.out (by rw [EA.out, EB.out]; have h1 := ho i HI.out k; rw [HE.out] at h1; exact h1 (by have := KX.out; have := HLT.out; omega))), pw_below_drewN HB.out nq⟩
        · have e0 : decide (x < (l.length : Int)) = false := decide_eq_false hlt
          have HLT := Aside0.mk hlt
          clear hlt
          go_wp2_with fail
          have ew : wrap64 ((i : Int) + 1) = ((i + 1 : Nat) : Int) := by have h1 := HI.out; unfold wrap64; omega
          try rw [ew]
          go_roundg q
          case measure => omega
          case rel => exact ⟨i + 1, rfl, ⟨by have := HK.out; omega⟩, HB, ⟨fun j hj k hk => by
            by_cases e : j = i
            · subst e; rw [HE.out] at hk ⊢; exact HG.out k (by have := HLT.out; omega) hk
            · exact HJ.out j (by omega) k hk⟩⟩
end Go.Proofs.Ytkjepfofiegcdaa.V
