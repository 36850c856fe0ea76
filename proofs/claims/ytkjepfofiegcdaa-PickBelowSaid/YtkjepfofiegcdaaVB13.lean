import Derived.Test.YtkjepfofiegcdaaVB12
/- What is due of a level (pick.due), walked. Conditions: options that may be, sizes of at most 2 to the 18th, at most 64 tables. -/
namespace Go.Proofs.Ytkjepfofiegcdaa.V
set_option linter.unusedVariables false
set_option linter.unusedSimpArgs false
open Go.RowKit Go.Proofs.YtkjepfofiegcdaaW.PrintWords Go.Proofs.YtkjepfofiegcdaaW.PrintLast Go.Proofs.YtkjepfofiegcdaaW.PrintMore Go.Proofs.Ytkjepfofiegcdaa.PB14
theorem R_one (W : World) (base : Nat) (m : S58) (hb : base ≤ W.heap.size) : Kd.R k58 58 (W.alloc (.cells (mCs m) 58)) base (fun _ => True) (.slice (some ⟨W.heap.size, 0, none⟩) 1 1) [m] := by
  refine ⟨fun _ _ => trivial, (mCs m).toList, ?_, ?_⟩
  · have h2 := World.ownsRow_lit (base := base) (e := 58) (size := 7) W (mCs m) 1 hb (by decide) rfl
    exact h2
  · exact (Reps.none _ _).snoc (k58_mkM _ _ _ m) rfl
def dueL (v : Ver) (many base times : Int) : Nat → List S58
  | 0 => if (v.l0.length : Int) < many then [] else v.l0
  | 1 => if sizeL v.l1 ≤ base then [] else [minK v.l1 v.l1.length]
  | _ => if sizeL v.l2 ≤ base * times then [] else [minK v.l2 v.l2.length]
theorem sizeL_pos {l : List S58} {b : Int} (h : ¬ sizeL l ≤ b) (hb : 1 ≤ b) : 0 < l.length := by
  cases l with
  | nil => exact absurd (show sizeL [] ≤ b from by show (0 : Int) ≤ b; omega) h
  | cons x r => simp
set_option maxHeartbeats 4000000 in
set_option maxRecDepth 100000 in
theorem due0_calls (w : World) (v : Ver) (p : Pl) (hC : VC w v p) (many base times : Int) (hO : optP many base times) (hl : v.l0.length ≤ 64) : Calls Try.prog 90 #[.agg (vCs v p), .agg #[.int .i64 many, .int .i64 base, .int .i64 times], .int .i64 0] w fun e w' => ∃ x, e = .returned x ∧ Kd.R k58 58 w' w.heap.size (fun _ => True) x (dueL v many base times 0) ∧ Below w.heap.size w w' := by
  have HC := Aside0.mk hC
  have HO := Aside0.mk hO
  have HL := Aside0.mk hl
  have HB := Aside0.mk (below_alloc ((Below.refl w.heap.size w).alloc (Nat.le_refl _) (.cells (vCs v p) 26)) (.cells #[.int .i64 many, .int .i64 base, .int .i64 times] 48))
  clear hC hO hl
  by_cases hm : (v.l0.length : Int) < many
  · have d0 : decide ((v.l0.length : Int) < many) = true := decide_eq_true hm
    have E := Aside0.mk (show dueL v many base times 0 = [] from if_pos hm)
    rw [E.out]
    clear hm
    go_enter Try.func90, Try.ntmps90
    go_wp2_with fail
    go_ret
    exact ⟨_, rfl, Kd.R_nil _ _ _ _ _, HB.out⟩
  · have d0 : decide ((v.l0.length : Int) < many) = false := decide_eq_false hm
    have E := Aside0.mk (show dueL v many base times 0 = v.l0 from if_neg hm)
    rw [E.out]
    clear hm
    go_enter Try.func90, Try.ntmps90
    go_wp2_with fail
    have hc := (HC.out.below HB.out) 0 (by omega)
    refine (clone_calls _ p.a0 p.c0 v.l0 hc.1 hc.2 (by have := HL.out; omega)).mono ?_
    clear hc
    rintro e w3 ⟨x, rfl, hR, hb⟩
    have HR := Aside0.mk (Kd.R_lower hR HB.out.size)
    have HB3 := Aside0.mk (below_step HB.out hb)
    clear hR hb
    go_wp2_with fail
    go_ret
    exact ⟨_, rfl, HR.out, HB3.out⟩
set_option maxHeartbeats 4000000 in
set_option maxRecDepth 100000 in
theorem due1_calls (w : World) (v : Ver) (p : Pl) (hC : VC w v p) (many base times : Int) (hO : optP many base times) (hl : v.l1.length ≤ 64) : Calls Try.prog 90 #[.agg (vCs v p), .agg #[.int .i64 many, .int .i64 base, .int .i64 times], .int .i64 1] w fun e w' => ∃ x, e = .returned x ∧ Kd.R k58 58 w' w.heap.size (fun _ => True) x (dueL v many base times 1) ∧ Below w.heap.size w w' := by
  have HC := Aside0.mk hC
  have HO := Aside0.mk hO
  have HL := Aside0.mk hl
  have HB := Aside0.mk (below_alloc ((Below.refl w.heap.size w).alloc (Nat.le_refl _) (.cells (vCs v p) 26)) (.cells #[.int .i64 many, .int .i64 base, .int .i64 times] 48))
  clear hC hO hl
  have PL := Aside0.mk (show 1 ≤ base from HO.out.2.2.1)
  have SV := Aside0.mk (show sizeV v 1 = sizeL v.l1 from rfl)
  by_cases hm : sizeL v.l1 ≤ base
  · have d0 : decide (sizeL v.l1 ≤ base) = true := decide_eq_true hm
    have E := Aside0.mk (show dueL v many base times 1 = [] from if_pos hm)
    rw [E.out]
    clear hm
    go_enter Try.func90, Try.ntmps90
    go_wp2_with fail
    refine (size_calls _ v p (HC.out.below HB.out) 1).mono ?_
    rw [SV.out]
    rintro e w3 ⟨rfl, hb⟩
    have HB3 := Aside0.mk (below_step HB.out hb)
    clear hb
    go_wp2_with fail
    go_ret
    exact ⟨_, rfl, Kd.R_nil _ _ _ _ _, HB3.out⟩
  · have d0 : decide (sizeL v.l1 ≤ base) = false := decide_eq_false hm
    have E := Aside0.mk (show dueL v many base times 1 = [minK v.l1 v.l1.length] from if_neg hm)
    have PS := Aside0.mk (sizeL_pos hm PL.out)
    obtain ⟨m, hmm⟩ : ∃ m, m = minK v.l1 v.l1.length := ⟨_, rfl⟩
    have MM := Aside0.mk hmm
    rw [E.out, ← hmm]
    clear hmm
    clear hm
    go_enter Try.func90, Try.ntmps90
    go_wp2_with fail
    refine (size_calls _ v p (HC.out.below HB.out) 1).mono ?_
    rw [SV.out]
    rintro e w3 ⟨rfl, hb⟩
    have HB3 := Aside0.mk (below_step HB.out hb)
    clear hb
    go_wp2_with fail
    have hc := (HC.out.below HB3.out) 1 (by omega)
    have hmin := min_calls _ p.a1 p.c1 v.l1 hc.1 PS.out
    rw [← MM.out] at hmin
    refine hmin.mono ?_
    clear hc hmin
    rintro e w4 ⟨rfl, hb⟩
    have HB4 := Aside0.mk (below_alloc (below_step HB3.out hb) (.cells (mCs m) 58))
    have HR := Aside0.mk (R_one (w4.alloc (.cells (mCs m) 58)) w.heap.size m HB4.out.size)
    have HB5 := Aside0.mk (below_alloc HB4.out (.cells (mCs m) 58))
    clear hb
    go_wp2_with fail
    go_ret
    exact ⟨_, rfl, by first | exact HR.out | simpa using HR.out, HB5.out⟩
set_option maxHeartbeats 4000000 in
set_option maxRecDepth 100000 in
theorem due2_calls (w : World) (v : Ver) (p : Pl) (hC : VC w v p) (many base times : Int) (hO : optP many base times) (hl : v.l2.length ≤ 64) : Calls Try.prog 90 #[.agg (vCs v p), .agg #[.int .i64 many, .int .i64 base, .int .i64 times], .int .i64 2] w fun e w' => ∃ x, e = .returned x ∧ Kd.R k58 58 w' w.heap.size (fun _ => True) x (dueL v many base times 2) ∧ Below w.heap.size w w' := by
  have HC := Aside0.mk hC
  have HO := Aside0.mk hO
  have HL := Aside0.mk hl
  have HB := Aside0.mk (below_alloc ((Below.refl w.heap.size w).alloc (Nat.le_refl _) (.cells (vCs v p) 26)) (.cells #[.int .i64 many, .int .i64 base, .int .i64 times] 48))
  clear hC hO hl
  obtain ⟨lm, hlm⟩ : ∃ x, x = base * times := ⟨_, rfl⟩
  have LM := Aside0.mk hlm
  have hb1 := Int.mul_le_mul HO.out.2.2.2.1 HO.out.2.2.2.2.2 (by have := HO.out.2.2.2.2.1; omega) (by decide : (0 : Int) ≤ 1073741824)
  have hb2 := Int.mul_le_mul HO.out.2.2.1 HO.out.2.2.2.2.1 (by decide : (0 : Int) ≤ 1) (by have := HO.out.2.2.1; omega)
  rw [← hlm] at hb1 hb2
  have PL := Aside0.mk (show 1 ≤ lm by omega)
  have ew : wrap64 (base * times) = lm := by rw [← hlm]; unfold wrap64; omega
  have ew2 : IntKind.i64.wrap (base * times) = lm := by rw [← hlm, IntKind.wrap_i64]; omega
  clear hlm hb1 hb2
  have SV := Aside0.mk (show sizeV v 2 = sizeL v.l2 from rfl)
  by_cases hm : sizeL v.l2 ≤ lm
  · have d0 : decide (sizeL v.l2 ≤ lm) = true := decide_eq_true hm
    have E := Aside0.mk (show dueL v many base times 2 = [] from if_pos (by rw [← LM.out]; exact hm))
    rw [E.out]
    clear hm
    go_enter Try.func90, Try.ntmps90
    go_wp2_with fail
    refine (size_calls _ v p (HC.out.below HB.out) 2).mono ?_
    rw [SV.out]
    rintro e w3 ⟨rfl, hb⟩
    have HB3 := Aside0.mk (below_step HB.out hb)
    clear hb
    go_wp2_with fail
    go_ret
    exact ⟨_, rfl, Kd.R_nil _ _ _ _ _, HB3.out⟩
  · have d0 : decide (sizeL v.l2 ≤ lm) = false := decide_eq_false hm
    have E := Aside0.mk (show dueL v many base times 2 = [minK v.l2 v.l2.length] from if_neg (by rw [← LM.out]; exact hm))
    have PS := Aside0.mk (sizeL_pos hm PL.out)
    obtain ⟨m, hmm⟩ : ∃ m, m = minK v.l2 v.l2.length := ⟨_, rfl⟩
    have MM := Aside0.mk hmm
    rw [E.out, ← hmm]
    clear hmm
    clear hm
    go_enter Try.func90, Try.ntmps90
    go_wp2_with fail
    refine (size_calls _ v p (HC.out.below HB.out) 2).mono ?_
    rw [SV.out]
    rintro e w3 ⟨rfl, hb⟩
    have HB3 := Aside0.mk (below_step HB.out hb)
    clear hb
    go_wp2_with fail
    have hc := (HC.out.below HB3.out) 2 (by omega)
    have hmin := min_calls _ p.a2 p.c2 v.l2 hc.1 PS.out
    rw [← MM.out] at hmin
    refine hmin.mono ?_
    clear hc hmin
    rintro e w4 ⟨rfl, hb⟩
    have HB4 := Aside0.mk (below_alloc (below_step HB3.out hb) (.cells (mCs m) 58))
    have HR := Aside0.mk (R_one (w4.alloc (.cells (mCs m) 58)) w.heap.size m HB4.out.size)
    have HB5 := Aside0.mk (below_alloc HB4.out (.cells (mCs m) 58))
    clear hb
    go_wp2_with fail
    go_ret
    exact ⟨_, rfl, by first | exact HR.out | simpa using HR.out, HB5.out⟩
end Go.Proofs.Ytkjepfofiegcdaa.V
