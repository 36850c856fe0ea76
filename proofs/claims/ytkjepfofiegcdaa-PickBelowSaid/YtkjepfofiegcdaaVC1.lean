import Derived.Test.YtkjepfofiegcdaaVB17
/- The law PickOverlap, walked. Conditions: none. -/
namespace Go.Proofs.Ytkjepfofiegcdaa.V
set_option linter.unusedVariables false
set_option linter.unusedSimpArgs false
open Go.RowKit Go.Proofs.YtkjepfofiegcdaaW.PrintWords Go.Proofs.YtkjepfofiegcdaaW.PrintLast Go.Proofs.YtkjepfofiegcdaaW.PrintMore Go.Proofs.Ytkjepfofiegcdaa.PB14
theorem over_sym (a b : S58) : overB a b = overB b a := by unfold overB; exact Bool.and_comm _ _
theorem held_below {w0 w' w'' : World} {g2 g3 : Nat} {a b : S58} (h : Below w0.heap.size w0 w' ∧ w'.cell? ⟨g2, 0, none⟩ = some (.int .u64 a.f0) ∧ w'.cell? ⟨g2, 1, none⟩ = some (.int .i64 a.f1) ∧ w'.cell? ⟨g2, 2, none⟩ = some (.int .i64 a.f2) ∧ w'.cell? ⟨g2, 3, none⟩ = some (.string a.f3) ∧ w'.cell? ⟨g2, 4, none⟩ = some (.string a.f4) ∧ w'.cell? ⟨g2, 5, none⟩ = some (.int .u64 a.f5) ∧ w'.cell? ⟨g2, 6, none⟩ = some (.int .u64 a.f6) ∧ w'.cell? ⟨g3, 0, none⟩ = some (.int .u64 b.f0) ∧ w'.cell? ⟨g3, 1, none⟩ = some (.int .i64 b.f1) ∧ w'.cell? ⟨g3, 2, none⟩ = some (.int .i64 b.f2) ∧ w'.cell? ⟨g3, 3, none⟩ = some (.string b.f3) ∧ w'.cell? ⟨g3, 4, none⟩ = some (.string b.f4) ∧ w'.cell? ⟨g3, 5, none⟩ = some (.int .u64 b.f5) ∧ w'.cell? ⟨g3, 6, none⟩ = some (.int .u64 b.f6)) (hb : Below w'.heap.size w' w'') : Below w0.heap.size w0 w'' ∧ w''.cell? ⟨g2, 0, none⟩ = some (.int .u64 a.f0) ∧ w''.cell? ⟨g2, 1, none⟩ = some (.int .i64 a.f1) ∧ w''.cell? ⟨g2, 2, none⟩ = some (.int .i64 a.f2) ∧ w''.cell? ⟨g2, 3, none⟩ = some (.string a.f3) ∧ w''.cell? ⟨g2, 4, none⟩ = some (.string a.f4) ∧ w''.cell? ⟨g2, 5, none⟩ = some (.int .u64 a.f5) ∧ w''.cell? ⟨g2, 6, none⟩ = some (.int .u64 a.f6) ∧ w''.cell? ⟨g3, 0, none⟩ = some (.int .u64 b.f0) ∧ w''.cell? ⟨g3, 1, none⟩ = some (.int .i64 b.f1) ∧ w''.cell? ⟨g3, 2, none⟩ = some (.int .i64 b.f2) ∧ w''.cell? ⟨g3, 3, none⟩ = some (.string b.f3) ∧ w''.cell? ⟨g3, 4, none⟩ = some (.string b.f4) ∧ w''.cell? ⟨g3, 5, none⟩ = some (.int .u64 b.f5) ∧ w''.cell? ⟨g3, 6, none⟩ = some (.int .u64 b.f6) := by
  obtain ⟨hB, h0, h1, h2, h3, h4, h5, h6, i0, i1, i2, i3, i4, i5, i6⟩ := h
  exact ⟨below_step hB hb, pw_cell_below hb h0, pw_cell_below hb h1, pw_cell_below hb h2, pw_cell_below hb h3, pw_cell_below hb h4, pw_cell_below hb h5, pw_cell_below hb h6, pw_cell_below hb i0, pw_cell_below hb i1, pw_cell_below hb i2, pw_cell_below hb i3, pw_cell_below hb i4, pw_cell_below hb i5, pw_cell_below hb i6⟩
set_option maxHeartbeats 8000000 in
set_option maxRecDepth 100000 in
theorem pickOverlap_calls (w : World) (a b : S58) : Calls Try.prog 6 #[.agg (mCs a), .agg (mCs b)] w fun e w' => e = .returned (.bool true) ∧ Below w.heap.size w w' := by
  have K1 := Aside0.mk (fun w => over_calls w a b)
  have K2 := Aside0.mk (fun w => over_calls w b a)
  have K3 := Aside0.mk (fun w => overR_calls w a b)
  rw [over_sym b a] at K2
  generalize overB a b = r at *
  have HB := Aside0.mk (below_alloc ((Below.refl w.heap.size w).alloc (Nat.le_refl _) (.cells (mCs a) 58)) (.cells (mCs b) 58))
  have X2 := Aside0.mk (blk_alloc (blk_new w (.cells (mCs a) 58)) (.cells (mCs b) 58))
  have X3 := Aside0.mk (blk_new (w.alloc (.cells (mCs a) 58)) (.cells (mCs b) 58))
  go_enter Try.func6, Try.ntmps6
  go_wp2_with fail
  generalize hg3 : (w.alloc (.cells (mCs a) 58)).heap.size = g3 at *
  have e3 : w.heap.size + 1 = g3 := by rw [← hg3]; simp
  try rw [e3]
  clear hg3 e3
  have GB := Aside0.mk HB.out.size
  generalize (w.alloc (.cells (mCs a) 58)).alloc (.cells (mCs b) 58) = w1 at *
  have ca0 : w1.cell? ⟨w.heap.size, 0, none⟩ = some (.int .u64 a.f0) := (blk_cell X2.out 0).trans rfl
  have ca1 : w1.cell? ⟨w.heap.size, 1, none⟩ = some (.int .i64 a.f1) := (blk_cell X2.out 1).trans rfl
  have ca2 : w1.cell? ⟨w.heap.size, 2, none⟩ = some (.int .i64 a.f2) := (blk_cell X2.out 2).trans rfl
  have ca3 : w1.cell? ⟨w.heap.size, 3, none⟩ = some (.string a.f3) := (blk_cell X2.out 3).trans rfl
  have ca4 : w1.cell? ⟨w.heap.size, 4, none⟩ = some (.string a.f4) := (blk_cell X2.out 4).trans rfl
  have ca5 : w1.cell? ⟨w.heap.size, 5, none⟩ = some (.int .u64 a.f5) := (blk_cell X2.out 5).trans rfl
  have ca6 : w1.cell? ⟨w.heap.size, 6, none⟩ = some (.int .u64 a.f6) := (blk_cell X2.out 6).trans rfl
  have cb0 : w1.cell? ⟨g3, 0, none⟩ = some (.int .u64 b.f0) := (blk_cell X3.out 0).trans rfl
  have cb1 : w1.cell? ⟨g3, 1, none⟩ = some (.int .i64 b.f1) := (blk_cell X3.out 1).trans rfl
  have cb2 : w1.cell? ⟨g3, 2, none⟩ = some (.int .i64 b.f2) := (blk_cell X3.out 2).trans rfl
  have cb3 : w1.cell? ⟨g3, 3, none⟩ = some (.string b.f3) := (blk_cell X3.out 3).trans rfl
  have cb4 : w1.cell? ⟨g3, 4, none⟩ = some (.string b.f4) := (blk_cell X3.out 4).trans rfl
  have cb5 : w1.cell? ⟨g3, 5, none⟩ = some (.int .u64 b.f5) := (blk_cell X3.out 5).trans rfl
  have cb6 : w1.cell? ⟨g3, 6, none⟩ = some (.int .u64 b.f6) := (blk_cell X3.out 6).trans rfl
  go_region_held3 (fun w' => Below w.heap.size w w' ∧ w'.cell? ⟨w.heap.size, 0, none⟩ = some (.int .u64 a.f0) ∧ w'.cell? ⟨w.heap.size, 1, none⟩ = some (.int .i64 a.f1) ∧ w'.cell? ⟨w.heap.size, 2, none⟩ = some (.int .i64 a.f2) ∧ w'.cell? ⟨w.heap.size, 3, none⟩ = some (.string a.f3) ∧ w'.cell? ⟨w.heap.size, 4, none⟩ = some (.string a.f4) ∧ w'.cell? ⟨w.heap.size, 5, none⟩ = some (.int .u64 a.f5) ∧ w'.cell? ⟨w.heap.size, 6, none⟩ = some (.int .u64 a.f6) ∧ w'.cell? ⟨g3, 0, none⟩ = some (.int .u64 b.f0) ∧ w'.cell? ⟨g3, 1, none⟩ = some (.int .i64 b.f1) ∧ w'.cell? ⟨g3, 2, none⟩ = some (.int .i64 b.f2) ∧ w'.cell? ⟨g3, 3, none⟩ = some (.string b.f3) ∧ w'.cell? ⟨g3, 4, none⟩ = some (.string b.f4) ∧ w'.cell? ⟨g3, 5, none⟩ = some (.int .u64 b.f5) ∧ w'.cell? ⟨g3, 6, none⟩ = some (.int .u64 b.f6)) (first | exact ⟨below_drew HB.out, ca0, ca1, ca2, ca3, ca4, ca5, ca6, cb0, cb1, cb2, cb3, cb4, cb5, cb6⟩ | exact held_below (by assumption) (by assumption) | go_keep) (first | (go_at_call 42; (with_reducible refine (K1.out _).mono ?_); rintro e w' ⟨rfl, hb⟩) | (go_at_call 42; (with_reducible refine (K2.out _).mono ?_); rintro e w' ⟨rfl, hb⟩) | (go_at_call 43; (with_reducible refine (K3.out _).mono ?_); rintro e w' ⟨rfl, hb⟩) | (go_at_call 34; (with_reducible refine (awake16_calls _).mono ?_); rintro e w' ⟨rfl, hb⟩))
  all_goals
    rename_i hHeld
    go_wp2_with fail
    go_ret
    exact ⟨rfl, hHeld.1⟩
end Go.Proofs.Ytkjepfofiegcdaa.V
