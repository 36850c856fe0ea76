import Derived.Test.YtkjepfofiegcdaaVE9
/- The size of a level, whether a compaction is due, whether two are the same (freshetref14, freshetref16), walked. Conditions: options that may be. -/
namespace Go.Proofs.Ytkjepfofiegcdaa.V
set_option linter.unusedVariables false
set_option linter.unusedSimpArgs false
open Go.RowKit Go.Proofs.YtkjepfofiegcdaaW.PrintWords Go.Proofs.YtkjepfofiegcdaaW.PrintLast Go.Proofs.YtkjepfofiegcdaaW.PrintMore Go.Proofs.Ytkjepfofiegcdaa.PB14
set_option maxHeartbeats 8000000 in
set_option maxRecDepth 100000 in
theorem sizeR_calls (w : World) (v : Ver) (p : Pl) (hC : VC w v p) (n : Int) : Calls Try.prog 65 #[.agg (vCs v p), .int .i64 n] w fun e w' => e = .returned (.int .i64 (sizeV v n)) ∧ Below w.heap.size w w' := by
  have HC := Aside0.mk hC
  clear hC
  have HB := Aside0.mk ((Below.refl w.heap.size w).alloc (Nat.le_refl _) (.cells (vCs v p) 26))
  have BX := Aside0.mk (blk_new w (.cells (vCs v p) 26))
  by_cases hn : 0 ≤ n ∧ n < 4
  · obtain ⟨i, rfl⟩ := Int.eq_ofNat_of_zero_le hn.1
    have HS := Aside0.mk (show sizeV v (i : Int) = sizeL (v.lv i) by unfold sizeV; rw [if_pos hn, Int.toNat_natCast])
    have hi : i < 4 := by omega
    have HI := Aside0.mk hi
    rw [HS.out]
    have hw1 := (HC.out.below HB.out i hi).1
    obtain ⟨l, hl⟩ : ∃ l, v.lv i = l := ⟨_, rfl⟩
    rw [hl] at hw1 ⊢
    have HE := Aside0.mk hl
    have HC1 := Aside0.mk hw1
    have i0 : 0 ≤ (i : Int) := Int.natCast_nonneg _
    have i1 : (i : Int) < 4 := hn.2
    have z0 : decide ((i : Int) < 0) = false := decide_eq_false (by omega)
    have z1 : decide ((3 : Int) < (i : Int)) = false := decide_eq_false (by omega)
    have z2 : decide (3 < i) = false := decide_eq_false (by omega)
    clear hl hn hw1 hi
    go_enter Try.func65, Try.ntmps65
    go_upto_region 3 with (fail)
    generalize w.alloc (.cells (vCs v p) 26) = w1 at *
    clear z0 z1 z2
    go_wp2_with fail
    go_loopg [5, 6] l.length (fun kq v5 v6 w' => ∃ k : Nat, v5 = .int .i64 (sizeL (l.take k)) ∧ v6 = .int .i64 (k : Int) ∧ Aside0 (kq + k = l.length) ∧ Aside0 (w' = w1))
    case atStart => exact ⟨0, rfl, rfl, ⟨by omega⟩, ⟨rfl⟩⟩
    case round =>
      obtain ⟨k, rfl, rfl, HK, HW⟩ := hrel
      obtain rfl := HW.out
      clear HW
      have hv := vcell BX.out i HI.out
      rw [HE.out] at hv
      cases gk with
      | zero =>
        have ek : k = l.length := by have := HK.out; omega
        subst ek
        have d0 : decide ((l.length : Int) < (l.length : Int)) = false := by simp
        rw [List.take_length]
        go_wp2_with fail
        go_ret
        exact ⟨rfl, HB.out⟩
      | succ q =>
        have hk : k < l.length := by have := HK.out; omega
        have d0 : decide ((k : Int) < (l.length : Int)) = true := decide_eq_true (by omega)
        have d1 : decide (k < l.length) = true := decide_eq_true hk
        have p0 : 0 ≤ (k : Int) := Int.natCast_nonneg _
        have p1 : (k : Int) < (l.length : Int) := by omega
        have HM := Aside0.mk (show l.length ≤ 9223372036854775807 from HC1.out.2.1)
        obtain ⟨ad, ea, ha0, ha1, ha2, ha3, ha4, ha5, ha6⟩ := at_T58 HC1.out (k : Int) p0 p1
        rw [Int.toNat_natCast] at ha0 ha1 ha2 ha3 ha4 ha5 ha6
        have EM := Aside0.mk (show rd_T58 l (k : Int) = l.getD k z58 by unfold rd_T58; rw [Int.toNat_natCast])
        generalize rd_T58 l (k : Int) = m at *
        have TS := Aside0.mk (show sizeL (l.take (k + 1)) = wrap64 (sizeL (l.take k) + m.f1) by rw [take_snoc l z58 hk, sizeL_snoc, EM.out])
        obtain ⟨sz, hsz⟩ : ∃ s, s = sizeL (l.take k) := ⟨_, rfl⟩
        rw [← hsz] at TS ⊢
        obtain ⟨s2, hs2⟩ : ∃ s, s = wrap64 (sz + m.f1) := ⟨_, rfl⟩
        have ew2 : IntKind.i64.wrap (sz + m.f1) = s2 := by rw [hs2]; first | rfl | (simp only [i64_w]; done) | (rw [IntKind.wrap_i64]; unfold wrap64; omega)
        have ew3 : wrap64 (sz + m.f1) = s2 := hs2.symm
        rw [← hs2] at TS
        clear hsz hs2
        rw [ea] at hv
        have ew : wrap64 ((k : Int) + 1) = ((k + 1 : Nat) : Int) := by have h1 := HM.out; unfold wrap64; omega
        clear ea hk
        go_wp2_with fail
        try rw [ew]
        clear ew
        go_roundg q
        case measure => omega
        case rel => exact ⟨k + 1, by rw [TS.out], rfl, ⟨by have := HK.out; omega⟩, ⟨rfl⟩⟩
  · have HS := Aside0.mk (show sizeV v n = 0 by unfold sizeV; rw [if_neg hn])
    rw [HS.out]
    by_cases h0 : n < 0
    · have z0 : decide (n < 0) = true := decide_eq_true h0
      clear hn h0
      go_enter Try.func65, Try.ntmps65
      go_wp2_with fail
      go_ret
      exact ⟨rfl, HB.out⟩
    · have z0 : decide (n < 0) = false := decide_eq_false h0
      have z1 : decide ((3 : Int) < n) = true := decide_eq_true (by omega)
      clear hn h0
      go_enter Try.func65, Try.ntmps65
      go_wp2_with fail
      go_ret
      exact ⟨rfl, HB.out⟩
theorem minK_one (l : List S58) (n : Nat) : [minK l n] ≠ [] := by simp
theorem held_vo {w0 w' w'' : World} {g g' : Nat} {cs cs' : Array Value} {t t' : TypeId} (h : Below w0.heap.size w0 w' ∧ w'.heap[g]? = some (.cells cs t (0, 0)) ∧ w'.heap[g']? = some (.cells cs' t' (0, 0))) (hb : Below w'.heap.size w' w'') : Below w0.heap.size w0 w'' ∧ w''.heap[g]? = some (.cells cs t (0, 0)) ∧ w''.heap[g']? = some (.cells cs' t' (0, 0)) := ⟨below_step h.1 hb, blk_below h.2.1 hb, blk_below h.2.2 hb⟩
set_option maxHeartbeats 8000000 in
set_option maxRecDepth 100000 in
theorem dueR0_calls (w : World) (v : Ver) (p : Pl) (hC : VC w v p) (many base times : Int) (hO : optP many base times) : Calls Try.prog 94 #[.agg (vCs v p), .agg #[.int .i64 many, .int .i64 base, .int .i64 times], .int .i64 0] w fun e w' => e = .returned (.bool (decide (dueL v many base times 0 ≠ []))) ∧ Below w.heap.size w w' := by
  have HC := Aside0.mk hC
  have HO := Aside0.mk hO
  have HB := Aside0.mk (below_alloc ((Below.refl w.heap.size w).alloc (Nat.le_refl _) (.cells (vCs v p) 26)) (.cells #[.int .i64 many, .int .i64 base, .int .i64 times] 48))
  have X2 := Aside0.mk (blk_alloc (blk_new w (.cells (vCs v p) 26)) (.cells #[.int .i64 many, .int .i64 base, .int .i64 times] 48))
  have X3 := Aside0.mk (blk_new (w.alloc (.cells (vCs v p) 26)) (.cells #[.int .i64 many, .int .i64 base, .int .i64 times] 48))
  clear hC hO
  have DD := Aside0.mk (show decide (dueL v many base times 0 ≠ []) = decide (many ≤ (v.l0.length : Int)) by
    rw [decide_eq_decide]
    show (if (v.l0.length : Int) < many then [] else v.l0) ≠ [] ↔ _
    have h1 := HO.out.1
    by_cases h : (v.l0.length : Int) < many
    · rw [if_pos h]; constructor
      · intro h2; exact absurd rfl h2
      · intro h2; omega
    · rw [if_neg h]; constructor
      · intro _; omega
      · intro _ h2; rw [h2] at h; simp at h; omega)
  rw [DD.out]
  go_enter Try.func94, Try.ntmps94
  go_wp2_with fail
  go_ret
  exact ⟨rfl, HB.out⟩
set_option maxHeartbeats 8000000 in
set_option maxRecDepth 100000 in
theorem dueR1_calls (w : World) (v : Ver) (p : Pl) (hC : VC w v p) (many base times : Int) (hO : optP many base times) : Calls Try.prog 94 #[.agg (vCs v p), .agg #[.int .i64 many, .int .i64 base, .int .i64 times], .int .i64 1] w fun e w' => e = .returned (.bool (decide (dueL v many base times 1 ≠ []))) ∧ Below w.heap.size w w' := by
  have HC := Aside0.mk hC
  have HO := Aside0.mk hO
  have HB := Aside0.mk (below_alloc ((Below.refl w.heap.size w).alloc (Nat.le_refl _) (.cells (vCs v p) 26)) (.cells #[.int .i64 many, .int .i64 base, .int .i64 times] 48))
  have X2 := Aside0.mk (blk_alloc (blk_new w (.cells (vCs v p) 26)) (.cells #[.int .i64 many, .int .i64 base, .int .i64 times] 48))
  have X3 := Aside0.mk (blk_new (w.alloc (.cells (vCs v p) 26)) (.cells #[.int .i64 many, .int .i64 base, .int .i64 times] 48))
  clear hC hO
  have DD := Aside0.mk (show decide (dueL v many base times 1 ≠ []) = decide (base < sizeV v 1) by
    rw [decide_eq_decide, show sizeV v 1 = sizeL v.l1 from rfl]
    show (if sizeL v.l1 ≤ base then [] else [minK v.l1 v.l1.length]) ≠ [] ↔ _

    by_cases h : sizeL v.l1 ≤ base
    · rw [if_pos h]; constructor
      · intro h2; exact absurd rfl h2
      · intro h2; omega
    · rw [if_neg h]; constructor
      · intro _; omega
      · intro _; exact minK_one _ _)
  rw [DD.out]

  go_enter Try.func94, Try.ntmps94
  go_upto_region 4 with (fail)
  generalize hg3 : (w.alloc (.cells (vCs v p) 26)).heap.size = g3 at *
  have e3 : w.heap.size + 1 = g3 := by rw [← hg3]; simp
  try rw [e3]
  clear hg3 e3
  generalize (w.alloc (.cells (vCs v p) 26)).alloc (.cells #[.int .i64 many, .int .i64 base, .int .i64 times] 48) = w1 at *
  refine start_ (n := 6) (S := (fun w' => Below w1.heap.size w1 w' ∧ w'.heap[w.heap.size]? = some (.cells (vCs v p) 26 (0, 0)) ∧ w'.heap[g3]? = some (.cells #[.int .i64 many, .int .i64 base, .int .i64 times] 48 (0, 0)))) (ds := []) #[false, false, false, false, false, false] (by kernel_rfl) rfl rfl ⟨below_drew (Below.refl _ _), blk_drew X2.out, blk_drew X3.out⟩ (fun hHeld => ?_)
  -- 0: Op.load 26 t3
  refine take_ (i := 0) (N := (some 18)) (v := ?_) (a' := ?_) #[true, false, false, false, false, false] rfl rfl (by kernel_rfl) (fun _ _ _ h => h) (Or.inl ⟨by rfl, ?_⟩) hHeld ?_ ?_
  rotate_left
  · rintro w' ⟨s0, s1, s2⟩
    have b0 : w'.cell? ⟨w.heap.size, 0, none⟩ = some (.int .u64 v.log) := (blk_cell s1 0).trans rfl
    have b1 : w'.cell? ⟨w.heap.size, 1, none⟩ = some (.int .u64 v.next) := (blk_cell s1 1).trans rfl
    have b2 : w'.cell? ⟨w.heap.size, 2, none⟩ = some (.int .u64 v.seq) := (blk_cell s1 2).trans rfl
    have b3 : w'.cell? ⟨w.heap.size, 3, none⟩ = some (.slice p.a0 v.l0.length p.c0) := (blk_cell s1 3).trans rfl
    have b4 : w'.cell? ⟨w.heap.size, 4, none⟩ = some (.slice p.a1 v.l1.length p.c1) := (blk_cell s1 4).trans rfl
    have b5 : w'.cell? ⟨w.heap.size, 5, none⟩ = some (.slice p.a2 v.l2.length p.c2) := (blk_cell s1 5).trans rfl
    have b6 : w'.cell? ⟨w.heap.size, 6, none⟩ = some (.slice p.a3 v.l3.length p.c3) := (blk_cell s1 6).trans rfl
    have o0 : w'.cell? ⟨g3, 0, none⟩ = some (.int .i64 many) := (blk_cell s2 0).trans rfl
    have o1 : w'.cell? ⟨g3, 1, none⟩ = some (.int .i64 base) := (blk_cell s2 1).trans rfl
    have o2 : w'.cell? ⟨g3, 2, none⟩ = some (.int .i64 times) := (blk_cell s2 2).trans rfl
    go_simp
    with_reducible rfl
  rotate_left
  · simp only [Act.put, List.setIfInBounds_toArray, List.set_cons_zero, List.set_cons_succ, i64_w, i32_w]
    rfl
  -- 2: Op.fieldAddr 48 t4 1
  refine pure_ (i := 2) (N := (some 20)) (v := ?_) (a' := ?_) #[true, false, true, false, false, false] rfl rfl (by kernel_rfl) (fun _ _ _ h => h) (Or.inl ⟨by rfl, ?_⟩) ?_ ?_
  rotate_left
  · intro w'
    go_simp
    with_reducible rfl
  rotate_left
  · simp only [Act.put, List.setIfInBounds_toArray, List.set_cons_zero, List.set_cons_succ, i64_w, i32_w]
    rfl
  -- 3: Op.load 3 t20
  refine take_ (i := 3) (N := (some 21)) (v := ?_) (a' := ?_) #[true, false, true, true, false, false] rfl rfl (by kernel_rfl) (fun _ _ _ h => h) (Or.inl ⟨by rfl, ?_⟩) hHeld ?_ ?_
  rotate_left
  · rintro w' ⟨s0, s1, s2⟩
    have b0 : w'.cell? ⟨w.heap.size, 0, none⟩ = some (.int .u64 v.log) := (blk_cell s1 0).trans rfl
    have b1 : w'.cell? ⟨w.heap.size, 1, none⟩ = some (.int .u64 v.next) := (blk_cell s1 1).trans rfl
    have b2 : w'.cell? ⟨w.heap.size, 2, none⟩ = some (.int .u64 v.seq) := (blk_cell s1 2).trans rfl
    have b3 : w'.cell? ⟨w.heap.size, 3, none⟩ = some (.slice p.a0 v.l0.length p.c0) := (blk_cell s1 3).trans rfl
    have b4 : w'.cell? ⟨w.heap.size, 4, none⟩ = some (.slice p.a1 v.l1.length p.c1) := (blk_cell s1 4).trans rfl
    have b5 : w'.cell? ⟨w.heap.size, 5, none⟩ = some (.slice p.a2 v.l2.length p.c2) := (blk_cell s1 5).trans rfl
    have b6 : w'.cell? ⟨w.heap.size, 6, none⟩ = some (.slice p.a3 v.l3.length p.c3) := (blk_cell s1 6).trans rfl
    have o0 : w'.cell? ⟨g3, 0, none⟩ = some (.int .i64 many) := (blk_cell s2 0).trans rfl
    have o1 : w'.cell? ⟨g3, 1, none⟩ = some (.int .i64 base) := (blk_cell s2 1).trans rfl
    have o2 : w'.cell? ⟨g3, 2, none⟩ = some (.int .i64 times) := (blk_cell s2 2).trans rfl
    go_simp
    with_reducible rfl
  rotate_left
  · simp only [Act.put, List.setIfInBounds_toArray, List.set_cons_zero, List.set_cons_succ, i64_w, i32_w]
    rfl
  -- 1: Op.call { value (Operand.func 65), args := #[t18, const (1:i64)], argTypes := #[26, 3] }
  refine one_ (i := 1) (N := (some 19)) #[true, true, true, true, false, false] rfl rfl (by kernel_rfl) (by decide) (fun K hK => ?_)
  refine goes_ Try.func65 (by kernel_rfl) rfl #[.agg (vCs v p), .int .i64 1] (by rfl) rfl rfl (by (try simp only [List.map_toArray, List.map_cons, List.map_nil]); first | done | rfl) ?_
  (with_reducible refine (sizeR_calls _ v p (HC.out.below (below_step HB.out hHeld.1)) 1).mono ?_)
  rintro e w2 ⟨rfl, hb⟩
  refine ⟨_, rfl, ?_⟩
  have hOld := hHeld
  clear hHeld
  refine hK.out _ _ (held_vo hOld hb) (fun hHeld => ?_)
  clear hOld hK K
  refine norm_ (a' := ?_) ?_ ?_
  rotate_left
  · show Act.put _ (some 19) _ = _
    simp only [Act.put, List.setIfInBounds_toArray, List.set_cons_zero, List.set_cons_succ, i64_w, i32_w]
    rfl
  -- 4: Op.binOp BinOp.gtr 3 t19 t21 3
  refine pure_ (i := 4) (N := (some 22)) (v := ?_) (a' := ?_) #[true, true, true, true, true, false] rfl rfl (by kernel_rfl) (fun _ _ _ h => h) (Or.inl ⟨by rfl, ?_⟩) ?_ ?_
  rotate_left
  · intro w'
    go_simp
    with_reducible rfl
  rotate_left
  · simp only [Act.put, List.setIfInBounds_toArray, List.set_cons_zero, List.set_cons_succ, i64_w, i32_w]
    rfl
  -- 5: Op.assign t22
  refine pure_ (i := 5) (N := (some 6)) (v := ?_) (a' := ?_) #[true, true, true, true, true, true] rfl rfl (by kernel_rfl) (fun _ _ _ h => h) (Or.inl ⟨by rfl, ?_⟩) ?_ ?_
  rotate_left
  · intro w'
    go_simp
    with_reducible rfl
  rotate_left
  · simp only [Act.put, List.setIfInBounds_toArray, List.set_cons_zero, List.set_cons_succ, i64_w, i32_w]
    rfl
  refine done_ (by kernel_rfl) ?_
  go_wp2_with fail
  go_ret
  exact ⟨rfl, below_step HB.out hHeld.1⟩
set_option maxHeartbeats 8000000 in
set_option maxRecDepth 100000 in
theorem dueR2_calls (w : World) (v : Ver) (p : Pl) (hC : VC w v p) (many base times : Int) (hO : optP many base times) : Calls Try.prog 94 #[.agg (vCs v p), .agg #[.int .i64 many, .int .i64 base, .int .i64 times], .int .i64 2] w fun e w' => e = .returned (.bool (decide (dueL v many base times 2 ≠ []))) ∧ Below w.heap.size w w' := by
  have HC := Aside0.mk hC
  have HO := Aside0.mk hO
  have HB := Aside0.mk (below_alloc ((Below.refl w.heap.size w).alloc (Nat.le_refl _) (.cells (vCs v p) 26)) (.cells #[.int .i64 many, .int .i64 base, .int .i64 times] 48))
  have X2 := Aside0.mk (blk_alloc (blk_new w (.cells (vCs v p) 26)) (.cells #[.int .i64 many, .int .i64 base, .int .i64 times] 48))
  have X3 := Aside0.mk (blk_new (w.alloc (.cells (vCs v p) 26)) (.cells #[.int .i64 many, .int .i64 base, .int .i64 times] 48))
  clear hC hO
  obtain ⟨lm, hlm⟩ : ∃ x, x = base * times := ⟨_, rfl⟩
  have hb1 := Int.mul_le_mul HO.out.2.2.2.1 HO.out.2.2.2.2.2 (by have := HO.out.2.2.2.2.1; omega) (by decide : (0 : Int) ≤ 1073741824)
  have hb2 := Int.mul_le_mul HO.out.2.2.1 HO.out.2.2.2.2.1 (by decide : (0 : Int) ≤ 1) (by have := HO.out.2.2.1; omega)
  rw [← hlm] at hb1 hb2
  have ew : wrap64 (base * times) = lm := by rw [← hlm]; unfold wrap64; omega
  have ew2 : IntKind.i64.wrap (base * times) = lm := by rw [← hlm, IntKind.wrap_i64]; omega
  have DD := Aside0.mk (show decide (dueL v many base times 2 ≠ []) = decide (lm < sizeV v 2) by
    rw [decide_eq_decide, show sizeV v 2 = sizeL v.l2 from rfl]
    show (if sizeL v.l2 ≤ base * times then [] else [minK v.l2 v.l2.length]) ≠ [] ↔ _
    rw [← hlm]
    by_cases h : sizeL v.l2 ≤ lm
    · rw [if_pos h]; constructor
      · intro h2; exact absurd rfl h2
      · intro h2; omega
    · rw [if_neg h]; constructor
      · intro _; omega
      · intro _; exact minK_one _ _)
  rw [DD.out]
  clear hlm hb1 hb2
  go_enter Try.func94, Try.ntmps94
  go_upto_region 5 with (fail)
  generalize hg3 : (w.alloc (.cells (vCs v p) 26)).heap.size = g3 at *
  have e3 : w.heap.size + 1 = g3 := by rw [← hg3]; simp
  try rw [e3]
  clear hg3 e3
  generalize (w.alloc (.cells (vCs v p) 26)).alloc (.cells #[.int .i64 many, .int .i64 base, .int .i64 times] 48) = w1 at *
  refine start_ (n := 9) (S := (fun w' => Below w1.heap.size w1 w' ∧ w'.heap[w.heap.size]? = some (.cells (vCs v p) 26 (0, 0)) ∧ w'.heap[g3]? = some (.cells #[.int .i64 many, .int .i64 base, .int .i64 times] 48 (0, 0)))) (ds := []) #[false, false, false, false, false, false, false, false, false] (by kernel_rfl) rfl rfl ⟨below_drew (Below.refl _ _), blk_drew X2.out, blk_drew X3.out⟩ (fun hHeld => ?_)
  -- 0: Op.load 26 t3
  refine take_ (i := 0) (N := (some 23)) (v := ?_) (a' := ?_) #[true, false, false, false, false, false, false, false, false] rfl rfl (by kernel_rfl) (fun _ _ _ h => h) (Or.inl ⟨by rfl, ?_⟩) hHeld ?_ ?_
  rotate_left
  · rintro w' ⟨s0, s1, s2⟩
    have b0 : w'.cell? ⟨w.heap.size, 0, none⟩ = some (.int .u64 v.log) := (blk_cell s1 0).trans rfl
    have b1 : w'.cell? ⟨w.heap.size, 1, none⟩ = some (.int .u64 v.next) := (blk_cell s1 1).trans rfl
    have b2 : w'.cell? ⟨w.heap.size, 2, none⟩ = some (.int .u64 v.seq) := (blk_cell s1 2).trans rfl
    have b3 : w'.cell? ⟨w.heap.size, 3, none⟩ = some (.slice p.a0 v.l0.length p.c0) := (blk_cell s1 3).trans rfl
    have b4 : w'.cell? ⟨w.heap.size, 4, none⟩ = some (.slice p.a1 v.l1.length p.c1) := (blk_cell s1 4).trans rfl
    have b5 : w'.cell? ⟨w.heap.size, 5, none⟩ = some (.slice p.a2 v.l2.length p.c2) := (blk_cell s1 5).trans rfl
    have b6 : w'.cell? ⟨w.heap.size, 6, none⟩ = some (.slice p.a3 v.l3.length p.c3) := (blk_cell s1 6).trans rfl
    have o0 : w'.cell? ⟨g3, 0, none⟩ = some (.int .i64 many) := (blk_cell s2 0).trans rfl
    have o1 : w'.cell? ⟨g3, 1, none⟩ = some (.int .i64 base) := (blk_cell s2 1).trans rfl
    have o2 : w'.cell? ⟨g3, 2, none⟩ = some (.int .i64 times) := (blk_cell s2 2).trans rfl
    go_simp
    with_reducible rfl
  rotate_left
  · simp only [Act.put, List.setIfInBounds_toArray, List.set_cons_zero, List.set_cons_succ, i64_w, i32_w]
    rfl
  -- 2: Op.fieldAddr 48 t4 1
  refine pure_ (i := 2) (N := (some 25)) (v := ?_) (a' := ?_) #[true, false, true, false, false, false, false, false, false] rfl rfl (by kernel_rfl) (fun _ _ _ h => h) (Or.inl ⟨by rfl, ?_⟩) ?_ ?_
  rotate_left
  · intro w'
    go_simp
    with_reducible rfl
  rotate_left
  · simp only [Act.put, List.setIfInBounds_toArray, List.set_cons_zero, List.set_cons_succ, i64_w, i32_w]
    rfl
  -- 3: Op.load 3 t25
  refine take_ (i := 3) (N := (some 26)) (v := ?_) (a' := ?_) #[true, false, true, true, false, false, false, false, false] rfl rfl (by kernel_rfl) (fun _ _ _ h => h) (Or.inl ⟨by rfl, ?_⟩) hHeld ?_ ?_
  rotate_left
  · rintro w' ⟨s0, s1, s2⟩
    have b0 : w'.cell? ⟨w.heap.size, 0, none⟩ = some (.int .u64 v.log) := (blk_cell s1 0).trans rfl
    have b1 : w'.cell? ⟨w.heap.size, 1, none⟩ = some (.int .u64 v.next) := (blk_cell s1 1).trans rfl
    have b2 : w'.cell? ⟨w.heap.size, 2, none⟩ = some (.int .u64 v.seq) := (blk_cell s1 2).trans rfl
    have b3 : w'.cell? ⟨w.heap.size, 3, none⟩ = some (.slice p.a0 v.l0.length p.c0) := (blk_cell s1 3).trans rfl
    have b4 : w'.cell? ⟨w.heap.size, 4, none⟩ = some (.slice p.a1 v.l1.length p.c1) := (blk_cell s1 4).trans rfl
    have b5 : w'.cell? ⟨w.heap.size, 5, none⟩ = some (.slice p.a2 v.l2.length p.c2) := (blk_cell s1 5).trans rfl
    have b6 : w'.cell? ⟨w.heap.size, 6, none⟩ = some (.slice p.a3 v.l3.length p.c3) := (blk_cell s1 6).trans rfl
    have o0 : w'.cell? ⟨g3, 0, none⟩ = some (.int .i64 many) := (blk_cell s2 0).trans rfl
    have o1 : w'.cell? ⟨g3, 1, none⟩ = some (.int .i64 base) := (blk_cell s2 1).trans rfl
    have o2 : w'.cell? ⟨g3, 2, none⟩ = some (.int .i64 times) := (blk_cell s2 2).trans rfl
    go_simp
    with_reducible rfl
  rotate_left
  · simp only [Act.put, List.setIfInBounds_toArray, List.set_cons_zero, List.set_cons_succ, i64_w, i32_w]
    rfl
  -- 4: Op.fieldAddr 48 t4 2
  refine pure_ (i := 4) (N := (some 27)) (v := ?_) (a' := ?_) #[true, false, true, true, true, false, false, false, false] rfl rfl (by kernel_rfl) (fun _ _ _ h => h) (Or.inl ⟨by rfl, ?_⟩) ?_ ?_
  rotate_left
  · intro w'
    go_simp
    with_reducible rfl
  rotate_left
  · simp only [Act.put, List.setIfInBounds_toArray, List.set_cons_zero, List.set_cons_succ, i64_w, i32_w]
    rfl
  -- 5: Op.load 3 t27
  refine take_ (i := 5) (N := (some 28)) (v := ?_) (a' := ?_) #[true, false, true, true, true, true, false, false, false] rfl rfl (by kernel_rfl) (fun _ _ _ h => h) (Or.inl ⟨by rfl, ?_⟩) hHeld ?_ ?_
  rotate_left
  · rintro w' ⟨s0, s1, s2⟩
    have b0 : w'.cell? ⟨w.heap.size, 0, none⟩ = some (.int .u64 v.log) := (blk_cell s1 0).trans rfl
    have b1 : w'.cell? ⟨w.heap.size, 1, none⟩ = some (.int .u64 v.next) := (blk_cell s1 1).trans rfl
    have b2 : w'.cell? ⟨w.heap.size, 2, none⟩ = some (.int .u64 v.seq) := (blk_cell s1 2).trans rfl
    have b3 : w'.cell? ⟨w.heap.size, 3, none⟩ = some (.slice p.a0 v.l0.length p.c0) := (blk_cell s1 3).trans rfl
    have b4 : w'.cell? ⟨w.heap.size, 4, none⟩ = some (.slice p.a1 v.l1.length p.c1) := (blk_cell s1 4).trans rfl
    have b5 : w'.cell? ⟨w.heap.size, 5, none⟩ = some (.slice p.a2 v.l2.length p.c2) := (blk_cell s1 5).trans rfl
    have b6 : w'.cell? ⟨w.heap.size, 6, none⟩ = some (.slice p.a3 v.l3.length p.c3) := (blk_cell s1 6).trans rfl
    have o0 : w'.cell? ⟨g3, 0, none⟩ = some (.int .i64 many) := (blk_cell s2 0).trans rfl
    have o1 : w'.cell? ⟨g3, 1, none⟩ = some (.int .i64 base) := (blk_cell s2 1).trans rfl
    have o2 : w'.cell? ⟨g3, 2, none⟩ = some (.int .i64 times) := (blk_cell s2 2).trans rfl
    go_simp
    with_reducible rfl
  rotate_left
  · simp only [Act.put, List.setIfInBounds_toArray, List.set_cons_zero, List.set_cons_succ, i64_w, i32_w]
    rfl
  -- 6: Op.binOp BinOp.mul 3 t26 t28 3
  refine pure_ (i := 6) (N := (some 29)) (v := ?_) (a' := ?_) #[true, false, true, true, true, true, true, false, false] rfl rfl (by kernel_rfl) (fun _ _ _ h => h) (Or.inl ⟨by rfl, ?_⟩) ?_ ?_
  rotate_left
  · intro w'
    go_simp
    with_reducible rfl
  rotate_left
  · simp only [Act.put, List.setIfInBounds_toArray, List.set_cons_zero, List.set_cons_succ, i64_w, i32_w]
    rfl
  -- 1: Op.call { value (Operand.func 65), args := #[t23, const (2:i64)], argTypes := #[26, 3] }
  refine one_ (i := 1) (N := (some 24)) #[true, true, true, true, true, true, true, false, false] rfl rfl (by kernel_rfl) (by decide) (fun K hK => ?_)
  refine goes_ Try.func65 (by kernel_rfl) rfl #[.agg (vCs v p), .int .i64 2] (by rfl) rfl rfl (by (try simp only [List.map_toArray, List.map_cons, List.map_nil]); first | done | rfl) ?_
  (with_reducible refine (sizeR_calls _ v p (HC.out.below (below_step HB.out hHeld.1)) 2).mono ?_)
  rintro e w2 ⟨rfl, hb⟩
  refine ⟨_, rfl, ?_⟩
  have hOld := hHeld
  clear hHeld
  refine hK.out _ _ (held_vo hOld hb) (fun hHeld => ?_)
  clear hOld hK K
  refine norm_ (a' := ?_) ?_ ?_
  rotate_left
  · show Act.put _ (some 24) _ = _
    simp only [Act.put, List.setIfInBounds_toArray, List.set_cons_zero, List.set_cons_succ, i64_w, i32_w]
    rfl
  -- 7: Op.binOp BinOp.gtr 3 t24 t29 3
  refine pure_ (i := 7) (N := (some 30)) (v := ?_) (a' := ?_) #[true, true, true, true, true, true, true, true, false] rfl rfl (by kernel_rfl) (fun _ _ _ h => h) (Or.inl ⟨by rfl, ?_⟩) ?_ ?_
  rotate_left
  · intro w'
    go_simp
    with_reducible rfl
  rotate_left
  · simp only [Act.put, List.setIfInBounds_toArray, List.set_cons_zero, List.set_cons_succ, i64_w, i32_w]
    rfl
  -- 8: Op.assign t30
  refine pure_ (i := 8) (N := (some 6)) (v := ?_) (a' := ?_) #[true, true, true, true, true, true, true, true, true] rfl rfl (by kernel_rfl) (fun _ _ _ h => h) (Or.inl ⟨by rfl, ?_⟩) ?_ ?_
  rotate_left
  · intro w'
    go_simp
    with_reducible rfl
  rotate_left
  · simp only [Act.put, List.setIfInBounds_toArray, List.set_cons_zero, List.set_cons_succ, i64_w, i32_w]
    rfl
  refine done_ (by kernel_rfl) ?_
  go_wp2_with fail
  go_ret
  exact ⟨rfl, below_step HB.out hHeld.1⟩
set_option maxHeartbeats 8000000 in
set_option maxRecDepth 100000 in
theorem sameC_calls (w : World) (x y : Int) (A1 A2 B1 B2 : Option Addr) (c1 c2 d1 d2 : Nat) (In Ov Jn Pv : List S58) (h1 : k58.C w A1 In.length In) (h2 : k58.C w A2 Ov.length Ov) (h3 : k58.C w B1 Jn.length Jn) (h4 : k58.C w B2 Pv.length Pv) :
    Calls Try.prog 38 #[.agg #[.int .i64 x, .slice A1 In.length c1, .slice A2 Ov.length c2], .agg #[.int .i64 y, .slice B1 Jn.length d1, .slice B2 Pv.length d2]] w fun e w' => e = .returned (.bool (decide (x = y ∧ In = Jn ∧ Ov = Pv))) ∧ Below w.heap.size w w' := by
  have H1 := Aside0.mk h1
  have H2 := Aside0.mk h2
  have H3 := Aside0.mk h3
  have H4 := Aside0.mk h4
  have HB := Aside0.mk (below_alloc ((Below.refl w.heap.size w).alloc (Nat.le_refl _) (.cells #[.int .i64 x, .slice A1 In.length c1, .slice A2 Ov.length c2] 52)) (.cells #[.int .i64 y, .slice B1 Jn.length d1, .slice B2 Pv.length d2] 52))
  have X2 := Aside0.mk (blk_alloc (blk_new w (.cells #[.int .i64 x, .slice A1 In.length c1, .slice A2 Ov.length c2] 52)) (.cells #[.int .i64 y, .slice B1 Jn.length d1, .slice B2 Pv.length d2] 52))
  have X3 := Aside0.mk (blk_new (w.alloc (.cells #[.int .i64 x, .slice A1 In.length c1, .slice A2 Ov.length c2] 52)) (.cells #[.int .i64 y, .slice B1 Jn.length d1, .slice B2 Pv.length d2] 52))
  clear h1 h2 h3 h4
  obtain ⟨r, hr⟩ : ∃ r, r = decide (x = y ∧ In = Jn ∧ Ov = Pv) := ⟨_, rfl⟩
  rw [← hr]
  have HRR := Aside0.mk hr
  clear hr
  go_enter Try.func38, Try.ntmps38
  go_upto_region 1 with (fail)
  generalize hg3 : (w.alloc (.cells #[.int .i64 x, .slice A1 In.length c1, .slice A2 Ov.length c2] 52)).heap.size = g3 at *
  have e3 : w.heap.size + 1 = g3 := by rw [← hg3]; simp
  try rw [e3]
  clear hg3 e3
  generalize (w.alloc (.cells #[.int .i64 x, .slice A1 In.length c1, .slice A2 Ov.length c2] 52)).alloc (.cells #[.int .i64 y, .slice B1 Jn.length d1, .slice B2 Pv.length d2] 52) = w1 at *
  have y0 : w1.cell? ⟨w.heap.size, 0, none⟩ = some (.int .i64 x) := (blk_cell X2.out 0).trans rfl
  have y1 : w1.cell? ⟨w.heap.size, 1, none⟩ = some (.slice A1 In.length c1) := (blk_cell X2.out 1).trans rfl
  have y2 : w1.cell? ⟨w.heap.size, 2, none⟩ = some (.slice A2 Ov.length c2) := (blk_cell X2.out 2).trans rfl
  have z0 : w1.cell? ⟨g3, 0, none⟩ = some (.int .i64 y) := (blk_cell X3.out 0).trans rfl
  have z1 : w1.cell? ⟨g3, 1, none⟩ = some (.slice B1 Jn.length d1) := (blk_cell X3.out 1).trans rfl
  have z2 : w1.cell? ⟨g3, 2, none⟩ = some (.slice B2 Pv.length d2) := (blk_cell X3.out 2).trans rfl
  by_cases hx : x = y
  · have t0 : (x == y) = true := beq_iff_eq.mpr hx
    have E0 := Aside0.mk hx
    clear hx
    have K1 := sameM_calls w1 A1 B1 c1 d1 In Jn (Kd.C_below H1.out HB.out) (Kd.C_below H3.out HB.out)
    go_wp2_with fail
    refine K1.mono ?_
    clear K1
    rintro e w2 ⟨rfl, hb⟩
    have HB2 := Aside0.mk (below_step HB.out hb)
    have X22 := Aside0.mk (blk_below X2.out hb)
    have X32 := Aside0.mk (blk_below X3.out hb)
    clear hb y0 y1 y2 z0 z1 z2
    have y0 : w2.cell? ⟨w.heap.size, 0, none⟩ = some (.int .i64 x) := (blk_cell X22.out 0).trans rfl
    have y1 : w2.cell? ⟨w.heap.size, 1, none⟩ = some (.slice A1 In.length c1) := (blk_cell X22.out 1).trans rfl
    have y2 : w2.cell? ⟨w.heap.size, 2, none⟩ = some (.slice A2 Ov.length c2) := (blk_cell X22.out 2).trans rfl
    have z0 : w2.cell? ⟨g3, 0, none⟩ = some (.int .i64 y) := (blk_cell X32.out 0).trans rfl
    have z1 : w2.cell? ⟨g3, 1, none⟩ = some (.slice B1 Jn.length d1) := (blk_cell X32.out 1).trans rfl
    have z2 : w2.cell? ⟨g3, 2, none⟩ = some (.slice B2 Pv.length d2) := (blk_cell X32.out 2).trans rfl
    by_cases hi : In = Jn
    · rw [decide_eq_true hi]
      have E1 := Aside0.mk hi
      clear hi
      have K1 := sameM_calls w2 A2 B2 c2 d2 Ov Pv (Kd.C_below H2.out HB2.out) (Kd.C_below H4.out HB2.out)
      go_wp2_with fail
      refine K1.mono ?_
      clear K1
      rintro e w4 ⟨rfl, hb⟩
      have HB4 := Aside0.mk (below_step HB2.out hb)
      clear hb
      go_wp2_with fail
      go_ret
      exact ⟨ret_bool (by rw [HRR.out, decide_eq_decide]; exact ⟨fun h => ⟨E0.out, E1.out, h⟩, fun h => h.2.2⟩), HB4.out⟩
    · rw [decide_eq_false hi]
      have N1 := Aside0.mk hi
      clear hi
      go_wp2_with fail
      go_ret
      exact ⟨ret_bool (by rw [HRR.out]; symm; exact decide_eq_false (fun h => N1.out h.2.1)), HB2.out⟩
  · have t0 : (x == y) = false := beq_eq_false_iff_ne.mpr hx
    have N1 := Aside0.mk hx
    clear hx
    go_wp2_with fail
    go_ret
    exact ⟨ret_bool (by rw [HRR.out]; symm; exact decide_eq_false (fun h => N1.out h.1)), HB.out⟩
end Go.Proofs.Ytkjepfofiegcdaa.V
