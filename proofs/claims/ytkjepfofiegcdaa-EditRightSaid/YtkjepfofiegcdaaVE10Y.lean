import Derived.Test.YtkjepfofiegcdaaVE9Y
/- The size of a level, whether a compaction is due, whether two are the same (freshetref14, freshetref16), walked. Conditions: options that may be. -/
namespace Go.Proofs.Ytkjepfofiegcdaa.V
set_option linter.unusedVariables false
set_option linter.unusedSimpArgs false
open Go.RowKit Go.Proofs.YtkjepfofiegcdaaW.PrintWords Go.Proofs.YtkjepfofiegcdaaW.PrintLast Go.Proofs.YtkjepfofiegcdaaW.PrintMore Go.Proofs.Ytkjepfofiegcdaa.PB14
set_option maxHeartbeats 8000000 in
set_option maxRecDepth 100000 in
theorem sizeR_calls (w : World) (v : Ver) (p : Pl) (hC : VC w v p) (n : Int) : Calls Try.prog 65 #[.agg (vCs v p), .int .i64 n] w fun e w' => e = .returned (.int .i64 (sizeV v n)) ∧ Below w.heap.size w w' := by
  have HC := Aside0.mk hC
  clear hC
  have HB := Aside0.mk ((Below.refl w.heap.size w).alloc (Nat.le_refl _) (.cells (vCs v p) 26))
  have BX := Aside0.mk (blk_new w (.cells (vCs v p) 26))
  by_cases hn : 0 ≤ n ∧ n < 4
  · obtain ⟨i, rfl⟩ := Int.eq_ofNat_of_zero_le hn.1
    have HS := Aside0.mk (show sizeV v (i : Int) = sizeL (v.lv i) by unfold sizeV; rw [if_pos hn, Int.toNat_natCast])
    have hi : i < 4 := by omega
    have HI := Aside0.mk hi
    rw [HS.out]
    have hw1 := (HC.out.below HB.out i hi).1
    obtain ⟨l, hl⟩ : ∃ l, v.lv i = l := ⟨_, rfl⟩
    rw [hl] at hw1 ⊢
    have HE := Aside0.mk hl
    have HC1 := Aside0.mk hw1
    have i0 : 0 ≤ (i : Int) := Int.natCast_nonneg _
    have i1 : (i : Int) < 4 := hn.2
    have z0 : decide ((i : Int) < 0) = false := decide_eq_false (by omega)
    have z1 : decide ((3 : Int) < (i : Int)) = false := decide_eq_false (by omega)
    have z2 : decide (3 < i) = false := decide_eq_false (by omega)
    clear hl hn hw1 hi
    go_enter Try.func65, Try.ntmps65
    go_upto_region 3 with (fail)
    generalize w.alloc (.cells (vCs v p) 26) = w1 at *
    clear z0 z1 z2
    go_wp2_with fail
    go_loopg [5, 6] l.length (fun kq v5 v6 w' => ∃ k : Nat, v5 = .int .i64 (sizeL (l.take k)) ∧ v6 = .int .i64 (k : Int) ∧ Aside0 (kq + k = l.length) ∧ Aside0 (w' = w1))
    case atStart => exact ⟨0, rfl, rfl, ⟨by omega⟩, ⟨rfl⟩⟩
    case round =>
      obtain ⟨k, rfl, rfl, HK, HW⟩ := hrel
      obtain rfl := HW.out
      clear HW
      have hv := vcell BX.out i HI.out
      rw [HE.out] at hv
      cases gk with
      | zero =>
        have ek : k = l.length := by have := HK.out; omega
        subst ek
        have d0 : decide ((l.length : Int) < (l.length : Int)) = false := by simp
        rw [List.take_length]
        go_wp2_with fail
        go_ret
        exact ⟨rfl, HB.out⟩
      | succ q =>
        have hk : k < l.length := by have := HK.out; omega
        have d0 : decide ((k : Int) < (l.length : Int)) = true := decide_eq_true (by omega)
        have d1 : decide (k < l.length) = true := decide_eq_true hk
        have p0 : 0 ≤ (k : Int) := Int.natCast_nonneg _
        have p1 : (k : Int) < (l.length : Int) := by omega
        have HM := Aside0.mk (show l.length ≤ 9223372036854775807 from HC1.out.2.1)
        obtain ⟨ad, ea, ha0, ha1, ha2, ha3, ha4, ha5, ha6⟩ := at_T58 HC1.out (k : Int) p0 p1
        rw [Int.toNat_natCast] at ha0 ha1 ha2 ha3 ha4 ha5 ha6
        have EM := Aside0.mk (show rd_T58 l (k : Int) = l.getD k z58 by unfold rd_T58; rw [Int.toNat_natCast])
        generalize rd_T58 l (k : Int) = m at *
        have TS := Aside0.mk (show sizeL (l.take (k + 1)) = wrap64 (sizeL (l.take k) + m.f1) by rw [take_snoc l z58 hk, sizeL_snoc, EM.out])
        obtain ⟨sz, hsz⟩ : ∃ s, s = sizeL (l.take k) := ⟨_, rfl⟩
        rw [← hsz] at TS ⊢
        obtain ⟨s2, hs2⟩ : ∃ s, s = wrap64 (sz + m.f1) := ⟨_, rfl⟩
        have ew2 : IntKind.i64.wrap (sz + m.f1) = s2 := by rw [hs2]; first | rfl | (simp only [i64_w]; done) | (rw [IntKind.wrap_i64]; unfold wrap64; omega)
        have ew3 : wrap64 (sz + m.f1) = s2 := hs2.symm
        rw [← hs2] at TS
        clear hsz hs2
        rw [ea] at hv
        have ew : wrap64 ((k : Int) + 1) = ((k + 1 : Nat) : Int) := by have h1 := HM.out; unfold wrap64; omega
        clear ea hk
        go_wp2_with fail
        try rw [ew]
        clear ew
        go_roundg q
        case measure => omega
        case rel => exact ⟨k + 1, by rw [TS.out], rfl, ⟨by have := HK.out; omega⟩, ⟨rfl⟩⟩
  · have HS := Aside0.mk (show sizeV v n = 0 by unfold sizeV; rw [if_neg hn])
    rw [HS.out]
    by_cases h0 : n < 0
    · have z0 : decide (n < 0) = true := decide_eq_true h0
      clear hn h0
      go_enter Try.func65, Try.ntmps65
      go_wp2_with fail
      go_ret
      exact ⟨rfl, HB.out⟩
    · have z0 : decide (n < 0) = false := decide_eq_false h0
      have z1 : decide ((3 : Int) < n) = true := decide_eq_true (by omega)
      clear hn h0
      go_enter Try.func65, Try.ntmps65
      go_wp2_with fail
      go_ret
      exact ⟨rfl, HB.out⟩
end Go.Proofs.Ytkjepfofiegcdaa.V
