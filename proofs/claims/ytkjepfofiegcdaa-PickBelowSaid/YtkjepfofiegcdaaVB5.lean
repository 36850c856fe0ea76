import Derived.Test.YtkjepfofiegcdaaVB3
import Derived.Test.YtkjepfofiegcdaaVB4
/- The tables of a version, walked (version.tables). Conditions: none. -/
namespace Go.Proofs.Ytkjepfofiegcdaa.V
set_option linter.unusedVariables false
set_option linter.unusedSimpArgs false
open Go.RowKit Go.Proofs.YtkjepfofiegcdaaW.PrintWords Go.Proofs.YtkjepfofiegcdaaW.PrintLast Go.Proofs.YtkjepfofiegcdaaW.PrintMore Go.Proofs.Ytkjepfofiegcdaa.PB14
def cntF (L : List S58) : Int → Int := fun j => ((nums L).count j : Int)
theorem cnt_snoc (L : List S58) (m : S58) : (fun j : Int => if j = m.f0 then cntF L m.f0 + 1 else cntF L j) = cntF (L ++ [m]) := by
  funext j
  unfold cntF nums
  rw [List.map_append, List.count_append]
  by_cases e : j = m.f0
  · subst e
    rw [if_pos rfl]
    simp
  · rw [if_neg e]
    have : List.count j (List.map (fun x : S58 => x.f0) [m]) = 0 := by
      rw [List.count_eq_zero]
      simpa using e
    omega
theorem cntF_le (L : List S58) (k : Int) : 0 ≤ cntF L k ∧ cntF L k ≤ (L.length : Int) := by
  unfold cntF
  have h := List.count_le_length (a := k) (l := nums L)
  rw [nums, List.length_map] at h
  unfold nums
  omega
theorem cntF_pos (L : List S58) (k : Int) : 1 ≤ cntF L k ↔ k ∈ nums L := by
  unfold cntF
  rw [← List.count_pos_iff]
  omega
theorem cntF_zero {v : Ver} {L : List S58} (h : PP v L) : cntF L 0 = 0 := by
  unfold cntF
  have : (nums L).count 0 = 0 := by
    rw [List.count_eq_zero]
    intro hm
    obtain ⟨m, hm, e⟩ := List.mem_map.mp hm
    have := (h.1 m hm).1.1
    omega
  omega
theorem catV_len {v : Ver} {i : Nat} (h : ∀ j, j < i → (v.lv j).length ≤ 64) : (catV v i).length ≤ 64 * i := by
  induction i with
  | zero => simp [catV]
  | succ i ih =>
    have h1 := ih (fun j hj => h j (by omega))
    have h2 := h i (by omega)
    rw [catV, List.length_append]
    omega
set_option maxHeartbeats 8000000 in
set_option maxRecDepth 100000 in
theorem tables_calls (w : World) (v : Ver) (p : Pl) (hC : VC w v p) (hW : VW v) : Calls Try.prog 118 #[.agg (vCs v p)] w fun e w' => e = .returned (.bool (decide (tabP v))) ∧ Below w.heap.size w w' := by
  have HC := Aside0.mk hC
  have HW := Aside0.mk hW
  clear hC hW
  have HB := Aside0.mk ((Below.refl w.heap.size w).alloc (Nat.le_refl _) (.cells (vCs v p) 143))
  have BX := Aside0.mk (blk_new w (.cells (vCs v p) 143))
  have hmm := @run_makeMap Try.prog
  have CM := Aside0.mk (Cnt.made (w.alloc (.cells (vCs v p) 143)))
  have n0_ := Aside0.mk (below_alloc HB.out (.map #[] 0))
  have n1_ := Aside0.mk (blk_alloc BX.out (.map #[] 0))
  have NE := Aside0.mk (show w.heap.size ≠ (w.alloc (.cells (vCs v p) 143)).heap.size from Nat.ne_of_lt (blk_lt BX.out))
  have GM := Aside0.mk HB.out.size
  clear HB BX
  have HB := n0_
  have BX := n1_
  clear n0_ n1_
  go_enter Try.func118, Try.ntmps118
  go_wp2_with fail
  go_step3
  go_wp2_with fail
  have GB := Aside0.mk (Nat.le_refl w.heap.size)
  generalize hgm : (w.alloc (.cells (vCs v p) 143)).heap.size = gm at *
  have e7 : w.heap.size + 1 = gm := by rw [← hgm]; simp
  try rw [e7]
  clear hgm e7
  generalize (w.alloc (.cells (vCs v p) 143)).alloc (.map #[] 0) = w1 at *
  have b3 : w1.cell? ⟨w.heap.size, 3, none⟩ = some (.slice p.a0 v.l0.length p.c0) := (blk_cell BX.out 3).trans rfl
  have b4 : w1.cell? ⟨w.heap.size, 4, none⟩ = some (.slice p.a1 v.l1.length p.c1) := (blk_cell BX.out 4).trans rfl
  have b5 : w1.cell? ⟨w.heap.size, 5, none⟩ = some (.slice p.a2 v.l2.length p.c2) := (blk_cell BX.out 5).trans rfl
  have b6 : w1.cell? ⟨w.heap.size, 6, none⟩ = some (.slice p.a3 v.l3.length p.c3) := (blk_cell BX.out 6).trans rfl
  go_step3
  go_wp2_with fail
  clear b3 b4 b5 b6
  go_loopg [5, 7, 12] 4 (fun kq v5 v7 v12 w' => ∃ i : Nat, v12 = .int .i64 (i : Int) ∧ Aside0 (kq + i = 4) ∧ Aside0 (Below w.heap.size w w') ∧ Aside0 (w'.heap[w.heap.size]? = some (.cells (vCs v p) 143 (0, 0))) ∧ Aside0 (Cnt w' gm (catV v i).length (cntF (catV v i))) ∧ Aside0 (PP v (catV v i)) ∧ Aside0 (∀ j, j < i → (v.lv j).length ≤ 64))
  case atStart => exact ⟨0, rfl, ⟨by omega⟩, HB, BX, CM, ⟨⟨fun m hm => by simp [catV] at hm, by simp [catV, nums]⟩⟩, ⟨fun j hj => by omega⟩⟩
  case round =>
    clear HB BX CM
    obtain ⟨i, rfl, HK, HB, BX, CM, PC, H64⟩ := hrel
    cases gk with
    | zero =>
      have ei : i = 4 := by have := HK.out; omega
      subst ei
      have hl := CM.out.look (k := 0) (by decide)
      rw [cntF_zero PC.out] at hl
      go_wp2_with fail
      try rw [Exit.noGoto_ret]
      go_ret
      exact ⟨ret_bool (by symm; rw [decide_eq_true_iff]; exact ⟨H64.out, PC.out⟩), HB.out⟩
    | succ q =>
      have hi : i < 4 := by have := HK.out; omega
      have HI := Aside0.mk hi
      have d0 : decide ((i : Int) < 4) = true := decide_eq_true (by omega)
      have HCc := Aside0.mk (HC.out i hi).2
      have hx : ∀ W : World, (Instr.index 24 (.agg #[.slice p.a0 v.l0.length p.c0, .slice p.a1 v.l1.length p.c1, .slice p.a2 v.l2.length p.c2, .slice p.a3 v.l3.length p.c3]) (.int .i64 (i : Int))).run Try.prog W = .ok (.slice (p.a i) (v.lv i).length (p.c i)) W := fun W => idx_lv v p i hi W
      obtain ⟨l, hl⟩ : ∃ l, v.lv i = l := ⟨_, rfl⟩
      rw [hl] at HCc hx
      have HE := Aside0.mk hl
      clear hl hi
      by_cases h64 : (l.length : Int) > 64
      · have t0 : decide (64 < (l.length : Int)) = true := decide_eq_true h64
        have t1 : decide (64 < l.length) = true := decide_eq_true (by omega)
        have BAD := Aside0.mk (show ¬ tabP v from fun h => by have := h.1 i HI.out; rw [HE.out] at this; omega)
        clear h64
        go_wp2_with (first | (at_mapUpdate; refine cnt_put _ rfl _ _ _ rfl rfl CM.out (by have h1 := catV_len H64.out; have h2 := HI.out; unfold maxLen; omega) 0 2 rfl rfl (by decide) (by omega) (by omega) ?_; intro wz ho hg; have n0_ := Aside0.mk (pw_below_grown HB.out (some gm) HB.out.size hg (fun k hk => by cases hk; exact GM.out)); have hl0 := ho.look (k := 0) (by decide); clear hg ho) | fail)
        try rw [Exit.noGoto_ret]
        go_ret
        exact ⟨ret_bool (by symm; rw [decide_eq_false_iff_not]; exact BAD.out), n0_.out⟩
      · have t0 : decide (64 < (l.length : Int)) = false := decide_eq_false h64
        have t1 : decide (64 < l.length) = false := decide_eq_false (by omega)
        have L64 := Aside0.mk (show l.length ≤ 64 by omega)
        clear h64
        go_wp2_with fail
        go_loopg [7, 21] l.length (fun kq v7 v21 w' => ∃ k : Nat, v21 = .int .i64 (k : Int) ∧ Aside0 (kq + k = l.length) ∧ Aside0 (Below w.heap.size w w') ∧ Aside0 (w'.heap[w.heap.size]? = some (.cells (vCs v p) 143 (0, 0))) ∧ Aside0 (Cnt w' gm (catV v i ++ l.take k).length (cntF (catV v i ++ l.take k))) ∧ Aside0 (PP v (catV v i ++ l.take k)))
        case atStart => exact ⟨0, rfl, ⟨by omega⟩, HB, BX, by rw [List.take_zero, List.append_nil]; exact CM, by rw [List.take_zero, List.append_nil]; exact PC⟩
        case round =>
          clear HB BX CM PC
          obtain ⟨k, rfl, HKK, HB, BX, CM, PC⟩ := hrel
          cases gk with
          | zero =>
            have ek : k = l.length := by have := HKK.out; omega
            subst ek
            have d0 : decide ((l.length : Int) < (l.length : Int)) = false := by simp
            rw [List.take_length] at CM PC
            go_wp2_with fail
            have ew : wrap64 ((i : Int) + 1) = ((i + 1 : Nat) : Int) := by have h1 := HI.out; unfold wrap64; omega
            try rw [ew]
            go_roundg q
            case measure => omega
            case rel => exact ⟨i + 1, rfl, ⟨by have := HK.out; omega⟩, HB, BX, by rw [catV, HE.out]; exact CM, by rw [catV, HE.out]; exact PC, ⟨fun j hj => by
              by_cases e : j = i
              · subst e; rw [HE.out]; exact L64.out
              · exact H64.out j (by omega)⟩⟩
          | succ g =>
            have hk : k < l.length := by have := HKK.out; omega
            have HKL := Aside0.mk hk
            have d0 : decide ((k : Int) < (l.length : Int)) = true := decide_eq_true (by omega)
            have d1 : decide (k < l.length) = true := decide_eq_true hk
            have p0 : 0 ≤ (k : Int) := Int.natCast_nonneg _
            have p1 : (k : Int) < (l.length : Int) := by omega
            have HC1 := Aside0.mk (Kd.C_below (HC.out i HI.out).1 HB.out)
            rw [HE.out] at HC1
            obtain ⟨ad, ea, ha0, ha1, ha2, ha3, ha4, ha5, ha6⟩ := at_T58 HC1.out (k : Int) p0 p1
            rw [Int.toNat_natCast] at ha0 ha1 ha2 ha3 ha4 ha5 ha6
            have EM := Aside0.mk (show rd_T58 l (k : Int) = l.getD k z58 by unfold rd_T58; rw [Int.toNat_natCast])
            generalize rd_T58 l (k : Int) = m at *
            have MW := Aside0.mk (show 0 ≤ m.f0 ∧ m.f0 ≤ 18446744073709551615 from HW.out i HI.out m (by rw [HE.out, EM.out]; exact getD_mem l z58 hk))
            have TS := Aside0.mk (show l.take (k + 1) = l.take k ++ [m] by rw [EM.out]; exact take_snoc l z58 hk)
            obtain ⟨L, hL⟩ : ∃ L, L = catV v i ++ l.take k := ⟨_, rfl⟩
            rw [← hL] at CM PC
            have LE := Aside0.mk hL
            have LN := Aside0.mk (show L.length ≤ 320 by have h1 := catV_len H64.out; have h2 := HI.out; have h3 := L64.out; rw [hL, List.length_append, List.length_take]; omega)
            clear hL hk
            rw [ea]
            have HAX := Aside0.mk ea
            clear ea
            -- the table's own block
            have hb1 := Aside0.mk ((Below.refl wr.heap.size wr).alloc (Nat.le_refl _) (.cells #[.int .u64 m.f0, .int .i64 m.f1, .int .i64 m.f2, .string m.f3, .string m.f4, .int .u64 m.f5, .int .u64 m.f6] 58))
            have HB1 := Aside0.mk (below_step HB.out hb1.out)
            have CM1 := Aside0.mk (CM.out.below hb1.out)
            have BM := Aside0.mk (blk_new wr (.cells #[.int .u64 m.f0, .int .i64 m.f1, .int .i64 m.f2, .string m.f3, .string m.f4, .int .u64 m.f5, .int .u64 m.f6] 58))
            have BX1 := Aside0.mk (blk_below BX.out hb1.out)
            have NM := Aside0.mk (show some wr.heap.size ≠ some gm from fun e => by injection e with e; have := CM.out.lt; omega)
            have NB := Aside0.mk (show some w.heap.size ≠ some gm from fun e => by injection e with e; exact NE.out e)
            have hlk := CM1.out.look (k := m.f0) (wf_u64 MW.out.1 MW.out.2)
            have c0 := (cntF_le L m.f0).1
            have c1 : cntF L m.f0 ≤ 320 := by have := (cntF_le L m.f0).2; have := LN.out; omega
            have CE := Aside0.mk (cnt_snoc L m)
            have CP := Aside0.mk (cntF_pos L m.f0)
            obtain ⟨cc, hcc⟩ : ∃ c, cntF L m.f0 = c := ⟨_, rfl⟩
            rw [hcc] at hlk c0 c1 CE CP
            have ew1 : wrap64 (cc + 1) = cc + 1 := by unfold wrap64; omega
            have ew2 : IntKind.i64.wrap (cc + 1) = cc + 1 := by rw [IntKind.wrap_i64]; omega
            have F2 := Aside0.mk (show cntF (L ++ [m]) m.f0 = cc + 1 by rw [← CE.out]; exact if_pos rfl)
            clear hcc hb1
            by_cases hin : 1 ≤ cc
            · have t3 : decide (1 < cc + 1) = true := decide_eq_true (by omega)
              have t4 : decide (0 < cc) = true := decide_eq_true (by omega)
              have BAD := Aside0.mk (show ¬ tabP v from fun h => by have h1 := tabP_pre h HI.out (k + 1); rw [HE.out, TS.out, ← List.append_assoc, ← LE.out] at h1; exact h1.last.1 (CP.out.mp hin))
              have TOK := Aside0.mk trivial
              clear hin
              go_wp2_with (first | (at_mapUpdate; refine cnt_put _ rfl _ _ _ rfl rfl CM1.out (by have := LN.out; unfold maxLen; omega) m.f0 (cc + 1) rfl rfl (wf_u64 MW.out.1 MW.out.2) (by omega) (by omega) ?_; intro w2 ho hg; rw [CE.out] at ho; have HB2 := Aside0.mk (pw_below_grown HB1.out (some gm) HB1.out.size hg (fun k hk => by cases hk; exact GM.out)); have BM2 := Aside0.mk (blk_grown BM.out hg NM.out); have BX2 := Aside0.mk (blk_grown BX1.out hg NB.out); have CM2 := Aside0.mk ho; clear hg ho hlk CM1 HB1 BM BX1; have m0 : w2.cell? ⟨wr.heap.size, 0, none⟩ = some (.int .u64 m.f0) := (blk_cell BM2.out 0).trans rfl; have m1 : w2.cell? ⟨wr.heap.size, 1, none⟩ = some (.int .i64 m.f1) := (blk_cell BM2.out 1).trans rfl; have m2 : w2.cell? ⟨wr.heap.size, 2, none⟩ = some (.int .i64 m.f2) := (blk_cell BM2.out 2).trans rfl; have m3 : w2.cell? ⟨wr.heap.size, 3, none⟩ = some (.string m.f3) := (blk_cell BM2.out 3).trans rfl; have m4 : w2.cell? ⟨wr.heap.size, 4, none⟩ = some (.string m.f4) := (blk_cell BM2.out 4).trans rfl; have m5 : w2.cell? ⟨wr.heap.size, 5, none⟩ = some (.int .u64 m.f5) := (blk_cell BM2.out 5).trans rfl; have m6 : w2.cell? ⟨wr.heap.size, 6, none⟩ = some (.int .u64 m.f6) := (blk_cell BM2.out 6).trans rfl; have v1 : w2.cell? ⟨w.heap.size, 1, none⟩ = some (.int .u64 v.next) := (blk_cell BX2.out 1).trans rfl; have v2 : w2.cell? ⟨w.heap.size, 2, none⟩ = some (.int .u64 v.seq) := (blk_cell BX2.out 2).trans rfl; have hlk2 : (Instr.lookup 124 (.map (some gm)) (.int .u64 m.f0) false).run Try.prog w2 = .ok (.int .i64 (cc + 1)) w2 := by have h1 := CM2.out.look (k := m.f0) (wf_u64 MW.out.1 MW.out.2); rw [F2.out] at h1; exact h1) | (at_mapUpdate; refine cnt_put _ rfl _ _ _ rfl rfl CM2.out (by have := LN.out; unfold maxLen; omega) 0 2 rfl rfl (by decide) (by omega) (by omega) ?_; intro wz ho hg; have n0_ := Aside0.mk (pw_below_grown HB2.out (some gm) HB2.out.size hg (fun k hk => by cases hk; exact GM.out)); have hl0 := ho.look (k := 0) (by decide); clear hg ho) | fail)
              try rw [Exit.noGoto_ret]
              go_ret
              exact ⟨ret_bool (by symm; rw [decide_eq_false_iff_not]; exact BAD.out), n0_.out⟩
            · have t3 : decide (1 < cc + 1) = false := decide_eq_false (by omega)
              have t4 : decide (0 < cc) = false := decide_eq_false (by omega)
              have NIN := Aside0.mk (show m.f0 ∉ nums L from fun h => hin (CP.out.mpr h))
              have LAST := Aside0.mk (show tabP v → okP v m from fun h => by have h1 := tabP_pre h HI.out (k + 1); rw [HE.out, TS.out, ← List.append_assoc, ← LE.out] at h1; exact h1.last.2)
              clear hin
              go_wp2_with (first | (at_mapUpdate; refine cnt_put _ rfl _ _ _ rfl rfl CM1.out (by have := LN.out; unfold maxLen; omega) m.f0 (cc + 1) rfl rfl (wf_u64 MW.out.1 MW.out.2) (by omega) (by omega) ?_; intro w2 ho hg; rw [CE.out] at ho; have HB2 := Aside0.mk (pw_below_grown HB1.out (some gm) HB1.out.size hg (fun k hk => by cases hk; exact GM.out)); have BM2 := Aside0.mk (blk_grown BM.out hg NM.out); have BX2 := Aside0.mk (blk_grown BX1.out hg NB.out); have CM2 := Aside0.mk ho; clear hg ho hlk CM1 HB1 BM BX1; have m0 : w2.cell? ⟨wr.heap.size, 0, none⟩ = some (.int .u64 m.f0) := (blk_cell BM2.out 0).trans rfl; have m1 : w2.cell? ⟨wr.heap.size, 1, none⟩ = some (.int .i64 m.f1) := (blk_cell BM2.out 1).trans rfl; have m2 : w2.cell? ⟨wr.heap.size, 2, none⟩ = some (.int .i64 m.f2) := (blk_cell BM2.out 2).trans rfl; have m3 : w2.cell? ⟨wr.heap.size, 3, none⟩ = some (.string m.f3) := (blk_cell BM2.out 3).trans rfl; have m4 : w2.cell? ⟨wr.heap.size, 4, none⟩ = some (.string m.f4) := (blk_cell BM2.out 4).trans rfl; have m5 : w2.cell? ⟨wr.heap.size, 5, none⟩ = some (.int .u64 m.f5) := (blk_cell BM2.out 5).trans rfl; have m6 : w2.cell? ⟨wr.heap.size, 6, none⟩ = some (.int .u64 m.f6) := (blk_cell BM2.out 6).trans rfl; have v1 : w2.cell? ⟨w.heap.size, 1, none⟩ = some (.int .u64 v.next) := (blk_cell BX2.out 1).trans rfl; have v2 : w2.cell? ⟨w.heap.size, 2, none⟩ = some (.int .u64 v.seq) := (blk_cell BX2.out 2).trans rfl; have hlk2 : (Instr.lookup 124 (.map (some gm)) (.int .u64 m.f0) false).run Try.prog w2 = .ok (.int .i64 (cc + 1)) w2 := by have h1 := CM2.out.look (k := m.f0) (wf_u64 MW.out.1 MW.out.2); rw [F2.out] at h1; exact h1) | fail)
              refine (may_calls _ m).mono ?_
              rintro e w3 ⟨rfl, hb⟩
              have HB3 := Aside0.mk (below_step HB2.out hb)
              have BM3 := Aside0.mk (blk_below BM2.out hb)
              have BX3 := Aside0.mk (blk_below BX2.out hb)
              have CM3 := Aside0.mk (CM2.out.below hb)
              clear hb HB2 BM2 BX2 CM2 hlk2 m0 m1 m2 m3 m4 m5 m6 v1 v2
              have m0 : w3.cell? ⟨wr.heap.size, 0, none⟩ = some (.int .u64 m.f0) := (blk_cell BM3.out 0).trans rfl
              have m6 : w3.cell? ⟨wr.heap.size, 6, none⟩ = some (.int .u64 m.f6) := (blk_cell BM3.out 6).trans rfl
              have v1 : w3.cell? ⟨w.heap.size, 1, none⟩ = some (.int .u64 v.next) := (blk_cell BX3.out 1).trans rfl
              have v2 : w3.cell? ⟨w.heap.size, 2, none⟩ = some (.int .u64 v.seq) := (blk_cell BX3.out 2).trans rfl
              by_cases hm : mayP m
              · rw [decide_eq_true hm]
                have OKM := Aside0.mk hm
                clear hm
                by_cases hn : m.f0 < v.next
                · have t5 : decide (v.next ≤ m.f0) = false := decide_eq_false (by omega)
                  have OKN := Aside0.mk hn
                  clear hn
                  by_cases hs : m.f6 ≤ v.seq
                  · have t6 : decide (v.seq < m.f6) = false := decide_eq_false (by omega)
                    have OKS := Aside0.mk hs
                    clear hs
                    go_wp2_with fail
                    have ew : wrap64 ((k : Int) + 1) = ((k + 1 : Nat) : Int) := by have h1 := HKL.out; have h2 := L64.out; unfold wrap64; omega
                    try rw [ew]
                    rw [← HAX.out]
                    go_roundg g
                    case measure => omega
                    case rel => exact ⟨k + 1, rfl, ⟨by have := HKK.out; omega⟩, HB3, BX3, by rw [TS.out, ← List.append_assoc, ← LE.out, List.length_append]; exact CM3, by rw [TS.out, ← List.append_assoc, ← LE.out]; exact ⟨PC.out.snoc NIN.out ⟨OKM.out, OKN.out, OKS.out⟩⟩⟩
                  · have t6 : decide (v.seq < m.f6) = true := decide_eq_true (by omega)
                    have BAD := Aside0.mk (show ¬ tabP v from fun h => hs (LAST.out h).2.2)
                    clear hs
                    go_wp2_with (first | (at_mapUpdate; refine cnt_put _ rfl _ _ _ rfl rfl CM3.out (by have := LN.out; unfold maxLen; omega) 0 2 rfl rfl (by decide) (by omega) (by omega) ?_; intro wz ho hg; have n0_ := Aside0.mk (pw_below_grown HB3.out (some gm) HB3.out.size hg (fun k hk => by cases hk; exact GM.out)); have hl0 := ho.look (k := 0) (by decide); clear hg ho) | fail)
                    try rw [Exit.noGoto_ret]
                    go_ret
                    exact ⟨ret_bool (by symm; rw [decide_eq_false_iff_not]; exact BAD.out), n0_.out⟩
                · have t5 : decide (v.next ≤ m.f0) = true := decide_eq_true (by omega)
                  have BAD := Aside0.mk (show ¬ tabP v from fun h => hn (LAST.out h).2.1)
                  clear hn
                  go_wp2_with (first | (at_mapUpdate; refine cnt_put _ rfl _ _ _ rfl rfl CM3.out (by have := LN.out; unfold maxLen; omega) 0 2 rfl rfl (by decide) (by omega) (by omega) ?_; intro wz ho hg; have n0_ := Aside0.mk (pw_below_grown HB3.out (some gm) HB3.out.size hg (fun k hk => by cases hk; exact GM.out)); have hl0 := ho.look (k := 0) (by decide); clear hg ho) | fail)
                  try rw [Exit.noGoto_ret]
                  go_ret
                  exact ⟨ret_bool (by symm; rw [decide_eq_false_iff_not]; exact BAD.out), n0_.out⟩
              · rw [decide_eq_false hm]
                have BAD := Aside0.mk (show ¬ tabP v from fun h => hm (LAST.out h).1)
                clear hm
                go_wp2_with (first | (at_mapUpdate; refine cnt_put _ rfl _ _ _ rfl rfl CM3.out (by have := LN.out; unfold maxLen; omega) 0 2 rfl rfl (by decide) (by omega) (by omega) ?_; intro wz ho hg; have n0_ := Aside0.mk (pw_below_grown HB3.out (some gm) HB3.out.size hg (fun k hk => by cases hk; exact GM.out)); have hl0 := ho.look (k := 0) (by decide); clear hg ho) | fail)
                try rw [Exit.noGoto_ret]
                go_ret
                exact ⟨ret_bool (by symm; rw [decide_eq_false_iff_not]; exact BAD.out), n0_.out⟩
end Go.Proofs.Ytkjepfofiegcdaa.V
