import Derived.Test.YtkjepfofiegcdaaVX2
/- VX3 less two laws (VE2, VE3, VE5, VE6). Conditions: told at each. -/
namespace Go.Proofs.Ytkjepfofiegcdaa.V
section
/- VE2: The law PickOver, walked. Conditions: none. -/
set_option linter.unusedVariables false
set_option linter.unusedSimpArgs false
open Go.RowKit Go.Proofs.YtkjepfofiegcdaaW.PrintWords Go.Proofs.YtkjepfofiegcdaaW.PrintLast Go.Proofs.YtkjepfofiegcdaaW.PrintMore Go.Proofs.Ytkjepfofiegcdaa.PB14
attribute [local go_sem] max_two min_two min2_str max2_str
theorem below_S {w wa wb : World} (h : Below w.heap.size w wa) (hb : Below wa.heap.size wa wb) : Below w.heap.size w wb := below_step h hb
theorem five_set {w : World} {g t j : Nat} {cs cs' : Array Value} (h : w.heap[g]? = some (.cells cs t (0, 0))) (u : Value) (hc : cs.setIfInBounds j u = cs') : (w.setCell ⟨g, j, none⟩ u).heap[g]? = some (.cells cs' t (0, 0)) := by rw [← hc]; exact blk_set h j u
theorem pick_cases (v : Ver) (many base times : Int) : (pickE v many base times ≠ 0 ∧ pickC v many base times = ⟨0, [], []⟩) ∨ ∃ lev : Nat, lev < 3 ∧ rightP v ∧ optP many base times ∧ dueL v many base times lev ≠ [] ∧ pickE v many base times = 0 ∧ pickC v many base times = ⟨(lev : Nat), dueL v many base times lev, ovrL v lev (dueL v many base times lev)⟩ := by
  by_cases h : rightP v ∧ optP many base times
  · by_cases hd : dueAt v many base times < 3
    · refine .inr ⟨dueAt v many base times, hd, h.1, h.2, ?_, ?_, ?_⟩
      · unfold dueAt at hd ⊢
        split
        · assumption
        · split
          · assumption
          · split
            · assumption
            · rename_i h1 h2 h3; rw [if_neg h1, if_neg h2, if_neg h3] at hd; omega
      · unfold pickE; rw [if_pos h, if_pos hd]
      · unfold pickC; rw [if_pos ⟨h.1, h.2, hd⟩]
    · refine .inl ⟨?_, ?_⟩
      · unfold pickE; rw [if_pos h, if_neg hd]; omega
      · unfold pickC; rw [if_neg (fun k => hd k.2.2)]
  · refine .inl ⟨?_, ?_⟩
    · unfold pickE; rw [if_neg h]; omega
    · unfold pickC; rw [if_neg (fun k => h ⟨k.1, k.2.1⟩)]
end
section
/- VE3: The law PickBelow, walked. Conditions: none. -/
set_option linter.unusedVariables false
set_option linter.unusedSimpArgs false
open Go.RowKit Go.Proofs.YtkjepfofiegcdaaW.PrintWords Go.Proofs.YtkjepfofiegcdaaW.PrintLast Go.Proofs.YtkjepfofiegcdaaW.PrintMore Go.Proofs.Ytkjepfofiegcdaa.PB14
theorem below_none {w w1 : World} (h : w.grownBy w1 none) : Below w.heap.size w w1 := ⟨h.os, h.tape, h.output, h.size, fun i hi => h.block i hi (by simp)⟩
theorem len_ite {c : Prop} [Decidable c] {a b : List S58} {n : Nat} (ha : a.length ≤ n) (hb : b.length ≤ n) : (if c then a else b).length ≤ n := by split <;> assumption
theorem due_len {v : Ver} (h : rightP v) (lev : Nat) (hl : lev < 3) (many base times : Int) : (dueL v many base times lev).length ≤ 1000 := by
  have h1 : v.l0.length ≤ 64 := h.2.1.1 0 (by omega)
  rcases (by omega : lev = 0 ∨ lev = 1 ∨ lev = 2) with rfl | rfl | rfl
  · exact len_ite (by show 0 ≤ 1000; omega) (by omega)
  · exact len_ite (by show 0 ≤ 1000; omega) (by show 1 ≤ 1000; omega)
  · exact len_ite (by show 0 ≤ 1000; omega) (by show 1 ≤ 1000; omega)
end
section
/- VE5: freshetref14.Right, walked. Conditions: none. -/
set_option linter.unusedVariables false
set_option linter.unusedSimpArgs false
open Go.RowKit Go.Proofs.YtkjepfofiegcdaaW.PrintWords Go.Proofs.YtkjepfofiegcdaaW.PrintLast Go.Proofs.YtkjepfofiegcdaaW.PrintMore Go.Proofs.Ytkjepfofiegcdaa.PB14
theorem held_r {w0 w' w'' : World} {A0 A1 A2 A3 A4 A5 A6 A7 A8 : Addr} {U0 U1 U2 U3 U4 U5 U6 U7 U8 : Value} (h : Below w0.heap.size w0 w' ∧ w'.cell? A0 = some (U0) ∧ w'.cell? A1 = some (U1) ∧ w'.cell? A2 = some (U2) ∧ w'.cell? A3 = some (U3) ∧ w'.cell? A4 = some (U4) ∧ w'.cell? A5 = some (U5) ∧ w'.cell? A6 = some (U6) ∧ w'.cell? A7 = some (U7) ∧ w'.cell? A8 = some (U8)) (hb : Below w'.heap.size w' w'') : Below w0.heap.size w0 w'' ∧ w''.cell? A0 = some (U0) ∧ w''.cell? A1 = some (U1) ∧ w''.cell? A2 = some (U2) ∧ w''.cell? A3 = some (U3) ∧ w''.cell? A4 = some (U4) ∧ w''.cell? A5 = some (U5) ∧ w''.cell? A6 = some (U6) ∧ w''.cell? A7 = some (U7) ∧ w''.cell? A8 = some (U8) := by
  obtain ⟨hB, h0, h1, h2, h3, h4, h5, h6, h7, h8⟩ := h
  exact ⟨below_step hB hb, pw_cell_below hb h0, pw_cell_below hb h1, pw_cell_below hb h2, pw_cell_below hb h3, pw_cell_below hb h4, pw_cell_below hb h5, pw_cell_below hb h6, pw_cell_below hb h7, pw_cell_below hb h8⟩
theorem info22 : (Try.prog.info? 22).map (fun i => (i.zero, i.size, i.bytes)) = some (some (.int .u64 0), 1, 8) := by kernel_rfl
theorem okP_of {v : Ver} {i k : Nat} (hi : i < 4) (hk : k < (v.lv i).length) (h : rightP v) : okP v ((v.lv i).getD k z58) := by
  have h1 := (tabP_pre h.2.1 hi (v.lv i).length).1
  refine h1 _ (List.mem_append_right _ ?_)
  rw [List.take_length, List.getD_eq_getElem?_getD, List.getElem?_eq_getElem hk]
  exact List.getElem_mem hk
set_option maxHeartbeats 8000000 in
set_option maxRecDepth 100000 in
theorem rightR_calls (w : World) (v : Ver) (p : Pl) (hC : VC w v p) : Calls Try.prog 63 #[.agg (vCs v p)] w fun e w' => e = .returned (.bool (decide (rightP v))) ∧ Below w.heap.size w w' := by
  have HC := Aside0.mk hC
  clear hC
  have HB := Aside0.mk ((Below.refl w.heap.size w).alloc (Nat.le_refl _) (.cells (vCs v p) 26))
  have BX := Aside0.mk (blk_new w (.cells (vCs v p) 26))
  go_enter Try.func63, Try.ntmps63
  by_cases b0 : v.log < 1
  · have BAD := Aside0.mk (show ¬ rightP v from fun h => by have h1 := h.1; unfold boundsP at h1; omega)
    go_wp2_with fail
    go_ret
    exact ⟨ret_bool (by symm; rw [decide_eq_false_iff_not]; exact BAD.out), HB.out⟩
  · replace b0 : 1 ≤ v.log := by omega
    by_cases b1 : 99999999 < v.log
    · have BAD := Aside0.mk (show ¬ rightP v from fun h => by have h1 := h.1; unfold boundsP at h1; omega)
      go_wp2_with fail
      go_ret
      exact ⟨ret_bool (by symm; rw [decide_eq_false_iff_not]; exact BAD.out), HB.out⟩
    · replace b1 : v.log ≤ 99999999 := by omega
      by_cases b2 : v.next < 1
      · have BAD := Aside0.mk (show ¬ rightP v from fun h => by have h1 := h.1; unfold boundsP at h1; omega)
        go_wp2_with fail
        go_ret
        exact ⟨ret_bool (by symm; rw [decide_eq_false_iff_not]; exact BAD.out), HB.out⟩
      · replace b2 : 1 ≤ v.next := by omega
        by_cases b3 : 99999999 < v.next
        · have BAD := Aside0.mk (show ¬ rightP v from fun h => by have h1 := h.1; unfold boundsP at h1; omega)
          go_wp2_with fail
          go_ret
          exact ⟨ret_bool (by symm; rw [decide_eq_false_iff_not]; exact BAD.out), HB.out⟩
        · replace b3 : v.next ≤ 99999999 := by omega
          by_cases b4 : 72057594037927936 ≤ v.seq
          · have BAD := Aside0.mk (show ¬ rightP v from fun h => by have h1 := h.1; unfold boundsP at h1; omega)
            go_wp2_with fail
            go_ret
            exact ⟨ret_bool (by symm; rw [decide_eq_false_iff_not]; exact BAD.out), HB.out⟩
          · replace b4 : v.seq < 72057594037927936 := by omega
            have BP := Aside0.mk (show boundsP v from ⟨b0, b1, b2, b3, b4⟩)
            have RS := Aside0.mk (show Kd.R (Kd.int .u64) 22 w w.heap.size (fun _ => True) (.slice none 0 0) [] from Kd.R_nil _ _ _ _ _)
            go_upto_region 3 with (fail)
            clear b0 b1 b2 b3 b4
            generalize w.alloc (.cells (vCs v p) 26) = w1 at *
            replace RS := Aside0.mk (show Kd.R (Kd.int .u64) 22 w1 w.heap.size (fun _ => True) (.slice none 0 0) [] from Kd.R_nil _ _ _ _ _)
            go_wp2_with fail
            go_loopg [3, 4, 5, 6, 7] 4 (fun kq v3 v4 v5 v6 v7 w' => ∃ (i : Nat) (B : Option Addr) (cb : Nat), v3 = .slice B (nums (catV v i)).length cb ∧ v4 = .int .i64 (i : Int) ∧ Aside0 (kq + i = 4) ∧ Aside0 (Below w.heap.size w w') ∧ Aside0 (w'.heap[w.heap.size]? = some (.cells (vCs v p) 26 (0, 0))) ∧ Aside0 (Kd.R (Kd.int .u64) 22 w' w.heap.size (fun _ => True) (.slice B (nums (catV v i)).length cb) (nums (catV v i))) ∧ Aside0 (PP v (catV v i)) ∧ Aside0 (∀ j, j < i → (v.lv j).length ≤ 64) ∧ Aside0 (∀ j, j < i → ∀ k, k < (v.lv j).length - 1 → gapP j ((v.lv j).getD k z58) ((v.lv j).getD (k + 1) z58)))
            case atStart => exact ⟨0, none, 0, rfl, rfl, ⟨by omega⟩, HB, BX, RS, ⟨⟨fun m hm => by simp [catV] at hm, by simp [catV, nums]⟩⟩, ⟨fun j hj => by omega⟩, ⟨fun j hj => by omega⟩⟩
            case round =>
              clear HB BX RS
              obtain ⟨i, B, cb, rfl, rfl, HK, HB, BX, RS, PC, H64, HO⟩ := hrel
              cases gk with
              | zero =>
                have ei : i = 4 := by have := HK.out; omega
                subst ei
                go_wp2_with fail
                go_ret
                exact ⟨ret_bool (by symm; rw [decide_eq_true_iff]; exact ⟨BP.out, ⟨H64.out, PC.out⟩, HO.out⟩), HB.out⟩
              | succ q =>
                have hi : i < 4 := by have := HK.out; omega
                have HI := Aside0.mk hi
                have d0 : decide ((i : Int) < 4) = true := decide_eq_true (by omega)
                have i0 : 0 ≤ (i : Int) := Int.natCast_nonneg _
                have i1 : (i : Int) < 4 := by omega
                have hv := vcell BX.out i hi
                have hC1 := (HC.out i hi).1
                obtain ⟨l, hl⟩ : ∃ l, l = v.lv i := ⟨_, rfl⟩
                rw [← hl] at hv hC1
                have LE := Aside0.mk hl
                have HX := Aside0.mk hC1
                clear hl hi hC1
                by_cases h64 : (l.length : Int) > 64
                · have t0 : decide (64 < (l.length : Int)) = true := decide_eq_true h64
                  have t1 : decide (64 < l.length) = true := decide_eq_true (by omega)
                  have BAD := Aside0.mk (show ¬ rightP v from fun h => by have := h.2.1.1 i HI.out; rw [← LE.out] at this; omega)
                  clear h64
                  go_wp2_with fail
                  go_ret
                  exact ⟨ret_bool (by symm; rw [decide_eq_false_iff_not]; exact BAD.out), HB.out⟩
                · have t0 : decide (64 < (l.length : Int)) = false := decide_eq_false h64
                  have t1 : decide (64 < l.length) = false := decide_eq_false (by omega)
                  have L64 := Aside0.mk (show l.length ≤ 64 by omega)
                  have d0i : ((i : Int) == 0) = decide (i = 0) := by rw [Bool.eq_iff_iff]; simp
                  clear h64 d0i
                  go_wp2_with fail
                  go_loopg [3, 6, 7] l.length (fun kq v3 v6 v7 w' => ∃ (k : Nat) (B : Option Addr) (cb : Nat), v3 = .slice B (nums (catV v i ++ l.take k)).length cb ∧ v6 = .int .i64 (k : Int) ∧ Aside0 (kq + k = l.length) ∧ Aside0 (Below w.heap.size w w') ∧ Aside0 (w'.heap[w.heap.size]? = some (.cells (vCs v p) 26 (0, 0))) ∧ Aside0 (Kd.R (Kd.int .u64) 22 w' w.heap.size (fun _ => True) (.slice B (nums (catV v i ++ l.take k)).length cb) (nums (catV v i ++ l.take k))) ∧ Aside0 (PP v (catV v i ++ l.take k)) ∧ Aside0 (∀ k', k' + 1 < k → gapP i (l.getD k' z58) (l.getD (k' + 1) z58)))
                  case atStart => exact ⟨0, B, cb, by rw [List.take_zero, List.append_nil], rfl, ⟨by omega⟩, HB, BX, by rw [List.take_zero, List.append_nil]; exact RS, by rw [List.take_zero, List.append_nil]; exact PC, ⟨fun k' hk => by omega⟩⟩
                  case round =>
                    clear HB BX RS PC hv
                    obtain ⟨k, B, cb, rfl, rfl, HKK, HB, BX, RS, PC, HG⟩ := hrel
                    cases gk with
                    | zero =>
                      have ek : k = l.length := by have := HKK.out; omega
                      subst ek
                      have d0 : decide ((l.length : Int) < (l.length : Int)) = false := by simp
                      rw [List.take_length] at RS PC
                      rw [List.take_length]
                      go_wp2_with fail
                      have ew : wrap64 ((i : Int) + 1) = ((i + 1 : Nat) : Int) := by have h1 := HI.out; unfold wrap64; omega
                      try rw [ew]
                      go_roundg q
                      case measure => omega
                      case rel => exact ⟨i + 1, B, cb, by rw [catV, ← LE.out], rfl, ⟨by have := HK.out; omega⟩, HB, BX, by rw [catV, ← LE.out]; exact RS, by rw [catV, ← LE.out]; exact PC, ⟨fun j hj => by
                        by_cases e : j = i
                        · subst e; rw [← LE.out]; exact L64.out
                        · exact H64.out j (by omega)⟩, ⟨fun j hj k' hk' => by
                        by_cases e : j = i
                        · subst e; rw [← LE.out] at hk' ⊢; exact HG.out k' (by omega)
                        · exact HO.out j (by omega) k' hk'⟩⟩
                    | succ g =>
                      have hk : k < l.length := by have := HKK.out; omega
                      have p0 : 0 ≤ (k : Int) := Int.natCast_nonneg _
                      have p1 : (k : Int) < (l.length : Int) := by omega
                      have d1 : decide ((k : Int) < (l.length : Int)) = true := decide_eq_true p1
                      have CL := Aside0.mk (Kd.C_below HX.out HB.out)
                      obtain ⟨ad, ea, ha0, ha1, ha2, ha3, ha4, ha5, ha6⟩ := at_T58 CL.out (k : Int) p0 p1
                      have EB := Aside0.mk (show rd_T58 l (k : Int) = l.getD k z58 by unfold rd_T58; congr 1)
                      generalize rd_T58 l (k : Int) = m at *
                      have KM := Aside0.mk (fun w => mayR_calls w m)
                      rw [show (k : Int).toNat = k from by omega] at ha0 ha1 ha2 ha3 ha4 ha5 ha6
                      have c1 : wr.cell? ⟨w.heap.size, 1, none⟩ = some (.int .u64 v.next) := (blk_cell BX.out 1).trans rfl
                      have c2 : wr.cell? ⟨w.heap.size, 2, none⟩ = some (.int .u64 v.seq) := (blk_cell BX.out 2).trans rfl
                      have HK1 := Aside0.mk hk
                      have hax : p.a i = some ad := ea
                      rw [hax]
                      have HAX := Aside0.mk hax
                      clear hk ea hax
                      have OKF := Aside0.mk (show rightP v → okP v m from fun h => by have h1 := okP_of (k := k) HI.out (by rw [← LE.out]; exact HK1.out) h; rw [← LE.out, ← EB.out] at h1; exact h1)
                      by_cases hm : mayP m
                      · rw [decide_eq_true hm] at KM
                        by_cases hn : v.next ≤ m.f0
                        · have BAD := Aside0.mk (show ¬ rightP v from fun h => by have h1 := (OKF.out h).2.1; omega)
                          have d2 : decide (v.next ≤ m.f0) = true := decide_eq_true hn
                          clear hn hm
                          go_wp2_with fail
                          refine start_ (n := 26) (S := (fun w' => Below wr.heap.size wr w' ∧ w'.cell? (ad.add (k * 7)) = some (.int .u64 m.f0) ∧ w'.cell? ⟨(ad.add (k * 7)).block, (ad.add (k * 7)).off + 1, none⟩ = some (.int .i64 m.f1) ∧ w'.cell? ⟨(ad.add (k * 7)).block, (ad.add (k * 7)).off + 2, none⟩ = some (.int .i64 m.f2) ∧ w'.cell? ⟨(ad.add (k * 7)).block, (ad.add (k * 7)).off + 3, none⟩ = some (.string m.f3) ∧ w'.cell? ⟨(ad.add (k * 7)).block, (ad.add (k * 7)).off + 4, none⟩ = some (.string m.f4) ∧ w'.cell? ⟨(ad.add (k * 7)).block, (ad.add (k * 7)).off + 5, none⟩ = some (.int .u64 m.f5) ∧ w'.cell? ⟨(ad.add (k * 7)).block, (ad.add (k * 7)).off + 6, none⟩ = some (.int .u64 m.f6) ∧ w'.cell? ⟨w.heap.size, 1, none⟩ = some (.int .u64 v.next) ∧ w'.cell? ⟨w.heap.size, 2, none⟩ = some (.int .u64 v.seq))) (ds := []) #[false, false, false, false, false, false, false, false, false, false, false, false, false, false, false, false, false, false, false, false, false, false, false, false, false, false] (by kernel_rfl) rfl rfl ⟨below_drew (Below.refl _ _), ha0, ha1, ha2, ha3, ha4, ha5, ha6, c1, c2⟩ (fun hHeld => ?_)
                          -- 0: Op.move t5
                          refine pure_ (i := 0) (N := (some 48)) (v := ?_) (a' := ?_) #[true, false, false, false, false, false, false, false, false, false, false, false, false, false, false, false, false, false, false, false, false, false, false, false, false, false] rfl rfl (by kernel_rfl) (fun _ _ _ h => h) (Or.inl ⟨by rfl, ?_⟩) ?_ ?_
                          rotate_left
                          · intro w'
                            go_simp
                            with_reducible rfl
                          rotate_left
                          · simp only [Act.put, List.setIfInBounds_toArray, List.set_cons_zero, List.set_cons_succ, i64_w, i32_w]
                            rfl
                          -- 1: Op.move t6
                          refine pure_ (i := 1) (N := (some 49)) (v := ?_) (a' := ?_) #[true, true, false, false, false, false, false, false, false, false, false, false, false, false, false, false, false, false, false, false, false, false, false, false, false, false] rfl rfl (by kernel_rfl) (fun _ _ _ h => h) (Or.inl ⟨by rfl, ?_⟩) ?_ ?_
                          rotate_left
                          · intro w'
                            go_simp
                            with_reducible rfl
                          rotate_left
                          · simp only [Act.put, List.setIfInBounds_toArray, List.set_cons_zero, List.set_cons_succ, i64_w, i32_w]
                            rfl
                          -- 2: Op.indexAddr 23 t48 t49
                          refine pure_ (i := 2) (N := (some 50)) (v := ?_) (a' := ?_) #[true, true, true, false, false, false, false, false, false, false, false, false, false, false, false, false, false, false, false, false, false, false, false, false, false, false] rfl rfl (by kernel_rfl) (fun _ _ _ h => h) (Or.inl ⟨by rfl, ?_⟩) ?_ ?_
                          rotate_left
                          · intro w'
                            go_simp
                            with_reducible rfl
                          rotate_left
                          · simp only [Act.put, List.setIfInBounds_toArray, List.set_cons_zero, List.set_cons_succ, i64_w, i32_w]
                            rfl
                          -- 3: Op.load 58 t50
                          refine take_ (i := 3) (N := (some 51)) (v := ?_) (a' := ?_) #[true, true, true, true, false, false, false, false, false, false, false, false, false, false, false, false, false, false, false, false, false, false, false, false, false, false] rfl rfl (by kernel_rfl) (fun _ _ _ h => h) (Or.inl ⟨by rfl, ?_⟩) hHeld ?_ ?_
                          rotate_left
                          · rintro w' ⟨s0, s1, s2, s3, s4, s5, s6, s7, s8, s9⟩
                            go_simp
                            with_reducible rfl
                          rotate_left
                          · simp only [Act.put, List.setIfInBounds_toArray, List.set_cons_zero, List.set_cons_succ, i64_w, i32_w]
                            rfl
                          -- 4: Op.call { value (Operand.func 120), args := #[t51], argTypes := #[58] }
                          refine one_ (i := 4) (N := (some 52)) #[true, true, true, true, true, false, false, false, false, false, false, false, false, false, false, false, false, false, false, false, false, false, false, false, false, false] rfl rfl (by kernel_rfl) (by decide) (fun K hK => ?_)
                          refine goes_ Try.func120 (by kernel_rfl) rfl #[.agg #[.int .u64 m.f0, .int .i64 m.f1, .int .i64 m.f2, .string m.f3, .string m.f4, .int .u64 m.f5, .int .u64 m.f6]] (by rfl) rfl rfl (by (try simp only [List.map_toArray, List.map_cons, List.map_nil]); first | done | rfl) ?_
                          (with_reducible refine (KM.out _).mono ?_)
                          rintro e w2 ⟨rfl, hb⟩
                          refine ⟨_, rfl, ?_⟩
                          have hOld := hHeld
                          clear hHeld
                          refine hK.out _ _ (held_r hOld hb) (fun hHeld => ?_)
                          clear hOld hK K
                          refine norm_ (a' := ?_) ?_ ?_
                          rotate_left
                          · show Act.put _ (some 52) _ = _
                            simp only [Act.put, List.setIfInBounds_toArray, List.set_cons_zero, List.set_cons_succ, i64_w, i32_w]
                            rfl
                          -- 5: Op.unOp UnOp.not 4 t52
                          refine pure_ (i := 5) (N := (some 53)) (v := ?_) (a' := ?_) #[true, true, true, true, true, true, false, false, false, false, false, false, false, false, false, false, false, false, false, false, false, false, false, false, false, false] rfl rfl (by kernel_rfl) (fun _ _ _ h => h) (Or.inl ⟨by rfl, ?_⟩) ?_ ?_
                          rotate_left
                          · intro w'
                            go_simp
                            with_reducible rfl
                          rotate_left
                          · simp only [Act.put, List.setIfInBounds_toArray, List.set_cons_zero, List.set_cons_succ, i64_w, i32_w]
                            rfl
                          -- 6: Op.move t53
                          refine pure_ (i := 6) (N := (some 54)) (v := ?_) (a' := ?_) #[true, true, true, true, true, true, true, false, false, false, false, false, false, false, false, false, false, false, false, false, false, false, false, false, false, false] rfl rfl (by kernel_rfl) (fun _ _ _ h => h) (Or.inl ⟨by rfl, ?_⟩) ?_ ?_
                          rotate_left
                          · intro w'
                            go_simp
                            with_reducible rfl
                          rotate_left
                          · simp only [Act.put, List.setIfInBounds_toArray, List.set_cons_zero, List.set_cons_succ, i64_w, i32_w]
                            rfl
                          -- 7: Op.move t5   [guarded: some (6, false)]
                          refine pure_ (i := 7) (N := (some 55)) (v := ?_) (a' := ?_) #[true, true, true, true, true, true, true, true, false, false, false, false, false, false, false, false, false, false, false, false, false, false, false, false, false, false] rfl rfl (by kernel_rfl) (fun _ _ _ h => h) (Or.inl ⟨by rfl, ?_⟩) ?_ ?_
                          rotate_left
                          · intro w'
                            go_simp
                            with_reducible rfl
                          rotate_left
                          · simp only [Act.put, List.setIfInBounds_toArray, List.set_cons_zero, List.set_cons_succ, i64_w, i32_w]
                            rfl
                          -- 8: Op.move t6   [guarded: some (6, false)]
                          refine pure_ (i := 8) (N := (some 56)) (v := ?_) (a' := ?_) #[true, true, true, true, true, true, true, true, true, false, false, false, false, false, false, false, false, false, false, false, false, false, false, false, false, false] rfl rfl (by kernel_rfl) (fun _ _ _ h => h) (Or.inl ⟨by rfl, ?_⟩) ?_ ?_
                          rotate_left
                          · intro w'
                            go_simp
                            with_reducible rfl
                          rotate_left
                          · simp only [Act.put, List.setIfInBounds_toArray, List.set_cons_zero, List.set_cons_succ, i64_w, i32_w]
                            rfl
                          -- 9: Op.indexAddr 23 t55 t56   [guarded: some (6, false)]
                          refine pure_ (i := 9) (N := (some 57)) (v := ?_) (a' := ?_) #[true, true, true, true, true, true, true, true, true, true, false, false, false, false, false, false, false, false, false, false, false, false, false, false, false, false] rfl rfl (by kernel_rfl) (fun _ _ _ h => h) (Or.inl ⟨by rfl, ?_⟩) ?_ ?_
                          rotate_left
                          · intro w'
                            go_simp
                            with_reducible rfl
                          rotate_left
                          · simp only [Act.put, List.setIfInBounds_toArray, List.set_cons_zero, List.set_cons_succ, i64_w, i32_w]
                            rfl
                          -- 10: Op.fieldAddr 58 t57 0   [guarded: some (6, false)]
                          refine pure_ (i := 10) (N := (some 58)) (v := ?_) (a' := ?_) #[true, true, true, true, true, true, true, true, true, true, true, false, false, false, false, false, false, false, false, false, false, false, false, false, false, false] rfl rfl (by kernel_rfl) (fun _ _ _ h => h) (Or.inl ⟨by rfl, ?_⟩) ?_ ?_
                          rotate_left
                          · intro w'
                            go_simp
                            with_reducible rfl
                          rotate_left
                          · simp only [Act.put, List.setIfInBounds_toArray, List.set_cons_zero, List.set_cons_succ, i64_w, i32_w]
                            rfl
                          -- 11: Op.load 22 t58   [guarded: some (6, false)]
                          refine take_ (i := 11) (N := (some 59)) (v := ?_) (a' := ?_) #[true, true, true, true, true, true, true, true, true, true, true, true, false, false, false, false, false, false, false, false, false, false, false, false, false, false] rfl rfl (by kernel_rfl) (fun _ _ _ h => h) (Or.inl ⟨by rfl, ?_⟩) hHeld ?_ ?_
                          rotate_left
                          · rintro w' ⟨s0, s1, s2, s3, s4, s5, s6, s7, s8, s9⟩
                            go_simp
                            with_reducible rfl
                          rotate_left
                          · simp only [Act.put, List.setIfInBounds_toArray, List.set_cons_zero, List.set_cons_succ, i64_w, i32_w]
                            rfl
                          -- 12: Op.fieldAddr 26 t1 1   [guarded: some (6, false)]
                          refine pure_ (i := 12) (N := (some 60)) (v := ?_) (a' := ?_) #[true, true, true, true, true, true, true, true, true, true, true, true, true, false, false, false, false, false, false, false, false, false, false, false, false, false] rfl rfl (by kernel_rfl) (fun _ _ _ h => h) (Or.inl ⟨by rfl, ?_⟩) ?_ ?_
                          rotate_left
                          · intro w'
                            go_simp
                            with_reducible rfl
                          rotate_left
                          · simp only [Act.put, List.setIfInBounds_toArray, List.set_cons_zero, List.set_cons_succ, i64_w, i32_w]
                            rfl
                          -- 13: Op.load 22 t60   [guarded: some (6, false)]
                          refine take_ (i := 13) (N := (some 61)) (v := ?_) (a' := ?_) #[true, true, true, true, true, true, true, true, true, true, true, true, true, true, false, false, false, false, false, false, false, false, false, false, false, false] rfl rfl (by kernel_rfl) (fun _ _ _ h => h) (Or.inl ⟨by rfl, ?_⟩) hHeld ?_ ?_
                          rotate_left
                          · rintro w' ⟨s0, s1, s2, s3, s4, s5, s6, s7, s8, s9⟩
                            go_simp
                            with_reducible rfl
                          rotate_left
                          · simp only [Act.put, List.setIfInBounds_toArray, List.set_cons_zero, List.set_cons_succ, i64_w, i32_w]
                            rfl
                          -- 14: Op.binOp BinOp.geq 22 t59 t61 22   [guarded: some (6, false)]
                          refine pure_ (i := 14) (N := (some 62)) (v := ?_) (a' := ?_) #[true, true, true, true, true, true, true, true, true, true, true, true, true, true, true, false, false, false, false, false, false, false, false, false, false, false] rfl rfl (by kernel_rfl) (fun _ _ _ h => h) (Or.inl ⟨by rfl, ?_⟩) ?_ ?_
                          rotate_left
                          · intro w'
                            go_simp
                            with_reducible rfl
                          rotate_left
                          · simp only [Act.put, List.setIfInBounds_toArray, List.set_cons_zero, List.set_cons_succ, i64_w, i32_w]
                            rfl
                          -- 15: Op.pick t54 (const (Value.bool true)) t62
                          refine pure_ (i := 15) (N := (some 63)) (v := ?_) (a' := ?_) #[true, true, true, true, true, true, true, true, true, true, true, true, true, true, true, true, false, false, false, false, false, false, false, false, false, false] rfl rfl (by kernel_rfl) (fun _ _ _ h => h) (Or.inl ⟨by rfl, ?_⟩) ?_ ?_
                          rotate_left
                          · intro w'
                            go_simp
                            with_reducible rfl
                          rotate_left
                          · simp only [Act.put, List.setIfInBounds_toArray, List.set_cons_zero, List.set_cons_succ, i64_w, i32_w]
                            rfl
                          -- 16: Op.move t63
                          refine pure_ (i := 16) (N := (some 64)) (v := ?_) (a' := ?_) #[true, true, true, true, true, true, true, true, true, true, true, true, true, true, true, true, true, false, false, false, false, false, false, false, false, false] rfl rfl (by kernel_rfl) (fun _ _ _ h => h) (Or.inl ⟨by rfl, ?_⟩) ?_ ?_
                          rotate_left
                          · intro w'
                            go_simp
                            with_reducible rfl
                          rotate_left
                          · simp only [Act.put, List.setIfInBounds_toArray, List.set_cons_zero, List.set_cons_succ, i64_w, i32_w]
                            rfl
                          -- 17: Op.move t5   [guarded: some (16, false)]
                          refine pure_ (i := 17) (N := (some 65)) (v := undef) (a' := ?_) #[true, true, true, true, true, true, true, true, true, true, true, true, true, true, true, true, true, true, false, false, false, false, false, false, false, false] rfl rfl (by kernel_rfl) (fun _ _ _ h => h) (Or.inr ⟨by rfl, rfl⟩) ?_ ?_
                          rotate_left
                          · simp only [Act.put, List.setIfInBounds_toArray, List.set_cons_zero, List.set_cons_succ, i64_w, i32_w]
                            rfl
                          -- 18: Op.move t6   [guarded: some (16, false)]
                          refine pure_ (i := 18) (N := (some 66)) (v := undef) (a' := ?_) #[true, true, true, true, true, true, true, true, true, true, true, true, true, true, true, true, true, true, true, false, false, false, false, false, false, false] rfl rfl (by kernel_rfl) (fun _ _ _ h => h) (Or.inr ⟨by rfl, rfl⟩) ?_ ?_
                          rotate_left
                          · simp only [Act.put, List.setIfInBounds_toArray, List.set_cons_zero, List.set_cons_succ, i64_w, i32_w]
                            rfl
                          -- 19: Op.indexAddr 23 t65 t66   [guarded: some (16, false)]
                          refine pure_ (i := 19) (N := (some 67)) (v := undef) (a' := ?_) #[true, true, true, true, true, true, true, true, true, true, true, true, true, true, true, true, true, true, true, true, false, false, false, false, false, false] rfl rfl (by kernel_rfl) (fun _ _ _ h => h) (Or.inr ⟨by rfl, rfl⟩) ?_ ?_
                          rotate_left
                          · simp only [Act.put, List.setIfInBounds_toArray, List.set_cons_zero, List.set_cons_succ, i64_w, i32_w]
                            rfl
                          -- 20: Op.fieldAddr 58 t67 6   [guarded: some (16, false)]
                          refine pure_ (i := 20) (N := (some 68)) (v := undef) (a' := ?_) #[true, true, true, true, true, true, true, true, true, true, true, true, true, true, true, true, true, true, true, true, true, false, false, false, false, false] rfl rfl (by kernel_rfl) (fun _ _ _ h => h) (Or.inr ⟨by rfl, rfl⟩) ?_ ?_
                          rotate_left
                          · simp only [Act.put, List.setIfInBounds_toArray, List.set_cons_zero, List.set_cons_succ, i64_w, i32_w]
                            rfl
                          -- 21: Op.load 22 t68   [guarded: some (16, false)]
                          refine take_ (i := 21) (N := (some 69)) (v := undef) (a' := ?_) #[true, true, true, true, true, true, true, true, true, true, true, true, true, true, true, true, true, true, true, true, true, true, false, false, false, false] rfl rfl (by kernel_rfl) (fun _ _ _ h => h) (Or.inr ⟨by rfl, rfl⟩) hHeld ?_ ?_
                          rotate_left
                          · simp only [Act.put, List.setIfInBounds_toArray, List.set_cons_zero, List.set_cons_succ, i64_w, i32_w]
                            rfl
                          -- 22: Op.fieldAddr 26 t1 2   [guarded: some (16, false)]
                          refine pure_ (i := 22) (N := (some 70)) (v := undef) (a' := ?_) #[true, true, true, true, true, true, true, true, true, true, true, true, true, true, true, true, true, true, true, true, true, true, true, false, false, false] rfl rfl (by kernel_rfl) (fun _ _ _ h => h) (Or.inr ⟨by rfl, rfl⟩) ?_ ?_
                          rotate_left
                          · simp only [Act.put, List.setIfInBounds_toArray, List.set_cons_zero, List.set_cons_succ, i64_w, i32_w]
                            rfl
                          -- 23: Op.load 22 t70   [guarded: some (16, false)]
                          refine take_ (i := 23) (N := (some 71)) (v := undef) (a' := ?_) #[true, true, true, true, true, true, true, true, true, true, true, true, true, true, true, true, true, true, true, true, true, true, true, true, false, false] rfl rfl (by kernel_rfl) (fun _ _ _ h => h) (Or.inr ⟨by rfl, rfl⟩) hHeld ?_ ?_
                          rotate_left
                          · simp only [Act.put, List.setIfInBounds_toArray, List.set_cons_zero, List.set_cons_succ, i64_w, i32_w]
                            rfl
                          -- 24: Op.binOp BinOp.gtr 22 t69 t71 22   [guarded: some (16, false)]
                          refine pure_ (i := 24) (N := (some 72)) (v := undef) (a' := ?_) #[true, true, true, true, true, true, true, true, true, true, true, true, true, true, true, true, true, true, true, true, true, true, true, true, true, false] rfl rfl (by kernel_rfl) (fun _ _ _ h => h) (Or.inr ⟨by rfl, rfl⟩) ?_ ?_
                          rotate_left
                          · simp only [Act.put, List.setIfInBounds_toArray, List.set_cons_zero, List.set_cons_succ, i64_w, i32_w]
                            rfl
                          -- 25: Op.pick t64 (const (Value.bool true)) t72
                          refine pure_ (i := 25) (N := (some 73)) (v := ?_) (a' := ?_) #[true, true, true, true, true, true, true, true, true, true, true, true, true, true, true, true, true, true, true, true, true, true, true, true, true, true] rfl rfl (by kernel_rfl) (fun _ _ _ h => h) (Or.inl ⟨by rfl, ?_⟩) ?_ ?_
                          rotate_left
                          · intro w'
                            go_simp
                            with_reducible rfl
                          rotate_left
                          · simp only [Act.put, List.setIfInBounds_toArray, List.set_cons_zero, List.set_cons_succ, i64_w, i32_w]
                            rfl
                          refine done_ (by kernel_rfl) ?_
                          go_wp2_with fail
                          go_ret
                          exact ⟨ret_bool (by symm; rw [decide_eq_false_iff_not]; exact BAD.out), below_step HB.out hHeld.1⟩
                        · have d2 : decide (v.next ≤ m.f0) = false := decide_eq_false hn
                          by_cases hs : v.seq < m.f6
                          · have BAD := Aside0.mk (show ¬ rightP v from fun h => by have h1 := (OKF.out h).2.2; omega)
                            have d3 : decide (v.seq < m.f6) = true := decide_eq_true hs
                            clear hn hm hs
                            go_wp2_with fail
                            refine start_ (n := 26) (S := (fun w' => Below wr.heap.size wr w' ∧ w'.cell? (ad.add (k * 7)) = some (.int .u64 m.f0) ∧ w'.cell? ⟨(ad.add (k * 7)).block, (ad.add (k * 7)).off + 1, none⟩ = some (.int .i64 m.f1) ∧ w'.cell? ⟨(ad.add (k * 7)).block, (ad.add (k * 7)).off + 2, none⟩ = some (.int .i64 m.f2) ∧ w'.cell? ⟨(ad.add (k * 7)).block, (ad.add (k * 7)).off + 3, none⟩ = some (.string m.f3) ∧ w'.cell? ⟨(ad.add (k * 7)).block, (ad.add (k * 7)).off + 4, none⟩ = some (.string m.f4) ∧ w'.cell? ⟨(ad.add (k * 7)).block, (ad.add (k * 7)).off + 5, none⟩ = some (.int .u64 m.f5) ∧ w'.cell? ⟨(ad.add (k * 7)).block, (ad.add (k * 7)).off + 6, none⟩ = some (.int .u64 m.f6) ∧ w'.cell? ⟨w.heap.size, 1, none⟩ = some (.int .u64 v.next) ∧ w'.cell? ⟨w.heap.size, 2, none⟩ = some (.int .u64 v.seq))) (ds := []) #[false, false, false, false, false, false, false, false, false, false, false, false, false, false, false, false, false, false, false, false, false, false, false, false, false, false] (by kernel_rfl) rfl rfl ⟨below_drew (Below.refl _ _), ha0, ha1, ha2, ha3, ha4, ha5, ha6, c1, c2⟩ (fun hHeld => ?_)
                            -- 0: Op.move t5
                            refine pure_ (i := 0) (N := (some 48)) (v := ?_) (a' := ?_) #[true, false, false, false, false, false, false, false, false, false, false, false, false, false, false, false, false, false, false, false, false, false, false, false, false, false] rfl rfl (by kernel_rfl) (fun _ _ _ h => h) (Or.inl ⟨by rfl, ?_⟩) ?_ ?_
                            rotate_left
                            · intro w'
                              go_simp
                              with_reducible rfl
                            rotate_left
                            · simp only [Act.put, List.setIfInBounds_toArray, List.set_cons_zero, List.set_cons_succ, i64_w, i32_w]
                              rfl
                            -- 1: Op.move t6
                            refine pure_ (i := 1) (N := (some 49)) (v := ?_) (a' := ?_) #[true, true, false, false, false, false, false, false, false, false, false, false, false, false, false, false, false, false, false, false, false, false, false, false, false, false] rfl rfl (by kernel_rfl) (fun _ _ _ h => h) (Or.inl ⟨by rfl, ?_⟩) ?_ ?_
                            rotate_left
                            · intro w'
                              go_simp
                              with_reducible rfl
                            rotate_left
                            · simp only [Act.put, List.setIfInBounds_toArray, List.set_cons_zero, List.set_cons_succ, i64_w, i32_w]
                              rfl
                            -- 2: Op.indexAddr 23 t48 t49
                            refine pure_ (i := 2) (N := (some 50)) (v := ?_) (a' := ?_) #[true, true, true, false, false, false, false, false, false, false, false, false, false, false, false, false, false, false, false, false, false, false, false, false, false, false] rfl rfl (by kernel_rfl) (fun _ _ _ h => h) (Or.inl ⟨by rfl, ?_⟩) ?_ ?_
                            rotate_left
                            · intro w'
                              go_simp
                              with_reducible rfl
                            rotate_left
                            · simp only [Act.put, List.setIfInBounds_toArray, List.set_cons_zero, List.set_cons_succ, i64_w, i32_w]
                              rfl
                            -- 3: Op.load 58 t50
                            refine take_ (i := 3) (N := (some 51)) (v := ?_) (a' := ?_) #[true, true, true, true, false, false, false, false, false, false, false, false, false, false, false, false, false, false, false, false, false, false, false, false, false, false] rfl rfl (by kernel_rfl) (fun _ _ _ h => h) (Or.inl ⟨by rfl, ?_⟩) hHeld ?_ ?_
                            rotate_left
                            · rintro w' ⟨s0, s1, s2, s3, s4, s5, s6, s7, s8, s9⟩
                              go_simp
                              with_reducible rfl
                            rotate_left
                            · simp only [Act.put, List.setIfInBounds_toArray, List.set_cons_zero, List.set_cons_succ, i64_w, i32_w]
                              rfl
                            -- 4: Op.call { value (Operand.func 120), args := #[t51], argTypes := #[58] }
                            refine one_ (i := 4) (N := (some 52)) #[true, true, true, true, true, false, false, false, false, false, false, false, false, false, false, false, false, false, false, false, false, false, false, false, false, false] rfl rfl (by kernel_rfl) (by decide) (fun K hK => ?_)
                            refine goes_ Try.func120 (by kernel_rfl) rfl #[.agg #[.int .u64 m.f0, .int .i64 m.f1, .int .i64 m.f2, .string m.f3, .string m.f4, .int .u64 m.f5, .int .u64 m.f6]] (by rfl) rfl rfl (by (try simp only [List.map_toArray, List.map_cons, List.map_nil]); first | done | rfl) ?_
                            (with_reducible refine (KM.out _).mono ?_)
                            rintro e w2 ⟨rfl, hb⟩
                            refine ⟨_, rfl, ?_⟩
                            have hOld := hHeld
                            clear hHeld
                            refine hK.out _ _ (held_r hOld hb) (fun hHeld => ?_)
                            clear hOld hK K
                            refine norm_ (a' := ?_) ?_ ?_
                            rotate_left
                            · show Act.put _ (some 52) _ = _
                              simp only [Act.put, List.setIfInBounds_toArray, List.set_cons_zero, List.set_cons_succ, i64_w, i32_w]
                              rfl
                            -- 5: Op.unOp UnOp.not 4 t52
                            refine pure_ (i := 5) (N := (some 53)) (v := ?_) (a' := ?_) #[true, true, true, true, true, true, false, false, false, false, false, false, false, false, false, false, false, false, false, false, false, false, false, false, false, false] rfl rfl (by kernel_rfl) (fun _ _ _ h => h) (Or.inl ⟨by rfl, ?_⟩) ?_ ?_
                            rotate_left
                            · intro w'
                              go_simp
                              with_reducible rfl
                            rotate_left
                            · simp only [Act.put, List.setIfInBounds_toArray, List.set_cons_zero, List.set_cons_succ, i64_w, i32_w]
                              rfl
                            -- 6: Op.move t53
                            refine pure_ (i := 6) (N := (some 54)) (v := ?_) (a' := ?_) #[true, true, true, true, true, true, true, false, false, false, false, false, false, false, false, false, false, false, false, false, false, false, false, false, false, false] rfl rfl (by kernel_rfl) (fun _ _ _ h => h) (Or.inl ⟨by rfl, ?_⟩) ?_ ?_
                            rotate_left
                            · intro w'
                              go_simp
                              with_reducible rfl
                            rotate_left
                            · simp only [Act.put, List.setIfInBounds_toArray, List.set_cons_zero, List.set_cons_succ, i64_w, i32_w]
                              rfl
                            -- 7: Op.move t5   [guarded: some (6, false)]
                            refine pure_ (i := 7) (N := (some 55)) (v := ?_) (a' := ?_) #[true, true, true, true, true, true, true, true, false, false, false, false, false, false, false, false, false, false, false, false, false, false, false, false, false, false] rfl rfl (by kernel_rfl) (fun _ _ _ h => h) (Or.inl ⟨by rfl, ?_⟩) ?_ ?_
                            rotate_left
                            · intro w'
                              go_simp
                              with_reducible rfl
                            rotate_left
                            · simp only [Act.put, List.setIfInBounds_toArray, List.set_cons_zero, List.set_cons_succ, i64_w, i32_w]
                              rfl
                            -- 8: Op.move t6   [guarded: some (6, false)]
                            refine pure_ (i := 8) (N := (some 56)) (v := ?_) (a' := ?_) #[true, true, true, true, true, true, true, true, true, false, false, false, false, false, false, false, false, false, false, false, false, false, false, false, false, false] rfl rfl (by kernel_rfl) (fun _ _ _ h => h) (Or.inl ⟨by rfl, ?_⟩) ?_ ?_
                            rotate_left
                            · intro w'
                              go_simp
                              with_reducible rfl
                            rotate_left
                            · simp only [Act.put, List.setIfInBounds_toArray, List.set_cons_zero, List.set_cons_succ, i64_w, i32_w]
                              rfl
                            -- 9: Op.indexAddr 23 t55 t56   [guarded: some (6, false)]
                            refine pure_ (i := 9) (N := (some 57)) (v := ?_) (a' := ?_) #[true, true, true, true, true, true, true, true, true, true, false, false, false, false, false, false, false, false, false, false, false, false, false, false, false, false] rfl rfl (by kernel_rfl) (fun _ _ _ h => h) (Or.inl ⟨by rfl, ?_⟩) ?_ ?_
                            rotate_left
                            · intro w'
                              go_simp
                              with_reducible rfl
                            rotate_left
                            · simp only [Act.put, List.setIfInBounds_toArray, List.set_cons_zero, List.set_cons_succ, i64_w, i32_w]
                              rfl
                            -- 10: Op.fieldAddr 58 t57 0   [guarded: some (6, false)]
                            refine pure_ (i := 10) (N := (some 58)) (v := ?_) (a' := ?_) #[true, true, true, true, true, true, true, true, true, true, true, false, false, false, false, false, false, false, false, false, false, false, false, false, false, false] rfl rfl (by kernel_rfl) (fun _ _ _ h => h) (Or.inl ⟨by rfl, ?_⟩) ?_ ?_
                            rotate_left
                            · intro w'
                              go_simp
                              with_reducible rfl
                            rotate_left
                            · simp only [Act.put, List.setIfInBounds_toArray, List.set_cons_zero, List.set_cons_succ, i64_w, i32_w]
                              rfl
                            -- 11: Op.load 22 t58   [guarded: some (6, false)]
                            refine take_ (i := 11) (N := (some 59)) (v := ?_) (a' := ?_) #[true, true, true, true, true, true, true, true, true, true, true, true, false, false, false, false, false, false, false, false, false, false, false, false, false, false] rfl rfl (by kernel_rfl) (fun _ _ _ h => h) (Or.inl ⟨by rfl, ?_⟩) hHeld ?_ ?_
                            rotate_left
                            · rintro w' ⟨s0, s1, s2, s3, s4, s5, s6, s7, s8, s9⟩
                              go_simp
                              with_reducible rfl
                            rotate_left
                            · simp only [Act.put, List.setIfInBounds_toArray, List.set_cons_zero, List.set_cons_succ, i64_w, i32_w]
                              rfl
                            -- 12: Op.fieldAddr 26 t1 1   [guarded: some (6, false)]
                            refine pure_ (i := 12) (N := (some 60)) (v := ?_) (a' := ?_) #[true, true, true, true, true, true, true, true, true, true, true, true, true, false, false, false, false, false, false, false, false, false, false, false, false, false] rfl rfl (by kernel_rfl) (fun _ _ _ h => h) (Or.inl ⟨by rfl, ?_⟩) ?_ ?_
                            rotate_left
                            · intro w'
                              go_simp
                              with_reducible rfl
                            rotate_left
                            · simp only [Act.put, List.setIfInBounds_toArray, List.set_cons_zero, List.set_cons_succ, i64_w, i32_w]
                              rfl
                            -- 13: Op.load 22 t60   [guarded: some (6, false)]
                            refine take_ (i := 13) (N := (some 61)) (v := ?_) (a' := ?_) #[true, true, true, true, true, true, true, true, true, true, true, true, true, true, false, false, false, false, false, false, false, false, false, false, false, false] rfl rfl (by kernel_rfl) (fun _ _ _ h => h) (Or.inl ⟨by rfl, ?_⟩) hHeld ?_ ?_
                            rotate_left
                            · rintro w' ⟨s0, s1, s2, s3, s4, s5, s6, s7, s8, s9⟩
                              go_simp
                              with_reducible rfl
                            rotate_left
                            · simp only [Act.put, List.setIfInBounds_toArray, List.set_cons_zero, List.set_cons_succ, i64_w, i32_w]
                              rfl
                            -- 14: Op.binOp BinOp.geq 22 t59 t61 22   [guarded: some (6, false)]
                            refine pure_ (i := 14) (N := (some 62)) (v := ?_) (a' := ?_) #[true, true, true, true, true, true, true, true, true, true, true, true, true, true, true, false, false, false, false, false, false, false, false, false, false, false] rfl rfl (by kernel_rfl) (fun _ _ _ h => h) (Or.inl ⟨by rfl, ?_⟩) ?_ ?_
                            rotate_left
                            · intro w'
                              go_simp
                              with_reducible rfl
                            rotate_left
                            · simp only [Act.put, List.setIfInBounds_toArray, List.set_cons_zero, List.set_cons_succ, i64_w, i32_w]
                              rfl
                            -- 15: Op.pick t54 (const (Value.bool true)) t62
                            refine pure_ (i := 15) (N := (some 63)) (v := ?_) (a' := ?_) #[true, true, true, true, true, true, true, true, true, true, true, true, true, true, true, true, false, false, false, false, false, false, false, false, false, false] rfl rfl (by kernel_rfl) (fun _ _ _ h => h) (Or.inl ⟨by rfl, ?_⟩) ?_ ?_
                            rotate_left
                            · intro w'
                              go_simp
                              with_reducible rfl
                            rotate_left
                            · simp only [Act.put, List.setIfInBounds_toArray, List.set_cons_zero, List.set_cons_succ, i64_w, i32_w]
                              rfl
                            -- 16: Op.move t63
                            refine pure_ (i := 16) (N := (some 64)) (v := ?_) (a' := ?_) #[true, true, true, true, true, true, true, true, true, true, true, true, true, true, true, true, true, false, false, false, false, false, false, false, false, false] rfl rfl (by kernel_rfl) (fun _ _ _ h => h) (Or.inl ⟨by rfl, ?_⟩) ?_ ?_
                            rotate_left
                            · intro w'
                              go_simp
                              with_reducible rfl
                            rotate_left
                            · simp only [Act.put, List.setIfInBounds_toArray, List.set_cons_zero, List.set_cons_succ, i64_w, i32_w]
                              rfl
                            -- 17: Op.move t5   [guarded: some (16, false)]
                            refine pure_ (i := 17) (N := (some 65)) (v := ?_) (a' := ?_) #[true, true, true, true, true, true, true, true, true, true, true, true, true, true, true, true, true, true, false, false, false, false, false, false, false, false] rfl rfl (by kernel_rfl) (fun _ _ _ h => h) (Or.inl ⟨by rfl, ?_⟩) ?_ ?_
                            rotate_left
                            · intro w'
                              go_simp
                              with_reducible rfl
                            rotate_left
                            · simp only [Act.put, List.setIfInBounds_toArray, List.set_cons_zero, List.set_cons_succ, i64_w, i32_w]
                              rfl
                            -- 18: Op.move t6   [guarded: some (16, false)]
                            refine pure_ (i := 18) (N := (some 66)) (v := ?_) (a' := ?_) #[true, true, true, true, true, true, true, true, true, true, true, true, true, true, true, true, true, true, true, false, false, false, false, false, false, false] rfl rfl (by kernel_rfl) (fun _ _ _ h => h) (Or.inl ⟨by rfl, ?_⟩) ?_ ?_
                            rotate_left
                            · intro w'
                              go_simp
                              with_reducible rfl
                            rotate_left
                            · simp only [Act.put, List.setIfInBounds_toArray, List.set_cons_zero, List.set_cons_succ, i64_w, i32_w]
                              rfl
                            -- 19: Op.indexAddr 23 t65 t66   [guarded: some (16, false)]
                            refine pure_ (i := 19) (N := (some 67)) (v := ?_) (a' := ?_) #[true, true, true, true, true, true, true, true, true, true, true, true, true, true, true, true, true, true, true, true, false, false, false, false, false, false] rfl rfl (by kernel_rfl) (fun _ _ _ h => h) (Or.inl ⟨by rfl, ?_⟩) ?_ ?_
                            rotate_left
                            · intro w'
                              go_simp
                              with_reducible rfl
                            rotate_left
                            · simp only [Act.put, List.setIfInBounds_toArray, List.set_cons_zero, List.set_cons_succ, i64_w, i32_w]
                              rfl
                            -- 20: Op.fieldAddr 58 t67 6   [guarded: some (16, false)]
                            refine pure_ (i := 20) (N := (some 68)) (v := ?_) (a' := ?_) #[true, true, true, true, true, true, true, true, true, true, true, true, true, true, true, true, true, true, true, true, true, false, false, false, false, false] rfl rfl (by kernel_rfl) (fun _ _ _ h => h) (Or.inl ⟨by rfl, ?_⟩) ?_ ?_
                            rotate_left
                            · intro w'
                              go_simp
                              with_reducible rfl
                            rotate_left
                            · simp only [Act.put, List.setIfInBounds_toArray, List.set_cons_zero, List.set_cons_succ, i64_w, i32_w]
                              rfl
                            -- 21: Op.load 22 t68   [guarded: some (16, false)]
                            refine take_ (i := 21) (N := (some 69)) (v := ?_) (a' := ?_) #[true, true, true, true, true, true, true, true, true, true, true, true, true, true, true, true, true, true, true, true, true, true, false, false, false, false] rfl rfl (by kernel_rfl) (fun _ _ _ h => h) (Or.inl ⟨by rfl, ?_⟩) hHeld ?_ ?_
                            rotate_left
                            · rintro w' ⟨s0, s1, s2, s3, s4, s5, s6, s7, s8, s9⟩
                              go_simp
                              with_reducible rfl
                            rotate_left
                            · simp only [Act.put, List.setIfInBounds_toArray, List.set_cons_zero, List.set_cons_succ, i64_w, i32_w]
                              rfl
                            -- 22: Op.fieldAddr 26 t1 2   [guarded: some (16, false)]
                            refine pure_ (i := 22) (N := (some 70)) (v := ?_) (a' := ?_) #[true, true, true, true, true, true, true, true, true, true, true, true, true, true, true, true, true, true, true, true, true, true, true, false, false, false] rfl rfl (by kernel_rfl) (fun _ _ _ h => h) (Or.inl ⟨by rfl, ?_⟩) ?_ ?_
                            rotate_left
                            · intro w'
                              go_simp
                              with_reducible rfl
                            rotate_left
                            · simp only [Act.put, List.setIfInBounds_toArray, List.set_cons_zero, List.set_cons_succ, i64_w, i32_w]
                              rfl
                            -- 23: Op.load 22 t70   [guarded: some (16, false)]
                            refine take_ (i := 23) (N := (some 71)) (v := ?_) (a' := ?_) #[true, true, true, true, true, true, true, true, true, true, true, true, true, true, true, true, true, true, true, true, true, true, true, true, false, false] rfl rfl (by kernel_rfl) (fun _ _ _ h => h) (Or.inl ⟨by rfl, ?_⟩) hHeld ?_ ?_
                            rotate_left
                            · rintro w' ⟨s0, s1, s2, s3, s4, s5, s6, s7, s8, s9⟩
                              go_simp
                              with_reducible rfl
                            rotate_left
                            · simp only [Act.put, List.setIfInBounds_toArray, List.set_cons_zero, List.set_cons_succ, i64_w, i32_w]
                              rfl
                            -- 24: Op.binOp BinOp.gtr 22 t69 t71 22   [guarded: some (16, false)]
                            refine pure_ (i := 24) (N := (some 72)) (v := ?_) (a' := ?_) #[true, true, true, true, true, true, true, true, true, true, true, true, true, true, true, true, true, true, true, true, true, true, true, true, true, false] rfl rfl (by kernel_rfl) (fun _ _ _ h => h) (Or.inl ⟨by rfl, ?_⟩) ?_ ?_
                            rotate_left
                            · intro w'
                              go_simp
                              with_reducible rfl
                            rotate_left
                            · simp only [Act.put, List.setIfInBounds_toArray, List.set_cons_zero, List.set_cons_succ, i64_w, i32_w]
                              rfl
                            -- 25: Op.pick t64 (const (Value.bool true)) t72
                            refine pure_ (i := 25) (N := (some 73)) (v := ?_) (a' := ?_) #[true, true, true, true, true, true, true, true, true, true, true, true, true, true, true, true, true, true, true, true, true, true, true, true, true, true] rfl rfl (by kernel_rfl) (fun _ _ _ h => h) (Or.inl ⟨by rfl, ?_⟩) ?_ ?_
                            rotate_left
                            · intro w'
                              go_simp
                              with_reducible rfl
                            rotate_left
                            · simp only [Act.put, List.setIfInBounds_toArray, List.set_cons_zero, List.set_cons_succ, i64_w, i32_w]
                              rfl
                            refine done_ (by kernel_rfl) ?_
                            go_wp2_with fail
                            go_ret
                            exact ⟨ret_bool (by symm; rw [decide_eq_false_iff_not]; exact BAD.out), below_step HB.out hHeld.1⟩
                          · have d3 : decide (v.seq < m.f6) = false := decide_eq_false hs
                            have OKM := Aside0.mk (show okP v m from ⟨hm, by omega, by omega⟩)
                            clear hn hm hs
                            go_wp2_with fail
                            refine start_ (n := 26) (S := (fun w' => Below wr.heap.size wr w' ∧ w'.cell? (ad.add (k * 7)) = some (.int .u64 m.f0) ∧ w'.cell? ⟨(ad.add (k * 7)).block, (ad.add (k * 7)).off + 1, none⟩ = some (.int .i64 m.f1) ∧ w'.cell? ⟨(ad.add (k * 7)).block, (ad.add (k * 7)).off + 2, none⟩ = some (.int .i64 m.f2) ∧ w'.cell? ⟨(ad.add (k * 7)).block, (ad.add (k * 7)).off + 3, none⟩ = some (.string m.f3) ∧ w'.cell? ⟨(ad.add (k * 7)).block, (ad.add (k * 7)).off + 4, none⟩ = some (.string m.f4) ∧ w'.cell? ⟨(ad.add (k * 7)).block, (ad.add (k * 7)).off + 5, none⟩ = some (.int .u64 m.f5) ∧ w'.cell? ⟨(ad.add (k * 7)).block, (ad.add (k * 7)).off + 6, none⟩ = some (.int .u64 m.f6) ∧ w'.cell? ⟨w.heap.size, 1, none⟩ = some (.int .u64 v.next) ∧ w'.cell? ⟨w.heap.size, 2, none⟩ = some (.int .u64 v.seq))) (ds := []) #[false, false, false, false, false, false, false, false, false, false, false, false, false, false, false, false, false, false, false, false, false, false, false, false, false, false] (by kernel_rfl) rfl rfl ⟨below_drew (Below.refl _ _), ha0, ha1, ha2, ha3, ha4, ha5, ha6, c1, c2⟩ (fun hHeld => ?_)
                            -- 0: Op.move t5
                            refine pure_ (i := 0) (N := (some 48)) (v := ?_) (a' := ?_) #[true, false, false, false, false, false, false, false, false, false, false, false, false, false, false, false, false, false, false, false, false, false, false, false, false, false] rfl rfl (by kernel_rfl) (fun _ _ _ h => h) (Or.inl ⟨by rfl, ?_⟩) ?_ ?_
                            rotate_left
                            · intro w'
                              go_simp
                              with_reducible rfl
                            rotate_left
                            · simp only [Act.put, List.setIfInBounds_toArray, List.set_cons_zero, List.set_cons_succ, i64_w, i32_w]
                              rfl
                            -- 1: Op.move t6
                            refine pure_ (i := 1) (N := (some 49)) (v := ?_) (a' := ?_) #[true, true, false, false, false, false, false, false, false, false, false, false, false, false, false, false, false, false, false, false, false, false, false, false, false, false] rfl rfl (by kernel_rfl) (fun _ _ _ h => h) (Or.inl ⟨by rfl, ?_⟩) ?_ ?_
                            rotate_left
                            · intro w'
                              go_simp
                              with_reducible rfl
                            rotate_left
                            · simp only [Act.put, List.setIfInBounds_toArray, List.set_cons_zero, List.set_cons_succ, i64_w, i32_w]
                              rfl
                            -- 2: Op.indexAddr 23 t48 t49
                            refine pure_ (i := 2) (N := (some 50)) (v := ?_) (a' := ?_) #[true, true, true, false, false, false, false, false, false, false, false, false, false, false, false, false, false, false, false, false, false, false, false, false, false, false] rfl rfl (by kernel_rfl) (fun _ _ _ h => h) (Or.inl ⟨by rfl, ?_⟩) ?_ ?_
                            rotate_left
                            · intro w'
                              go_simp
                              with_reducible rfl
                            rotate_left
                            · simp only [Act.put, List.setIfInBounds_toArray, List.set_cons_zero, List.set_cons_succ, i64_w, i32_w]
                              rfl
                            -- 3: Op.load 58 t50
                            refine take_ (i := 3) (N := (some 51)) (v := ?_) (a' := ?_) #[true, true, true, true, false, false, false, false, false, false, false, false, false, false, false, false, false, false, false, false, false, false, false, false, false, false] rfl rfl (by kernel_rfl) (fun _ _ _ h => h) (Or.inl ⟨by rfl, ?_⟩) hHeld ?_ ?_
                            rotate_left
                            · rintro w' ⟨s0, s1, s2, s3, s4, s5, s6, s7, s8, s9⟩
                              go_simp
                              with_reducible rfl
                            rotate_left
                            · simp only [Act.put, List.setIfInBounds_toArray, List.set_cons_zero, List.set_cons_succ, i64_w, i32_w]
                              rfl
                            -- 4: Op.call { value (Operand.func 120), args := #[t51], argTypes := #[58] }
                            refine one_ (i := 4) (N := (some 52)) #[true, true, true, true, true, false, false, false, false, false, false, false, false, false, false, false, false, false, false, false, false, false, false, false, false, false] rfl rfl (by kernel_rfl) (by decide) (fun K hK => ?_)
                            refine goes_ Try.func120 (by kernel_rfl) rfl #[.agg #[.int .u64 m.f0, .int .i64 m.f1, .int .i64 m.f2, .string m.f3, .string m.f4, .int .u64 m.f5, .int .u64 m.f6]] (by rfl) rfl rfl (by (try simp only [List.map_toArray, List.map_cons, List.map_nil]); first | done | rfl) ?_
                            (with_reducible refine (KM.out _).mono ?_)
                            rintro e w2 ⟨rfl, hb⟩
                            refine ⟨_, rfl, ?_⟩
                            have hOld := hHeld
                            clear hHeld
                            refine hK.out _ _ (held_r hOld hb) (fun hHeld => ?_)
                            clear hOld hK K
                            refine norm_ (a' := ?_) ?_ ?_
                            rotate_left
                            · show Act.put _ (some 52) _ = _
                              simp only [Act.put, List.setIfInBounds_toArray, List.set_cons_zero, List.set_cons_succ, i64_w, i32_w]
                              rfl
                            -- 5: Op.unOp UnOp.not 4 t52
                            refine pure_ (i := 5) (N := (some 53)) (v := ?_) (a' := ?_) #[true, true, true, true, true, true, false, false, false, false, false, false, false, false, false, false, false, false, false, false, false, false, false, false, false, false] rfl rfl (by kernel_rfl) (fun _ _ _ h => h) (Or.inl ⟨by rfl, ?_⟩) ?_ ?_
                            rotate_left
                            · intro w'
                              go_simp
                              with_reducible rfl
                            rotate_left
                            · simp only [Act.put, List.setIfInBounds_toArray, List.set_cons_zero, List.set_cons_succ, i64_w, i32_w]
                              rfl
                            -- 6: Op.move t53
                            refine pure_ (i := 6) (N := (some 54)) (v := ?_) (a' := ?_) #[true, true, true, true, true, true, true, false, false, false, false, false, false, false, false, false, false, false, false, false, false, false, false, false, false, false] rfl rfl (by kernel_rfl) (fun _ _ _ h => h) (Or.inl ⟨by rfl, ?_⟩) ?_ ?_
                            rotate_left
                            · intro w'
                              go_simp
                              with_reducible rfl
                            rotate_left
                            · simp only [Act.put, List.setIfInBounds_toArray, List.set_cons_zero, List.set_cons_succ, i64_w, i32_w]
                              rfl
                            -- 7: Op.move t5   [guarded: some (6, false)]
                            refine pure_ (i := 7) (N := (some 55)) (v := ?_) (a' := ?_) #[true, true, true, true, true, true, true, true, false, false, false, false, false, false, false, false, false, false, false, false, false, false, false, false, false, false] rfl rfl (by kernel_rfl) (fun _ _ _ h => h) (Or.inl ⟨by rfl, ?_⟩) ?_ ?_
                            rotate_left
                            · intro w'
                              go_simp
                              with_reducible rfl
                            rotate_left
                            · simp only [Act.put, List.setIfInBounds_toArray, List.set_cons_zero, List.set_cons_succ, i64_w, i32_w]
                              rfl
                            -- 8: Op.move t6   [guarded: some (6, false)]
                            refine pure_ (i := 8) (N := (some 56)) (v := ?_) (a' := ?_) #[true, true, true, true, true, true, true, true, true, false, false, false, false, false, false, false, false, false, false, false, false, false, false, false, false, false] rfl rfl (by kernel_rfl) (fun _ _ _ h => h) (Or.inl ⟨by rfl, ?_⟩) ?_ ?_
                            rotate_left
                            · intro w'
                              go_simp
                              with_reducible rfl
                            rotate_left
                            · simp only [Act.put, List.setIfInBounds_toArray, List.set_cons_zero, List.set_cons_succ, i64_w, i32_w]
                              rfl
                            -- 9: Op.indexAddr 23 t55 t56   [guarded: some (6, false)]
                            refine pure_ (i := 9) (N := (some 57)) (v := ?_) (a' := ?_) #[true, true, true, true, true, true, true, true, true, true, false, false, false, false, false, false, false, false, false, false, false, false, false, false, false, false] rfl rfl (by kernel_rfl) (fun _ _ _ h => h) (Or.inl ⟨by rfl, ?_⟩) ?_ ?_
                            rotate_left
                            · intro w'
                              go_simp
                              with_reducible rfl
                            rotate_left
                            · simp only [Act.put, List.setIfInBounds_toArray, List.set_cons_zero, List.set_cons_succ, i64_w, i32_w]
                              rfl
                            -- 10: Op.fieldAddr 58 t57 0   [guarded: some (6, false)]
                            refine pure_ (i := 10) (N := (some 58)) (v := ?_) (a' := ?_) #[true, true, true, true, true, true, true, true, true, true, true, false, false, false, false, false, false, false, false, false, false, false, false, false, false, false] rfl rfl (by kernel_rfl) (fun _ _ _ h => h) (Or.inl ⟨by rfl, ?_⟩) ?_ ?_
                            rotate_left
                            · intro w'
                              go_simp
                              with_reducible rfl
                            rotate_left
                            · simp only [Act.put, List.setIfInBounds_toArray, List.set_cons_zero, List.set_cons_succ, i64_w, i32_w]
                              rfl
                            -- 11: Op.load 22 t58   [guarded: some (6, false)]
                            refine take_ (i := 11) (N := (some 59)) (v := ?_) (a' := ?_) #[true, true, true, true, true, true, true, true, true, true, true, true, false, false, false, false, false, false, false, false, false, false, false, false, false, false] rfl rfl (by kernel_rfl) (fun _ _ _ h => h) (Or.inl ⟨by rfl, ?_⟩) hHeld ?_ ?_
                            rotate_left
                            · rintro w' ⟨s0, s1, s2, s3, s4, s5, s6, s7, s8, s9⟩
                              go_simp
                              with_reducible rfl
                            rotate_left
                            · simp only [Act.put, List.setIfInBounds_toArray, List.set_cons_zero, List.set_cons_succ, i64_w, i32_w]
                              rfl
                            -- 12: Op.fieldAddr 26 t1 1   [guarded: some (6, false)]
                            refine pure_ (i := 12) (N := (some 60)) (v := ?_) (a' := ?_) #[true, true, true, true, true, true, true, true, true, true, true, true, true, false, false, false, false, false, false, false, false, false, false, false, false, false] rfl rfl (by kernel_rfl) (fun _ _ _ h => h) (Or.inl ⟨by rfl, ?_⟩) ?_ ?_
                            rotate_left
                            · intro w'
                              go_simp
                              with_reducible rfl
                            rotate_left
                            · simp only [Act.put, List.setIfInBounds_toArray, List.set_cons_zero, List.set_cons_succ, i64_w, i32_w]
                              rfl
                            -- 13: Op.load 22 t60   [guarded: some (6, false)]
                            refine take_ (i := 13) (N := (some 61)) (v := ?_) (a' := ?_) #[true, true, true, true, true, true, true, true, true, true, true, true, true, true, false, false, false, false, false, false, false, false, false, false, false, false] rfl rfl (by kernel_rfl) (fun _ _ _ h => h) (Or.inl ⟨by rfl, ?_⟩) hHeld ?_ ?_
                            rotate_left
                            · rintro w' ⟨s0, s1, s2, s3, s4, s5, s6, s7, s8, s9⟩
                              go_simp
                              with_reducible rfl
                            rotate_left
                            · simp only [Act.put, List.setIfInBounds_toArray, List.set_cons_zero, List.set_cons_succ, i64_w, i32_w]
                              rfl
                            -- 14: Op.binOp BinOp.geq 22 t59 t61 22   [guarded: some (6, false)]
                            refine pure_ (i := 14) (N := (some 62)) (v := ?_) (a' := ?_) #[true, true, true, true, true, true, true, true, true, true, true, true, true, true, true, false, false, false, false, false, false, false, false, false, false, false] rfl rfl (by kernel_rfl) (fun _ _ _ h => h) (Or.inl ⟨by rfl, ?_⟩) ?_ ?_
                            rotate_left
                            · intro w'
                              go_simp
                              with_reducible rfl
                            rotate_left
                            · simp only [Act.put, List.setIfInBounds_toArray, List.set_cons_zero, List.set_cons_succ, i64_w, i32_w]
                              rfl
                            -- 15: Op.pick t54 (const (Value.bool true)) t62
                            refine pure_ (i := 15) (N := (some 63)) (v := ?_) (a' := ?_) #[true, true, true, true, true, true, true, true, true, true, true, true, true, true, true, true, false, false, false, false, false, false, false, false, false, false] rfl rfl (by kernel_rfl) (fun _ _ _ h => h) (Or.inl ⟨by rfl, ?_⟩) ?_ ?_
                            rotate_left
                            · intro w'
                              go_simp
                              with_reducible rfl
                            rotate_left
                            · simp only [Act.put, List.setIfInBounds_toArray, List.set_cons_zero, List.set_cons_succ, i64_w, i32_w]
                              rfl
                            -- 16: Op.move t63
                            refine pure_ (i := 16) (N := (some 64)) (v := ?_) (a' := ?_) #[true, true, true, true, true, true, true, true, true, true, true, true, true, true, true, true, true, false, false, false, false, false, false, false, false, false] rfl rfl (by kernel_rfl) (fun _ _ _ h => h) (Or.inl ⟨by rfl, ?_⟩) ?_ ?_
                            rotate_left
                            · intro w'
                              go_simp
                              with_reducible rfl
                            rotate_left
                            · simp only [Act.put, List.setIfInBounds_toArray, List.set_cons_zero, List.set_cons_succ, i64_w, i32_w]
                              rfl
                            -- 17: Op.move t5   [guarded: some (16, false)]
                            refine pure_ (i := 17) (N := (some 65)) (v := ?_) (a' := ?_) #[true, true, true, true, true, true, true, true, true, true, true, true, true, true, true, true, true, true, false, false, false, false, false, false, false, false] rfl rfl (by kernel_rfl) (fun _ _ _ h => h) (Or.inl ⟨by rfl, ?_⟩) ?_ ?_
                            rotate_left
                            · intro w'
                              go_simp
                              with_reducible rfl
                            rotate_left
                            · simp only [Act.put, List.setIfInBounds_toArray, List.set_cons_zero, List.set_cons_succ, i64_w, i32_w]
                              rfl
                            -- 18: Op.move t6   [guarded: some (16, false)]
                            refine pure_ (i := 18) (N := (some 66)) (v := ?_) (a' := ?_) #[true, true, true, true, true, true, true, true, true, true, true, true, true, true, true, true, true, true, true, false, false, false, false, false, false, false] rfl rfl (by kernel_rfl) (fun _ _ _ h => h) (Or.inl ⟨by rfl, ?_⟩) ?_ ?_
                            rotate_left
                            · intro w'
                              go_simp
                              with_reducible rfl
                            rotate_left
                            · simp only [Act.put, List.setIfInBounds_toArray, List.set_cons_zero, List.set_cons_succ, i64_w, i32_w]
                              rfl
                            -- 19: Op.indexAddr 23 t65 t66   [guarded: some (16, false)]
                            refine pure_ (i := 19) (N := (some 67)) (v := ?_) (a' := ?_) #[true, true, true, true, true, true, true, true, true, true, true, true, true, true, true, true, true, true, true, true, false, false, false, false, false, false] rfl rfl (by kernel_rfl) (fun _ _ _ h => h) (Or.inl ⟨by rfl, ?_⟩) ?_ ?_
                            rotate_left
                            · intro w'
                              go_simp
                              with_reducible rfl
                            rotate_left
                            · simp only [Act.put, List.setIfInBounds_toArray, List.set_cons_zero, List.set_cons_succ, i64_w, i32_w]
                              rfl
                            -- 20: Op.fieldAddr 58 t67 6   [guarded: some (16, false)]
                            refine pure_ (i := 20) (N := (some 68)) (v := ?_) (a' := ?_) #[true, true, true, true, true, true, true, true, true, true, true, true, true, true, true, true, true, true, true, true, true, false, false, false, false, false] rfl rfl (by kernel_rfl) (fun _ _ _ h => h) (Or.inl ⟨by rfl, ?_⟩) ?_ ?_
                            rotate_left
                            · intro w'
                              go_simp
                              with_reducible rfl
                            rotate_left
                            · simp only [Act.put, List.setIfInBounds_toArray, List.set_cons_zero, List.set_cons_succ, i64_w, i32_w]
                              rfl
                            -- 21: Op.load 22 t68   [guarded: some (16, false)]
                            refine take_ (i := 21) (N := (some 69)) (v := ?_) (a' := ?_) #[true, true, true, true, true, true, true, true, true, true, true, true, true, true, true, true, true, true, true, true, true, true, false, false, false, false] rfl rfl (by kernel_rfl) (fun _ _ _ h => h) (Or.inl ⟨by rfl, ?_⟩) hHeld ?_ ?_
                            rotate_left
                            · rintro w' ⟨s0, s1, s2, s3, s4, s5, s6, s7, s8, s9⟩
                              go_simp
                              with_reducible rfl
                            rotate_left
                            · simp only [Act.put, List.setIfInBounds_toArray, List.set_cons_zero, List.set_cons_succ, i64_w, i32_w]
                              rfl
                            -- 22: Op.fieldAddr 26 t1 2   [guarded: some (16, false)]
                            refine pure_ (i := 22) (N := (some 70)) (v := ?_) (a' := ?_) #[true, true, true, true, true, true, true, true, true, true, true, true, true, true, true, true, true, true, true, true, true, true, true, false, false, false] rfl rfl (by kernel_rfl) (fun _ _ _ h => h) (Or.inl ⟨by rfl, ?_⟩) ?_ ?_
                            rotate_left
                            · intro w'
                              go_simp
                              with_reducible rfl
                            rotate_left
                            · simp only [Act.put, List.setIfInBounds_toArray, List.set_cons_zero, List.set_cons_succ, i64_w, i32_w]
                              rfl
                            -- 23: Op.load 22 t70   [guarded: some (16, false)]
                            refine take_ (i := 23) (N := (some 71)) (v := ?_) (a' := ?_) #[true, true, true, true, true, true, true, true, true, true, true, true, true, true, true, true, true, true, true, true, true, true, true, true, false, false] rfl rfl (by kernel_rfl) (fun _ _ _ h => h) (Or.inl ⟨by rfl, ?_⟩) hHeld ?_ ?_
                            rotate_left
                            · rintro w' ⟨s0, s1, s2, s3, s4, s5, s6, s7, s8, s9⟩
                              go_simp
                              with_reducible rfl
                            rotate_left
                            · simp only [Act.put, List.setIfInBounds_toArray, List.set_cons_zero, List.set_cons_succ, i64_w, i32_w]
                              rfl
                            -- 24: Op.binOp BinOp.gtr 22 t69 t71 22   [guarded: some (16, false)]
                            refine pure_ (i := 24) (N := (some 72)) (v := ?_) (a' := ?_) #[true, true, true, true, true, true, true, true, true, true, true, true, true, true, true, true, true, true, true, true, true, true, true, true, true, false] rfl rfl (by kernel_rfl) (fun _ _ _ h => h) (Or.inl ⟨by rfl, ?_⟩) ?_ ?_
                            rotate_left
                            · intro w'
                              go_simp
                              with_reducible rfl
                            rotate_left
                            · simp only [Act.put, List.setIfInBounds_toArray, List.set_cons_zero, List.set_cons_succ, i64_w, i32_w]
                              rfl
                            -- 25: Op.pick t64 (const (Value.bool true)) t72
                            refine pure_ (i := 25) (N := (some 73)) (v := ?_) (a' := ?_) #[true, true, true, true, true, true, true, true, true, true, true, true, true, true, true, true, true, true, true, true, true, true, true, true, true, true] rfl rfl (by kernel_rfl) (fun _ _ _ h => h) (Or.inl ⟨by rfl, ?_⟩) ?_ ?_
                            rotate_left
                            · intro w'
                              go_simp
                              with_reducible rfl
                            rotate_left
                            · simp only [Act.put, List.setIfInBounds_toArray, List.set_cons_zero, List.set_cons_succ, i64_w, i32_w]
                              rfl
                            refine done_ (by kernel_rfl) ?_
                            have hb13 := hHeld.1
                            clear hHeld c1 c2 d2 d3 KM ha0 ha1 ha2 ha3 ha4 ha5 ha6
                            have RS13 := Aside0.mk (Kd.R_below RS.out hb13)
                            have HB13 := Aside0.mk (below_step HB.out hb13)
                            have BX13 := Aside0.mk (blk_below BX.out hb13)
                            obtain ⟨L, hL⟩ : ∃ L, L = catV v i ++ l.take k := ⟨_, rfl⟩
                            have LEQ := Aside0.mk hL
                            rw [← hL] at RS13 PC ⊢
                            obtain ⟨N, hN⟩ : ∃ N, N = nums L := ⟨_, rfl⟩
                            have NEQ := Aside0.mk hN
                            rw [← hN] at RS13 ⊢
                            have LLEN := Aside0.mk (show N.length ≤ 1000 by
                              rw [hN, hL, nums, List.length_map, List.length_append, List.length_take]
                              have h1 := catV_len (v := v) (i := i) (fun j hj => H64.out j hj)
                              have h2 := L64.out
                              have h3 := HI.out
                              omega)
                            clear hL hN RS HB BX hb13
                            rename World => w13
                            go_wp2_with fail
                            go_loopg [7] N.length (fun kq v7 w' => ∃ j : Nat, v7 = .int .i64 (j : Int) ∧ Aside0 (kq + j = N.length) ∧ Aside0 (Below w13.heap.size w13 w') ∧ Aside0 (∀ j', j' < j → ¬ N.getD j' 0 = m.f0))
                            case atStart => exact ⟨0, rfl, ⟨by omega⟩, ⟨Below.refl _ _⟩, ⟨fun j' hj => by omega⟩⟩
                            case round =>
                              obtain ⟨j, rfl, HJ, HBJ, HNE⟩ := hrel
                              have RSJ := Aside0.mk (Kd.R_below RS13.out HBJ.out)
                              have CLJ := Aside0.mk (Kd.C_below (Kd.C_below HX.out HB13.out) HBJ.out)
                              obtain ⟨ad', ea', ha0, ha1, ha2, ha3, ha4, ha5, ha6⟩ := at_T58 CLJ.out (k : Int) p0 p1
                              obtain rfl : ad = ad' := by rw [HAX.out] at ea'; cases ea'; rfl
                              rw [show (k : Int).toNat = k from by omega] at ha0 ha1 ha2 ha3 ha4 ha5 ha6
                              rw [show rd_T58 l (k : Int) = m from (by rw [EB.out]; unfold rd_T58; rw [Int.toNat_natCast])] at ha0 ha1 ha2 ha3 ha4 ha5 ha6
                              clear ea'
                              cases gk with
                              | zero =>
                                have ej : j = N.length := by have := HJ.out; omega
                                subst ej
                                have d0 : decide ((N.length : Int) < (N.length : Int)) = false := by simp
                                have NIN := Aside0.mk (show m.f0 ∉ nums L from fun h => by
                                  rw [← NEQ.out] at h
                                  obtain ⟨x, hx, hx2⟩ := List.getElem_of_mem h
                                  exact HNE.out x hx (by rw [List.getD_eq_getElem?_getD, List.getElem?_eq_getElem hx]; exact hx2))
                                go_wp2_with (first | ((with_reducible refine gate_builtin (b := .append) (xs := #[.tmp 90, .tmp 96]) rfl ?_); at_builtin; refine Kd.R_append (Kd.int .u64) (w0 := w) w.heap.size rfl (.tmp 90) (.tmp 96) 137 22 (.int .u64 0) 8 rfl Try.underlying137 info22 rfl (show 0 < 1 by decide) (show 0 < 8 by decide) (.slice B N.length cb) N m.f0 [.int .u64 m.f0] (fun _ => True) (fun _ => False) rfl rfl ?aP (fun _ hk => hk.elim) ?aF ?aO ?aB ?aS ?aL ?_; (case aP => exact rfl); (case aB => exact below_step HB13.out HBJ.out); (case aF => exact (fun _ _ => trivial)); (case aO => exact RSJ.out); (case aS => exact (below_step HB13.out HBJ.out).size); (case aL => (have h1 := LLEN.out; omega)); intro va wa ho hb hg hat; have HBa := Aside0.mk hb; obtain ⟨B', cb', hv⟩ := Kd.R_slice ho; subst hv; have HRa := Aside0.mk ho; have BXa := Aside0.mk (blk_grown (blk_below BX13.out HBJ.out) hg (Kd.R_ne RSJ.out (blk_below BX13.out HBJ.out) (by decide))); clear ho hb hg hat) | fail)
                                clear ha0 ha1 ha2 ha3 ha4 ha5 ha6 d0 RSJ CLJ HJ HNE
                                have PC2 := Aside0.mk (PP.snoc PC.out NIN.out OKM.out)
                                have LE2 := Aside0.mk (show L ++ [m] = catV v i ++ l.take (k + 1) by rw [take_snoc l z58 HK1.out, ← List.append_assoc, ← LEQ.out, ← EB.out])
                                have NE2 := Aside0.mk (show N ++ [m.f0] = nums (catV v i ++ l.take (k + 1)) by rw [← LE2.out, NEQ.out]; simp [nums])
                                rw [LE2.out] at PC2
                                rw [NE2.out] at HRa
                                have CLa := Aside0.mk (Kd.C_below HX.out HBa.out)
                                obtain ⟨ad', ea', ha0, ha1, ha2, ha3, ha4, ha5, ha6⟩ := at_T58 CLa.out (k : Int) p0 p1
                                obtain rfl : ad = ad' := by rw [HAX.out] at ea'; cases ea'; rfl
                                rw [show (k : Int).toNat = k from by omega] at ha0 ha1 ha2 ha3 ha4 ha5 ha6
                                rw [show rd_T58 l (k : Int) = m from (by rw [EB.out]; unfold rd_T58; rw [Int.toNat_natCast])] at ha0 ha1 ha2 ha3 ha4 ha5 ha6
                                clear ea'
                                have ewk : wrap64 ((k : Int) + 1) = ((k + 1 : Nat) : Int) := by have h1 := L64.out; have h2 := HK1.out; unfold wrap64; omega
                                have LLa := Aside0.mk (show (N ++ [m.f0]).length = (nums (catV v i ++ l.take (k + 1))).length by rw [NE2.out])
                                rcases Nat.eq_zero_or_pos k with hk0 | hkp
                                · have u0 : decide (0 < (k : Int)) = false := decide_eq_false (by omega)
                                  have u1 : decide (0 < k) = false := decide_eq_false (by omega)
                                  have KZ := Aside0.mk hk0
                                  clear hk0
                                  go_quiet (fail)
                                  go_wp2_with fail
                                  try rw [ewk]
                                  rw [← HAX.out]
                                  go_roundg g
                                  case measure => omega
                                  case rel => exact ⟨k + 1, B', cb', by rw [← NE2.out, List.length_append]; rfl, rfl, ⟨by have := HKK.out; omega⟩, ⟨pw_below_drewN HBa.out nq⟩, ⟨blk_drewN BXa.out nq⟩, ⟨Kd.R_drewN HRa.out nq⟩, PC2, ⟨fun k' hk' => by have := KZ.out; omega⟩⟩
                                · have u0 : decide (0 < (k : Int)) = true := decide_eq_true (by omega)
                                  have u1 : decide (0 < k) = true := decide_eq_true (by omega)
                                  have KP := Aside0.mk hkp
                                  obtain ⟨y, hy⟩ : ∃ y : Int, y = (k : Int) - 1 := ⟨_, rfl⟩
                                  have q0 : 0 ≤ y := by omega
                                  have q1 : y < (l.length : Int) := by omega
                                  obtain ⟨ad', ea', hb0, hb1, hb2, hb3, hb4, hb5, hb6⟩ := at_T58 CLa.out y q0 q1
                                  obtain rfl : ad = ad' := by rw [HAX.out] at ea'; cases ea'; rfl
                                  have EY := Aside0.mk (show rd_T58 l y = l.getD (k - 1) z58 by unfold rd_T58; rw [hy]; congr 1; omega)
                                  generalize rd_T58 l y = a at *
                                  have ew : IntKind.i64.wrap ((k : Int) - 1) = y := by have h1 := L64.out; have h2 := HK1.out; rw [IntKind.wrap_i64]; omega
                                  have ew2 : wrap64 ((k : Int) - 1) = y := by have h1 := L64.out; have h2 := HK1.out; unfold wrap64; omega
                                  clear ea' hy hkp
                                  have GAPN := Aside0.mk (show rightP v → gapP i a m from fun h => by
                                    have h1 := h.2.2 i HI.out (k - 1) (by rw [← LE.out]; have := HK1.out; have := KP.out; omega)
                                    rw [← LE.out, ← EY.out, show k - 1 + 1 = k by have := KP.out; omega, ← EB.out] at h1
                                    exact h1)
                                  have NEQ1 := Aside0.mk (show ¬ a.f0 = m.f0 from fun h => by
                                    refine NIN.out ?_
                                    rw [LEQ.out, ← h, EY.out, nums, List.map_append]
                                    refine List.mem_append_right _ (List.mem_map.mpr ⟨_, ?_, rfl⟩)
                                    have hk1 : k - 1 < l.length := by have := HK1.out; omega
                                    rw [List.getD_eq_getElem?_getD, List.getElem?_eq_getElem hk1]
                                    exact List.mem_iff_getElem?.mpr ⟨k - 1, by rw [List.getElem?_take_of_lt (by have := KP.out; omega), List.getElem?_eq_getElem hk1]; rfl⟩)
                                  have GROW := Aside0.mk (show gapP i a m → ∀ k', k' + 1 < k + 1 → gapP i (l.getD k' z58) (l.getD (k' + 1) z58) from fun h k' hk' => by
                                    by_cases e : k' + 1 = k
                                    · rw [e, show k' = k - 1 by omega, ← EY.out, ← EB.out]; exact h
                                    · exact HG.out k' (by omega))
                                  by_cases hi0 : i = 0
                                  · have t0 : ((i : Int) == 0) = true := by rw [hi0]; rfl
                                    have t1 : decide (0 < (i : Int)) = false := decide_eq_false (by omega)
                                    have t3 : decide (0 < i) = false := decide_eq_false (by omega)
                                    have t4 : (i == 0) = true := by rw [hi0]; rfl
                                    by_cases hc : m.f0 < a.f0
                                    · have t2 : decide (m.f0 < a.f0) = true := decide_eq_true hc
                                      have BAD := Aside0.mk (show ¬ rightP v from fun h => by have h1 := GAPN.out h; unfold gapP at h1; rw [if_pos hi0] at h1; omega)
                                      clear hc hi0
                                      go_quiet (fail)
                                      go_wp2_with fail
                                      go_ret
                                      exact ⟨ret_bool (by symm; rw [decide_eq_false_iff_not]; exact BAD.out), pw_below_drewN HBa.out nq⟩
                                    · have t2 : decide (m.f0 < a.f0) = false := decide_eq_false hc
                                      have GG := Aside0.mk (GROW.out (by unfold gapP; rw [if_pos hi0]; have := NEQ1.out; omega))
                                      clear hc hi0
                                      go_quiet (fail)
                                      go_wp2_with fail
                                      try rw [ewk]
                                      rw [← HAX.out]
                                      go_roundg g
                                      case measure => omega
                                      case rel => exact ⟨k + 1, B', cb', by rw [← NE2.out, List.length_append]; rfl, rfl, ⟨by have := HKK.out; omega⟩, ⟨pw_below_drewN HBa.out nq⟩, ⟨blk_drewN BXa.out nq⟩, ⟨Kd.R_drewN HRa.out nq⟩, PC2, GG⟩
                                  · have t0 : ((i : Int) == 0) = false := by rw [beq_eq_false_iff_ne]; omega
                                    have t1 : decide (0 < (i : Int)) = true := decide_eq_true (by omega)
                                    have t3 : decide (0 < i) = true := decide_eq_true (by omega)
                                    have t4 : (i == 0) = false := by rw [beq_eq_false_iff_ne]; omega
                                    by_cases hc : Op.bytesLess a.f4.toList m.f3.toList = true
                                    · have GG := Aside0.mk (GROW.out (by unfold gapP; rw [if_neg hi0]; exact hc))
                                      clear hi0
                                      go_quiet (fail)
                                      go_wp2_with fail
                                      try rw [ewk]
                                      rw [← HAX.out]
                                      go_roundg g
                                      case measure => omega
                                      case rel => exact ⟨k + 1, B', cb', by rw [← NE2.out, List.length_append]; rfl, rfl, ⟨by have := HKK.out; omega⟩, ⟨pw_below_drewN HBa.out nq⟩, ⟨blk_drewN BXa.out nq⟩, ⟨Kd.R_drewN HRa.out nq⟩, PC2, GG⟩
                                    · have BAD := Aside0.mk (show ¬ rightP v from fun h => by have h1 := GAPN.out h; unfold gapP at h1; rw [if_neg hi0] at h1; exact hc h1)
                                      have t2 : Op.bytesLess a.f4.toList m.f3.toList = false := eq_false_of_ne_true hc
                                      clear hc hi0
                                      go_quiet (fail)
                                      go_wp2_with fail
                                      go_ret
                                      exact ⟨ret_bool (by symm; rw [decide_eq_false_iff_not]; exact BAD.out), pw_below_drewN HBa.out nq⟩
                              | succ qj =>
                                have hj : j < N.length := by have := HJ.out; omega
                                have HJL := Aside0.mk hj
                                have d0 : decide ((j : Int) < (N.length : Int)) = true := decide_eq_true (by omega)
                                have d9 : decide (j < N.length) = true := decide_eq_true hj
                                have j0 : 0 ≤ (j : Int) := Int.natCast_nonneg _
                                have j1 : (j : Int) < (N.length : Int) := by omega
                                obtain ⟨aj, ej, hj0⟩ := Kd.at_int (Kd.R_reads' RSJ.out).2.2 (j : Int) j0 j1
                                rw [Int.toNat_natCast] at hj0
                                subst ej
                                have EJ := Aside0.mk (show rd N (j : Int) = N.getD j 0 by unfold rd; rw [Int.toNat_natCast])
                                generalize rd N (j : Int) = nj at *
                                have ew : wrap64 ((j : Int) + 1) = ((j + 1 : Nat) : Int) := by have h1 := LLEN.out; unfold wrap64; omega
                                clear hj
                                by_cases he : nj = m.f0
                                · have e0 : (nj == m.f0) = true := beq_iff_eq.mpr he
                                  have BAD := Aside0.mk (show ¬ rightP v from fun h => by
                                    have h1 := tabP_pre h.2.1 HI.out (k + 1)
                                    rw [← LE.out, take_snoc l z58 HK1.out, ← List.append_assoc, ← LEQ.out, ← EB.out] at h1
                                    refine h1.last.1 ?_
                                    rw [← NEQ.out, ← he, EJ.out]
                                    exact getD_mem N 0 HJL.out)
                                  clear he
                                  go_wp2_with fail
                                  go_quiet (fail)
                                  go_wp2_with fail
                                  go_ret
                                  exact ⟨ret_bool (by symm; rw [decide_eq_false_iff_not]; exact BAD.out), pw_below_drewN (below_step HB13.out HBJ.out) nq⟩
                                · have e0 : (nj == m.f0) = false := beq_eq_false_iff_ne.mpr he
                                  have HNJ := Aside0.mk (show ¬ N.getD j 0 = m.f0 by rw [← EJ.out]; exact he)
                                  clear he
                                  go_wp2_with fail
                                  go_quiet (fail)
                                  go_wp2_with fail
                                  try rw [ew]
                                  go_roundg qj
                                  case measure => omega
                                  case rel => exact ⟨j + 1, rfl, ⟨by have := HJ.out; omega⟩, ⟨pw_below_drewN HBJ.out nq⟩, ⟨fun j' hj' => by
                                    by_cases e : j' = j
                                    · subst e; exact HNJ.out
                                    · exact HNE.out j' (by omega)⟩⟩
                      · rw [decide_eq_false hm] at KM
                        have BAD := Aside0.mk (show ¬ rightP v from fun h => hm (OKF.out h).1)
                        clear hm
                        go_wp2_with fail
                        refine start_ (n := 26) (S := (fun w' => Below wr.heap.size wr w' ∧ w'.cell? (ad.add (k * 7)) = some (.int .u64 m.f0) ∧ w'.cell? ⟨(ad.add (k * 7)).block, (ad.add (k * 7)).off + 1, none⟩ = some (.int .i64 m.f1) ∧ w'.cell? ⟨(ad.add (k * 7)).block, (ad.add (k * 7)).off + 2, none⟩ = some (.int .i64 m.f2) ∧ w'.cell? ⟨(ad.add (k * 7)).block, (ad.add (k * 7)).off + 3, none⟩ = some (.string m.f3) ∧ w'.cell? ⟨(ad.add (k * 7)).block, (ad.add (k * 7)).off + 4, none⟩ = some (.string m.f4) ∧ w'.cell? ⟨(ad.add (k * 7)).block, (ad.add (k * 7)).off + 5, none⟩ = some (.int .u64 m.f5) ∧ w'.cell? ⟨(ad.add (k * 7)).block, (ad.add (k * 7)).off + 6, none⟩ = some (.int .u64 m.f6) ∧ w'.cell? ⟨w.heap.size, 1, none⟩ = some (.int .u64 v.next) ∧ w'.cell? ⟨w.heap.size, 2, none⟩ = some (.int .u64 v.seq))) (ds := []) #[false, false, false, false, false, false, false, false, false, false, false, false, false, false, false, false, false, false, false, false, false, false, false, false, false, false] (by kernel_rfl) rfl rfl ⟨below_drew (Below.refl _ _), ha0, ha1, ha2, ha3, ha4, ha5, ha6, c1, c2⟩ (fun hHeld => ?_)
                        -- 0: Op.move t5
                        refine pure_ (i := 0) (N := (some 48)) (v := ?_) (a' := ?_) #[true, false, false, false, false, false, false, false, false, false, false, false, false, false, false, false, false, false, false, false, false, false, false, false, false, false] rfl rfl (by kernel_rfl) (fun _ _ _ h => h) (Or.inl ⟨by rfl, ?_⟩) ?_ ?_
                        rotate_left
                        · intro w'
                          go_simp
                          with_reducible rfl
                        rotate_left
                        · simp only [Act.put, List.setIfInBounds_toArray, List.set_cons_zero, List.set_cons_succ, i64_w, i32_w]
                          rfl
                        -- 1: Op.move t6
                        refine pure_ (i := 1) (N := (some 49)) (v := ?_) (a' := ?_) #[true, true, false, false, false, false, false, false, false, false, false, false, false, false, false, false, false, false, false, false, false, false, false, false, false, false] rfl rfl (by kernel_rfl) (fun _ _ _ h => h) (Or.inl ⟨by rfl, ?_⟩) ?_ ?_
                        rotate_left
                        · intro w'
                          go_simp
                          with_reducible rfl
                        rotate_left
                        · simp only [Act.put, List.setIfInBounds_toArray, List.set_cons_zero, List.set_cons_succ, i64_w, i32_w]
                          rfl
                        -- 2: Op.indexAddr 23 t48 t49
                        refine pure_ (i := 2) (N := (some 50)) (v := ?_) (a' := ?_) #[true, true, true, false, false, false, false, false, false, false, false, false, false, false, false, false, false, false, false, false, false, false, false, false, false, false] rfl rfl (by kernel_rfl) (fun _ _ _ h => h) (Or.inl ⟨by rfl, ?_⟩) ?_ ?_
                        rotate_left
                        · intro w'
                          go_simp
                          with_reducible rfl
                        rotate_left
                        · simp only [Act.put, List.setIfInBounds_toArray, List.set_cons_zero, List.set_cons_succ, i64_w, i32_w]
                          rfl
                        -- 3: Op.load 58 t50
                        refine take_ (i := 3) (N := (some 51)) (v := ?_) (a' := ?_) #[true, true, true, true, false, false, false, false, false, false, false, false, false, false, false, false, false, false, false, false, false, false, false, false, false, false] rfl rfl (by kernel_rfl) (fun _ _ _ h => h) (Or.inl ⟨by rfl, ?_⟩) hHeld ?_ ?_
                        rotate_left
                        · rintro w' ⟨s0, s1, s2, s3, s4, s5, s6, s7, s8, s9⟩
                          go_simp
                          with_reducible rfl
                        rotate_left
                        · simp only [Act.put, List.setIfInBounds_toArray, List.set_cons_zero, List.set_cons_succ, i64_w, i32_w]
                          rfl
                        -- 4: Op.call { value (Operand.func 120), args := #[t51], argTypes := #[58] }
                        refine one_ (i := 4) (N := (some 52)) #[true, true, true, true, true, false, false, false, false, false, false, false, false, false, false, false, false, false, false, false, false, false, false, false, false, false] rfl rfl (by kernel_rfl) (by decide) (fun K hK => ?_)
                        refine goes_ Try.func120 (by kernel_rfl) rfl #[.agg #[.int .u64 m.f0, .int .i64 m.f1, .int .i64 m.f2, .string m.f3, .string m.f4, .int .u64 m.f5, .int .u64 m.f6]] (by rfl) rfl rfl (by (try simp only [List.map_toArray, List.map_cons, List.map_nil]); first | done | rfl) ?_
                        (with_reducible refine (KM.out _).mono ?_)
                        rintro e w2 ⟨rfl, hb⟩
                        refine ⟨_, rfl, ?_⟩
                        have hOld := hHeld
                        clear hHeld
                        refine hK.out _ _ (held_r hOld hb) (fun hHeld => ?_)
                        clear hOld hK K
                        refine norm_ (a' := ?_) ?_ ?_
                        rotate_left
                        · show Act.put _ (some 52) _ = _
                          simp only [Act.put, List.setIfInBounds_toArray, List.set_cons_zero, List.set_cons_succ, i64_w, i32_w]
                          rfl
                        -- 5: Op.unOp UnOp.not 4 t52
                        refine pure_ (i := 5) (N := (some 53)) (v := ?_) (a' := ?_) #[true, true, true, true, true, true, false, false, false, false, false, false, false, false, false, false, false, false, false, false, false, false, false, false, false, false] rfl rfl (by kernel_rfl) (fun _ _ _ h => h) (Or.inl ⟨by rfl, ?_⟩) ?_ ?_
                        rotate_left
                        · intro w'
                          go_simp
                          with_reducible rfl
                        rotate_left
                        · simp only [Act.put, List.setIfInBounds_toArray, List.set_cons_zero, List.set_cons_succ, i64_w, i32_w]
                          rfl
                        -- 6: Op.move t53
                        refine pure_ (i := 6) (N := (some 54)) (v := ?_) (a' := ?_) #[true, true, true, true, true, true, true, false, false, false, false, false, false, false, false, false, false, false, false, false, false, false, false, false, false, false] rfl rfl (by kernel_rfl) (fun _ _ _ h => h) (Or.inl ⟨by rfl, ?_⟩) ?_ ?_
                        rotate_left
                        · intro w'
                          go_simp
                          with_reducible rfl
                        rotate_left
                        · simp only [Act.put, List.setIfInBounds_toArray, List.set_cons_zero, List.set_cons_succ, i64_w, i32_w]
                          rfl
                        -- 7: Op.move t5   [guarded: some (6, false)]
                        refine pure_ (i := 7) (N := (some 55)) (v := undef) (a' := ?_) #[true, true, true, true, true, true, true, true, false, false, false, false, false, false, false, false, false, false, false, false, false, false, false, false, false, false] rfl rfl (by kernel_rfl) (fun _ _ _ h => h) (Or.inr ⟨by rfl, rfl⟩) ?_ ?_
                        rotate_left
                        · simp only [Act.put, List.setIfInBounds_toArray, List.set_cons_zero, List.set_cons_succ, i64_w, i32_w]
                          rfl
                        -- 8: Op.move t6   [guarded: some (6, false)]
                        refine pure_ (i := 8) (N := (some 56)) (v := undef) (a' := ?_) #[true, true, true, true, true, true, true, true, true, false, false, false, false, false, false, false, false, false, false, false, false, false, false, false, false, false] rfl rfl (by kernel_rfl) (fun _ _ _ h => h) (Or.inr ⟨by rfl, rfl⟩) ?_ ?_
                        rotate_left
                        · simp only [Act.put, List.setIfInBounds_toArray, List.set_cons_zero, List.set_cons_succ, i64_w, i32_w]
                          rfl
                        -- 9: Op.indexAddr 23 t55 t56   [guarded: some (6, false)]
                        refine pure_ (i := 9) (N := (some 57)) (v := undef) (a' := ?_) #[true, true, true, true, true, true, true, true, true, true, false, false, false, false, false, false, false, false, false, false, false, false, false, false, false, false] rfl rfl (by kernel_rfl) (fun _ _ _ h => h) (Or.inr ⟨by rfl, rfl⟩) ?_ ?_
                        rotate_left
                        · simp only [Act.put, List.setIfInBounds_toArray, List.set_cons_zero, List.set_cons_succ, i64_w, i32_w]
                          rfl
                        -- 10: Op.fieldAddr 58 t57 0   [guarded: some (6, false)]
                        refine pure_ (i := 10) (N := (some 58)) (v := undef) (a' := ?_) #[true, true, true, true, true, true, true, true, true, true, true, false, false, false, false, false, false, false, false, false, false, false, false, false, false, false] rfl rfl (by kernel_rfl) (fun _ _ _ h => h) (Or.inr ⟨by rfl, rfl⟩) ?_ ?_
                        rotate_left
                        · simp only [Act.put, List.setIfInBounds_toArray, List.set_cons_zero, List.set_cons_succ, i64_w, i32_w]
                          rfl
                        -- 11: Op.load 22 t58   [guarded: some (6, false)]
                        refine take_ (i := 11) (N := (some 59)) (v := undef) (a' := ?_) #[true, true, true, true, true, true, true, true, true, true, true, true, false, false, false, false, false, false, false, false, false, false, false, false, false, false] rfl rfl (by kernel_rfl) (fun _ _ _ h => h) (Or.inr ⟨by rfl, rfl⟩) hHeld ?_ ?_
                        rotate_left
                        · simp only [Act.put, List.setIfInBounds_toArray, List.set_cons_zero, List.set_cons_succ, i64_w, i32_w]
                          rfl
                        -- 12: Op.fieldAddr 26 t1 1   [guarded: some (6, false)]
                        refine pure_ (i := 12) (N := (some 60)) (v := undef) (a' := ?_) #[true, true, true, true, true, true, true, true, true, true, true, true, true, false, false, false, false, false, false, false, false, false, false, false, false, false] rfl rfl (by kernel_rfl) (fun _ _ _ h => h) (Or.inr ⟨by rfl, rfl⟩) ?_ ?_
                        rotate_left
                        · simp only [Act.put, List.setIfInBounds_toArray, List.set_cons_zero, List.set_cons_succ, i64_w, i32_w]
                          rfl
                        -- 13: Op.load 22 t60   [guarded: some (6, false)]
                        refine take_ (i := 13) (N := (some 61)) (v := undef) (a' := ?_) #[true, true, true, true, true, true, true, true, true, true, true, true, true, true, false, false, false, false, false, false, false, false, false, false, false, false] rfl rfl (by kernel_rfl) (fun _ _ _ h => h) (Or.inr ⟨by rfl, rfl⟩) hHeld ?_ ?_
                        rotate_left
                        · simp only [Act.put, List.setIfInBounds_toArray, List.set_cons_zero, List.set_cons_succ, i64_w, i32_w]
                          rfl
                        -- 14: Op.binOp BinOp.geq 22 t59 t61 22   [guarded: some (6, false)]
                        refine pure_ (i := 14) (N := (some 62)) (v := undef) (a' := ?_) #[true, true, true, true, true, true, true, true, true, true, true, true, true, true, true, false, false, false, false, false, false, false, false, false, false, false] rfl rfl (by kernel_rfl) (fun _ _ _ h => h) (Or.inr ⟨by rfl, rfl⟩) ?_ ?_
                        rotate_left
                        · simp only [Act.put, List.setIfInBounds_toArray, List.set_cons_zero, List.set_cons_succ, i64_w, i32_w]
                          rfl
                        -- 15: Op.pick t54 (const (Value.bool true)) t62
                        refine pure_ (i := 15) (N := (some 63)) (v := ?_) (a' := ?_) #[true, true, true, true, true, true, true, true, true, true, true, true, true, true, true, true, false, false, false, false, false, false, false, false, false, false] rfl rfl (by kernel_rfl) (fun _ _ _ h => h) (Or.inl ⟨by rfl, ?_⟩) ?_ ?_
                        rotate_left
                        · intro w'
                          go_simp
                          with_reducible rfl
                        rotate_left
                        · simp only [Act.put, List.setIfInBounds_toArray, List.set_cons_zero, List.set_cons_succ, i64_w, i32_w]
                          rfl
                        -- 16: Op.move t63
                        refine pure_ (i := 16) (N := (some 64)) (v := ?_) (a' := ?_) #[true, true, true, true, true, true, true, true, true, true, true, true, true, true, true, true, true, false, false, false, false, false, false, false, false, false] rfl rfl (by kernel_rfl) (fun _ _ _ h => h) (Or.inl ⟨by rfl, ?_⟩) ?_ ?_
                        rotate_left
                        · intro w'
                          go_simp
                          with_reducible rfl
                        rotate_left
                        · simp only [Act.put, List.setIfInBounds_toArray, List.set_cons_zero, List.set_cons_succ, i64_w, i32_w]
                          rfl
                        -- 17: Op.move t5   [guarded: some (16, false)]
                        refine pure_ (i := 17) (N := (some 65)) (v := undef) (a' := ?_) #[true, true, true, true, true, true, true, true, true, true, true, true, true, true, true, true, true, true, false, false, false, false, false, false, false, false] rfl rfl (by kernel_rfl) (fun _ _ _ h => h) (Or.inr ⟨by rfl, rfl⟩) ?_ ?_
                        rotate_left
                        · simp only [Act.put, List.setIfInBounds_toArray, List.set_cons_zero, List.set_cons_succ, i64_w, i32_w]
                          rfl
                        -- 18: Op.move t6   [guarded: some (16, false)]
                        refine pure_ (i := 18) (N := (some 66)) (v := undef) (a' := ?_) #[true, true, true, true, true, true, true, true, true, true, true, true, true, true, true, true, true, true, true, false, false, false, false, false, false, false] rfl rfl (by kernel_rfl) (fun _ _ _ h => h) (Or.inr ⟨by rfl, rfl⟩) ?_ ?_
                        rotate_left
                        · simp only [Act.put, List.setIfInBounds_toArray, List.set_cons_zero, List.set_cons_succ, i64_w, i32_w]
                          rfl
                        -- 19: Op.indexAddr 23 t65 t66   [guarded: some (16, false)]
                        refine pure_ (i := 19) (N := (some 67)) (v := undef) (a' := ?_) #[true, true, true, true, true, true, true, true, true, true, true, true, true, true, true, true, true, true, true, true, false, false, false, false, false, false] rfl rfl (by kernel_rfl) (fun _ _ _ h => h) (Or.inr ⟨by rfl, rfl⟩) ?_ ?_
                        rotate_left
                        · simp only [Act.put, List.setIfInBounds_toArray, List.set_cons_zero, List.set_cons_succ, i64_w, i32_w]
                          rfl
                        -- 20: Op.fieldAddr 58 t67 6   [guarded: some (16, false)]
                        refine pure_ (i := 20) (N := (some 68)) (v := undef) (a' := ?_) #[true, true, true, true, true, true, true, true, true, true, true, true, true, true, true, true, true, true, true, true, true, false, false, false, false, false] rfl rfl (by kernel_rfl) (fun _ _ _ h => h) (Or.inr ⟨by rfl, rfl⟩) ?_ ?_
                        rotate_left
                        · simp only [Act.put, List.setIfInBounds_toArray, List.set_cons_zero, List.set_cons_succ, i64_w, i32_w]
                          rfl
                        -- 21: Op.load 22 t68   [guarded: some (16, false)]
                        refine take_ (i := 21) (N := (some 69)) (v := undef) (a' := ?_) #[true, true, true, true, true, true, true, true, true, true, true, true, true, true, true, true, true, true, true, true, true, true, false, false, false, false] rfl rfl (by kernel_rfl) (fun _ _ _ h => h) (Or.inr ⟨by rfl, rfl⟩) hHeld ?_ ?_
                        rotate_left
                        · simp only [Act.put, List.setIfInBounds_toArray, List.set_cons_zero, List.set_cons_succ, i64_w, i32_w]
                          rfl
                        -- 22: Op.fieldAddr 26 t1 2   [guarded: some (16, false)]
                        refine pure_ (i := 22) (N := (some 70)) (v := undef) (a' := ?_) #[true, true, true, true, true, true, true, true, true, true, true, true, true, true, true, true, true, true, true, true, true, true, true, false, false, false] rfl rfl (by kernel_rfl) (fun _ _ _ h => h) (Or.inr ⟨by rfl, rfl⟩) ?_ ?_
                        rotate_left
                        · simp only [Act.put, List.setIfInBounds_toArray, List.set_cons_zero, List.set_cons_succ, i64_w, i32_w]
                          rfl
                        -- 23: Op.load 22 t70   [guarded: some (16, false)]
                        refine take_ (i := 23) (N := (some 71)) (v := undef) (a' := ?_) #[true, true, true, true, true, true, true, true, true, true, true, true, true, true, true, true, true, true, true, true, true, true, true, true, false, false] rfl rfl (by kernel_rfl) (fun _ _ _ h => h) (Or.inr ⟨by rfl, rfl⟩) hHeld ?_ ?_
                        rotate_left
                        · simp only [Act.put, List.setIfInBounds_toArray, List.set_cons_zero, List.set_cons_succ, i64_w, i32_w]
                          rfl
                        -- 24: Op.binOp BinOp.gtr 22 t69 t71 22   [guarded: some (16, false)]
                        refine pure_ (i := 24) (N := (some 72)) (v := undef) (a' := ?_) #[true, true, true, true, true, true, true, true, true, true, true, true, true, true, true, true, true, true, true, true, true, true, true, true, true, false] rfl rfl (by kernel_rfl) (fun _ _ _ h => h) (Or.inr ⟨by rfl, rfl⟩) ?_ ?_
                        rotate_left
                        · simp only [Act.put, List.setIfInBounds_toArray, List.set_cons_zero, List.set_cons_succ, i64_w, i32_w]
                          rfl
                        -- 25: Op.pick t64 (const (Value.bool true)) t72
                        refine pure_ (i := 25) (N := (some 73)) (v := ?_) (a' := ?_) #[true, true, true, true, true, true, true, true, true, true, true, true, true, true, true, true, true, true, true, true, true, true, true, true, true, true] rfl rfl (by kernel_rfl) (fun _ _ _ h => h) (Or.inl ⟨by rfl, ?_⟩) ?_ ?_
                        rotate_left
                        · intro w'
                          go_simp
                          with_reducible rfl
                        rotate_left
                        · simp only [Act.put, List.setIfInBounds_toArray, List.set_cons_zero, List.set_cons_succ, i64_w, i32_w]
                          rfl
                        refine done_ (by kernel_rfl) ?_
                        go_wp2_with fail
                        go_ret
                        exact ⟨ret_bool (by symm; rw [decide_eq_false_iff_not]; exact BAD.out), below_step HB.out hHeld.1⟩
end
section
/- VE6: Are a compaction's lists too long (great), both its lists, the span of tables (freshetref16), walked. Conditions: lists of at most 10 to the 8th tables. -/
set_option linter.unusedVariables false
set_option linter.unusedSimpArgs false
open Go.RowKit Go.Proofs.YtkjepfofiegcdaaW.PrintWords Go.Proofs.YtkjepfofiegcdaaW.PrintLast Go.Proofs.YtkjepfofiegcdaaW.PrintMore Go.Proofs.Ytkjepfofiegcdaa.PB14
def greatP (In Ov : List S58) : Prop := 80 < In.length ∨ 80 < Ov.length
instance (In Ov : List S58) : Decidable (greatP In Ov) := by unfold greatP; infer_instance
set_option maxHeartbeats 8000000 in
set_option maxRecDepth 100000 in
theorem great_calls (w : World) (lev : Int) (A1 : Option Addr) (c1 : Nat) (In : List S58) (A2 : Option Addr) (c2 : Nat) (Ov : List S58) : Calls Try.prog 44 #[.agg #[.int .i64 lev, .slice A1 In.length c1, .slice A2 Ov.length c2]] w fun e w' => e = .returned (.bool (decide (greatP In Ov))) ∧ Below w.heap.size w w' := by
  have HB := Aside0.mk ((Below.refl w.heap.size w).alloc (Nat.le_refl _) (.cells #[.int .i64 lev, .slice A1 In.length c1, .slice A2 Ov.length c2] 52))
  by_cases h1 : 80 < In.length
  · rw [decide_eq_true (show greatP In Ov from .inl h1)]
    have t0 : decide ((80 : Int) < (In.length : Int)) = true := decide_eq_true (by omega)
    have t1 : decide (80 < In.length) = true := decide_eq_true h1
    clear h1
    go_enter Try.func44, Try.ntmps44
    go_wp2_with fail
    go_ret
    exact ⟨rfl, HB.out⟩
  · have t0 : decide ((80 : Int) < (In.length : Int)) = false := decide_eq_false (by omega)
    have t1 : decide (80 < In.length) = false := decide_eq_false h1
    by_cases h2 : 80 < Ov.length
    · rw [decide_eq_true (show greatP In Ov from .inr h2)]
      have t2 : decide ((80 : Int) < (Ov.length : Int)) = true := decide_eq_true (by omega)
      have t3 : decide (80 < Ov.length) = true := decide_eq_true h2
      clear h1 h2
      go_enter Try.func44, Try.ntmps44
      go_wp2_with fail
      go_ret
      exact ⟨rfl, HB.out⟩
    · rw [decide_eq_false (show ¬ greatP In Ov from fun h => h.elim h1 h2)]
      have t2 : decide ((80 : Int) < (Ov.length : Int)) = false := decide_eq_false (by omega)
      have t3 : decide (80 < Ov.length) = false := decide_eq_false h2
      clear h1 h2
      go_enter Try.func44, Try.ntmps44
      go_wp2_with fail
      go_ret
      exact ⟨rfl, HB.out⟩
set_option maxHeartbeats 8000000 in
set_option maxRecDepth 100000 in
theorem both_calls (w : World) (lev : Int) (A1 : Option Addr) (c1 : Nat) (In : List S58) (A2 : Option Addr) (c2 : Nat) (Ov : List S58) (h1 : k58.C w A1 In.length In) (h2 : k58.C w A2 Ov.length Ov) (l1 : In.length ≤ 100000000) (l2 : Ov.length ≤ 100000000) : Calls Try.prog 98 #[.agg #[.int .i64 lev, .slice A1 In.length c1, .slice A2 Ov.length c2]] w fun e w' => ∃ x, e = .returned x ∧ Kd.R k58 58 w' w.heap.size (fun _ => True) x (In ++ Ov) ∧ Below w.heap.size w w' := by
  have H1 := Aside0.mk h1
  have H2 := Aside0.mk h2
  have LI := Aside0.mk l1
  have LO := Aside0.mk l2
  have HB := Aside0.mk ((Below.refl w.heap.size w).alloc (Nat.le_refl _) (.cells #[.int .i64 lev, .slice A1 In.length c1, .slice A2 Ov.length c2] 52))
  have X2 := Aside0.mk (blk_new w (.cells #[.int .i64 lev, .slice A1 In.length c1, .slice A2 Ov.length c2] 52))
  clear h1 h2 l1 l2
  go_enter Try.func98, Try.ntmps98
  go_wp2_with (first | ((with_reducible refine gate_dst (N := 4) rfl ?_); refine Kd.R_lit k58 (w0 := w) w.heap.size 58 ?hgda (N := 4) ?hda (xs := ([] : List S58)) (inner := []) (ok := fun _ => True) (okp := fun _ => True) ?hra ?hpa (fun _ hk => hk) trivial HB.out (Below.size (HB.out)) (by simp) ?_; (case hda => rfl); (case hgda => rfl); (case hra => first | (go_simp; done) | (go_simp; rfl)); (case hpa => exact (Reps.none _ _)); intro va wa ho hb hg_ hnew_; have Ra := Aside0.mk ho; have HBa := Aside0.mk hb; have Xa := Aside0.mk (blk_below X2.out (below_none hg_)); have y1a : wa.cell? ⟨w.heap.size, 1, none⟩ = some (.slice A1 In.length c1) := (blk_cell Xa.out 1).trans rfl; clear ho hb hg_ hnew_) | ((with_reducible refine gate_builtin (b := .append) (xs := #[.tmp 4, .tmp 6]) rfl ?_); at_builtin; refine Kd.R_append_rows k58 (Rr := k58.K wa) (w0 := w) w.heap.size rfl (.tmp 4) (.tmp 6) 23 58 (.agg #[(.int .u64 0), (.int .i64 0), (.int .i64 0), (.string ⟨#[]⟩), (.string ⟨#[]⟩), (.int .u64 0), (.int .u64 0)]) 72 rfl Try.underlying23 info58 rfl (show 0 < 7 by decide) (show 0 < 72 by decide) va ([]) (In) A1 In.length c1 (fun _ => True) (fun _ => False) rfl rfl ?aOb ?aRb ?aMb (fun _ h => h.elim) ?aFb ?aBb ?aSb ?aLb ?_; (case aRb => exact (Kd.C_below H1.out HBa.out)); (case aMb => (intro x cs hk; obtain rfl := k58_open hk; exact k58_mkM _ _ _ x)); (case aBb => exact HBa.out); (case aFb => exact (fun _ _ => trivial)); (case aOb => exact Ra.out); (case aSb => exact Below.size (HBa.out)); (case aLb => (have h1 := LI.out; simp; omega)); intro vb wb ho hb hg hat; have Rb := Aside0.mk ho; have HBb := Aside0.mk hb; have Xb := Aside0.mk (blk_grown Xa.out hg (Kd.R_ne Ra.out Xa.out (by decide))); have y2b : wb.cell? ⟨w.heap.size, 2, none⟩ = some (.slice A2 Ov.length c2) := (blk_cell Xb.out 2).trans rfl; rw [List.nil_append] at Rb; clear ho hb hg hat) | ((with_reducible refine gate_builtin (b := .append) (xs := #[.tmp 8, .tmp 10]) rfl ?_); at_builtin; refine Kd.R_append_rows k58 (Rr := k58.K wb) (w0 := w) w.heap.size rfl (.tmp 8) (.tmp 10) 23 58 (.agg #[(.int .u64 0), (.int .i64 0), (.int .i64 0), (.string ⟨#[]⟩), (.string ⟨#[]⟩), (.int .u64 0), (.int .u64 0)]) 72 rfl Try.underlying23 info58 rfl (show 0 < 7 by decide) (show 0 < 72 by decide) vb (In) (Ov) A2 Ov.length c2 (fun _ => True) (fun _ => False) rfl rfl ?aOc ?aRc ?aMc (fun _ h => h.elim) ?aFc ?aBc ?aSc ?aLc ?_; (case aRc => exact (Kd.C_below H2.out HBb.out)); (case aMc => (intro x cs hk; obtain rfl := k58_open hk; exact k58_mkM _ _ _ x)); (case aBc => exact HBb.out); (case aFc => exact (fun _ _ => trivial)); (case aOc => exact Rb.out); (case aSc => exact Below.size (HBb.out)); (case aLc => (have h1 := LI.out; have h2 := LO.out; omega)); intro vc wc ho hb hg hat; have Rc := Aside0.mk ho; have HBc := Aside0.mk hb; clear ho hb hg hat) | fail)
  go_ret
  exact ⟨_, rfl, Rc.out, HBc.out⟩
set_option maxHeartbeats 8000000 in
set_option maxRecDepth 100000 in
theorem spanR_calls (w : World) (A : Option Addr) (c : Nat) (L : List S58) (hC : k58.C w A L.length L) : Calls Try.prog 95 #[.slice A L.length c] w fun e w' => e = .returned (.agg (mCs (spanM L))) ∧ Below w.heap.size w w' := by
  have HC := Aside0.mk hC
  have HB := Aside0.mk (below_alloc ((Below.refl w.heap.size w).alloc (Nat.le_refl _) (.cells #[.int .u64 0, .int .i64 0, .int .i64 0, .string ⟨#[]⟩, .string ⟨#[]⟩, .int .u64 0, .int .u64 0] 58)) (.cells #[.int .u64 0, .int .i64 0, .int .i64 0, .string ⟨#[]⟩, .string ⟨#[]⟩, .int .u64 0, .int .u64 0] 58))
  have X0 := Aside0.mk (blk_alloc (blk_new w (.cells #[.int .u64 0, .int .i64 0, .int .i64 0, .string ⟨#[]⟩, .string ⟨#[]⟩, .int .u64 0, .int .u64 0] 58)) (.cells #[.int .u64 0, .int .i64 0, .int .i64 0, .string ⟨#[]⟩, .string ⟨#[]⟩, .int .u64 0, .int .u64 0] 58))
  have X1 := Aside0.mk (blk_new (w.alloc (.cells #[.int .u64 0, .int .i64 0, .int .i64 0, .string ⟨#[]⟩, .string ⟨#[]⟩, .int .u64 0, .int .u64 0] 58)) (.cells #[.int .u64 0, .int .i64 0, .int .i64 0, .string ⟨#[]⟩, .string ⟨#[]⟩, .int .u64 0, .int .u64 0] 58))
  clear hC
  go_enter Try.func95, Try.ntmps95
  go_wp2_with fail
  generalize hg1 : (w.alloc (.cells #[.int .u64 0, .int .i64 0, .int .i64 0, .string ⟨#[]⟩, .string ⟨#[]⟩, .int .u64 0, .int .u64 0] 58)).heap.size = g1 at *
  have e1 : w.heap.size + 1 = g1 := by rw [← hg1]; simp
  try rw [e1]
  have NG := Aside0.mk (show w.heap.size < g1 by omega)
  clear hg1 e1
  generalize (w.alloc (.cells #[.int .u64 0, .int .i64 0, .int .i64 0, .string ⟨#[]⟩, .string ⟨#[]⟩, .int .u64 0, .int .u64 0] 58)).alloc (.cells #[.int .u64 0, .int .i64 0, .int .i64 0, .string ⟨#[]⟩, .string ⟨#[]⟩, .int .u64 0, .int .u64 0] 58) = w1 at *
  go_loopg [4] L.length (fun kq v4 w' => ∃ i : Nat, v4 = .int .i64 (i : Int) ∧ Aside0 (kq + i = L.length) ∧ Aside0 (Below w.heap.size w w') ∧ Aside0 (w'.heap[w.heap.size]? = some (.cells #[.int .u64 0, .int .i64 0, .int .i64 0, .string ⟨#[]⟩, .string ⟨#[]⟩, .int .u64 0, .int .u64 0] 58 (0, 0))) ∧ Aside0 (w'.heap[g1]? = some (.cells (mCs (spanM (L.take i))) 58 (0, 0))))
  case atStart => exact ⟨0, rfl, ⟨by omega⟩, HB, X0, X1⟩
  case round =>
    clear HB X0 X1
    obtain ⟨i, rfl, HK, HB, X0, X1⟩ := hrel
    cases gk with
    | zero =>
      have ei : i = L.length := by have := HK.out; omega
      subst ei
      have d0 : decide ((L.length : Int) < (L.length : Int)) = false := by simp
      rw [List.take_length] at X1
      obtain ⟨s, hs⟩ : ∃ s, s = spanM L := ⟨_, rfl⟩
      rw [← hs] at X1
      have SQ := Aside0.mk hs
      clear hs
      have z0 : wr.cell? ⟨g1, 0, none⟩ = some (.int .u64 s.f0) := (blk_cell X1.out 0).trans rfl
      have z1 : wr.cell? ⟨g1, 1, none⟩ = some (.int .i64 s.f1) := (blk_cell X1.out 1).trans rfl
      have z2 : wr.cell? ⟨g1, 2, none⟩ = some (.int .i64 s.f2) := (blk_cell X1.out 2).trans rfl
      have z3 : wr.cell? ⟨g1, 3, none⟩ = some (.string s.f3) := (blk_cell X1.out 3).trans rfl
      have z4 : wr.cell? ⟨g1, 4, none⟩ = some (.string s.f4) := (blk_cell X1.out 4).trans rfl
      have z5 : wr.cell? ⟨g1, 5, none⟩ = some (.int .u64 s.f5) := (blk_cell X1.out 5).trans rfl
      have z6 : wr.cell? ⟨g1, 6, none⟩ = some (.int .u64 s.f6) := (blk_cell X1.out 6).trans rfl
      go_wp2_with (first | (refine st_arr rfl 58 _ _ rfl w.heap.size 58 ?hx (mCs s) ?hy _ X0.out (by rw [size58]; rfl) rfl (mCs_one _) ?_; (case hx => rfl); (case hy => rfl); intro w5 hb5 hbb hk5 hs5; have HB5 := Aside0.mk (hbb _ _ HB.out (Nat.le_refl _)); have X5 := Aside0.mk hb5; clear hb5 hbb hk5 hs5) | fail)
      have r0 : w5.cell? ⟨w.heap.size, 0, none⟩ = some (.int .u64 s.f0) := (blk_cell X5.out 0).trans rfl
      have r1 : w5.cell? ⟨w.heap.size, 1, none⟩ = some (.int .i64 s.f1) := (blk_cell X5.out 1).trans rfl
      have r2 : w5.cell? ⟨w.heap.size, 2, none⟩ = some (.int .i64 s.f2) := (blk_cell X5.out 2).trans rfl
      have r3 : w5.cell? ⟨w.heap.size, 3, none⟩ = some (.string s.f3) := (blk_cell X5.out 3).trans rfl
      have r4 : w5.cell? ⟨w.heap.size, 4, none⟩ = some (.string s.f4) := (blk_cell X5.out 4).trans rfl
      have r5 : w5.cell? ⟨w.heap.size, 5, none⟩ = some (.int .u64 s.f5) := (blk_cell X5.out 5).trans rfl
      have r6 : w5.cell? ⟨w.heap.size, 6, none⟩ = some (.int .u64 s.f6) := (blk_cell X5.out 6).trans rfl
      exact bodyPost_ret (v := .agg (mCs s)) (by simp [results, Try.results95, go_sem, r0, r1, r2, r3, r4, r5, r6]) rfl ⟨by rw [SQ.out], HB5.out⟩
    | succ q =>
      have hk : i < L.length := by have := HK.out; omega
      have d0 : decide ((i : Int) < (L.length : Int)) = true := decide_eq_true (by omega)
      have d1 : decide (i < L.length) = true := decide_eq_true hk
      have p0 : 0 ≤ (i : Int) := Int.natCast_nonneg _
      have p1 : (i : Int) < (L.length : Int) := by omega
      have HM := Aside0.mk (show L.length ≤ 9223372036854775807 from HC.out.2.1)
      have CL1 := Kd.C_below HC.out HB.out
      obtain ⟨ax, ea, ha0, ha1, ha2, ha3, ha4, ha5, ha6⟩ := at_T58 CL1 (i : Int) p0 p1
      rw [Int.toNat_natCast] at ha0 ha1 ha2 ha3 ha4 ha5 ha6
      have EM := Aside0.mk (show rd_T58 L (i : Int) = L.getD i z58 by unfold rd_T58; rw [Int.toNat_natCast])
      generalize rd_T58 L (i : Int) = m at *
      rw [ea]
      have HAX := Aside0.mk ea
      have HAC := Aside0.mk (And.intro ha3 ha4)
      have ew : wrap64 ((i : Int) + 1) = ((i + 1 : Nat) : Int) := by have h1 := HM.out; unfold wrap64; omega
      have TS0 := Aside0.mk (show spanO (L.take (i + 1)) = spanS (spanO (L.take i)) m by rw [take_snoc L z58 hk, spanO_snoc, EM.out])
      obtain ⟨sf, hsf⟩ : ∃ s, s = spF (spanO (L.take i)) := ⟨_, rfl⟩
      obtain ⟨sl, hsl⟩ : ∃ s, s = spL (spanO (L.take i)) := ⟨_, rfl⟩
      replace X1 := Aside0.mk (show wr.heap[g1]? = some (.cells #[.int .u64 0, .int .i64 0, .int .i64 0, .string sf, .string sl, .int .u64 0, .int .u64 0] 58 (0, 0)) by rw [hsf, hsl]; exact X1.out)
      have s3 : wr.cell? ⟨g1, 3, none⟩ = some (.string sf) := (blk_cell X1.out 3).trans rfl
      have s4 : wr.cell? ⟨g1, 4, none⟩ = some (.string sl) := (blk_cell X1.out 4).trans rfl
      have f3 := blk_frozen X1.out 3
      have f4 := blk_frozen X1.out 4
      clear ea CL1 ha0 ha1 ha2 ha5 ha6
      rcases Nat.eq_zero_or_pos i with hi0 | hip
      · have TS := Aside0.mk (show spanM (L.take (i + 1)) = ⟨0, 0, 0, m.f3, m.f4, 0, 0⟩ by unfold spanM; rw [TS0.out, hi0]; rfl)
        have t0 : ((i : Int) == 0) = true := by rw [hi0]; rfl
        have t1 : (i == 0) = true := by rw [hi0]; rfl
        clear hi0 hsf hsl hk
        go_wp2_with fail
        go_quiet (fail)
        have HB6 := Aside0.mk (below_set (j := 3) (v := .string m.f3) (pw_below_drewN HB.out nq) (show w.heap.size ≤ g1 by have := NG.out; omega))
        have X06 := Aside0.mk (blk_far (blk_drewN X0.out nq) (p := ⟨g1, 3, none⟩) (show w.heap.size ≠ g1 by have := NG.out; omega) (.string m.f3))
        have X16 := Aside0.mk (five_set (cs' := #[.int .u64 0, .int .i64 0, .int .i64 0, .string m.f3, .string sl, .int .u64 0, .int .u64 0]) (blk_drewN X1.out nq) (j := 3) (.string m.f3) rfl)
        have z3 := HAC.out
        go_upto_region 7 with (fail)
        clear s3 s4 f3 f4 ha3 ha4 z3
        generalize (wr.drewN nq).setCell ⟨g1, 3, none⟩ (.string m.f3) = w6 at *
        have CL6 := Kd.C_below HC.out HB6.out
        obtain ⟨ax6, ea6, ha0, ha1, ha2, ha3, ha4, ha5, ha6⟩ := at_T58 CL6 (i : Int) p0 p1
        obtain rfl : ax = ax6 := by rw [HAX.out] at ea6; cases ea6; rfl
        rw [Int.toNat_natCast] at ha0 ha1 ha2 ha3 ha4 ha5 ha6
        rw [show rd_T58 L (i : Int) = m from (by rw [EM.out]; unfold rd_T58; rw [Int.toNat_natCast])] at ha0 ha1 ha2 ha3 ha4 ha5 ha6
        clear ea6 CL6 ha0 ha1 ha2 ha5 ha6
        have s3 : w6.cell? ⟨g1, 3, none⟩ = some (.string m.f3) := (blk_cell X16.out 3).trans rfl
        have s4 : w6.cell? ⟨g1, 4, none⟩ = some (.string sl) := (blk_cell X16.out 4).trans rfl
        have f3 := blk_frozen X16.out 3
        have f4 := blk_frozen X16.out 4
        go_quiet (fail)
        have HB7 := Aside0.mk (below_set (j := 4) (v := .string m.f4) (pw_below_drewN HB6.out nq) (show w.heap.size ≤ g1 by have := NG.out; omega))
        have X07 := Aside0.mk (blk_far (blk_drewN X06.out nq) (p := ⟨g1, 4, none⟩) (show w.heap.size ≠ g1 by have := NG.out; omega) (.string m.f4))
        have X17 := Aside0.mk (five_set (cs' := #[.int .u64 0, .int .i64 0, .int .i64 0, .string m.f3, .string m.f4, .int .u64 0, .int .u64 0]) (blk_drewN X16.out nq) (j := 4) (.string m.f4) rfl)
        go_wp2_with fail
        try rw [ew]
        rw [← HAX.out]
        clear ew
        go_roundg q
        case measure => omega
        case rel => exact ⟨i + 1, rfl, ⟨by have := HK.out; omega⟩, HB7, X07, by rw [show mCs (spanM (L.take (i + 1))) = #[.int .u64 0, .int .i64 0, .int .i64 0, .string m.f3, .string m.f4, .int .u64 0, .int .u64 0] by rw [TS.out]]; exact X17⟩
      · obtain ⟨q0, hq0⟩ : ∃ q0, spanO (L.take i) = some q0 := Option.isSome_iff_exists.mp ((spanO_some _).mpr (fun h => by have h1 := congrArg List.length h; rw [List.length_take, List.length_nil] at h1; omega))
        have TS1 := Aside0.mk (show spanM (L.take (i + 1)) = ⟨0, 0, 0, smn sf m.f3, smx sl m.f4, 0, 0⟩ by unfold spanM; rw [TS0.out, hsf, hsl, hq0]; rfl)
        have t0 : ((i : Int) == 0) = false := by rw [beq_eq_false_iff_ne]; omega
        have t1 : (i == 0) = false := by rw [beq_eq_false_iff_ne]; omega
        clear hip hsf hsl hk hq0
        cases h1 : Op.bytesLess m.f3.toList sf.toList with
        | true =>
          cases h2 : Op.bytesLess sl.toList m.f4.toList with
          | true =>
            have TS := Aside0.mk (show spanM (L.take (i + 1)) = ⟨0, 0, 0, m.f3, m.f4, 0, 0⟩ by rw [TS1.out]; unfold smn smx; rw [if_pos h1, if_pos h2])
            have p9 : ¬ (Op.bytesLess m.f4.toList sl.toList = true ∨ m.f4.toList = sl.toList) := fun h_ => by rw [le_less] at h_; rw [h_] at h2; cases h2
            have s9 : Op.bytesLess m.f4.toList sl.toList = false := by cases hq : Op.bytesLess m.f4.toList sl.toList with | false => rfl | true => exact absurd (.inl hq) p9
            have t9 : ¬ m.f4.toList = sl.toList := fun h_ => p9 (.inr h_)
            have u9 : (m.f4.toList == sl.toList) = false := beq_eq_false_iff_ne.mpr t9
            have r9 : (Op.bytesLess m.f4.toList sl.toList || m.f4.toList == sl.toList) = false := by rw [s9, u9]; rfl
            go_wp2_with fail
            go_quiet (fail)
            have HB6 := Aside0.mk (below_set (j := 3) (v := .string m.f3) (pw_below_drewN HB.out nq) (show w.heap.size ≤ g1 by have := NG.out; omega))
            have X06 := Aside0.mk (blk_far (blk_drewN X0.out nq) (p := ⟨g1, 3, none⟩) (show w.heap.size ≠ g1 by have := NG.out; omega) (.string m.f3))
            have X16 := Aside0.mk (five_set (cs' := #[.int .u64 0, .int .i64 0, .int .i64 0, .string m.f3, .string sl, .int .u64 0, .int .u64 0]) (blk_drewN X1.out nq) (j := 3) (.string m.f3) rfl)
            have z3 := HAC.out
            go_upto_region 7 with (fail)
            clear s3 s4 f3 f4 ha3 ha4 z3
            generalize (wr.drewN nq).setCell ⟨g1, 3, none⟩ (.string m.f3) = w6 at *
            have CL6 := Kd.C_below HC.out HB6.out
            obtain ⟨ax6, ea6, ha0, ha1, ha2, ha3, ha4, ha5, ha6⟩ := at_T58 CL6 (i : Int) p0 p1
            obtain rfl : ax = ax6 := by rw [HAX.out] at ea6; cases ea6; rfl
            rw [Int.toNat_natCast] at ha0 ha1 ha2 ha3 ha4 ha5 ha6
            rw [show rd_T58 L (i : Int) = m from (by rw [EM.out]; unfold rd_T58; rw [Int.toNat_natCast])] at ha0 ha1 ha2 ha3 ha4 ha5 ha6
            clear ea6 CL6 ha0 ha1 ha2 ha5 ha6
            have s3 : w6.cell? ⟨g1, 3, none⟩ = some (.string m.f3) := (blk_cell X16.out 3).trans rfl
            have s4 : w6.cell? ⟨g1, 4, none⟩ = some (.string sl) := (blk_cell X16.out 4).trans rfl
            have f3 := blk_frozen X16.out 3
            have f4 := blk_frozen X16.out 4
            go_quiet (fail)
            have HB7 := Aside0.mk (below_set (j := 4) (v := .string m.f4) (pw_below_drewN HB6.out nq) (show w.heap.size ≤ g1 by have := NG.out; omega))
            have X07 := Aside0.mk (blk_far (blk_drewN X06.out nq) (p := ⟨g1, 4, none⟩) (show w.heap.size ≠ g1 by have := NG.out; omega) (.string m.f4))
            have X17 := Aside0.mk (five_set (cs' := #[.int .u64 0, .int .i64 0, .int .i64 0, .string m.f3, .string m.f4, .int .u64 0, .int .u64 0]) (blk_drewN X16.out nq) (j := 4) (.string m.f4) rfl)
            go_wp2_with fail
            try rw [ew]
            rw [← HAX.out]
            clear ew
            go_roundg q
            case measure => omega
            case rel => exact ⟨i + 1, rfl, ⟨by have := HK.out; omega⟩, HB7, X07, by rw [show mCs (spanM (L.take (i + 1))) = #[.int .u64 0, .int .i64 0, .int .i64 0, .string m.f3, .string m.f4, .int .u64 0, .int .u64 0] by rw [TS.out]]; exact X17⟩
          | false =>
            have TS := Aside0.mk (show spanM (L.take (i + 1)) = ⟨0, 0, 0, m.f3, sl, 0, 0⟩ by rw [TS1.out]; unfold smn smx; rw [if_pos h1, if_neg (by rw [h2]; simp)])
            have p9 : Op.bytesLess m.f4.toList sl.toList = true ∨ m.f4.toList = sl.toList := le_less.mpr h2
            have r9 : (Op.bytesLess m.f4.toList sl.toList || m.f4.toList == sl.toList) = true := by rw [Bool.or_eq_true, beq_iff_eq]; exact p9
            go_wp2_with fail
            go_quiet (fail)
            have HB6 := Aside0.mk (below_set (j := 3) (v := .string m.f3) (pw_below_drewN HB.out nq) (show w.heap.size ≤ g1 by have := NG.out; omega))
            have X06 := Aside0.mk (blk_far (blk_drewN X0.out nq) (p := ⟨g1, 3, none⟩) (show w.heap.size ≠ g1 by have := NG.out; omega) (.string m.f3))
            have X16 := Aside0.mk (five_set (cs' := #[.int .u64 0, .int .i64 0, .int .i64 0, .string m.f3, .string sl, .int .u64 0, .int .u64 0]) (blk_drewN X1.out nq) (j := 3) (.string m.f3) rfl)
            have z3 := HAC.out
            go_upto_region 7 with (fail)
            clear s3 s4 f3 f4 ha3 ha4 z3
            generalize (wr.drewN nq).setCell ⟨g1, 3, none⟩ (.string m.f3) = w6 at *
            have CL6 := Kd.C_below HC.out HB6.out
            obtain ⟨ax6, ea6, ha0, ha1, ha2, ha3, ha4, ha5, ha6⟩ := at_T58 CL6 (i : Int) p0 p1
            obtain rfl : ax = ax6 := by rw [HAX.out] at ea6; cases ea6; rfl
            rw [Int.toNat_natCast] at ha0 ha1 ha2 ha3 ha4 ha5 ha6
            rw [show rd_T58 L (i : Int) = m from (by rw [EM.out]; unfold rd_T58; rw [Int.toNat_natCast])] at ha0 ha1 ha2 ha3 ha4 ha5 ha6
            clear ea6 CL6 ha0 ha1 ha2 ha5 ha6
            have s3 : w6.cell? ⟨g1, 3, none⟩ = some (.string m.f3) := (blk_cell X16.out 3).trans rfl
            have s4 : w6.cell? ⟨g1, 4, none⟩ = some (.string sl) := (blk_cell X16.out 4).trans rfl
            have f3 := blk_frozen X16.out 3
            have f4 := blk_frozen X16.out 4
            go_quiet (fail)
            have HB7 := Aside0.mk (pw_below_drewN HB6.out nq)
            have X07 := Aside0.mk (blk_drewN X06.out nq)
            have X17 := Aside0.mk (blk_drewN X16.out nq)
            go_wp2_with fail
            try rw [ew]
            rw [← HAX.out]
            clear ew
            go_roundg q
            case measure => omega
            case rel => exact ⟨i + 1, rfl, ⟨by have := HK.out; omega⟩, HB7, X07, by rw [show mCs (spanM (L.take (i + 1))) = #[.int .u64 0, .int .i64 0, .int .i64 0, .string m.f3, .string sl, .int .u64 0, .int .u64 0] by rw [TS.out]]; exact X17⟩
        | false =>
          cases h2 : Op.bytesLess sl.toList m.f4.toList with
          | true =>
            have TS := Aside0.mk (show spanM (L.take (i + 1)) = ⟨0, 0, 0, sf, m.f4, 0, 0⟩ by rw [TS1.out]; unfold smn smx; rw [if_neg (by rw [h1]; simp), if_pos h2])
            have p9 : ¬ (Op.bytesLess m.f4.toList sl.toList = true ∨ m.f4.toList = sl.toList) := fun h_ => by rw [le_less] at h_; rw [h_] at h2; cases h2
            have s9 : Op.bytesLess m.f4.toList sl.toList = false := by cases hq : Op.bytesLess m.f4.toList sl.toList with | false => rfl | true => exact absurd (.inl hq) p9
            have t9 : ¬ m.f4.toList = sl.toList := fun h_ => p9 (.inr h_)
            have u9 : (m.f4.toList == sl.toList) = false := beq_eq_false_iff_ne.mpr t9
            have r9 : (Op.bytesLess m.f4.toList sl.toList || m.f4.toList == sl.toList) = false := by rw [s9, u9]; rfl
            go_wp2_with fail
            go_quiet (fail)
            have HB6 := Aside0.mk (pw_below_drewN HB.out nq)
            have X06 := Aside0.mk (blk_drewN X0.out nq)
            have X16 := Aside0.mk (blk_drewN X1.out nq)
            go_upto_region 7 with (fail)
            clear s3 s4 f3 f4 ha3 ha4
            generalize wr.drewN nq = w6 at *
            have CL6 := Kd.C_below HC.out HB6.out
            obtain ⟨ax6, ea6, ha0, ha1, ha2, ha3, ha4, ha5, ha6⟩ := at_T58 CL6 (i : Int) p0 p1
            obtain rfl : ax = ax6 := by rw [HAX.out] at ea6; cases ea6; rfl
            rw [Int.toNat_natCast] at ha0 ha1 ha2 ha3 ha4 ha5 ha6
            rw [show rd_T58 L (i : Int) = m from (by rw [EM.out]; unfold rd_T58; rw [Int.toNat_natCast])] at ha0 ha1 ha2 ha3 ha4 ha5 ha6
            clear ea6 CL6 ha0 ha1 ha2 ha5 ha6
            have s3 : w6.cell? ⟨g1, 3, none⟩ = some (.string sf) := (blk_cell X16.out 3).trans rfl
            have s4 : w6.cell? ⟨g1, 4, none⟩ = some (.string sl) := (blk_cell X16.out 4).trans rfl
            have f3 := blk_frozen X16.out 3
            have f4 := blk_frozen X16.out 4
            go_quiet (fail)
            have HB7 := Aside0.mk (below_set (j := 4) (v := .string m.f4) (pw_below_drewN HB6.out nq) (show w.heap.size ≤ g1 by have := NG.out; omega))
            have X07 := Aside0.mk (blk_far (blk_drewN X06.out nq) (p := ⟨g1, 4, none⟩) (show w.heap.size ≠ g1 by have := NG.out; omega) (.string m.f4))
            have X17 := Aside0.mk (five_set (cs' := #[.int .u64 0, .int .i64 0, .int .i64 0, .string sf, .string m.f4, .int .u64 0, .int .u64 0]) (blk_drewN X16.out nq) (j := 4) (.string m.f4) rfl)
            go_wp2_with fail
            try rw [ew]
            rw [← HAX.out]
            clear ew
            go_roundg q
            case measure => omega
            case rel => exact ⟨i + 1, rfl, ⟨by have := HK.out; omega⟩, HB7, X07, by rw [show mCs (spanM (L.take (i + 1))) = #[.int .u64 0, .int .i64 0, .int .i64 0, .string sf, .string m.f4, .int .u64 0, .int .u64 0] by rw [TS.out]]; exact X17⟩
          | false =>
            have TS := Aside0.mk (show spanM (L.take (i + 1)) = ⟨0, 0, 0, sf, sl, 0, 0⟩ by rw [TS1.out]; unfold smn smx; rw [if_neg (by rw [h1]; simp), if_neg (by rw [h2]; simp)])
            have p9 : Op.bytesLess m.f4.toList sl.toList = true ∨ m.f4.toList = sl.toList := le_less.mpr h2
            have r9 : (Op.bytesLess m.f4.toList sl.toList || m.f4.toList == sl.toList) = true := by rw [Bool.or_eq_true, beq_iff_eq]; exact p9
            go_wp2_with fail
            go_quiet (fail)
            have HB6 := Aside0.mk (pw_below_drewN HB.out nq)
            have X06 := Aside0.mk (blk_drewN X0.out nq)
            have X16 := Aside0.mk (blk_drewN X1.out nq)
            go_upto_region 7 with (fail)
            clear s3 s4 f3 f4 ha3 ha4
            generalize wr.drewN nq = w6 at *
            have CL6 := Kd.C_below HC.out HB6.out
            obtain ⟨ax6, ea6, ha0, ha1, ha2, ha3, ha4, ha5, ha6⟩ := at_T58 CL6 (i : Int) p0 p1
            obtain rfl : ax = ax6 := by rw [HAX.out] at ea6; cases ea6; rfl
            rw [Int.toNat_natCast] at ha0 ha1 ha2 ha3 ha4 ha5 ha6
            rw [show rd_T58 L (i : Int) = m from (by rw [EM.out]; unfold rd_T58; rw [Int.toNat_natCast])] at ha0 ha1 ha2 ha3 ha4 ha5 ha6
            clear ea6 CL6 ha0 ha1 ha2 ha5 ha6
            have s3 : w6.cell? ⟨g1, 3, none⟩ = some (.string sf) := (blk_cell X16.out 3).trans rfl
            have s4 : w6.cell? ⟨g1, 4, none⟩ = some (.string sl) := (blk_cell X16.out 4).trans rfl
            have f3 := blk_frozen X16.out 3
            have f4 := blk_frozen X16.out 4
            go_quiet (fail)
            have HB7 := Aside0.mk (pw_below_drewN HB6.out nq)
            have X07 := Aside0.mk (blk_drewN X06.out nq)
            have X17 := Aside0.mk (blk_drewN X16.out nq)
            go_wp2_with fail
            try rw [ew]
            rw [← HAX.out]
            clear ew
            go_roundg q
            case measure => omega
            case rel => exact ⟨i + 1, rfl, ⟨by have := HK.out; omega⟩, HB7, X07, by rw [show mCs (spanM (L.take (i + 1))) = #[.int .u64 0, .int .i64 0, .int .i64 0, .string sf, .string sl, .int .u64 0, .int .u64 0] by rw [TS.out]]; exact X17⟩
end
end Go.Proofs.Ytkjepfofiegcdaa.V
