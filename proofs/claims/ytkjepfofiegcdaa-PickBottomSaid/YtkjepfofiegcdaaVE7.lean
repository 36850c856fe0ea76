import Derived.Test.YtkjepfofiegcdaaVX3
/- freshetref16.Bottom, walked. Conditions: lists of at most 10 to the 8th tables. -/
namespace Go.Proofs.Ytkjepfofiegcdaa.V
set_option linter.unusedVariables false
set_option linter.unusedSimpArgs false
open Go.RowKit Go.Proofs.YtkjepfofiegcdaaW.PrintWords Go.Proofs.YtkjepfofiegcdaaW.PrintLast Go.Proofs.YtkjepfofiegcdaaW.PrintMore Go.Proofs.Ytkjepfofiegcdaa.PB14
theorem keep_t {w0 w' w'' : World} {g : Nat} {cs : Array Value} {A0 A1 A2 A3 A4 A5 A6 : Addr} {U0 U1 U2 U3 U4 U5 U6 : Value} (h : Below w0.heap.size w0 w' ∧ w'.heap[g]? = some (.cells cs 26 (0, 0)) ∧ w'.cell? A0 = some U0 ∧ w'.cell? A1 = some U1 ∧ w'.cell? A2 = some U2 ∧ w'.cell? A3 = some U3 ∧ w'.cell? A4 = some U4 ∧ w'.cell? A5 = some U5 ∧ w'.cell? A6 = some U6) (hb : Below w'.heap.size w' w'') : Below w0.heap.size w0 w'' ∧ w''.heap[g]? = some (.cells cs 26 (0, 0)) ∧ w''.cell? A0 = some U0 ∧ w''.cell? A1 = some U1 ∧ w''.cell? A2 = some U2 ∧ w''.cell? A3 = some U3 ∧ w''.cell? A4 = some U4 ∧ w''.cell? A5 = some U5 ∧ w''.cell? A6 = some U6 := by
  obtain ⟨hB, hg, h0, h1, h2, h3, h4, h5, h6⟩ := h
  exact ⟨below_step hB hb, blk_below hg hb, pw_cell_below hb h0, pw_cell_below hb h1, pw_cell_below hb h2, pw_cell_below hb h3, pw_cell_below hb h4, pw_cell_below hb h5, pw_cell_below hb h6⟩
set_option maxHeartbeats 8000000 in
set_option maxRecDepth 100000 in
theorem bottomR_calls (w : World) (v : Ver) (p : Pl) (hC : VC w v p) (lev : Int) (A1 : Option Addr) (c1 : Nat) (In : List S58) (A2 : Option Addr) (c2 : Nat) (Ov : List S58) (h1 : k58.C w A1 In.length In) (h2 : k58.C w A2 Ov.length Ov) (l1 : In.length ≤ 100000000) (l2 : Ov.length ≤ 100000000) :
    Calls Try.prog 46 #[.agg (vCs v p), .agg #[.int .i64 lev, .slice A1 In.length c1, .slice A2 Ov.length c2]] w fun e w' => e = .returned (.tuple #[.bool (botB v lev (In ++ Ov)), .int .i64 (botE v lev)]) ∧ Below w.heap.size w w' := by
  have HC := Aside0.mk hC
  have H1 := Aside0.mk h1
  have H2 := Aside0.mk h2
  have LI := Aside0.mk l1
  have LO := Aside0.mk l2
  have HB := Aside0.mk (below_alloc ((Below.refl w.heap.size w).alloc (Nat.le_refl _) (.cells (vCs v p) 26)) (.cells #[.int .i64 lev, .slice A1 In.length c1, .slice A2 Ov.length c2] 52))
  have X2 := Aside0.mk (blk_alloc (blk_new w (.cells (vCs v p) 26)) (.cells #[.int .i64 lev, .slice A1 In.length c1, .slice A2 Ov.length c2] 52))
  have X3 := Aside0.mk (blk_new (w.alloc (.cells (vCs v p) 26)) (.cells #[.int .i64 lev, .slice A1 In.length c1, .slice A2 Ov.length c2] 52))
  clear hC h1 h2 l1 l2
  obtain ⟨bb, hbb⟩ : ∃ c, c = botB v lev (In ++ Ov) := ⟨_, rfl⟩
  obtain ⟨ee, hee⟩ : ∃ c, c = botE v lev := ⟨_, rfl⟩
  rw [← hbb, ← hee]
  have HBB := Aside0.mk hbb
  have HEE := Aside0.mk hee
  clear hbb hee
  go_enter Try.func46, Try.ntmps46
  go_upto_region 1 with (fail)
  generalize hg3 : (w.alloc (.cells (vCs v p) 26)).heap.size = g3 at *
  have e3 : w.heap.size + 1 = g3 := by rw [← hg3]; simp
  try rw [e3]
  clear hg3 e3
  generalize (w.alloc (.cells (vCs v p) 26)).alloc (.cells #[.int .i64 lev, .slice A1 In.length c1, .slice A2 Ov.length c2] 52) = w1 at *
  have b0 : w1.cell? ⟨w.heap.size, 0, none⟩ = some (.int .u64 v.log) := (blk_cell X2.out 0).trans rfl
  have b1 : w1.cell? ⟨w.heap.size, 1, none⟩ = some (.int .u64 v.next) := (blk_cell X2.out 1).trans rfl
  have b2 : w1.cell? ⟨w.heap.size, 2, none⟩ = some (.int .u64 v.seq) := (blk_cell X2.out 2).trans rfl
  have b3 : w1.cell? ⟨w.heap.size, 3, none⟩ = some (.slice p.a0 v.l0.length p.c0) := (blk_cell X2.out 3).trans rfl
  have b4 : w1.cell? ⟨w.heap.size, 4, none⟩ = some (.slice p.a1 v.l1.length p.c1) := (blk_cell X2.out 4).trans rfl
  have b5 : w1.cell? ⟨w.heap.size, 5, none⟩ = some (.slice p.a2 v.l2.length p.c2) := (blk_cell X2.out 5).trans rfl
  have b6 : w1.cell? ⟨w.heap.size, 6, none⟩ = some (.slice p.a3 v.l3.length p.c3) := (blk_cell X2.out 6).trans rfl
  go_wp2_with fail
  refine (rightR_calls _ v p (HC.out.below HB.out)).mono ?_
  rintro e w2 ⟨rfl, hb⟩
  have HB2 := Aside0.mk (below_step HB.out hb)
  have X22 := Aside0.mk (blk_below X2.out hb)
  have X32 := Aside0.mk (blk_below X3.out hb)
  have y0 : w2.cell? ⟨g3, 0, none⟩ = some (.int .i64 lev) := (blk_cell X32.out 0).trans rfl
  clear hb HB X2 X3 b0 b1 b2 b3 b4 b5 b6
  by_cases hr : rightP v
  · rw [decide_eq_true hr]
    have RV := Aside0.mk hr
    clear hr
    by_cases h0 : 0 ≤ lev
    · by_cases h1 : lev < 3
      · have ASK := Aside0.mk (show askP v lev from ⟨RV.out, h0, h1⟩)
        have E2 := Aside0.mk (show ee = 0 by rw [HEE.out]; unfold botE; rw [if_pos ASK.out])
        obtain ⟨lv, hlv⟩ := Int.eq_ofNat_of_zero_le h0
        subst hlv
        have L3 := Aside0.mk (show lv < 3 by omega)
        clear h0 h1
        have z0 : decide ((lv : Int) < 0) = false := decide_eq_false (by omega)
        have z1 : decide ((2 : Int) < (lv : Int)) = false := decide_eq_false (by have := L3.out; omega)
        have z2 : decide (2 < lv) = false := decide_eq_false (by have := L3.out; omega)
        have y1 : w2.cell? ⟨g3, 1, none⟩ = some (.slice A1 In.length c1) := (blk_cell X32.out 1).trans rfl
        have y2 : w2.cell? ⟨g3, 2, none⟩ = some (.slice A2 Ov.length c2) := (blk_cell X32.out 2).trans rfl
        have BOTH := both_calls w2 (lv : Int) A1 c1 In A2 c2 Ov (Kd.C_below H1.out HB2.out) (Kd.C_below H2.out HB2.out) LI.out LO.out
        go_wp2_with fail
        refine BOTH.mono ?_
        clear BOTH
        rintro e w4 ⟨x, rfl, hR, hb⟩
        obtain ⟨B, cb, hv⟩ := Kd.R_slice hR
        subst hv
        obtain ⟨L, hL⟩ : ∃ L, L = In ++ Ov := ⟨_, rfl⟩
        rw [← hL] at hR
        have LQ := Aside0.mk hL
        have CL := Aside0.mk (Kd.R_reads' hR).2.2
        have HB4 := Aside0.mk (below_step HB2.out hb)
        have X24 := Aside0.mk (blk_below X22.out hb)
        have X34 := Aside0.mk (blk_below X32.out hb)
        have y0' : w4.cell? ⟨g3, 0, none⟩ = some (.int .i64 (lv : Int)) := (blk_cell X34.out 0).trans rfl
        have ew2 : wrap64 ((lv : Int) + 2) = ((lv + 2 : Nat) : Int) := by unfold wrap64; have := L3.out; omega
        rw [← hL]
        clear hb hR hL HB2 X22 X32 y0 y1 y2 z0 z1 z2
        go_wp2_with fail
        try rw [ew2]
        clear y0' ew2
        go_loopg [7, 8] (4 - (lv + 2)) (fun kq v7 v8 w' => ∃ i : Nat, v7 = .int .i64 (i : Int) ∧ Aside0 (kq + i = 4) ∧ Aside0 (lv + 2 ≤ i) ∧ Aside0 (Below w4.heap.size w4 w') ∧ Aside0 (∀ j, j < i → lv + 2 ≤ j → ∀ m, m ∈ v.lv j → overB m (spanM L) = false))
        case atStart => exact ⟨lv + 2, rfl, ⟨by have := L3.out; omega⟩, ⟨by omega⟩, ⟨Below.refl _ _⟩, ⟨fun j h1 h2 => by omega⟩⟩
        case round =>
          obtain ⟨i, rfl, HK, HI2, HB, HD⟩ := hrel
          have X2 := Aside0.mk (blk_below X24.out HB.out)
          cases gk with
          | zero =>
            have ei : i = 4 := by have := HK.out; omega
            subst ei
            have ET := Aside0.mk (show true = bb by rw [HBB.out]; unfold botB; rw [decide_eq_true ASK.out, ← LQ.out, decide_eq_true (show BotP v (lv : Int).toNat L from .inr (fun j h1 h2 => HD.out j h1 (by simpa using h2)))]; rfl)
            go_wp2_with fail
            exact bodyPost_ret (v := .tuple #[.bool true, .int .i64 0]) (by simp [results, Try.results46, go_sem]) rfl ⟨by rw [← ET.out, E2.out], below_step HB4.out HB.out⟩
          | succ q =>
            have hi : i < 4 := by have := HK.out; omega
            have HI := Aside0.mk hi
            have d0 : decide ((i : Int) < 4) = true := decide_eq_true (by omega)
            have i0 : 0 ≤ (i : Int) := Int.natCast_nonneg _
            have i1 : (i : Int) < 4 := by omega
            clear hi
            by_cases hn : L = []
            · have ET := Aside0.mk (show true = bb by rw [HBB.out]; unfold botB; rw [decide_eq_true ASK.out, ← LQ.out, decide_eq_true (show BotP v (lv : Int).toNat L from .inl hn)]; rfl)
              have t0 : decide ((0 : Int) < (L.length : Int)) = false := decide_eq_false (by rw [hn]; simp)
              have t1 : decide (0 < L.length) = false := decide_eq_false (by rw [hn]; simp)
              clear hn
              go_wp2_with fail
              exact bodyPost_ret (v := .tuple #[.bool true, .int .i64 0]) (by simp [results, Try.results46, go_sem]) rfl ⟨by rw [← ET.out, E2.out], below_step HB4.out HB.out⟩
            · have t0 : decide ((0 : Int) < (L.length : Int)) = true := decide_eq_true (by have := List.length_pos_iff.mpr hn; omega)
              have t1 : decide (0 < L.length) = true := decide_eq_true (List.length_pos_iff.mpr hn)
              have HNE := Aside0.mk hn
              clear hn
              obtain ⟨l, hl⟩ : ∃ l, l = v.lv i := ⟨_, rfl⟩
              have LE := Aside0.mk hl
              have HLL := Aside0.mk (show l.length ≤ 64 by rw [LE.out]; exact RV.out.2.1.1 i HI.out)
              have CV := Aside0.mk (show k58.C w4 (p.a i) l.length l by rw [LE.out]; exact ((HC.out.below HB4.out) i HI.out).1)
              clear hl
              go_wp2_with fail
              go_loopg [8] l.length (fun kq v8 w' => ∃ k : Nat, v8 = .int .i64 (k : Int) ∧ Aside0 (kq + k = l.length) ∧ Aside0 (Below w4.heap.size w4 w') ∧ Aside0 (∀ j, j < k → overB (l.getD j z58) (spanM L) = false))
              case atStart => exact ⟨0, rfl, ⟨by omega⟩, HB, ⟨fun j hj => by omega⟩⟩
              case round =>
                clear HB X2
                obtain ⟨k, rfl, HKK, HB, HJ⟩ := hrel
                have X2 := Aside0.mk (blk_below X24.out HB.out)
                have hv := vcell X2.out i HI.out
                rw [← LE.out] at hv
                cases gk with
                | zero =>
                  have ek : k = l.length := by have := HKK.out; omega
                  subst ek
                  have d1 : decide ((l.length : Int) < (l.length : Int)) = false := by simp
                  have ew : wrap64 ((i : Int) + 1) = ((i + 1 : Nat) : Int) := by have h1 := HI.out; unfold wrap64; omega
                  go_wp2_with fail
                  try rw [ew]
                  clear ew
                  go_roundg q
                  case measure => omega
                  case rel => exact ⟨i + 1, rfl, ⟨by have := HK.out; omega⟩, ⟨by have := HI2.out; omega⟩, HB, ⟨fun j h1 h2 => by
                    by_cases e : j = i
                    · subst e
                      rw [← LE.out]
                      intro m hm
                      obtain ⟨x, hx, hx2⟩ := List.getElem_of_mem hm
                      have h3 := HJ.out x hx
                      rw [List.getD_eq_getElem?_getD, List.getElem?_eq_getElem hx] at h3
                      rw [← hx2]; exact h3
                    · exact HD.out j (by omega) h2⟩⟩
                | succ g =>
                  have hk : k < l.length := by have := HKK.out; omega
                  have HKL := Aside0.mk hk
                  have d1 : decide ((k : Int) < (l.length : Int)) = true := decide_eq_true (by omega)
                  have d2 : decide (k < l.length) = true := decide_eq_true hk
                  have p0 : 0 ≤ (k : Int) := Int.natCast_nonneg _
                  have p1 : (k : Int) < (l.length : Int) := by omega
                  have ew : wrap64 ((k : Int) + 1) = ((k + 1 : Nat) : Int) := by have h1 := HLL.out; unfold wrap64; omega
                  have CV1 := Kd.C_below CV.out HB.out
                  obtain ⟨ax, ea, ha0, ha1, ha2, ha3, ha4, ha5, ha6⟩ := at_T58 CV1 (k : Int) p0 p1
                  rw [Int.toNat_natCast] at ha0 ha1 ha2 ha3 ha4 ha5 ha6
                  have EM := Aside0.mk (show rd_T58 l (k : Int) = l.getD k z58 by unfold rd_T58; rw [Int.toNat_natCast])
                  generalize rd_T58 l (k : Int) = m at *
                  rw [ea] at hv
                  have HAX := Aside0.mk ea
                  have KO := Aside0.mk (fun w => overR_calls w m (spanM L))
                  clear ea hk CV1
                  go_wp2_with fail
                  refine start_ (n := 10) (S := (fun w' => Below wr.heap.size wr w' ∧ w'.heap[w.heap.size]? = some (.cells (vCs v p) 26 (0, 0)) ∧ w'.cell? (ax.add (k * 7)) = some (.int .u64 m.f0) ∧ w'.cell? ⟨(ax.add (k * 7)).block, (ax.add (k * 7)).off + 1, none⟩ = some (.int .i64 m.f1) ∧ w'.cell? ⟨(ax.add (k * 7)).block, (ax.add (k * 7)).off + 2, none⟩ = some (.int .i64 m.f2) ∧ w'.cell? ⟨(ax.add (k * 7)).block, (ax.add (k * 7)).off + 3, none⟩ = some (.string m.f3) ∧ w'.cell? ⟨(ax.add (k * 7)).block, (ax.add (k * 7)).off + 4, none⟩ = some (.string m.f4) ∧ w'.cell? ⟨(ax.add (k * 7)).block, (ax.add (k * 7)).off + 5, none⟩ = some (.int .u64 m.f5) ∧ w'.cell? ⟨(ax.add (k * 7)).block, (ax.add (k * 7)).off + 6, none⟩ = some (.int .u64 m.f6))) (ds := []) #[false, false, false, false, false, false, false, false, false, false] (by kernel_rfl) rfl rfl ⟨below_drew (Below.refl _ _), blk_drew X2.out, ha0, ha1, ha2, ha3, ha4, ha5, ha6⟩ (fun hHeld => ?_)
                  -- 0: Op.move t7
                  refine pure_ (i := 0) (N := (some 45)) (v := ?_) (a' := ?_) #[true, false, false, false, false, false, false, false, false, false] rfl rfl (by kernel_rfl) (fun _ _ _ h => h) (Or.inl ⟨by rfl, ?_⟩) ?_ ?_
                  rotate_left
                  · intro w'
                    go_simp
                    with_reducible rfl
                  rotate_left
                  · simp only [Act.put, List.setIfInBounds_toArray, List.set_cons_zero, List.set_cons_succ, i64_w, i32_w]
                    rfl
                  -- 1: Op.fieldAddr 26 t2 3
                  refine pure_ (i := 1) (N := (some 46)) (v := ?_) (a' := ?_) #[true, true, false, false, false, false, false, false, false, false] rfl rfl (by kernel_rfl) (fun _ _ _ h => h) (Or.inl ⟨by rfl, ?_⟩) ?_ ?_
                  rotate_left
                  · intro w'
                    go_simp
                    with_reducible rfl
                  rotate_left
                  · simp only [Act.put, List.setIfInBounds_toArray, List.set_cons_zero, List.set_cons_succ, i64_w, i32_w]
                    rfl
                  -- 2: Op.indexAddr 24 t46 t45
                  refine pure_ (i := 2) (N := (some 47)) (v := ?_) (a' := ?_) #[true, true, true, false, false, false, false, false, false, false] rfl rfl (by kernel_rfl) (fun _ _ _ h => h) (Or.inl ⟨by rfl, ?_⟩) ?_ ?_
                  rotate_left
                  · intro w'
                    go_simp
                    with_reducible rfl
                  rotate_left
                  · simp only [Act.put, List.setIfInBounds_toArray, List.set_cons_zero, List.set_cons_succ, i64_w, i32_w]
                    rfl
                  -- 3: Op.load 23 t47
                  refine take_ (i := 3) (N := (some 48)) (v := ?_) (a' := ?_) #[true, true, true, true, false, false, false, false, false, false] rfl rfl (by kernel_rfl) (fun _ _ _ h => h) (Or.inl ⟨by rfl, ?_⟩) hHeld ?_ ?_
                  rotate_left
                  · rintro w' ⟨s0, s1, s2, s3, s4, s5, s6, s7, s8⟩
                    have hv_ := vcell s1 i HI.out
                    rw [← LE.out, HAX.out] at hv_
                    go_simp
                    with_reducible rfl
                  rotate_left
                  · simp only [Act.put, List.setIfInBounds_toArray, List.set_cons_zero, List.set_cons_succ, i64_w, i32_w]
                    rfl
                  -- 4: Op.move t8
                  refine pure_ (i := 4) (N := (some 49)) (v := ?_) (a' := ?_) #[true, true, true, true, true, false, false, false, false, false] rfl rfl (by kernel_rfl) (fun _ _ _ h => h) (Or.inl ⟨by rfl, ?_⟩) ?_ ?_
                  rotate_left
                  · intro w'
                    go_simp
                    with_reducible rfl
                  rotate_left
                  · simp only [Act.put, List.setIfInBounds_toArray, List.set_cons_zero, List.set_cons_succ, i64_w, i32_w]
                    rfl
                  -- 5: Op.indexAddr 23 t48 t49
                  refine pure_ (i := 5) (N := (some 50)) (v := ?_) (a' := ?_) #[true, true, true, true, true, true, false, false, false, false] rfl rfl (by kernel_rfl) (fun _ _ _ h => h) (Or.inl ⟨by rfl, ?_⟩) ?_ ?_
                  rotate_left
                  · intro w'
                    go_simp
                    with_reducible rfl
                  rotate_left
                  · simp only [Act.put, List.setIfInBounds_toArray, List.set_cons_zero, List.set_cons_succ, i64_w, i32_w]
                    rfl
                  -- 6: Op.load 58 t50
                  refine take_ (i := 6) (N := (some 51)) (v := ?_) (a' := ?_) #[true, true, true, true, true, true, true, false, false, false] rfl rfl (by kernel_rfl) (fun _ _ _ h => h) (Or.inl ⟨by rfl, ?_⟩) hHeld ?_ ?_
                  rotate_left
                  · rintro w' ⟨s0, s1, s2, s3, s4, s5, s6, s7, s8⟩
                    go_simp
                    with_reducible rfl
                  rotate_left
                  · simp only [Act.put, List.setIfInBounds_toArray, List.set_cons_zero, List.set_cons_succ, i64_w, i32_w]
                    rfl
                  -- 7: Op.move t6
                  refine pure_ (i := 7) (N := (some 52)) (v := ?_) (a' := ?_) #[true, true, true, true, true, true, true, true, false, false] rfl rfl (by kernel_rfl) (fun _ _ _ h => h) (Or.inl ⟨by rfl, ?_⟩) ?_ ?_
                  rotate_left
                  · intro w'
                    go_simp
                    with_reducible rfl
                  rotate_left
                  · simp only [Act.put, List.setIfInBounds_toArray, List.set_cons_zero, List.set_cons_succ, i64_w, i32_w]
                    rfl
                  -- 8: Op.call { value (Operand.func 95), args := #[t52], argTypes := #[23] }
                  refine one_ (i := 8) (N := (some 53)) #[true, true, true, true, true, true, true, true, true, false] rfl rfl (by kernel_rfl) (by decide) (fun K hK => ?_)
                  refine goes_ Try.func95 (by kernel_rfl) rfl #[.slice B L.length cb] (by rfl) rfl rfl (by (try simp only [List.map_toArray, List.map_cons, List.map_nil]); first | done | rfl) ?_
                  (with_reducible refine (spanR_calls _ B cb L (Kd.C_below (Kd.C_below CL.out HB.out) hHeld.1)).mono ?_)
                  rintro e w2 ⟨rfl, hb⟩
                  refine ⟨_, rfl, ?_⟩
                  have hOld := hHeld
                  clear hHeld
                  refine hK.out _ _ (keep_t hOld hb) (fun hHeld => ?_)
                  clear hOld hK K
                  refine norm_ (a' := ?_) ?_ ?_
                  rotate_left
                  · show Act.put _ (some 53) _ = _
                    simp only [Act.put, List.setIfInBounds_toArray, List.set_cons_zero, List.set_cons_succ, i64_w, i32_w]
                    rfl
                  -- 9: Op.call { value (Operand.func 43), args := #[t51, t53], argTypes := #[58, 58] }
                  refine one_ (i := 9) (N := (some 54)) #[true, true, true, true, true, true, true, true, true, true] rfl rfl (by kernel_rfl) (by decide) (fun K hK => ?_)
                  refine goes_ Try.func43 (by kernel_rfl) rfl #[.agg #[.int .u64 m.f0, .int .i64 m.f1, .int .i64 m.f2, .string m.f3, .string m.f4, .int .u64 m.f5, .int .u64 m.f6], .agg (mCs (spanM L))] (by rfl) rfl rfl (by (try simp only [List.map_toArray, List.map_cons, List.map_nil]); first | done | rfl) ?_
                  (with_reducible refine (KO.out _).mono ?_)
                  rintro e w3 ⟨rfl, hb⟩
                  refine ⟨_, rfl, ?_⟩
                  have hOld := hHeld
                  clear hHeld
                  refine hK.out _ _ (keep_t hOld hb) (fun hHeld => ?_)
                  clear hOld hK K
                  refine norm_ (a' := ?_) ?_ ?_
                  rotate_left
                  · show Act.put _ (some 54) _ = _
                    simp only [Act.put, List.setIfInBounds_toArray, List.set_cons_zero, List.set_cons_succ, i64_w, i32_w]
                    rfl
                  refine done_ (by kernel_rfl) ?_
                  have HB5 := Aside0.mk (below_step HB.out hHeld.1)
                  clear hHeld hv ha0 ha1 ha2 ha3 ha4 ha5 ha6
                  cases ho : overB m (spanM L) with
                  | true =>
                    have ET := Aside0.mk (show false = bb by
                      rw [HBB.out]; unfold botB; rw [decide_eq_true ASK.out, ← LQ.out]
                      symm
                      rw [Bool.true_and, decide_eq_false_iff_not]
                      rintro (h | h)
                      · exact HNE.out h
                      · have h2 := h i HI.out (by have := HI2.out; simpa using this) m (by rw [← LE.out, EM.out]; exact getD_mem l z58 HKL.out)
                        rw [ho] at h2
                        cases h2)
                    go_wp2_with fail
                    exact bodyPost_ret (v := .tuple #[.bool false, .int .i64 0]) (by simp [results, Try.results46, go_sem]) rfl ⟨by rw [← ET.out, E2.out], below_step HB4.out HB5.out⟩
                  | false =>
                    have ET := Aside0.mk (show overB (l.getD k z58) (spanM L) = false by rw [← EM.out]; exact ho)
                    go_wp2_with fail
                    try rw [ew]
                    clear ew
                    go_roundg g
                    case measure => omega
                    case rel => exact ⟨k + 1, rfl, ⟨by have := HKK.out; omega⟩, HB5, ⟨fun j hj => by
                      by_cases e : j = k
                      · subst e; exact ET.out
                      · exact HJ.out j (by omega)⟩⟩
      · have NASK := Aside0.mk (show ¬ askP v lev from fun h => by have := h.2.2; omega)
        have z0 : decide (lev < 0) = false := decide_eq_false (by omega)
        have z1 : decide ((2 : Int) < lev) = true := decide_eq_true (by omega)
        clear h0 h1
        have E1 := Aside0.mk (show bb = false by rw [HBB.out]; unfold botB; rw [decide_eq_false (fun h => NASK.out h)]; rfl)
        have E2 := Aside0.mk (show ee = 2 by rw [HEE.out]; unfold botE; rw [if_neg (fun h => NASK.out h)])
        go_wp2_with fail
        exact bodyPost_ret (v := .tuple #[.bool false, .int .i64 2]) (by simp [results, Try.results46, go_sem]) rfl ⟨by rw [E1.out, E2.out], HB2.out⟩
    · have NASK := Aside0.mk (show ¬ askP v lev from fun h => by have := h.2.1; omega)
      have z0 : decide (lev < 0) = true := decide_eq_true (by omega)
      clear h0
      have E1 := Aside0.mk (show bb = false by rw [HBB.out]; unfold botB; rw [decide_eq_false (fun h => NASK.out h)]; rfl)
      have E2 := Aside0.mk (show ee = 2 by rw [HEE.out]; unfold botE; rw [if_neg (fun h => NASK.out h)])
      go_wp2_with fail
      exact bodyPost_ret (v := .tuple #[.bool false, .int .i64 2]) (by simp [results, Try.results46, go_sem]) rfl ⟨by rw [E1.out, E2.out], HB2.out⟩
  · rw [decide_eq_false hr]
    have NASK := Aside0.mk (show ¬ askP v lev from fun h => hr h.1)
    clear hr
    have E1 := Aside0.mk (show bb = false by rw [HBB.out]; unfold botB; rw [decide_eq_false (fun h => NASK.out h)]; rfl)
    have E2 := Aside0.mk (show ee = 2 by rw [HEE.out]; unfold botE; rw [if_neg (fun h => NASK.out h)])
    go_wp2_with fail
    exact bodyPost_ret (v := .tuple #[.bool false, .int .i64 2]) (by simp [results, Try.results46, go_sem]) rfl ⟨by rw [E1.out, E2.out], HB2.out⟩
end Go.Proofs.Ytkjepfofiegcdaa.V
