import Derived.Test.YtkjepfofiegcdaaVG2
/- freshetref16.Edit, walked. Conditions: lists of at most 10 to the 8th tables. -/
namespace Go.Proofs.Ytkjepfofiegcdaa.V
set_option linter.unusedVariables false
set_option linter.unusedSimpArgs false
open Go.RowKit Go.Proofs.YtkjepfofiegcdaaW.PrintWords Go.Proofs.YtkjepfofiegcdaaW.PrintLast Go.Proofs.YtkjepfofiegcdaaW.PrintMore Go.Proofs.Ytkjepfofiegcdaa.PB14
theorem fld3 (m : S58) (w : World) : (Instr.field 58 (.agg #[.int .u64 m.f0, .int .i64 m.f1, .int .i64 m.f2, .string m.f3, .string m.f4, .int .u64 m.f5, .int .u64 m.f6]) 3).run Try.prog w = .ok (.string m.f3) w := by kernel_rfl
theorem fld4 (m : S58) (w : World) : (Instr.field 58 (.agg #[.int .u64 m.f0, .int .i64 m.f1, .int .i64 m.f2, .string m.f3, .string m.f4, .int .u64 m.f5, .int .u64 m.f6]) 4).run Try.prog w = .ok (.string m.f4) w := by kernel_rfl
attribute [local go_sem] max_two max2_int fld3 fld4
/-- What has come up: the first k, and ks. -/
def bl (n k : Nat) (ks : List Nat) : Array Bool := ((List.range n).map fun i => decide (i < k) || ks.contains i).toArray
theorem sA_ {α : Type} (l : List α) (i : Nat) (a : α) : l.toArray.setIfInBounds i a = (l.set i a).toArray := List.setIfInBounds_toArray ..
theorem sB_ {α : Type} (a b : α) (l : List α) : (a :: l).set 0 b = b :: l := rfl
theorem sC_ {α : Type} (a b : α) (l : List α) (n : Nat) : (a :: l).set (n + 1) b = a :: l.set n b := rfl
theorem mxL_le {L : List S58} {b : Int} (h : ∀ m, m ∈ L → m.f0 ≤ b) (hb : 0 ≤ b := by omega) : mxL L ≤ b := by
  induction L using snoc_ind with
  | h0 => exact hb
  | h1 L x ih =>
    rw [mxL_snoc]
    split
    · exact h x (by simp)
    · exact ih (fun m hm => h m (by simp [hm]))
theorem keep_q {w0 w' w'' : World} {g : Nat} {cs : Array Value} {A0 A1 A2 A3 A4 A5 A6 : Addr} {U0 U1 U2 U3 U4 U5 U6 : Value} (h : Below w0.heap.size w0 w' ∧ w'.heap[g]? = some (.cells cs 26 (0, 0)) ∧ w'.cell? A0 = some U0 ∧ w'.cell? A1 = some U1 ∧ w'.cell? A2 = some U2 ∧ w'.cell? A3 = some U3 ∧ w'.cell? A4 = some U4 ∧ w'.cell? A5 = some U5 ∧ w'.cell? A6 = some U6) (hb : Below w'.heap.size w' w'') : Below w0.heap.size w0 w'' ∧ w''.heap[g]? = some (.cells cs 26 (0, 0)) ∧ w''.cell? A0 = some U0 ∧ w''.cell? A1 = some U1 ∧ w''.cell? A2 = some U2 ∧ w''.cell? A3 = some U3 ∧ w''.cell? A4 = some U4 ∧ w''.cell? A5 = some U5 ∧ w''.cell? A6 = some U6 := by
  obtain ⟨hB, hg, h0, h1, h2, h3, h4, h5, h6⟩ := h
  exact ⟨below_step hB hb, blk_below hg hb, pw_cell_below hb h0, pw_cell_below hb h1, pw_cell_below hb h2, pw_cell_below hb h3, pw_cell_below hb h4, pw_cell_below hb h5, pw_cell_below hb h6⟩
set_option maxHeartbeats 8000000 in
set_option maxRecDepth 100000 in
theorem editR_calls (w : World) (v : Ver) (p : Pl) (hC : VC w v p) (lev : Int) (A1 : Option Addr) (c1 : Nat) (In : List S58) (A2 : Option Addr) (c2 : Nat) (Ov : List S58) (A5 : Option Addr) (c5 : Nat) (out : List S58) (h1 : k58.C w A1 In.length In) (h2 : k58.C w A2 Ov.length Ov) (h5 : k58.C w A5 out.length out)
    (l1 : In.length ≤ 100000000) (l2 : Ov.length ≤ 100000000) (l5 : out.length ≤ 100000000) :
    Calls Try.prog 49 #[.agg (vCs v p), .agg #[.int .i64 lev, .slice A1 In.length c1, .slice A2 Ov.length c2], .slice A5 out.length c5] w fun x w' => EdPost w w' x (edV v lev In Ov out) (edE v lev In Ov out) := by
  have HC := Aside0.mk hC
  have H1 := Aside0.mk h1
  have H2 := Aside0.mk h2
  have H5 := Aside0.mk h5
  have LI := Aside0.mk l1
  have LO := Aside0.mk l2
  have LT := Aside0.mk l5
  have HB := Aside0.mk (below_alloc (below_alloc ((Below.refl w.heap.size w).alloc (Nat.le_refl _) (.cells (vCs v p) 26)) (.cells #[.int .i64 lev, .slice A1 In.length c1, .slice A2 Ov.length c2] 52)) (.cells #[.int .u64 0, .int .u64 0, .int .u64 0, .slice none 0 0, .slice none 0 0] 70))
  have X2 := Aside0.mk (blk_alloc (blk_alloc (blk_new w (.cells (vCs v p) 26)) (.cells #[.int .i64 lev, .slice A1 In.length c1, .slice A2 Ov.length c2] 52)) (.cells #[.int .u64 0, .int .u64 0, .int .u64 0, .slice none 0 0, .slice none 0 0] 70))
  have X4 := Aside0.mk (blk_alloc (blk_new (w.alloc (.cells (vCs v p) 26)) (.cells #[.int .i64 lev, .slice A1 In.length c1, .slice A2 Ov.length c2] 52)) (.cells #[.int .u64 0, .int .u64 0, .int .u64 0, .slice none 0 0, .slice none 0 0] 70))
  have X6 := Aside0.mk (blk_new ((w.alloc (.cells (vCs v p) 26)).alloc (.cells #[.int .i64 lev, .slice A1 In.length c1, .slice A2 Ov.length c2] 52)) (.cells #[.int .u64 0, .int .u64 0, .int .u64 0, .slice none 0 0, .slice none 0 0] 70))
  clear hC h1 h2 h5 l1 l2 l5
  obtain ⟨xe, hxe⟩ : ∃ c, c = edV v lev In Ov out := ⟨_, rfl⟩
  obtain ⟨xf, hxf⟩ : ∃ c, c = edE v lev In Ov out := ⟨_, rfl⟩
  rw [← hxe, ← hxf]
  have XE := Aside0.mk hxe
  have XF := Aside0.mk hxf
  clear hxe hxf
  go_enter Try.func49, Try.ntmps49
  go_upto_region 1 with (fail)
  generalize hg6 : ((w.alloc (.cells (vCs v p) 26)).alloc (.cells #[.int .i64 lev, .slice A1 In.length c1, .slice A2 Ov.length c2] 52)).heap.size = g6 at *
  generalize hg4 : (w.alloc (.cells (vCs v p) 26)).heap.size = g4 at *
  have e4 : w.heap.size + 1 = g4 := by rw [← hg4]; simp
  have e6 : g4 + 1 = g6 := by rw [← hg6, ← hg4]; simp
  try rw [e4]
  try rw [e6]
  have N1 := Aside0.mk (show w.heap.size < g4 ∧ g4 < g6 by omega)
  clear hg4 hg6 e4 e6
  generalize ((w.alloc (.cells (vCs v p) 26)).alloc (.cells #[.int .i64 lev, .slice A1 In.length c1, .slice A2 Ov.length c2] 52)).alloc (.cells #[.int .u64 0, .int .u64 0, .int .u64 0, .slice none 0 0, .slice none 0 0] 70) = w1 at *
  have b0 : w1.cell? ⟨w.heap.size, 0, none⟩ = some (.int .u64 v.log) := (blk_cell X2.out 0).trans rfl
  have b1 : w1.cell? ⟨w.heap.size, 1, none⟩ = some (.int .u64 v.next) := (blk_cell X2.out 1).trans rfl
  have b2 : w1.cell? ⟨w.heap.size, 2, none⟩ = some (.int .u64 v.seq) := (blk_cell X2.out 2).trans rfl
  have b3 : w1.cell? ⟨w.heap.size, 3, none⟩ = some (.slice p.a0 v.l0.length p.c0) := (blk_cell X2.out 3).trans rfl
  have b4 : w1.cell? ⟨w.heap.size, 4, none⟩ = some (.slice p.a1 v.l1.length p.c1) := (blk_cell X2.out 4).trans rfl
  have b5 : w1.cell? ⟨w.heap.size, 5, none⟩ = some (.slice p.a2 v.l2.length p.c2) := (blk_cell X2.out 5).trans rfl
  have b6 : w1.cell? ⟨w.heap.size, 6, none⟩ = some (.slice p.a3 v.l3.length p.c3) := (blk_cell X2.out 6).trans rfl
  go_wp2_with fail
  refine (rightR_calls _ v p (HC.out.below HB.out)).mono ?_
  rintro e w3 ⟨rfl, hb⟩
  have HB3 := Aside0.mk (below_step HB.out hb)
  have X23 := Aside0.mk (blk_below X2.out hb)
  have X43 := Aside0.mk (blk_below X4.out hb)
  have X63 := Aside0.mk (blk_below X6.out hb)
  clear hb HB X2 X4 X6 b0 b1 b2 b3 b4 b5 b6
  have y0 : w3.cell? ⟨g4, 0, none⟩ = some (.int .i64 lev) := (blk_cell X43.out 0).trans rfl
  by_cases hr : rightP v
  · rw [decide_eq_true hr]
    have RV := Aside0.mk hr
    clear hr
    by_cases h0 : 0 ≤ lev
    · by_cases h1 : lev < 3
      · have ASK := Aside0.mk (show askP v lev from ⟨RV.out, h0, h1⟩)
        obtain ⟨ll, hll⟩ := Int.eq_ofNat_of_zero_le h0
        subst hll
        have LL3 := Aside0.mk (show ll < 3 by omega)
        have z0 : decide ((ll : Int) < 0) = false := decide_eq_false (by omega)
        have z1 : decide ((2 : Int) < (ll : Int)) = false := decide_eq_false (by omega)
        have z2 : decide (2 < ll) = false := decide_eq_false (by omega)
        have VN := Aside0.mk (show 1 ≤ v.next from RV.out.1.2.2.1)
        clear h0 h1
        have X8e := Aside0.mk (blk_new w3 (.cells #[.int .u64 0, .int .u64 0, .int .u64 0, .slice none 0 0, .slice none 0 0] 70))
        have HBe := Aside0.mk ((Below.refl w3.heap.size w3).alloc (Nat.le_refl _) (.cells #[.int .u64 0, .int .u64 0, .int .u64 0, .slice none 0 0, .slice none 0 0] 70))
        have X4e := Aside0.mk (blk_below X43.out HBe.out)
        have KB := both_calls (w3.alloc (.cells #[.int .u64 0, .int .u64 0, .int .u64 0, .slice none 0 0, .slice none 0 0] 70)) (ll : Int) A1 c1 In A2 c2 Ov (Kd.C_below H1.out (below_step HB3.out HBe.out)) (Kd.C_below H2.out (below_step HB3.out HBe.out)) LI.out LO.out
        go_upto_region 4 with (fail)
        clear y0 z0 z1 z2
        have y0 : (w3.alloc (.cells #[.int .u64 0, .int .u64 0, .int .u64 0, .slice none 0 0, .slice none 0 0] 70)).cell? ⟨g4, 0, none⟩ = some (.int .i64 (ll : Int)) := (blk_cell X4e.out 0).trans rfl
        have y1 : (w3.alloc (.cells #[.int .u64 0, .int .u64 0, .int .u64 0, .slice none 0 0, .slice none 0 0] 70)).cell? ⟨g4, 1, none⟩ = some (.slice A1 In.length c1) := (blk_cell X4e.out 1).trans rfl
        have y2 : (w3.alloc (.cells #[.int .u64 0, .int .u64 0, .int .u64 0, .slice none 0 0, .slice none 0 0] 70)).cell? ⟨g4, 2, none⟩ = some (.slice A2 Ov.length c2) := (blk_cell X4e.out 2).trans rfl
        go_wp2_with fail
        refine KB.mono ?_
        clear KB y0 y1 y2
        rintro e w4 ⟨x, rfl, hR, hb⟩
        obtain ⟨Bl, cl, hv⟩ := Kd.R_slice hR
        subst hv
        obtain ⟨L, hL⟩ : ∃ L, L = In ++ Ov := ⟨_, rfl⟩
        rw [← hL] at hR
        have LQ := Aside0.mk hL
        have LLEN := Aside0.mk (show L.length ≤ 200000000 by rw [hL, List.length_append]; have := LI.out; have := LO.out; omega)
        have RL := Aside0.mk (Kd.R_lower hR HBe.out.size)
        have HB := Aside0.mk (HBe.out.trans (hb.mono HBe.out.size))
        have X8 := Aside0.mk (blk_below X8e.out hb)
        rw [← hL]
        clear hb hR hL HBe X8e X4e
        go_wp2_with fail
        go_loopg [10, 11, 12] L.length (fun kq v10 v11 v12 w' => ∃ (i : Nat) (B : Option Addr) (cb : Nat), v10 = .int .i64 (i : Int) ∧ Aside0 (kq + i = L.length) ∧ Aside0 (Below w3.heap.size w3 w') ∧ Aside0 (w'.heap[w3.heap.size]? = some (.cells #[.int .u64 0, .int .u64 0, .int .u64 0, .slice B (goneL (ll : Int) In Ov i).length cb, .slice none 0 0] 70 (0, 0))) ∧ Aside0 (Kd.R k84 84 w' w3.heap.size (fun _ => True) (.slice B (goneL (ll : Int) In Ov i).length cb) (goneL (ll : Int) In Ov i)) ∧ Aside0 (Kd.R k58 58 w' w3.heap.size (fun _ => True) (.slice Bl L.length cl) L) ∧ Aside0 (goneP v (ll : Int) In Ov i))
        case atStart => exact ⟨0, none, 0, rfl, ⟨by omega⟩, HB, X8, ⟨Kd.R_nil _ _ _ _ _⟩, RL, ⟨⟨fun i hi => by omega, by simp [nums]⟩⟩⟩
        case round =>
          clear HB X8 RL
          obtain ⟨i, B, cb, rfl, HK, HB, X8, RG, RL, GP⟩ := hrel
          have X2 := Aside0.mk (blk_below X23.out HB.out)
          have X4 := Aside0.mk (blk_below X43.out HB.out)
          have X6 := Aside0.mk (blk_below X63.out HB.out)
          have y0 : wr.cell? ⟨g4, 0, none⟩ = some (.int .i64 (ll : Int)) := (blk_cell X4.out 0).trans rfl
          have y1 : wr.cell? ⟨g4, 1, none⟩ = some (.slice A1 In.length c1) := (blk_cell X4.out 1).trans rfl
          have y2 : wr.cell? ⟨g4, 2, none⟩ = some (.slice A2 Ov.length c2) := (blk_cell X4.out 2).trans rfl
          cases gk with
          | zero =>
            have ei : i = L.length := by have := HK.out; omega
            subst ei
            have d1 : decide ((L.length : Int) < (L.length : Int)) = false := by simp
            have OF := (show L.length = (In ++ Ov).length by rw [LQ.out])
            rw [OF] at X8 RG GP
            have GPF := GP
            clear OF HK y0 y1 y2
            go_wp2_with fail
            clear d1
            go_loopg [13, 14] out.length (fun kq v13 v14 w' => ∃ (k : Nat) (B2 : Option Addr) (cb2 : Nat), v14 = .int .i64 (k : Int) ∧ v13 = .int .u64 (mxL (out.take k)) ∧ Aside0 (kq + k = out.length) ∧ Aside0 (Below w3.heap.size w3 w') ∧ Aside0 (w'.heap[w3.heap.size]? = some (.cells #[.int .u64 0, .int .u64 0, .int .u64 0, .slice B (goneL (ll : Int) In Ov (In ++ Ov).length).length cb, .slice B2 (addL (ll : Int) (out.take k)).length cb2] 70 (0, 0))) ∧ Aside0 (Kd.R k84 84 w' w3.heap.size (fun _ => True) (.slice B (goneL (ll : Int) In Ov (In ++ Ov).length).length cb) (goneL (ll : Int) In Ov (In ++ Ov).length)) ∧ Aside0 (Kd.R k82 82 w' w3.heap.size (fun _ => True) (.slice B2 (addL (ll : Int) (out.take k)).length cb2) (addL (ll : Int) (out.take k))) ∧ Aside0 (Kd.R k58 58 w' w3.heap.size (fun _ => True) (.slice Bl L.length cl) L) ∧ Aside0 (∀ i, i < k → cameP (In ++ Ov) (out.getD i z58)))
            case atStart => exact ⟨0, none, 0, rfl, rfl, ⟨by omega⟩, HB, X8, RG, ⟨Kd.R_nil _ _ _ _ _⟩, RL, ⟨fun i hi => by omega⟩⟩
            case round =>
              clear HB X8 RG RL X2 X4 X6
              obtain ⟨k, B2, cb2, rfl, rfl, HKK, HB, X8, RG, RA, RL, CP⟩ := hrel
              have X2 := Aside0.mk (blk_below X23.out HB.out)
              have X4 := Aside0.mk (blk_below X43.out HB.out)
              have X6 := Aside0.mk (blk_below X63.out HB.out)
              cases gk with
              | zero =>
                have ek : k = out.length := by have := HKK.out; omega
                subst ek
                have d1 : decide ((out.length : Int) < (out.length : Int)) = false := by simp
                rw [List.take_length] at X8 RA
                rw [List.take_length]
                have CAM := Aside0.mk (show ∀ m, m ∈ out → cameP (In ++ Ov) m from fun m hm => by
                  obtain ⟨x, hx, hx2⟩ := List.getElem_of_mem hm
                  have h1 := CP.out x hx
                  rw [List.getD_eq_getElem?_getD, List.getElem?_eq_getElem hx] at h1
                  rw [← hx2]; exact h1)
                have EG := Aside0.mk (show edG v (ll : Int) In Ov out from ⟨GPF.out, CAM.out⟩)
                obtain ⟨mx, hmx⟩ : ∃ x, x = mxL out := ⟨_, rfl⟩
                rw [← hmx]
                have MXQ := Aside0.mk hmx
                have MXB := Aside0.mk (show mx ≤ 99999998 by rw [hmx]; exact mxL_le (fun m hm => (CAM.out m hm).2.2.2.2))
                clear hmx
                have vn : wr.cell? ⟨w.heap.size, 1, none⟩ = some (.int .u64 v.next) := (blk_cell X2.out 1).trans rfl
                by_cases hn : v.next ≤ mx
                · skip
                  have hgt : mx ≤ 99999998 := MXB.out
                  have ewn : IntKind.u64.wrap (mx + 1) = mx + 1 := by have := mxL_pos out; rw [← MXQ.out] at this; rw [IntKind.wrap_u64]; omega
                  have mx0 : 0 ≤ mx := by have := mxL_pos out; rw [← MXQ.out] at this; exact this
                  have NXE := Aside0.mk (show nxtL v out = mx + 1 by unfold nxtL; rw [← MXQ.out, if_pos hn])
                  have t5 : decide (v.next ≤ mx) = true := decide_eq_true hn
                  have X8f := Aside0.mk (five_set (cs' := #[.int .u64 0, .int .u64 (mx + 1), .int .u64 0, .slice B (goneL (ll : Int) In Ov (In ++ Ov).length).length cb, .slice B2 (addL (ll : Int) out).length cb2]) X8.out (j := 1) (.int .u64 (mx + 1)) rfl)
                  have RGf := Aside0.mk (Kd.R_mono (Kd.R_set RG.out X8.out (by intro x hx; simp [show k84.E = [] from rfl] at hx; omega) 1 (.int .u64 (mx + 1))) (fun _ _ => trivial))
                  have RAf := Aside0.mk (Kd.R_mono (Kd.R_set RA.out X8.out (by intro x hx; simp [show k82.E = [] from rfl] at hx; omega) 1 (.int .u64 (mx + 1))) (fun _ _ => trivial))
                  have HBf := Aside0.mk (below_set (j := 1) (v := .int .u64 (mx + 1)) HB.out (Nat.le_refl _))
                  have X6f := Aside0.mk (blk_below X63.out HBf.out)
                  have zn := blk_frozen X8.out 1
                  have zm : wr.cell? ⟨w3.heap.size, 1, none⟩ = some (.int .u64 0) := (blk_cell X8.out 1).trans rfl
                  clear hn
                  obtain ⟨GL, hGL⟩ : ∃ g, g = goneL (ll : Int) In Ov (In ++ Ov).length := ⟨_, rfl⟩
                  obtain ⟨AL, hAL⟩ : ∃ a, a = addL (ll : Int) out := ⟨_, rfl⟩
                  rw [← hGL] at X8f RGf
                  rw [← hAL] at X8f RAf
                  have E1 := Aside0.mk (show xe = ⟨0, (mx + 1), 0, GL, AL⟩ by rw [XE.out, hGL, hAL]; unfold edV; rw [if_pos ⟨ASK.out, EG.out⟩, NXE.out])
                  have E2 := Aside0.mk (show xf = 0 by rw [XF.out]; unfold edE; rw [if_pos ASK.out, if_pos EG.out])
                  clear hGL hAL
                  go_upto_region 29 with (fail)
                  generalize wr.setCell ⟨w3.heap.size, 1, none⟩ (.int .u64 (mx + 1)) = wf at *
                  have z0 : wf.cell? ⟨w3.heap.size, 0, none⟩ = some (.int .u64 0) := (blk_cell X8f.out 0).trans rfl
                  have z1 : wf.cell? ⟨w3.heap.size, 1, none⟩ = some (.int .u64 (mx + 1)) := (blk_cell X8f.out 1).trans rfl
                  have z2 : wf.cell? ⟨w3.heap.size, 2, none⟩ = some (.int .u64 0) := (blk_cell X8f.out 2).trans rfl
                  have z3 : wf.cell? ⟨w3.heap.size, 3, none⟩ = some (.slice B GL.length cb) := (blk_cell X8f.out 3).trans rfl
                  have z4 : wf.cell? ⟨w3.heap.size, 4, none⟩ = some (.slice B2 AL.length cb2) := (blk_cell X8f.out 4).trans rfl
                  go_wp2_with (first | (refine st_arr rfl 70 _ _ rfl g6 70 ?hx #[.int .u64 0, .int .u64 (mx + 1), .int .u64 0, .slice B GL.length cb, .slice B2 AL.length cb2] ?hy _ X6f.out (by rw [size70]; rfl) rfl (by simp [Value.oneCell']) ?_; (case hx => rfl); (case hy => rfl); intro w5 hb5 hbb hk5 hs5; have HB5 := Aside0.mk (hbb _ _ (below_step HB3.out HBf.out) (show w.heap.size ≤ g6 by have := N1.out; omega)); have X65 := Aside0.mk hb5; have RG5 := Aside0.mk (R84_other RGf.out X6f.out hk5); have RA5 := Aside0.mk (R82_other RAf.out X6f.out hk5); clear hb5 hbb hk5 hs5) | fail)
                  have r0 : w5.cell? ⟨g6, 0, none⟩ = some (.int .u64 0) := (blk_cell X65.out 0).trans rfl
                  have r1 : w5.cell? ⟨g6, 1, none⟩ = some (.int .u64 (mx + 1)) := (blk_cell X65.out 1).trans rfl
                  have r2 : w5.cell? ⟨g6, 2, none⟩ = some (.int .u64 0) := (blk_cell X65.out 2).trans rfl
                  have r3 : w5.cell? ⟨g6, 3, none⟩ = some (.slice B GL.length cb) := (blk_cell X65.out 3).trans rfl
                  have r4 : w5.cell? ⟨g6, 4, none⟩ = some (.slice B2 AL.length cb2) := (blk_cell X65.out 4).trans rfl
                  exact bodyPost_ret (v := .tuple #[.agg #[.int .u64 0, .int .u64 (mx + 1), .int .u64 0, .slice B GL.length cb, .slice B2 AL.length cb2], .int .i64 0]) (by simp [results, Try.results49, go_sem, r0, r1, r2, r3, r4]) rfl ⟨B, cb, B2, cb2, by rw [E1.out, E2.out], by rw [E1.out]; exact Kd.R_lower RG5.out HB3.out.size, by rw [E1.out]; exact Kd.R_lower RA5.out HB3.out.size, HB5.out⟩
                · skip
                  have NXE := Aside0.mk (show nxtL v out = 0 by unfold nxtL; rw [← MXQ.out, if_neg hn])
                  have t5 : decide (v.next ≤ mx) = false := decide_eq_false hn
                  have X8f := X8
                  have RGf := RG
                  have RAf := RA
                  have HBf := HB
                  have X6f := X6
                  clear hn
                  obtain ⟨GL, hGL⟩ : ∃ g, g = goneL (ll : Int) In Ov (In ++ Ov).length := ⟨_, rfl⟩
                  obtain ⟨AL, hAL⟩ : ∃ a, a = addL (ll : Int) out := ⟨_, rfl⟩
                  rw [← hGL] at X8f RGf
                  rw [← hAL] at X8f RAf
                  have E1 := Aside0.mk (show xe = ⟨0, 0, 0, GL, AL⟩ by rw [XE.out, hGL, hAL]; unfold edV; rw [if_pos ⟨ASK.out, EG.out⟩, NXE.out])
                  have E2 := Aside0.mk (show xf = 0 by rw [XF.out]; unfold edE; rw [if_pos ASK.out, if_pos EG.out])
                  clear hGL hAL
                  go_upto_region 29 with (fail)
                  have wfq := trivial
                  have z0 : wr.cell? ⟨w3.heap.size, 0, none⟩ = some (.int .u64 0) := (blk_cell X8f.out 0).trans rfl
                  have z1 : wr.cell? ⟨w3.heap.size, 1, none⟩ = some (.int .u64 0) := (blk_cell X8f.out 1).trans rfl
                  have z2 : wr.cell? ⟨w3.heap.size, 2, none⟩ = some (.int .u64 0) := (blk_cell X8f.out 2).trans rfl
                  have z3 : wr.cell? ⟨w3.heap.size, 3, none⟩ = some (.slice B GL.length cb) := (blk_cell X8f.out 3).trans rfl
                  have z4 : wr.cell? ⟨w3.heap.size, 4, none⟩ = some (.slice B2 AL.length cb2) := (blk_cell X8f.out 4).trans rfl
                  go_wp2_with (first | (refine st_arr rfl 70 _ _ rfl g6 70 ?hx #[.int .u64 0, .int .u64 0, .int .u64 0, .slice B GL.length cb, .slice B2 AL.length cb2] ?hy _ X6f.out (by rw [size70]; rfl) rfl (by simp [Value.oneCell']) ?_; (case hx => rfl); (case hy => rfl); intro w5 hb5 hbb hk5 hs5; have HB5 := Aside0.mk (hbb _ _ (below_step HB3.out HBf.out) (show w.heap.size ≤ g6 by have := N1.out; omega)); have X65 := Aside0.mk hb5; have RG5 := Aside0.mk (R84_other RGf.out X6f.out hk5); have RA5 := Aside0.mk (R82_other RAf.out X6f.out hk5); clear hb5 hbb hk5 hs5) | fail)
                  have r0 : w5.cell? ⟨g6, 0, none⟩ = some (.int .u64 0) := (blk_cell X65.out 0).trans rfl
                  have r1 : w5.cell? ⟨g6, 1, none⟩ = some (.int .u64 0) := (blk_cell X65.out 1).trans rfl
                  have r2 : w5.cell? ⟨g6, 2, none⟩ = some (.int .u64 0) := (blk_cell X65.out 2).trans rfl
                  have r3 : w5.cell? ⟨g6, 3, none⟩ = some (.slice B GL.length cb) := (blk_cell X65.out 3).trans rfl
                  have r4 : w5.cell? ⟨g6, 4, none⟩ = some (.slice B2 AL.length cb2) := (blk_cell X65.out 4).trans rfl
                  exact bodyPost_ret (v := .tuple #[.agg #[.int .u64 0, .int .u64 0, .int .u64 0, .slice B GL.length cb, .slice B2 AL.length cb2], .int .i64 0]) (by simp [results, Try.results49, go_sem, r0, r1, r2, r3, r4]) rfl ⟨B, cb, B2, cb2, by rw [E1.out, E2.out], by rw [E1.out]; exact Kd.R_lower RG5.out HB3.out.size, by rw [E1.out]; exact Kd.R_lower RA5.out HB3.out.size, HB5.out⟩
              | succ q =>
                have hk : k < out.length := by have := HKK.out; omega
                have HKL := Aside0.mk hk
                have d1 : decide ((k : Int) < (out.length : Int)) = true := decide_eq_true (by omega)
                have d2 : decide (k < out.length) = true := decide_eq_true hk
                have p0 : 0 ≤ (k : Int) := Int.natCast_nonneg _
                have p1 : (k : Int) < (out.length : Int) := by omega
                have ew : wrap64 ((k : Int) + 1) = ((k + 1 : Nat) : Int) := by have h1 := LT.out; unfold wrap64; omega
                obtain ⟨al, hal⟩ : ∃ a : Int, a = (ll : Int) + 1 := ⟨_, rfl⟩
                have ALQ := Aside0.mk hal
                have al0 : 0 ≤ al := by omega
                have al1 : al ≤ 4 := by have := LL3.out; omega
                have aq : (ll : Int) + 1 = al := hal.symm
                have aq2 : IntKind.i64.wrap al = al := by rw [IntKind.wrap_i64]; omega
                have aq3 : wrap64 al = al := by unfold wrap64; omega
                clear hal
                obtain ⟨ax, ea, ha0, ha1, ha2, ha3, ha4, ha5, ha6⟩ := at_T58 (Kd.C_below H5.out (below_step HB3.out HB.out)) (k : Int) p0 p1
                rw [Int.toNat_natCast] at ha0 ha1 ha2 ha3 ha4 ha5 ha6
                have EM := Aside0.mk (show rd_T58 out (k : Int) = out.getD k z58 by unfold rd_T58; rw [Int.toNat_natCast])
                generalize rd_T58 out (k : Int) = m at *
                have TS := Aside0.mk (show out.take (k + 1) = out.take k ++ [m] by rw [take_snoc out z58 hk, ← EM.out])
                have MIN := Aside0.mk (show m ∈ out by rw [EM.out]; exact getD_mem out z58 hk)
                obtain ⟨AD, hAD⟩ : ∃ a, a = addL (ll : Int) (out.take k) := ⟨_, rfl⟩
                rw [← hAD] at X8 RA
                have ADQ := Aside0.mk hAD
                have LAD := Aside0.mk (show AD.length ≤ 100000000 by rw [hAD, addL, List.length_map, List.length_take]; have := LT.out; omega)
                obtain ⟨mx, hmx⟩ : ∃ n, n = mxL (out.take k) := ⟨_, rfl⟩
                rw [← hmx]
                have MXS := Aside0.mk (show mxL (out.take (k + 1)) = if mx < m.f0 then m.f0 else mx by rw [TS.out, mxL_snoc, hmx])
                rw [ea]
                have HAX := Aside0.mk ea
                obtain ⟨sp, hsp⟩ : ∃ s, s = spanM (In ++ Ov) := ⟨_, rfl⟩
                have SQ := Aside0.mk hsp
                have KSP := Aside0.mk (show ∀ w9, Below wr.heap.size wr w9 → Calls Try.prog 95 #[.slice Bl L.length cl] w9 fun x w' => x = .returned (.agg #[.int .u64 sp.f0, .int .i64 sp.f1, .int .i64 sp.f2, .string sp.f3, .string sp.f4, .int .u64 sp.f5, .int .u64 sp.f6]) ∧ Below w9.heap.size w9 w' from fun w9 hb => by
                  have h1 := spanR_calls w9 Bl cl L (Kd.C_below (Kd.R_reads' RL.out).2.2 hb)
                  rw [LQ.out, ← hsp] at h1
                  rw [LQ.out]
                  exact h1)
                clear ea hk hAD hmx hsp
                by_cases hLn : L = []
                · have l0 : ((L.length : Int) == 0) = true := by rw [hLn]; rfl
                  have l1 : (L.length == 0) = true := by rw [hLn]; rfl
                  have l2 : L.isEmpty = true := by rw [hLn]; rfl
                  have LNIL := Aside0.mk (show In ++ Ov = [] by rw [← LQ.out]; exact hLn)
                  clear hLn
                  have BAD := Aside0.mk (show ¬ edG v (ll : Int) In Ov out from fun h => (h.2 m MIN.out).1 LNIL.out)
                  go_wp2_with fail
                  refine start_ (n := 41) (S := (fun w' => Below wr.heap.size wr w' ∧ w'.cell? (ax.add (k * 7)) = some (.int .u64 m.f0) ∧ w'.cell? ⟨(ax.add (k * 7)).block, (ax.add (k * 7)).off + 3, none⟩ = some (.string m.f3) ∧ w'.cell? ⟨(ax.add (k * 7)).block, (ax.add (k * 7)).off + 4, none⟩ = some (.string m.f4))) (ds := []) (bl 41 0 []) (by kernel_rfl) rfl (by kernel_rfl) ⟨below_drew (Below.refl _ _), ha0, ha3, ha4⟩ (fun hHeld => ?_)
                  refine pure_ (i := 0) (N := (some 92)) (v := ?_) (a' := ?_) (bl 41 1 []) rfl rfl (by kernel_rfl) (fun _ _ _ h => h) (Or.inl ⟨by rfl, ?_⟩) ?_ ?_
                  rotate_left
                  · intro w'
                    go_simp
                    with_reducible rfl
                  rotate_left
                  · simp only [Act.put, sA_, sB_, sC_, i64_w, i32_w]
                    rfl
                  refine pure_ (i := 1) (N := (some 93)) (v := ?_) (a' := ?_) (bl 41 2 []) rfl rfl (by kernel_rfl) (fun _ _ _ h => h) (Or.inl ⟨by rfl, ?_⟩) ?_ ?_
                  rotate_left
                  · intro w'
                    go_simp
                    with_reducible rfl
                  rotate_left
                  · simp only [Act.put, sA_, sB_, sC_, i64_w, i32_w]
                    rfl
                  refine pure_ (i := 2) (N := (some 94)) (v := ?_) (a' := ?_) (bl 41 3 []) rfl rfl (by kernel_rfl) (fun _ _ _ h => h) (Or.inl ⟨by rfl, ?_⟩) ?_ ?_
                  rotate_left
                  · intro w'
                    go_simp
                    with_reducible rfl
                  rotate_left
                  · simp only [Act.put, sA_, sB_, sC_, i64_w, i32_w]
                    rfl
                  refine pure_ (i := 3) (N := (some 95)) (v := ?_) (a' := ?_) (bl 41 4 []) rfl rfl (by kernel_rfl) (fun _ _ _ h => h) (Or.inl ⟨by rfl, ?_⟩) ?_ ?_
                  rotate_left
                  · intro w'
                    go_simp
                    with_reducible rfl
                  rotate_left
                  · simp only [Act.put, sA_, sB_, sC_, i64_w, i32_w]
                    rfl
                  refine pure_ (i := 4) (N := (some 96)) (v := undef) (a' := ?_) (bl 41 5 []) rfl rfl (by kernel_rfl) (fun _ _ _ h => h) (Or.inr ⟨by rfl, rfl⟩) ?_ ?_
                  rotate_left
                  · simp only [Act.put, sA_, sB_, sC_, i64_w, i32_w]
                    rfl
                  refine pure_ (i := 5) (N := (some 97)) (v := undef) (a' := ?_) (bl 41 6 []) rfl rfl (by kernel_rfl) (fun _ _ _ h => h) (Or.inr ⟨by rfl, rfl⟩) ?_ ?_
                  rotate_left
                  · simp only [Act.put, sA_, sB_, sC_, i64_w, i32_w]
                    rfl
                  refine pure_ (i := 6) (N := (some 98)) (v := undef) (a' := ?_) (bl 41 7 []) rfl rfl (by kernel_rfl) (fun _ _ _ h => h) (Or.inr ⟨by rfl, rfl⟩) ?_ ?_
                  rotate_left
                  · simp only [Act.put, sA_, sB_, sC_, i64_w, i32_w]
                    rfl
                  refine pure_ (i := 7) (N := (some 99)) (v := undef) (a' := ?_) (bl 41 8 []) rfl rfl (by kernel_rfl) (fun _ _ _ h => h) (Or.inr ⟨by rfl, rfl⟩) ?_ ?_
                  rotate_left
                  · simp only [Act.put, sA_, sB_, sC_, i64_w, i32_w]
                    rfl
                  refine pure_ (i := 8) (N := (some 100)) (v := undef) (a' := ?_) (bl 41 9 []) rfl rfl (by kernel_rfl) (fun _ _ _ h => h) (Or.inr ⟨by rfl, rfl⟩) ?_ ?_
                  rotate_left
                  · simp only [Act.put, sA_, sB_, sC_, i64_w, i32_w]
                    rfl
                  refine pure_ (i := 9) (N := (some 101)) (v := undef) (a' := ?_) (bl 41 10 []) rfl rfl (by kernel_rfl) (fun _ _ _ h => h) (Or.inr ⟨by rfl, rfl⟩) ?_ ?_
                  rotate_left
                  · simp only [Act.put, sA_, sB_, sC_, i64_w, i32_w]
                    rfl
                  refine pure_ (i := 10) (N := (some 102)) (v := undef) (a' := ?_) (bl 41 11 []) rfl rfl (by kernel_rfl) (fun _ _ _ h => h) (Or.inr ⟨by rfl, rfl⟩) ?_ ?_
                  rotate_left
                  · simp only [Act.put, sA_, sB_, sC_, i64_w, i32_w]
                    rfl
                  refine pure_ (i := 11) (N := (some 103)) (v := undef) (a' := ?_) (bl 41 12 []) rfl rfl (by kernel_rfl) (fun _ _ _ h => h) (Or.inr ⟨by rfl, rfl⟩) ?_ ?_
                  rotate_left
                  · simp only [Act.put, sA_, sB_, sC_, i64_w, i32_w]
                    rfl
                  refine pure_ (i := 12) (N := (some 104)) (v := undef) (a' := ?_) (bl 41 13 []) rfl rfl (by kernel_rfl) (fun _ _ _ h => h) (Or.inr ⟨by rfl, rfl⟩) ?_ ?_
                  rotate_left
                  · simp only [Act.put, sA_, sB_, sC_, i64_w, i32_w]
                    rfl
                  refine pure_ (i := 13) (N := (some 105)) (v := ?_) (a' := ?_) (bl 41 14 []) rfl rfl (by kernel_rfl) (fun _ _ _ h => h) (Or.inl ⟨by rfl, ?_⟩) ?_ ?_
                  rotate_left
                  · intro w'
                    go_simp
                    with_reducible rfl
                  rotate_left
                  · simp only [Act.put, sA_, sB_, sC_, i64_w, i32_w]
                    rfl
                  refine pure_ (i := 14) (N := (some 106)) (v := ?_) (a' := ?_) (bl 41 15 []) rfl rfl (by kernel_rfl) (fun _ _ _ h => h) (Or.inl ⟨by rfl, ?_⟩) ?_ ?_
                  rotate_left
                  · intro w'
                    go_simp
                    with_reducible rfl
                  rotate_left
                  · simp only [Act.put, sA_, sB_, sC_, i64_w, i32_w]
                    rfl
                  refine pure_ (i := 15) (N := (some 107)) (v := undef) (a' := ?_) (bl 41 16 []) rfl rfl (by kernel_rfl) (fun _ _ _ h => h) (Or.inr ⟨by rfl, rfl⟩) ?_ ?_
                  rotate_left
                  · simp only [Act.put, sA_, sB_, sC_, i64_w, i32_w]
                    rfl
                  refine pure_ (i := 16) (N := (some 108)) (v := undef) (a' := ?_) (bl 41 17 []) rfl rfl (by kernel_rfl) (fun _ _ _ h => h) (Or.inr ⟨by rfl, rfl⟩) ?_ ?_
                  rotate_left
                  · simp only [Act.put, sA_, sB_, sC_, i64_w, i32_w]
                    rfl
                  refine pure_ (i := 17) (N := (some 109)) (v := undef) (a' := ?_) (bl 41 18 []) rfl rfl (by kernel_rfl) (fun _ _ _ h => h) (Or.inr ⟨by rfl, rfl⟩) ?_ ?_
                  rotate_left
                  · simp only [Act.put, sA_, sB_, sC_, i64_w, i32_w]
                    rfl
                  refine pure_ (i := 18) (N := (some 110)) (v := undef) (a' := ?_) (bl 41 19 []) rfl rfl (by kernel_rfl) (fun _ _ _ h => h) (Or.inr ⟨by rfl, rfl⟩) ?_ ?_
                  rotate_left
                  · simp only [Act.put, sA_, sB_, sC_, i64_w, i32_w]
                    rfl
                  refine pure_ (i := 19) (N := (some 111)) (v := undef) (a' := ?_) (bl 41 20 []) rfl rfl (by kernel_rfl) (fun _ _ _ h => h) (Or.inr ⟨by rfl, rfl⟩) ?_ ?_
                  rotate_left
                  · simp only [Act.put, sA_, sB_, sC_, i64_w, i32_w]
                    rfl
                  refine pure_ (i := 20) (N := (some 112)) (v := undef) (a' := ?_) (bl 41 21 []) rfl rfl (by kernel_rfl) (fun _ _ _ h => h) (Or.inr ⟨by rfl, rfl⟩) ?_ ?_
                  rotate_left
                  · simp only [Act.put, sA_, sB_, sC_, i64_w, i32_w]
                    rfl
                  refine pure_ (i := 21) (N := (some 113)) (v := undef) (a' := ?_) (bl 41 22 []) rfl rfl (by kernel_rfl) (fun _ _ _ h => h) (Or.inr ⟨by rfl, rfl⟩) ?_ ?_
                  rotate_left
                  · simp only [Act.put, sA_, sB_, sC_, i64_w, i32_w]
                    rfl
                  refine pure_ (i := 22) (N := (some 114)) (v := undef) (a' := ?_) (bl 41 23 []) rfl rfl (by kernel_rfl) (fun _ _ _ h => h) (Or.inr ⟨by rfl, rfl⟩) ?_ ?_
                  rotate_left
                  · simp only [Act.put, sA_, sB_, sC_, i64_w, i32_w]
                    rfl
                  refine pure_ (i := 23) (N := (some 115)) (v := undef) (a' := ?_) (bl 41 24 []) rfl rfl (by kernel_rfl) (fun _ _ _ h => h) (Or.inr ⟨by rfl, rfl⟩) ?_ ?_
                  rotate_left
                  · simp only [Act.put, sA_, sB_, sC_, i64_w, i32_w]
                    rfl
                  refine pure_ (i := 24) (N := (some 116)) (v := ?_) (a' := ?_) (bl 41 25 []) rfl rfl (by kernel_rfl) (fun _ _ _ h => h) (Or.inl ⟨by rfl, ?_⟩) ?_ ?_
                  rotate_left
                  · intro w'
                    go_simp
                    with_reducible rfl
                  rotate_left
                  · simp only [Act.put, sA_, sB_, sC_, i64_w, i32_w]
                    rfl
                  refine pure_ (i := 25) (N := (some 117)) (v := ?_) (a' := ?_) (bl 41 26 []) rfl rfl (by kernel_rfl) (fun _ _ _ h => h) (Or.inl ⟨by rfl, ?_⟩) ?_ ?_
                  rotate_left
                  · intro w'
                    go_simp
                    with_reducible rfl
                  rotate_left
                  · simp only [Act.put, sA_, sB_, sC_, i64_w, i32_w]
                    rfl
                  refine pure_ (i := 26) (N := (some 118)) (v := undef) (a' := ?_) (bl 41 27 []) rfl rfl (by kernel_rfl) (fun _ _ _ h => h) (Or.inr ⟨by rfl, rfl⟩) ?_ ?_
                  rotate_left
                  · simp only [Act.put, sA_, sB_, sC_, i64_w, i32_w]
                    rfl
                  refine pure_ (i := 27) (N := (some 119)) (v := undef) (a' := ?_) (bl 41 28 []) rfl rfl (by kernel_rfl) (fun _ _ _ h => h) (Or.inr ⟨by rfl, rfl⟩) ?_ ?_
                  rotate_left
                  · simp only [Act.put, sA_, sB_, sC_, i64_w, i32_w]
                    rfl
                  refine pure_ (i := 28) (N := (some 120)) (v := undef) (a' := ?_) (bl 41 29 []) rfl rfl (by kernel_rfl) (fun _ _ _ h => h) (Or.inr ⟨by rfl, rfl⟩) ?_ ?_
                  rotate_left
                  · simp only [Act.put, sA_, sB_, sC_, i64_w, i32_w]
                    rfl
                  refine pure_ (i := 29) (N := (some 121)) (v := undef) (a' := ?_) (bl 41 30 []) rfl rfl (by kernel_rfl) (fun _ _ _ h => h) (Or.inr ⟨by rfl, rfl⟩) ?_ ?_
                  rotate_left
                  · simp only [Act.put, sA_, sB_, sC_, i64_w, i32_w]
                    rfl
                  refine pure_ (i := 30) (N := (some 122)) (v := undef) (a' := ?_) (bl 41 31 []) rfl rfl (by kernel_rfl) (fun _ _ _ h => h) (Or.inr ⟨by rfl, rfl⟩) ?_ ?_
                  rotate_left
                  · simp only [Act.put, sA_, sB_, sC_, i64_w, i32_w]
                    rfl
                  refine pure_ (i := 31) (N := (some 123)) (v := undef) (a' := ?_) (bl 41 32 []) rfl rfl (by kernel_rfl) (fun _ _ _ h => h) (Or.inr ⟨by rfl, rfl⟩) ?_ ?_
                  rotate_left
                  · simp only [Act.put, sA_, sB_, sC_, i64_w, i32_w]
                    rfl
                  refine pure_ (i := 32) (N := (some 124)) (v := ?_) (a' := ?_) (bl 41 33 []) rfl rfl (by kernel_rfl) (fun _ _ _ h => h) (Or.inl ⟨by rfl, ?_⟩) ?_ ?_
                  rotate_left
                  · intro w'
                    go_simp
                    with_reducible rfl
                  rotate_left
                  · simp only [Act.put, sA_, sB_, sC_, i64_w, i32_w]
                    rfl
                  refine pure_ (i := 33) (N := (some 125)) (v := ?_) (a' := ?_) (bl 41 34 []) rfl rfl (by kernel_rfl) (fun _ _ _ h => h) (Or.inl ⟨by rfl, ?_⟩) ?_ ?_
                  rotate_left
                  · intro w'
                    go_simp
                    with_reducible rfl
                  rotate_left
                  · simp only [Act.put, sA_, sB_, sC_, i64_w, i32_w]
                    rfl
                  refine pure_ (i := 34) (N := (some 126)) (v := undef) (a' := ?_) (bl 41 35 []) rfl rfl (by kernel_rfl) (fun _ _ _ h => h) (Or.inr ⟨by rfl, rfl⟩) ?_ ?_
                  rotate_left
                  · simp only [Act.put, sA_, sB_, sC_, i64_w, i32_w]
                    rfl
                  refine pure_ (i := 35) (N := (some 127)) (v := undef) (a' := ?_) (bl 41 36 []) rfl rfl (by kernel_rfl) (fun _ _ _ h => h) (Or.inr ⟨by rfl, rfl⟩) ?_ ?_
                  rotate_left
                  · simp only [Act.put, sA_, sB_, sC_, i64_w, i32_w]
                    rfl
                  refine pure_ (i := 36) (N := (some 128)) (v := undef) (a' := ?_) (bl 41 37 []) rfl rfl (by kernel_rfl) (fun _ _ _ h => h) (Or.inr ⟨by rfl, rfl⟩) ?_ ?_
                  rotate_left
                  · simp only [Act.put, sA_, sB_, sC_, i64_w, i32_w]
                    rfl
                  refine pure_ (i := 37) (N := (some 129)) (v := undef) (a' := ?_) (bl 41 38 []) rfl rfl (by kernel_rfl) (fun _ _ _ h => h) (Or.inr ⟨by rfl, rfl⟩) ?_ ?_
                  rotate_left
                  · simp only [Act.put, sA_, sB_, sC_, i64_w, i32_w]
                    rfl
                  refine pure_ (i := 38) (N := (some 130)) (v := undef) (a' := ?_) (bl 41 39 []) rfl rfl (by kernel_rfl) (fun _ _ _ h => h) (Or.inr ⟨by rfl, rfl⟩) ?_ ?_
                  rotate_left
                  · simp only [Act.put, sA_, sB_, sC_, i64_w, i32_w]
                    rfl
                  refine pure_ (i := 39) (N := (some 131)) (v := undef) (a' := ?_) (bl 41 40 []) rfl rfl (by kernel_rfl) (fun _ _ _ h => h) (Or.inr ⟨by rfl, rfl⟩) ?_ ?_
                  rotate_left
                  · simp only [Act.put, sA_, sB_, sC_, i64_w, i32_w]
                    rfl
                  refine pure_ (i := 40) (N := (some 132)) (v := ?_) (a' := ?_) (bl 41 41 []) rfl rfl (by kernel_rfl) (fun _ _ _ h => h) (Or.inl ⟨by rfl, ?_⟩) ?_ ?_
                  rotate_left
                  · intro w'
                    go_simp
                    with_reducible rfl
                  rotate_left
                  · simp only [Act.put, sA_, sB_, sC_, i64_w, i32_w]
                    rfl
                  refine done_ (by kernel_rfl) ?_
                  have X6b := Aside0.mk (blk_below X6.out hHeld.1)
                  have HBF := Aside0.mk (below_step HB3.out (below_step HB.out hHeld.1))
                  clear hHeld
                  have E1 := Aside0.mk (show xe = zE from by rw [XE.out]; unfold edV; rw [if_neg (fun h => BAD.out h.2)])
                  have E2 := Aside0.mk (show xf = 11 from by rw [XF.out]; unfold edE; rw [if_pos ASK.out, if_neg BAD.out])
                  go_wp2_with (first | (refine st_arr rfl 70 _ _ rfl g6 70 ?hx #[.int .u64 0, .int .u64 0, .int .u64 0, .slice none 0 0, .slice none 0 0] ?hy _ X6b.out (by rw [size70]; rfl) rfl (by simp [Value.oneCell']) ?_; (case hx => rfl); (case hy => rfl); intro w5 hb5 hbb hk5 hs5; have HB5 := Aside0.mk (hbb _ _ HBF.out (show w.heap.size ≤ g6 by have := N1.out; omega)); have X65 := Aside0.mk hb5; clear hb5 hbb hk5 hs5) | fail)
                  have r0 : w5.cell? ⟨g6, 0, none⟩ = some (.int .u64 0) := (blk_cell X65.out 0).trans rfl
                  have r1 : w5.cell? ⟨g6, 1, none⟩ = some (.int .u64 0) := (blk_cell X65.out 1).trans rfl
                  have r2 : w5.cell? ⟨g6, 2, none⟩ = some (.int .u64 0) := (blk_cell X65.out 2).trans rfl
                  have r3 : w5.cell? ⟨g6, 3, none⟩ = some (.slice none 0 0) := (blk_cell X65.out 3).trans rfl
                  have r4 : w5.cell? ⟨g6, 4, none⟩ = some (.slice none 0 0) := (blk_cell X65.out 4).trans rfl
                  exact bodyPost_ret (v := .tuple #[.agg #[.int .u64 0, .int .u64 0, .int .u64 0, .slice none 0 0, .slice none 0 0], .int .i64 11]) (by simp [results, Try.results49, go_sem, r0, r1, r2, r3, r4]) rfl ⟨none, 0, none, 0, by rw [E1.out, E2.out]; rfl, by rw [E1.out]; exact Kd.R_nil _ _ _ _ _, by rw [E1.out]; exact Kd.R_nil _ _ _ _ _, HB5.out⟩
                · have HNE := Aside0.mk (show In ++ Ov ≠ [] by rw [← LQ.out]; exact hLn)
                  have l0 : ((L.length : Int) == 0) = false := by rw [beq_eq_false_iff_ne]; have := List.length_pos_iff.mpr hLn; omega
                  have l1 : (L.length == 0) = false := by rw [beq_eq_false_iff_ne]; have := List.length_pos_iff.mpr hLn; omega
                  have l2 : L.isEmpty = false := by cases hq : L with | nil => exact absurd hq hLn | cons a b => rfl
                  clear hLn
                  cases hf : Op.bytesLess m.f3.toList sp.f3.toList with
                  | true =>
                    have BAD := Aside0.mk (show ¬ edG v (ll : Int) In Ov out from fun h => by have h1 := (h.2 m MIN.out).2.1; rw [← SQ.out, hf] at h1; cases h1)
                    go_wp2_with fail
                    refine start_ (n := 41) (S := (fun w' => Below wr.heap.size wr w' ∧ w'.cell? (ax.add (k * 7)) = some (.int .u64 m.f0) ∧ w'.cell? ⟨(ax.add (k * 7)).block, (ax.add (k * 7)).off + 3, none⟩ = some (.string m.f3) ∧ w'.cell? ⟨(ax.add (k * 7)).block, (ax.add (k * 7)).off + 4, none⟩ = some (.string m.f4))) (ds := []) (bl 41 0 []) (by kernel_rfl) rfl (by kernel_rfl) ⟨below_drew (Below.refl _ _), ha0, ha3, ha4⟩ (fun hHeld => ?_)
                    refine pure_ (i := 0) (N := (some 92)) (v := ?_) (a' := ?_) (bl 41 1 []) rfl rfl (by kernel_rfl) (fun _ _ _ h => h) (Or.inl ⟨by rfl, ?_⟩) ?_ ?_
                    rotate_left
                    · intro w'
                      go_simp
                      with_reducible rfl
                    rotate_left
                    · simp only [Act.put, sA_, sB_, sC_, i64_w, i32_w]
                      rfl
                    refine pure_ (i := 1) (N := (some 93)) (v := ?_) (a' := ?_) (bl 41 2 []) rfl rfl (by kernel_rfl) (fun _ _ _ h => h) (Or.inl ⟨by rfl, ?_⟩) ?_ ?_
                    rotate_left
                    · intro w'
                      go_simp
                      with_reducible rfl
                    rotate_left
                    · simp only [Act.put, sA_, sB_, sC_, i64_w, i32_w]
                      rfl
                    refine pure_ (i := 2) (N := (some 94)) (v := ?_) (a' := ?_) (bl 41 3 []) rfl rfl (by kernel_rfl) (fun _ _ _ h => h) (Or.inl ⟨by rfl, ?_⟩) ?_ ?_
                    rotate_left
                    · intro w'
                      go_simp
                      with_reducible rfl
                    rotate_left
                    · simp only [Act.put, sA_, sB_, sC_, i64_w, i32_w]
                      rfl
                    refine pure_ (i := 3) (N := (some 95)) (v := ?_) (a' := ?_) (bl 41 4 []) rfl rfl (by kernel_rfl) (fun _ _ _ h => h) (Or.inl ⟨by rfl, ?_⟩) ?_ ?_
                    rotate_left
                    · intro w'
                      go_simp
                      with_reducible rfl
                    rotate_left
                    · simp only [Act.put, sA_, sB_, sC_, i64_w, i32_w]
                      rfl
                    refine pure_ (i := 4) (N := (some 96)) (v := ?_) (a' := ?_) (bl 41 5 []) rfl rfl (by kernel_rfl) (fun _ _ _ h => h) (Or.inl ⟨by rfl, ?_⟩) ?_ ?_
                    rotate_left
                    · intro w'
                      go_simp
                      with_reducible rfl
                    rotate_left
                    · simp only [Act.put, sA_, sB_, sC_, i64_w, i32_w]
                      rfl
                    refine pure_ (i := 5) (N := (some 97)) (v := ?_) (a' := ?_) (bl 41 6 []) rfl rfl (by kernel_rfl) (fun _ _ _ h => h) (Or.inl ⟨by rfl, ?_⟩) ?_ ?_
                    rotate_left
                    · intro w'
                      go_simp
                      with_reducible rfl
                    rotate_left
                    · simp only [Act.put, sA_, sB_, sC_, i64_w, i32_w]
                      rfl
                    refine pure_ (i := 6) (N := (some 98)) (v := ?_) (a' := ?_) (bl 41 7 []) rfl rfl (by kernel_rfl) (fun _ _ _ h => h) (Or.inl ⟨by rfl, ?_⟩) ?_ ?_
                    rotate_left
                    · intro w'
                      go_simp
                      with_reducible rfl
                    rotate_left
                    · simp only [Act.put, sA_, sB_, sC_, i64_w, i32_w]
                      rfl
                    refine pure_ (i := 7) (N := (some 99)) (v := ?_) (a' := ?_) (bl 41 8 []) rfl rfl (by kernel_rfl) (fun _ _ _ h => h) (Or.inl ⟨by rfl, ?_⟩) ?_ ?_
                    rotate_left
                    · intro w'
                      go_simp
                      with_reducible rfl
                    rotate_left
                    · simp only [Act.put, sA_, sB_, sC_, i64_w, i32_w]
                      rfl
                    refine take_ (i := 8) (N := (some 100)) (v := ?_) (a' := ?_) (bl 41 9 []) rfl rfl (by kernel_rfl) (fun _ _ _ h => h) (Or.inl ⟨by rfl, ?_⟩) hHeld ?_ ?_
                    rotate_left
                    · rintro w' ⟨s0, s1, s2, s3⟩
                      go_simp
                      with_reducible rfl
                    rotate_left
                    · simp only [Act.put, sA_, sB_, sC_, i64_w, i32_w]
                      rfl
                    refine pure_ (i := 9) (N := (some 101)) (v := ?_) (a' := ?_) (bl 41 10 []) rfl rfl (by kernel_rfl) (fun _ _ _ h => h) (Or.inl ⟨by rfl, ?_⟩) ?_ ?_
                    rotate_left
                    · intro w'
                      go_simp
                      with_reducible rfl
                    rotate_left
                    · simp only [Act.put, sA_, sB_, sC_, i64_w, i32_w]
                      rfl
                    -- 10: Op.call { value (Operand.func 95), args := #[t101], argTypes := #[23] }   [guarded: some (3, false)]
                    refine one_ (i := 10) (N := (some 102)) (bl 41 11 []) rfl rfl (by kernel_rfl) (by decide) (fun K hK => ?_)
                    refine goes_ Try.func95 (by kernel_rfl) rfl #[.slice Bl L.length cl] (by rfl) rfl rfl (by (try simp only [List.map_toArray, List.map_cons, List.map_nil]); first | done | rfl) ?_
                    (with_reducible refine (KSP.out _ hHeld.1).mono ?_)
                    rintro e w7 ⟨rfl, hb⟩
                    refine ⟨_, rfl, ?_⟩
                    have hOld := hHeld
                    clear hHeld
                    refine hK.out _ _ (⟨below_step hOld.1 hb, pw_cell_below hb hOld.2.1, pw_cell_below hb hOld.2.2.1, pw_cell_below hb hOld.2.2.2⟩) (fun hHeld => ?_)
                    clear hOld hK K
                    refine norm_ (a' := ?_) ?_ ?_
                    rotate_left
                    · show Act.put _ (some 102) _ = _
                      simp only [Act.put, List.setIfInBounds_toArray, List.set_cons_zero, List.set_cons_succ, i64_w, i32_w]
                      rfl
                    refine pure_ (i := 11) (N := (some 103)) (v := ?_) (a' := ?_) (bl 41 12 []) rfl rfl (by kernel_rfl) (fun _ _ _ h => h) (Or.inl ⟨by rfl, ?_⟩) ?_ ?_
                    rotate_left
                    · intro w'
                      go_simp
                      with_reducible rfl
                    rotate_left
                    · simp only [Act.put, sA_, sB_, sC_, i64_w, i32_w]
                      rfl
                    refine pure_ (i := 12) (N := (some 104)) (v := ?_) (a' := ?_) (bl 41 13 []) rfl rfl (by kernel_rfl) (fun _ _ _ h => h) (Or.inl ⟨by rfl, ?_⟩) ?_ ?_
                    rotate_left
                    · intro w'
                      go_simp
                      with_reducible rfl
                    rotate_left
                    · simp only [Act.put, sA_, sB_, sC_, i64_w, i32_w]
                      rfl
                    refine pure_ (i := 13) (N := (some 105)) (v := ?_) (a' := ?_) (bl 41 14 []) rfl rfl (by kernel_rfl) (fun _ _ _ h => h) (Or.inl ⟨by rfl, ?_⟩) ?_ ?_
                    rotate_left
                    · intro w'
                      go_simp
                      with_reducible rfl
                    rotate_left
                    · simp only [Act.put, sA_, sB_, sC_, i64_w, i32_w]
                      rfl
                    refine pure_ (i := 14) (N := (some 106)) (v := ?_) (a' := ?_) (bl 41 15 []) rfl rfl (by kernel_rfl) (fun _ _ _ h => h) (Or.inl ⟨by rfl, ?_⟩) ?_ ?_
                    rotate_left
                    · intro w'
                      go_simp
                      with_reducible rfl
                    rotate_left
                    · simp only [Act.put, sA_, sB_, sC_, i64_w, i32_w]
                      rfl
                    refine pure_ (i := 15) (N := (some 107)) (v := undef) (a' := ?_) (bl 41 16 []) rfl rfl (by kernel_rfl) (fun _ _ _ h => h) (Or.inr ⟨by rfl, rfl⟩) ?_ ?_
                    rotate_left
                    · simp only [Act.put, sA_, sB_, sC_, i64_w, i32_w]
                      rfl
                    refine pure_ (i := 16) (N := (some 108)) (v := undef) (a' := ?_) (bl 41 17 []) rfl rfl (by kernel_rfl) (fun _ _ _ h => h) (Or.inr ⟨by rfl, rfl⟩) ?_ ?_
                    rotate_left
                    · simp only [Act.put, sA_, sB_, sC_, i64_w, i32_w]
                      rfl
                    refine pure_ (i := 17) (N := (some 109)) (v := undef) (a' := ?_) (bl 41 18 []) rfl rfl (by kernel_rfl) (fun _ _ _ h => h) (Or.inr ⟨by rfl, rfl⟩) ?_ ?_
                    rotate_left
                    · simp only [Act.put, sA_, sB_, sC_, i64_w, i32_w]
                      rfl
                    refine pure_ (i := 18) (N := (some 110)) (v := undef) (a' := ?_) (bl 41 19 []) rfl rfl (by kernel_rfl) (fun _ _ _ h => h) (Or.inr ⟨by rfl, rfl⟩) ?_ ?_
                    rotate_left
                    · simp only [Act.put, sA_, sB_, sC_, i64_w, i32_w]
                      rfl
                    refine pure_ (i := 19) (N := (some 111)) (v := undef) (a' := ?_) (bl 41 20 []) rfl rfl (by kernel_rfl) (fun _ _ _ h => h) (Or.inr ⟨by rfl, rfl⟩) ?_ ?_
                    rotate_left
                    · simp only [Act.put, sA_, sB_, sC_, i64_w, i32_w]
                      rfl
                    refine pure_ (i := 20) (N := (some 112)) (v := undef) (a' := ?_) (bl 41 21 []) rfl rfl (by kernel_rfl) (fun _ _ _ h => h) (Or.inr ⟨by rfl, rfl⟩) ?_ ?_
                    rotate_left
                    · simp only [Act.put, sA_, sB_, sC_, i64_w, i32_w]
                      rfl
                    refine pure_ (i := 21) (N := (some 113)) (v := undef) (a' := ?_) (bl 41 22 []) rfl rfl (by kernel_rfl) (fun _ _ _ h => h) (Or.inr ⟨by rfl, rfl⟩) ?_ ?_
                    rotate_left
                    · simp only [Act.put, sA_, sB_, sC_, i64_w, i32_w]
                      rfl
                    refine pure_ (i := 22) (N := (some 114)) (v := undef) (a' := ?_) (bl 41 23 []) rfl rfl (by kernel_rfl) (fun _ _ _ h => h) (Or.inr ⟨by rfl, rfl⟩) ?_ ?_
                    rotate_left
                    · simp only [Act.put, sA_, sB_, sC_, i64_w, i32_w]
                      rfl
                    refine pure_ (i := 23) (N := (some 115)) (v := undef) (a' := ?_) (bl 41 24 []) rfl rfl (by kernel_rfl) (fun _ _ _ h => h) (Or.inr ⟨by rfl, rfl⟩) ?_ ?_
                    rotate_left
                    · simp only [Act.put, sA_, sB_, sC_, i64_w, i32_w]
                      rfl
                    refine pure_ (i := 24) (N := (some 116)) (v := ?_) (a' := ?_) (bl 41 25 []) rfl rfl (by kernel_rfl) (fun _ _ _ h => h) (Or.inl ⟨by rfl, ?_⟩) ?_ ?_
                    rotate_left
                    · intro w'
                      go_simp
                      with_reducible rfl
                    rotate_left
                    · simp only [Act.put, sA_, sB_, sC_, i64_w, i32_w]
                      rfl
                    refine pure_ (i := 25) (N := (some 117)) (v := ?_) (a' := ?_) (bl 41 26 []) rfl rfl (by kernel_rfl) (fun _ _ _ h => h) (Or.inl ⟨by rfl, ?_⟩) ?_ ?_
                    rotate_left
                    · intro w'
                      go_simp
                      with_reducible rfl
                    rotate_left
                    · simp only [Act.put, sA_, sB_, sC_, i64_w, i32_w]
                      rfl
                    refine pure_ (i := 26) (N := (some 118)) (v := undef) (a' := ?_) (bl 41 27 []) rfl rfl (by kernel_rfl) (fun _ _ _ h => h) (Or.inr ⟨by rfl, rfl⟩) ?_ ?_
                    rotate_left
                    · simp only [Act.put, sA_, sB_, sC_, i64_w, i32_w]
                      rfl
                    refine pure_ (i := 27) (N := (some 119)) (v := undef) (a' := ?_) (bl 41 28 []) rfl rfl (by kernel_rfl) (fun _ _ _ h => h) (Or.inr ⟨by rfl, rfl⟩) ?_ ?_
                    rotate_left
                    · simp only [Act.put, sA_, sB_, sC_, i64_w, i32_w]
                      rfl
                    refine pure_ (i := 28) (N := (some 120)) (v := undef) (a' := ?_) (bl 41 29 []) rfl rfl (by kernel_rfl) (fun _ _ _ h => h) (Or.inr ⟨by rfl, rfl⟩) ?_ ?_
                    rotate_left
                    · simp only [Act.put, sA_, sB_, sC_, i64_w, i32_w]
                      rfl
                    refine pure_ (i := 29) (N := (some 121)) (v := undef) (a' := ?_) (bl 41 30 []) rfl rfl (by kernel_rfl) (fun _ _ _ h => h) (Or.inr ⟨by rfl, rfl⟩) ?_ ?_
                    rotate_left
                    · simp only [Act.put, sA_, sB_, sC_, i64_w, i32_w]
                      rfl
                    refine pure_ (i := 30) (N := (some 122)) (v := undef) (a' := ?_) (bl 41 31 []) rfl rfl (by kernel_rfl) (fun _ _ _ h => h) (Or.inr ⟨by rfl, rfl⟩) ?_ ?_
                    rotate_left
                    · simp only [Act.put, sA_, sB_, sC_, i64_w, i32_w]
                      rfl
                    refine pure_ (i := 31) (N := (some 123)) (v := undef) (a' := ?_) (bl 41 32 []) rfl rfl (by kernel_rfl) (fun _ _ _ h => h) (Or.inr ⟨by rfl, rfl⟩) ?_ ?_
                    rotate_left
                    · simp only [Act.put, sA_, sB_, sC_, i64_w, i32_w]
                      rfl
                    refine pure_ (i := 32) (N := (some 124)) (v := ?_) (a' := ?_) (bl 41 33 []) rfl rfl (by kernel_rfl) (fun _ _ _ h => h) (Or.inl ⟨by rfl, ?_⟩) ?_ ?_
                    rotate_left
                    · intro w'
                      go_simp
                      with_reducible rfl
                    rotate_left
                    · simp only [Act.put, sA_, sB_, sC_, i64_w, i32_w]
                      rfl
                    refine pure_ (i := 33) (N := (some 125)) (v := ?_) (a' := ?_) (bl 41 34 []) rfl rfl (by kernel_rfl) (fun _ _ _ h => h) (Or.inl ⟨by rfl, ?_⟩) ?_ ?_
                    rotate_left
                    · intro w'
                      go_simp
                      with_reducible rfl
                    rotate_left
                    · simp only [Act.put, sA_, sB_, sC_, i64_w, i32_w]
                      rfl
                    refine pure_ (i := 34) (N := (some 126)) (v := undef) (a' := ?_) (bl 41 35 []) rfl rfl (by kernel_rfl) (fun _ _ _ h => h) (Or.inr ⟨by rfl, rfl⟩) ?_ ?_
                    rotate_left
                    · simp only [Act.put, sA_, sB_, sC_, i64_w, i32_w]
                      rfl
                    refine pure_ (i := 35) (N := (some 127)) (v := undef) (a' := ?_) (bl 41 36 []) rfl rfl (by kernel_rfl) (fun _ _ _ h => h) (Or.inr ⟨by rfl, rfl⟩) ?_ ?_
                    rotate_left
                    · simp only [Act.put, sA_, sB_, sC_, i64_w, i32_w]
                      rfl
                    refine pure_ (i := 36) (N := (some 128)) (v := undef) (a' := ?_) (bl 41 37 []) rfl rfl (by kernel_rfl) (fun _ _ _ h => h) (Or.inr ⟨by rfl, rfl⟩) ?_ ?_
                    rotate_left
                    · simp only [Act.put, sA_, sB_, sC_, i64_w, i32_w]
                      rfl
                    refine pure_ (i := 37) (N := (some 129)) (v := undef) (a' := ?_) (bl 41 38 []) rfl rfl (by kernel_rfl) (fun _ _ _ h => h) (Or.inr ⟨by rfl, rfl⟩) ?_ ?_
                    rotate_left
                    · simp only [Act.put, sA_, sB_, sC_, i64_w, i32_w]
                      rfl
                    refine pure_ (i := 38) (N := (some 130)) (v := undef) (a' := ?_) (bl 41 39 []) rfl rfl (by kernel_rfl) (fun _ _ _ h => h) (Or.inr ⟨by rfl, rfl⟩) ?_ ?_
                    rotate_left
                    · simp only [Act.put, sA_, sB_, sC_, i64_w, i32_w]
                      rfl
                    refine pure_ (i := 39) (N := (some 131)) (v := undef) (a' := ?_) (bl 41 40 []) rfl rfl (by kernel_rfl) (fun _ _ _ h => h) (Or.inr ⟨by rfl, rfl⟩) ?_ ?_
                    rotate_left
                    · simp only [Act.put, sA_, sB_, sC_, i64_w, i32_w]
                      rfl
                    refine pure_ (i := 40) (N := (some 132)) (v := ?_) (a' := ?_) (bl 41 41 []) rfl rfl (by kernel_rfl) (fun _ _ _ h => h) (Or.inl ⟨by rfl, ?_⟩) ?_ ?_
                    rotate_left
                    · intro w'
                      go_simp
                      with_reducible rfl
                    rotate_left
                    · simp only [Act.put, sA_, sB_, sC_, i64_w, i32_w]
                      rfl
                    refine done_ (by kernel_rfl) ?_
                    have X6b := Aside0.mk (blk_below X6.out hHeld.1)
                    have HBF := Aside0.mk (below_step HB3.out (below_step HB.out hHeld.1))
                    clear hHeld
                    have E1 := Aside0.mk (show xe = zE from by rw [XE.out]; unfold edV; rw [if_neg (fun h => BAD.out h.2)])
                    have E2 := Aside0.mk (show xf = 11 from by rw [XF.out]; unfold edE; rw [if_pos ASK.out, if_neg BAD.out])
                    go_wp2_with (first | (refine st_arr rfl 70 _ _ rfl g6 70 ?hx #[.int .u64 0, .int .u64 0, .int .u64 0, .slice none 0 0, .slice none 0 0] ?hy _ X6b.out (by rw [size70]; rfl) rfl (by simp [Value.oneCell']) ?_; (case hx => rfl); (case hy => rfl); intro w5 hb5 hbb hk5 hs5; have HB5 := Aside0.mk (hbb _ _ HBF.out (show w.heap.size ≤ g6 by have := N1.out; omega)); have X65 := Aside0.mk hb5; clear hb5 hbb hk5 hs5) | fail)
                    have r0 : w5.cell? ⟨g6, 0, none⟩ = some (.int .u64 0) := (blk_cell X65.out 0).trans rfl
                    have r1 : w5.cell? ⟨g6, 1, none⟩ = some (.int .u64 0) := (blk_cell X65.out 1).trans rfl
                    have r2 : w5.cell? ⟨g6, 2, none⟩ = some (.int .u64 0) := (blk_cell X65.out 2).trans rfl
                    have r3 : w5.cell? ⟨g6, 3, none⟩ = some (.slice none 0 0) := (blk_cell X65.out 3).trans rfl
                    have r4 : w5.cell? ⟨g6, 4, none⟩ = some (.slice none 0 0) := (blk_cell X65.out 4).trans rfl
                    exact bodyPost_ret (v := .tuple #[.agg #[.int .u64 0, .int .u64 0, .int .u64 0, .slice none 0 0, .slice none 0 0], .int .i64 11]) (by simp [results, Try.results49, go_sem, r0, r1, r2, r3, r4]) rfl ⟨none, 0, none, 0, by rw [E1.out, E2.out]; rfl, by rw [E1.out]; exact Kd.R_nil _ _ _ _ _, by rw [E1.out]; exact Kd.R_nil _ _ _ _ _, HB5.out⟩
                  | false =>
                    cases hg : Op.bytesLess sp.f4.toList m.f4.toList with
                    | true =>
                      have p9 : ¬ (Op.bytesLess m.f4.toList sp.f4.toList = true ∨ m.f4.toList = sp.f4.toList) := fun h_ => by rw [le_less] at h_; rw [h_] at hg; cases hg
                      have s9 : Op.bytesLess m.f4.toList sp.f4.toList = false := by cases hq : Op.bytesLess m.f4.toList sp.f4.toList with | false => rfl | true => exact absurd (.inl hq) p9
                      have t9 : ¬ m.f4.toList = sp.f4.toList := fun h_ => p9 (.inr h_)
                      have u9 : (m.f4.toList == sp.f4.toList) = false := beq_eq_false_iff_ne.mpr t9
                      have r9 : (Op.bytesLess m.f4.toList sp.f4.toList || m.f4.toList == sp.f4.toList) = false := by rw [s9, u9]; rfl
                      have BAD := Aside0.mk (show ¬ edG v (ll : Int) In Ov out from fun h => by have h1 := (h.2 m MIN.out).2.2.1; rw [← SQ.out, hg] at h1; cases h1)
                      go_wp2_with fail
                      refine start_ (n := 41) (S := (fun w' => Below wr.heap.size wr w' ∧ w'.cell? (ax.add (k * 7)) = some (.int .u64 m.f0) ∧ w'.cell? ⟨(ax.add (k * 7)).block, (ax.add (k * 7)).off + 3, none⟩ = some (.string m.f3) ∧ w'.cell? ⟨(ax.add (k * 7)).block, (ax.add (k * 7)).off + 4, none⟩ = some (.string m.f4))) (ds := []) (bl 41 0 []) (by kernel_rfl) rfl (by kernel_rfl) ⟨below_drew (Below.refl _ _), ha0, ha3, ha4⟩ (fun hHeld => ?_)
                      refine pure_ (i := 0) (N := (some 92)) (v := ?_) (a' := ?_) (bl 41 1 []) rfl rfl (by kernel_rfl) (fun _ _ _ h => h) (Or.inl ⟨by rfl, ?_⟩) ?_ ?_
                      rotate_left
                      · intro w'
                        go_simp
                        with_reducible rfl
                      rotate_left
                      · simp only [Act.put, sA_, sB_, sC_, i64_w, i32_w]
                        rfl
                      refine pure_ (i := 1) (N := (some 93)) (v := ?_) (a' := ?_) (bl 41 2 []) rfl rfl (by kernel_rfl) (fun _ _ _ h => h) (Or.inl ⟨by rfl, ?_⟩) ?_ ?_
                      rotate_left
                      · intro w'
                        go_simp
                        with_reducible rfl
                      rotate_left
                      · simp only [Act.put, sA_, sB_, sC_, i64_w, i32_w]
                        rfl
                      refine pure_ (i := 2) (N := (some 94)) (v := ?_) (a' := ?_) (bl 41 3 []) rfl rfl (by kernel_rfl) (fun _ _ _ h => h) (Or.inl ⟨by rfl, ?_⟩) ?_ ?_
                      rotate_left
                      · intro w'
                        go_simp
                        with_reducible rfl
                      rotate_left
                      · simp only [Act.put, sA_, sB_, sC_, i64_w, i32_w]
                        rfl
                      refine pure_ (i := 3) (N := (some 95)) (v := ?_) (a' := ?_) (bl 41 4 []) rfl rfl (by kernel_rfl) (fun _ _ _ h => h) (Or.inl ⟨by rfl, ?_⟩) ?_ ?_
                      rotate_left
                      · intro w'
                        go_simp
                        with_reducible rfl
                      rotate_left
                      · simp only [Act.put, sA_, sB_, sC_, i64_w, i32_w]
                        rfl
                      refine pure_ (i := 4) (N := (some 96)) (v := ?_) (a' := ?_) (bl 41 5 []) rfl rfl (by kernel_rfl) (fun _ _ _ h => h) (Or.inl ⟨by rfl, ?_⟩) ?_ ?_
                      rotate_left
                      · intro w'
                        go_simp
                        with_reducible rfl
                      rotate_left
                      · simp only [Act.put, sA_, sB_, sC_, i64_w, i32_w]
                        rfl
                      refine pure_ (i := 5) (N := (some 97)) (v := ?_) (a' := ?_) (bl 41 6 []) rfl rfl (by kernel_rfl) (fun _ _ _ h => h) (Or.inl ⟨by rfl, ?_⟩) ?_ ?_
                      rotate_left
                      · intro w'
                        go_simp
                        with_reducible rfl
                      rotate_left
                      · simp only [Act.put, sA_, sB_, sC_, i64_w, i32_w]
                        rfl
                      refine pure_ (i := 6) (N := (some 98)) (v := ?_) (a' := ?_) (bl 41 7 []) rfl rfl (by kernel_rfl) (fun _ _ _ h => h) (Or.inl ⟨by rfl, ?_⟩) ?_ ?_
                      rotate_left
                      · intro w'
                        go_simp
                        with_reducible rfl
                      rotate_left
                      · simp only [Act.put, sA_, sB_, sC_, i64_w, i32_w]
                        rfl
                      refine pure_ (i := 7) (N := (some 99)) (v := ?_) (a' := ?_) (bl 41 8 []) rfl rfl (by kernel_rfl) (fun _ _ _ h => h) (Or.inl ⟨by rfl, ?_⟩) ?_ ?_
                      rotate_left
                      · intro w'
                        go_simp
                        with_reducible rfl
                      rotate_left
                      · simp only [Act.put, sA_, sB_, sC_, i64_w, i32_w]
                        rfl
                      refine take_ (i := 8) (N := (some 100)) (v := ?_) (a' := ?_) (bl 41 9 []) rfl rfl (by kernel_rfl) (fun _ _ _ h => h) (Or.inl ⟨by rfl, ?_⟩) hHeld ?_ ?_
                      rotate_left
                      · rintro w' ⟨s0, s1, s2, s3⟩
                        go_simp
                        with_reducible rfl
                      rotate_left
                      · simp only [Act.put, sA_, sB_, sC_, i64_w, i32_w]
                        rfl
                      refine pure_ (i := 9) (N := (some 101)) (v := ?_) (a' := ?_) (bl 41 10 []) rfl rfl (by kernel_rfl) (fun _ _ _ h => h) (Or.inl ⟨by rfl, ?_⟩) ?_ ?_
                      rotate_left
                      · intro w'
                        go_simp
                        with_reducible rfl
                      rotate_left
                      · simp only [Act.put, sA_, sB_, sC_, i64_w, i32_w]
                        rfl
                      -- 10: Op.call { value (Operand.func 95), args := #[t101], argTypes := #[23] }   [guarded: some (3, false)]
                      refine one_ (i := 10) (N := (some 102)) (bl 41 11 []) rfl rfl (by kernel_rfl) (by decide) (fun K hK => ?_)
                      refine goes_ Try.func95 (by kernel_rfl) rfl #[.slice Bl L.length cl] (by rfl) rfl rfl (by (try simp only [List.map_toArray, List.map_cons, List.map_nil]); first | done | rfl) ?_
                      (with_reducible refine (KSP.out _ hHeld.1).mono ?_)
                      rintro e w7 ⟨rfl, hb⟩
                      refine ⟨_, rfl, ?_⟩
                      have hOld := hHeld
                      clear hHeld
                      refine hK.out _ _ (⟨below_step hOld.1 hb, pw_cell_below hb hOld.2.1, pw_cell_below hb hOld.2.2.1, pw_cell_below hb hOld.2.2.2⟩) (fun hHeld => ?_)
                      clear hOld hK K
                      refine norm_ (a' := ?_) ?_ ?_
                      rotate_left
                      · show Act.put _ (some 102) _ = _
                        simp only [Act.put, List.setIfInBounds_toArray, List.set_cons_zero, List.set_cons_succ, i64_w, i32_w]
                        rfl
                      refine pure_ (i := 11) (N := (some 103)) (v := ?_) (a' := ?_) (bl 41 12 []) rfl rfl (by kernel_rfl) (fun _ _ _ h => h) (Or.inl ⟨by rfl, ?_⟩) ?_ ?_
                      rotate_left
                      · intro w'
                        go_simp
                        with_reducible rfl
                      rotate_left
                      · simp only [Act.put, sA_, sB_, sC_, i64_w, i32_w]
                        rfl
                      refine pure_ (i := 12) (N := (some 104)) (v := ?_) (a' := ?_) (bl 41 13 []) rfl rfl (by kernel_rfl) (fun _ _ _ h => h) (Or.inl ⟨by rfl, ?_⟩) ?_ ?_
                      rotate_left
                      · intro w'
                        go_simp
                        with_reducible rfl
                      rotate_left
                      · simp only [Act.put, sA_, sB_, sC_, i64_w, i32_w]
                        rfl
                      refine pure_ (i := 13) (N := (some 105)) (v := ?_) (a' := ?_) (bl 41 14 []) rfl rfl (by kernel_rfl) (fun _ _ _ h => h) (Or.inl ⟨by rfl, ?_⟩) ?_ ?_
                      rotate_left
                      · intro w'
                        go_simp
                        with_reducible rfl
                      rotate_left
                      · simp only [Act.put, sA_, sB_, sC_, i64_w, i32_w]
                        rfl
                      refine pure_ (i := 14) (N := (some 106)) (v := ?_) (a' := ?_) (bl 41 15 []) rfl rfl (by kernel_rfl) (fun _ _ _ h => h) (Or.inl ⟨by rfl, ?_⟩) ?_ ?_
                      rotate_left
                      · intro w'
                        go_simp
                        with_reducible rfl
                      rotate_left
                      · simp only [Act.put, sA_, sB_, sC_, i64_w, i32_w]
                        rfl
                      refine pure_ (i := 15) (N := (some 107)) (v := ?_) (a' := ?_) (bl 41 16 []) rfl rfl (by kernel_rfl) (fun _ _ _ h => h) (Or.inl ⟨by rfl, ?_⟩) ?_ ?_
                      rotate_left
                      · intro w'
                        go_simp
                        with_reducible rfl
                      rotate_left
                      · simp only [Act.put, sA_, sB_, sC_, i64_w, i32_w]
                        rfl
                      refine pure_ (i := 16) (N := (some 108)) (v := ?_) (a' := ?_) (bl 41 17 []) rfl rfl (by kernel_rfl) (fun _ _ _ h => h) (Or.inl ⟨by rfl, ?_⟩) ?_ ?_
                      rotate_left
                      · intro w'
                        go_simp
                        with_reducible rfl
                      rotate_left
                      · simp only [Act.put, sA_, sB_, sC_, i64_w, i32_w]
                        rfl
                      refine pure_ (i := 17) (N := (some 109)) (v := ?_) (a' := ?_) (bl 41 18 []) rfl rfl (by kernel_rfl) (fun _ _ _ h => h) (Or.inl ⟨by rfl, ?_⟩) ?_ ?_
                      rotate_left
                      · intro w'
                        go_simp
                        with_reducible rfl
                      rotate_left
                      · simp only [Act.put, sA_, sB_, sC_, i64_w, i32_w]
                        rfl
                      refine pure_ (i := 18) (N := (some 110)) (v := ?_) (a' := ?_) (bl 41 19 []) rfl rfl (by kernel_rfl) (fun _ _ _ h => h) (Or.inl ⟨by rfl, ?_⟩) ?_ ?_
                      rotate_left
                      · intro w'
                        go_simp
                        with_reducible rfl
                      rotate_left
                      · simp only [Act.put, sA_, sB_, sC_, i64_w, i32_w]
                        rfl
                      refine take_ (i := 19) (N := (some 111)) (v := ?_) (a' := ?_) (bl 41 20 []) rfl rfl (by kernel_rfl) (fun _ _ _ h => h) (Or.inl ⟨by rfl, ?_⟩) hHeld ?_ ?_
                      rotate_left
                      · rintro w' ⟨s0, s1, s2, s3⟩
                        go_simp
                        with_reducible rfl
                      rotate_left
                      · simp only [Act.put, sA_, sB_, sC_, i64_w, i32_w]
                        rfl
                      refine pure_ (i := 20) (N := (some 112)) (v := ?_) (a' := ?_) (bl 41 21 []) rfl rfl (by kernel_rfl) (fun _ _ _ h => h) (Or.inl ⟨by rfl, ?_⟩) ?_ ?_
                      rotate_left
                      · intro w'
                        go_simp
                        with_reducible rfl
                      rotate_left
                      · simp only [Act.put, sA_, sB_, sC_, i64_w, i32_w]
                        rfl
                      -- 21: Op.call { value (Operand.func 95), args := #[t112], argTypes := #[23] }   [guarded: some (14, false)]
                      refine one_ (i := 21) (N := (some 113)) (bl 41 22 []) rfl rfl (by kernel_rfl) (by decide) (fun K hK => ?_)
                      refine goes_ Try.func95 (by kernel_rfl) rfl #[.slice Bl L.length cl] (by rfl) rfl rfl (by (try simp only [List.map_toArray, List.map_cons, List.map_nil]); first | done | rfl) ?_
                      (with_reducible refine (KSP.out _ hHeld.1).mono ?_)
                      rintro e w8 ⟨rfl, hb⟩
                      refine ⟨_, rfl, ?_⟩
                      have hOld := hHeld
                      clear hHeld
                      refine hK.out _ _ (⟨below_step hOld.1 hb, pw_cell_below hb hOld.2.1, pw_cell_below hb hOld.2.2.1, pw_cell_below hb hOld.2.2.2⟩) (fun hHeld => ?_)
                      clear hOld hK K
                      refine norm_ (a' := ?_) ?_ ?_
                      rotate_left
                      · show Act.put _ (some 113) _ = _
                        simp only [Act.put, List.setIfInBounds_toArray, List.set_cons_zero, List.set_cons_succ, i64_w, i32_w]
                        rfl
                      refine pure_ (i := 22) (N := (some 114)) (v := ?_) (a' := ?_) (bl 41 23 []) rfl rfl (by kernel_rfl) (fun _ _ _ h => h) (Or.inl ⟨by rfl, ?_⟩) ?_ ?_
                      rotate_left
                      · intro w'
                        go_simp
                        with_reducible rfl
                      rotate_left
                      · simp only [Act.put, sA_, sB_, sC_, i64_w, i32_w]
                        rfl
                      refine pure_ (i := 23) (N := (some 115)) (v := ?_) (a' := ?_) (bl 41 24 []) rfl rfl (by kernel_rfl) (fun _ _ _ h => h) (Or.inl ⟨by rfl, ?_⟩) ?_ ?_
                      rotate_left
                      · intro w'
                        go_simp
                        with_reducible rfl
                      rotate_left
                      · simp only [Act.put, sA_, sB_, sC_, i64_w, i32_w]
                        rfl
                      refine pure_ (i := 24) (N := (some 116)) (v := ?_) (a' := ?_) (bl 41 25 []) rfl rfl (by kernel_rfl) (fun _ _ _ h => h) (Or.inl ⟨by rfl, ?_⟩) ?_ ?_
                      rotate_left
                      · intro w'
                        go_simp
                        with_reducible rfl
                      rotate_left
                      · simp only [Act.put, sA_, sB_, sC_, i64_w, i32_w]
                        rfl
                      refine pure_ (i := 25) (N := (some 117)) (v := ?_) (a' := ?_) (bl 41 26 []) rfl rfl (by kernel_rfl) (fun _ _ _ h => h) (Or.inl ⟨by rfl, ?_⟩) ?_ ?_
                      rotate_left
                      · intro w'
                        go_simp
                        with_reducible rfl
                      rotate_left
                      · simp only [Act.put, sA_, sB_, sC_, i64_w, i32_w]
                        rfl
                      refine pure_ (i := 26) (N := (some 118)) (v := undef) (a' := ?_) (bl 41 27 []) rfl rfl (by kernel_rfl) (fun _ _ _ h => h) (Or.inr ⟨by rfl, rfl⟩) ?_ ?_
                      rotate_left
                      · simp only [Act.put, sA_, sB_, sC_, i64_w, i32_w]
                        rfl
                      refine pure_ (i := 27) (N := (some 119)) (v := undef) (a' := ?_) (bl 41 28 []) rfl rfl (by kernel_rfl) (fun _ _ _ h => h) (Or.inr ⟨by rfl, rfl⟩) ?_ ?_
                      rotate_left
                      · simp only [Act.put, sA_, sB_, sC_, i64_w, i32_w]
                        rfl
                      refine pure_ (i := 28) (N := (some 120)) (v := undef) (a' := ?_) (bl 41 29 []) rfl rfl (by kernel_rfl) (fun _ _ _ h => h) (Or.inr ⟨by rfl, rfl⟩) ?_ ?_
                      rotate_left
                      · simp only [Act.put, sA_, sB_, sC_, i64_w, i32_w]
                        rfl
                      refine pure_ (i := 29) (N := (some 121)) (v := undef) (a' := ?_) (bl 41 30 []) rfl rfl (by kernel_rfl) (fun _ _ _ h => h) (Or.inr ⟨by rfl, rfl⟩) ?_ ?_
                      rotate_left
                      · simp only [Act.put, sA_, sB_, sC_, i64_w, i32_w]
                        rfl
                      refine pure_ (i := 30) (N := (some 122)) (v := undef) (a' := ?_) (bl 41 31 []) rfl rfl (by kernel_rfl) (fun _ _ _ h => h) (Or.inr ⟨by rfl, rfl⟩) ?_ ?_
                      rotate_left
                      · simp only [Act.put, sA_, sB_, sC_, i64_w, i32_w]
                        rfl
                      refine pure_ (i := 31) (N := (some 123)) (v := undef) (a' := ?_) (bl 41 32 []) rfl rfl (by kernel_rfl) (fun _ _ _ h => h) (Or.inr ⟨by rfl, rfl⟩) ?_ ?_
                      rotate_left
                      · simp only [Act.put, sA_, sB_, sC_, i64_w, i32_w]
                        rfl
                      refine pure_ (i := 32) (N := (some 124)) (v := ?_) (a' := ?_) (bl 41 33 []) rfl rfl (by kernel_rfl) (fun _ _ _ h => h) (Or.inl ⟨by rfl, ?_⟩) ?_ ?_
                      rotate_left
                      · intro w'
                        go_simp
                        with_reducible rfl
                      rotate_left
                      · simp only [Act.put, sA_, sB_, sC_, i64_w, i32_w]
                        rfl
                      refine pure_ (i := 33) (N := (some 125)) (v := ?_) (a' := ?_) (bl 41 34 []) rfl rfl (by kernel_rfl) (fun _ _ _ h => h) (Or.inl ⟨by rfl, ?_⟩) ?_ ?_
                      rotate_left
                      · intro w'
                        go_simp
                        with_reducible rfl
                      rotate_left
                      · simp only [Act.put, sA_, sB_, sC_, i64_w, i32_w]
                        rfl
                      refine pure_ (i := 34) (N := (some 126)) (v := undef) (a' := ?_) (bl 41 35 []) rfl rfl (by kernel_rfl) (fun _ _ _ h => h) (Or.inr ⟨by rfl, rfl⟩) ?_ ?_
                      rotate_left
                      · simp only [Act.put, sA_, sB_, sC_, i64_w, i32_w]
                        rfl
                      refine pure_ (i := 35) (N := (some 127)) (v := undef) (a' := ?_) (bl 41 36 []) rfl rfl (by kernel_rfl) (fun _ _ _ h => h) (Or.inr ⟨by rfl, rfl⟩) ?_ ?_
                      rotate_left
                      · simp only [Act.put, sA_, sB_, sC_, i64_w, i32_w]
                        rfl
                      refine pure_ (i := 36) (N := (some 128)) (v := undef) (a' := ?_) (bl 41 37 []) rfl rfl (by kernel_rfl) (fun _ _ _ h => h) (Or.inr ⟨by rfl, rfl⟩) ?_ ?_
                      rotate_left
                      · simp only [Act.put, sA_, sB_, sC_, i64_w, i32_w]
                        rfl
                      refine pure_ (i := 37) (N := (some 129)) (v := undef) (a' := ?_) (bl 41 38 []) rfl rfl (by kernel_rfl) (fun _ _ _ h => h) (Or.inr ⟨by rfl, rfl⟩) ?_ ?_
                      rotate_left
                      · simp only [Act.put, sA_, sB_, sC_, i64_w, i32_w]
                        rfl
                      refine pure_ (i := 38) (N := (some 130)) (v := undef) (a' := ?_) (bl 41 39 []) rfl rfl (by kernel_rfl) (fun _ _ _ h => h) (Or.inr ⟨by rfl, rfl⟩) ?_ ?_
                      rotate_left
                      · simp only [Act.put, sA_, sB_, sC_, i64_w, i32_w]
                        rfl
                      refine pure_ (i := 39) (N := (some 131)) (v := undef) (a' := ?_) (bl 41 40 []) rfl rfl (by kernel_rfl) (fun _ _ _ h => h) (Or.inr ⟨by rfl, rfl⟩) ?_ ?_
                      rotate_left
                      · simp only [Act.put, sA_, sB_, sC_, i64_w, i32_w]
                        rfl
                      refine pure_ (i := 40) (N := (some 132)) (v := ?_) (a' := ?_) (bl 41 41 []) rfl rfl (by kernel_rfl) (fun _ _ _ h => h) (Or.inl ⟨by rfl, ?_⟩) ?_ ?_
                      rotate_left
                      · intro w'
                        go_simp
                        with_reducible rfl
                      rotate_left
                      · simp only [Act.put, sA_, sB_, sC_, i64_w, i32_w]
                        rfl
                      refine done_ (by kernel_rfl) ?_
                      have X6b := Aside0.mk (blk_below X6.out hHeld.1)
                      have HBF := Aside0.mk (below_step HB3.out (below_step HB.out hHeld.1))
                      clear hHeld
                      have E1 := Aside0.mk (show xe = zE from by rw [XE.out]; unfold edV; rw [if_neg (fun h => BAD.out h.2)])
                      have E2 := Aside0.mk (show xf = 11 from by rw [XF.out]; unfold edE; rw [if_pos ASK.out, if_neg BAD.out])
                      go_wp2_with (first | (refine st_arr rfl 70 _ _ rfl g6 70 ?hx #[.int .u64 0, .int .u64 0, .int .u64 0, .slice none 0 0, .slice none 0 0] ?hy _ X6b.out (by rw [size70]; rfl) rfl (by simp [Value.oneCell']) ?_; (case hx => rfl); (case hy => rfl); intro w5 hb5 hbb hk5 hs5; have HB5 := Aside0.mk (hbb _ _ HBF.out (show w.heap.size ≤ g6 by have := N1.out; omega)); have X65 := Aside0.mk hb5; clear hb5 hbb hk5 hs5) | fail)
                      have r0 : w5.cell? ⟨g6, 0, none⟩ = some (.int .u64 0) := (blk_cell X65.out 0).trans rfl
                      have r1 : w5.cell? ⟨g6, 1, none⟩ = some (.int .u64 0) := (blk_cell X65.out 1).trans rfl
                      have r2 : w5.cell? ⟨g6, 2, none⟩ = some (.int .u64 0) := (blk_cell X65.out 2).trans rfl
                      have r3 : w5.cell? ⟨g6, 3, none⟩ = some (.slice none 0 0) := (blk_cell X65.out 3).trans rfl
                      have r4 : w5.cell? ⟨g6, 4, none⟩ = some (.slice none 0 0) := (blk_cell X65.out 4).trans rfl
                      exact bodyPost_ret (v := .tuple #[.agg #[.int .u64 0, .int .u64 0, .int .u64 0, .slice none 0 0, .slice none 0 0], .int .i64 11]) (by simp [results, Try.results49, go_sem, r0, r1, r2, r3, r4]) rfl ⟨none, 0, none, 0, by rw [E1.out, E2.out]; rfl, by rw [E1.out]; exact Kd.R_nil _ _ _ _ _, by rw [E1.out]; exact Kd.R_nil _ _ _ _ _, HB5.out⟩
                    | false =>
                      have p9 : Op.bytesLess m.f4.toList sp.f4.toList = true ∨ m.f4.toList = sp.f4.toList := le_less.mpr hg
                      have r9 : (Op.bytesLess m.f4.toList sp.f4.toList || m.f4.toList == sp.f4.toList) = true := by rw [Bool.or_eq_true, beq_iff_eq]; exact p9
                      by_cases h1 : m.f0 < 1
                      · have t1 : decide (m.f0 < 1) = true := decide_eq_true h1
                        have BAD := Aside0.mk (show ¬ edG v (ll : Int) In Ov out from fun h => by have h2 := (h.2 m MIN.out).2.2.2.1; omega)
                        go_wp2_with fail
                        refine start_ (n := 41) (S := (fun w' => Below wr.heap.size wr w' ∧ w'.cell? (ax.add (k * 7)) = some (.int .u64 m.f0) ∧ w'.cell? ⟨(ax.add (k * 7)).block, (ax.add (k * 7)).off + 3, none⟩ = some (.string m.f3) ∧ w'.cell? ⟨(ax.add (k * 7)).block, (ax.add (k * 7)).off + 4, none⟩ = some (.string m.f4))) (ds := []) (bl 41 0 []) (by kernel_rfl) rfl (by kernel_rfl) ⟨below_drew (Below.refl _ _), ha0, ha3, ha4⟩ (fun hHeld => ?_)
                        refine pure_ (i := 0) (N := (some 92)) (v := ?_) (a' := ?_) (bl 41 1 []) rfl rfl (by kernel_rfl) (fun _ _ _ h => h) (Or.inl ⟨by rfl, ?_⟩) ?_ ?_
                        rotate_left
                        · intro w'
                          go_simp
                          with_reducible rfl
                        rotate_left
                        · simp only [Act.put, sA_, sB_, sC_, i64_w, i32_w]
                          rfl
                        refine pure_ (i := 1) (N := (some 93)) (v := ?_) (a' := ?_) (bl 41 2 []) rfl rfl (by kernel_rfl) (fun _ _ _ h => h) (Or.inl ⟨by rfl, ?_⟩) ?_ ?_
                        rotate_left
                        · intro w'
                          go_simp
                          with_reducible rfl
                        rotate_left
                        · simp only [Act.put, sA_, sB_, sC_, i64_w, i32_w]
                          rfl
                        refine pure_ (i := 2) (N := (some 94)) (v := ?_) (a' := ?_) (bl 41 3 []) rfl rfl (by kernel_rfl) (fun _ _ _ h => h) (Or.inl ⟨by rfl, ?_⟩) ?_ ?_
                        rotate_left
                        · intro w'
                          go_simp
                          with_reducible rfl
                        rotate_left
                        · simp only [Act.put, sA_, sB_, sC_, i64_w, i32_w]
                          rfl
                        refine pure_ (i := 3) (N := (some 95)) (v := ?_) (a' := ?_) (bl 41 4 []) rfl rfl (by kernel_rfl) (fun _ _ _ h => h) (Or.inl ⟨by rfl, ?_⟩) ?_ ?_
                        rotate_left
                        · intro w'
                          go_simp
                          with_reducible rfl
                        rotate_left
                        · simp only [Act.put, sA_, sB_, sC_, i64_w, i32_w]
                          rfl
                        refine pure_ (i := 4) (N := (some 96)) (v := ?_) (a' := ?_) (bl 41 5 []) rfl rfl (by kernel_rfl) (fun _ _ _ h => h) (Or.inl ⟨by rfl, ?_⟩) ?_ ?_
                        rotate_left
                        · intro w'
                          go_simp
                          with_reducible rfl
                        rotate_left
                        · simp only [Act.put, sA_, sB_, sC_, i64_w, i32_w]
                          rfl
                        refine pure_ (i := 5) (N := (some 97)) (v := ?_) (a' := ?_) (bl 41 6 []) rfl rfl (by kernel_rfl) (fun _ _ _ h => h) (Or.inl ⟨by rfl, ?_⟩) ?_ ?_
                        rotate_left
                        · intro w'
                          go_simp
                          with_reducible rfl
                        rotate_left
                        · simp only [Act.put, sA_, sB_, sC_, i64_w, i32_w]
                          rfl
                        refine pure_ (i := 6) (N := (some 98)) (v := ?_) (a' := ?_) (bl 41 7 []) rfl rfl (by kernel_rfl) (fun _ _ _ h => h) (Or.inl ⟨by rfl, ?_⟩) ?_ ?_
                        rotate_left
                        · intro w'
                          go_simp
                          with_reducible rfl
                        rotate_left
                        · simp only [Act.put, sA_, sB_, sC_, i64_w, i32_w]
                          rfl
                        refine pure_ (i := 7) (N := (some 99)) (v := ?_) (a' := ?_) (bl 41 8 []) rfl rfl (by kernel_rfl) (fun _ _ _ h => h) (Or.inl ⟨by rfl, ?_⟩) ?_ ?_
                        rotate_left
                        · intro w'
                          go_simp
                          with_reducible rfl
                        rotate_left
                        · simp only [Act.put, sA_, sB_, sC_, i64_w, i32_w]
                          rfl
                        refine take_ (i := 8) (N := (some 100)) (v := ?_) (a' := ?_) (bl 41 9 []) rfl rfl (by kernel_rfl) (fun _ _ _ h => h) (Or.inl ⟨by rfl, ?_⟩) hHeld ?_ ?_
                        rotate_left
                        · rintro w' ⟨s0, s1, s2, s3⟩
                          go_simp
                          with_reducible rfl
                        rotate_left
                        · simp only [Act.put, sA_, sB_, sC_, i64_w, i32_w]
                          rfl
                        refine pure_ (i := 9) (N := (some 101)) (v := ?_) (a' := ?_) (bl 41 10 []) rfl rfl (by kernel_rfl) (fun _ _ _ h => h) (Or.inl ⟨by rfl, ?_⟩) ?_ ?_
                        rotate_left
                        · intro w'
                          go_simp
                          with_reducible rfl
                        rotate_left
                        · simp only [Act.put, sA_, sB_, sC_, i64_w, i32_w]
                          rfl
                        -- 10: Op.call { value (Operand.func 95), args := #[t101], argTypes := #[23] }   [guarded: some (3, false)]
                        refine one_ (i := 10) (N := (some 102)) (bl 41 11 []) rfl rfl (by kernel_rfl) (by decide) (fun K hK => ?_)
                        refine goes_ Try.func95 (by kernel_rfl) rfl #[.slice Bl L.length cl] (by rfl) rfl rfl (by (try simp only [List.map_toArray, List.map_cons, List.map_nil]); first | done | rfl) ?_
                        (with_reducible refine (KSP.out _ hHeld.1).mono ?_)
                        rintro e w7 ⟨rfl, hb⟩
                        refine ⟨_, rfl, ?_⟩
                        have hOld := hHeld
                        clear hHeld
                        refine hK.out _ _ (⟨below_step hOld.1 hb, pw_cell_below hb hOld.2.1, pw_cell_below hb hOld.2.2.1, pw_cell_below hb hOld.2.2.2⟩) (fun hHeld => ?_)
                        clear hOld hK K
                        refine norm_ (a' := ?_) ?_ ?_
                        rotate_left
                        · show Act.put _ (some 102) _ = _
                          simp only [Act.put, List.setIfInBounds_toArray, List.set_cons_zero, List.set_cons_succ, i64_w, i32_w]
                          rfl
                        refine pure_ (i := 11) (N := (some 103)) (v := ?_) (a' := ?_) (bl 41 12 []) rfl rfl (by kernel_rfl) (fun _ _ _ h => h) (Or.inl ⟨by rfl, ?_⟩) ?_ ?_
                        rotate_left
                        · intro w'
                          go_simp
                          with_reducible rfl
                        rotate_left
                        · simp only [Act.put, sA_, sB_, sC_, i64_w, i32_w]
                          rfl
                        refine pure_ (i := 12) (N := (some 104)) (v := ?_) (a' := ?_) (bl 41 13 []) rfl rfl (by kernel_rfl) (fun _ _ _ h => h) (Or.inl ⟨by rfl, ?_⟩) ?_ ?_
                        rotate_left
                        · intro w'
                          go_simp
                          with_reducible rfl
                        rotate_left
                        · simp only [Act.put, sA_, sB_, sC_, i64_w, i32_w]
                          rfl
                        refine pure_ (i := 13) (N := (some 105)) (v := ?_) (a' := ?_) (bl 41 14 []) rfl rfl (by kernel_rfl) (fun _ _ _ h => h) (Or.inl ⟨by rfl, ?_⟩) ?_ ?_
                        rotate_left
                        · intro w'
                          go_simp
                          with_reducible rfl
                        rotate_left
                        · simp only [Act.put, sA_, sB_, sC_, i64_w, i32_w]
                          rfl
                        refine pure_ (i := 14) (N := (some 106)) (v := ?_) (a' := ?_) (bl 41 15 []) rfl rfl (by kernel_rfl) (fun _ _ _ h => h) (Or.inl ⟨by rfl, ?_⟩) ?_ ?_
                        rotate_left
                        · intro w'
                          go_simp
                          with_reducible rfl
                        rotate_left
                        · simp only [Act.put, sA_, sB_, sC_, i64_w, i32_w]
                          rfl
                        refine pure_ (i := 15) (N := (some 107)) (v := ?_) (a' := ?_) (bl 41 16 []) rfl rfl (by kernel_rfl) (fun _ _ _ h => h) (Or.inl ⟨by rfl, ?_⟩) ?_ ?_
                        rotate_left
                        · intro w'
                          go_simp
                          with_reducible rfl
                        rotate_left
                        · simp only [Act.put, sA_, sB_, sC_, i64_w, i32_w]
                          rfl
                        refine pure_ (i := 16) (N := (some 108)) (v := ?_) (a' := ?_) (bl 41 17 []) rfl rfl (by kernel_rfl) (fun _ _ _ h => h) (Or.inl ⟨by rfl, ?_⟩) ?_ ?_
                        rotate_left
                        · intro w'
                          go_simp
                          with_reducible rfl
                        rotate_left
                        · simp only [Act.put, sA_, sB_, sC_, i64_w, i32_w]
                          rfl
                        refine pure_ (i := 17) (N := (some 109)) (v := ?_) (a' := ?_) (bl 41 18 []) rfl rfl (by kernel_rfl) (fun _ _ _ h => h) (Or.inl ⟨by rfl, ?_⟩) ?_ ?_
                        rotate_left
                        · intro w'
                          go_simp
                          with_reducible rfl
                        rotate_left
                        · simp only [Act.put, sA_, sB_, sC_, i64_w, i32_w]
                          rfl
                        refine pure_ (i := 18) (N := (some 110)) (v := ?_) (a' := ?_) (bl 41 19 []) rfl rfl (by kernel_rfl) (fun _ _ _ h => h) (Or.inl ⟨by rfl, ?_⟩) ?_ ?_
                        rotate_left
                        · intro w'
                          go_simp
                          with_reducible rfl
                        rotate_left
                        · simp only [Act.put, sA_, sB_, sC_, i64_w, i32_w]
                          rfl
                        refine take_ (i := 19) (N := (some 111)) (v := ?_) (a' := ?_) (bl 41 20 []) rfl rfl (by kernel_rfl) (fun _ _ _ h => h) (Or.inl ⟨by rfl, ?_⟩) hHeld ?_ ?_
                        rotate_left
                        · rintro w' ⟨s0, s1, s2, s3⟩
                          go_simp
                          with_reducible rfl
                        rotate_left
                        · simp only [Act.put, sA_, sB_, sC_, i64_w, i32_w]
                          rfl
                        refine pure_ (i := 20) (N := (some 112)) (v := ?_) (a' := ?_) (bl 41 21 []) rfl rfl (by kernel_rfl) (fun _ _ _ h => h) (Or.inl ⟨by rfl, ?_⟩) ?_ ?_
                        rotate_left
                        · intro w'
                          go_simp
                          with_reducible rfl
                        rotate_left
                        · simp only [Act.put, sA_, sB_, sC_, i64_w, i32_w]
                          rfl
                        -- 21: Op.call { value (Operand.func 95), args := #[t112], argTypes := #[23] }   [guarded: some (14, false)]
                        refine one_ (i := 21) (N := (some 113)) (bl 41 22 []) rfl rfl (by kernel_rfl) (by decide) (fun K hK => ?_)
                        refine goes_ Try.func95 (by kernel_rfl) rfl #[.slice Bl L.length cl] (by rfl) rfl rfl (by (try simp only [List.map_toArray, List.map_cons, List.map_nil]); first | done | rfl) ?_
                        (with_reducible refine (KSP.out _ hHeld.1).mono ?_)
                        rintro e w8 ⟨rfl, hb⟩
                        refine ⟨_, rfl, ?_⟩
                        have hOld := hHeld
                        clear hHeld
                        refine hK.out _ _ (⟨below_step hOld.1 hb, pw_cell_below hb hOld.2.1, pw_cell_below hb hOld.2.2.1, pw_cell_below hb hOld.2.2.2⟩) (fun hHeld => ?_)
                        clear hOld hK K
                        refine norm_ (a' := ?_) ?_ ?_
                        rotate_left
                        · show Act.put _ (some 113) _ = _
                          simp only [Act.put, List.setIfInBounds_toArray, List.set_cons_zero, List.set_cons_succ, i64_w, i32_w]
                          rfl
                        refine pure_ (i := 22) (N := (some 114)) (v := ?_) (a' := ?_) (bl 41 23 []) rfl rfl (by kernel_rfl) (fun _ _ _ h => h) (Or.inl ⟨by rfl, ?_⟩) ?_ ?_
                        rotate_left
                        · intro w'
                          go_simp
                          with_reducible rfl
                        rotate_left
                        · simp only [Act.put, sA_, sB_, sC_, i64_w, i32_w]
                          rfl
                        refine pure_ (i := 23) (N := (some 115)) (v := ?_) (a' := ?_) (bl 41 24 []) rfl rfl (by kernel_rfl) (fun _ _ _ h => h) (Or.inl ⟨by rfl, ?_⟩) ?_ ?_
                        rotate_left
                        · intro w'
                          go_simp
                          with_reducible rfl
                        rotate_left
                        · simp only [Act.put, sA_, sB_, sC_, i64_w, i32_w]
                          rfl
                        refine pure_ (i := 24) (N := (some 116)) (v := ?_) (a' := ?_) (bl 41 25 []) rfl rfl (by kernel_rfl) (fun _ _ _ h => h) (Or.inl ⟨by rfl, ?_⟩) ?_ ?_
                        rotate_left
                        · intro w'
                          go_simp
                          with_reducible rfl
                        rotate_left
                        · simp only [Act.put, sA_, sB_, sC_, i64_w, i32_w]
                          rfl
                        refine pure_ (i := 25) (N := (some 117)) (v := ?_) (a' := ?_) (bl 41 26 []) rfl rfl (by kernel_rfl) (fun _ _ _ h => h) (Or.inl ⟨by rfl, ?_⟩) ?_ ?_
                        rotate_left
                        · intro w'
                          go_simp
                          with_reducible rfl
                        rotate_left
                        · simp only [Act.put, sA_, sB_, sC_, i64_w, i32_w]
                          rfl
                        refine pure_ (i := 26) (N := (some 118)) (v := ?_) (a' := ?_) (bl 41 27 []) rfl rfl (by kernel_rfl) (fun _ _ _ h => h) (Or.inl ⟨by rfl, ?_⟩) ?_ ?_
                        rotate_left
                        · intro w'
                          go_simp
                          with_reducible rfl
                        rotate_left
                        · simp only [Act.put, sA_, sB_, sC_, i64_w, i32_w]
                          rfl
                        refine pure_ (i := 27) (N := (some 119)) (v := ?_) (a' := ?_) (bl 41 28 []) rfl rfl (by kernel_rfl) (fun _ _ _ h => h) (Or.inl ⟨by rfl, ?_⟩) ?_ ?_
                        rotate_left
                        · intro w'
                          go_simp
                          with_reducible rfl
                        rotate_left
                        · simp only [Act.put, sA_, sB_, sC_, i64_w, i32_w]
                          rfl
                        refine pure_ (i := 28) (N := (some 120)) (v := ?_) (a' := ?_) (bl 41 29 []) rfl rfl (by kernel_rfl) (fun _ _ _ h => h) (Or.inl ⟨by rfl, ?_⟩) ?_ ?_
                        rotate_left
                        · intro w'
                          go_simp
                          with_reducible rfl
                        rotate_left
                        · simp only [Act.put, sA_, sB_, sC_, i64_w, i32_w]
                          rfl
                        refine pure_ (i := 29) (N := (some 121)) (v := ?_) (a' := ?_) (bl 41 30 []) rfl rfl (by kernel_rfl) (fun _ _ _ h => h) (Or.inl ⟨by rfl, ?_⟩) ?_ ?_
                        rotate_left
                        · intro w'
                          go_simp
                          with_reducible rfl
                        rotate_left
                        · simp only [Act.put, sA_, sB_, sC_, i64_w, i32_w]
                          rfl
                        refine take_ (i := 30) (N := (some 122)) (v := ?_) (a' := ?_) (bl 41 31 []) rfl rfl (by kernel_rfl) (fun _ _ _ h => h) (Or.inl ⟨by rfl, ?_⟩) hHeld ?_ ?_
                        rotate_left
                        · rintro w' ⟨s0, s1, s2, s3⟩
                          go_simp
                          with_reducible rfl
                        rotate_left
                        · simp only [Act.put, sA_, sB_, sC_, i64_w, i32_w]
                          rfl
                        refine pure_ (i := 31) (N := (some 123)) (v := ?_) (a' := ?_) (bl 41 32 []) rfl rfl (by kernel_rfl) (fun _ _ _ h => h) (Or.inl ⟨by rfl, ?_⟩) ?_ ?_
                        rotate_left
                        · intro w'
                          go_simp
                          with_reducible rfl
                        rotate_left
                        · simp only [Act.put, sA_, sB_, sC_, i64_w, i32_w]
                          rfl
                        refine pure_ (i := 32) (N := (some 124)) (v := ?_) (a' := ?_) (bl 41 33 []) rfl rfl (by kernel_rfl) (fun _ _ _ h => h) (Or.inl ⟨by rfl, ?_⟩) ?_ ?_
                        rotate_left
                        · intro w'
                          go_simp
                          with_reducible rfl
                        rotate_left
                        · simp only [Act.put, sA_, sB_, sC_, i64_w, i32_w]
                          rfl
                        refine pure_ (i := 33) (N := (some 125)) (v := ?_) (a' := ?_) (bl 41 34 []) rfl rfl (by kernel_rfl) (fun _ _ _ h => h) (Or.inl ⟨by rfl, ?_⟩) ?_ ?_
                        rotate_left
                        · intro w'
                          go_simp
                          with_reducible rfl
                        rotate_left
                        · simp only [Act.put, sA_, sB_, sC_, i64_w, i32_w]
                          rfl
                        refine pure_ (i := 34) (N := (some 126)) (v := undef) (a' := ?_) (bl 41 35 []) rfl rfl (by kernel_rfl) (fun _ _ _ h => h) (Or.inr ⟨by rfl, rfl⟩) ?_ ?_
                        rotate_left
                        · simp only [Act.put, sA_, sB_, sC_, i64_w, i32_w]
                          rfl
                        refine pure_ (i := 35) (N := (some 127)) (v := undef) (a' := ?_) (bl 41 36 []) rfl rfl (by kernel_rfl) (fun _ _ _ h => h) (Or.inr ⟨by rfl, rfl⟩) ?_ ?_
                        rotate_left
                        · simp only [Act.put, sA_, sB_, sC_, i64_w, i32_w]
                          rfl
                        refine pure_ (i := 36) (N := (some 128)) (v := undef) (a' := ?_) (bl 41 37 []) rfl rfl (by kernel_rfl) (fun _ _ _ h => h) (Or.inr ⟨by rfl, rfl⟩) ?_ ?_
                        rotate_left
                        · simp only [Act.put, sA_, sB_, sC_, i64_w, i32_w]
                          rfl
                        refine pure_ (i := 37) (N := (some 129)) (v := undef) (a' := ?_) (bl 41 38 []) rfl rfl (by kernel_rfl) (fun _ _ _ h => h) (Or.inr ⟨by rfl, rfl⟩) ?_ ?_
                        rotate_left
                        · simp only [Act.put, sA_, sB_, sC_, i64_w, i32_w]
                          rfl
                        refine pure_ (i := 38) (N := (some 130)) (v := undef) (a' := ?_) (bl 41 39 []) rfl rfl (by kernel_rfl) (fun _ _ _ h => h) (Or.inr ⟨by rfl, rfl⟩) ?_ ?_
                        rotate_left
                        · simp only [Act.put, sA_, sB_, sC_, i64_w, i32_w]
                          rfl
                        refine pure_ (i := 39) (N := (some 131)) (v := undef) (a' := ?_) (bl 41 40 []) rfl rfl (by kernel_rfl) (fun _ _ _ h => h) (Or.inr ⟨by rfl, rfl⟩) ?_ ?_
                        rotate_left
                        · simp only [Act.put, sA_, sB_, sC_, i64_w, i32_w]
                          rfl
                        refine pure_ (i := 40) (N := (some 132)) (v := ?_) (a' := ?_) (bl 41 41 []) rfl rfl (by kernel_rfl) (fun _ _ _ h => h) (Or.inl ⟨by rfl, ?_⟩) ?_ ?_
                        rotate_left
                        · intro w'
                          go_simp
                          with_reducible rfl
                        rotate_left
                        · simp only [Act.put, sA_, sB_, sC_, i64_w, i32_w]
                          rfl
                        refine done_ (by kernel_rfl) ?_
                        have X6b := Aside0.mk (blk_below X6.out hHeld.1)
                        have HBF := Aside0.mk (below_step HB3.out (below_step HB.out hHeld.1))
                        clear hHeld
                        have E1 := Aside0.mk (show xe = zE from by rw [XE.out]; unfold edV; rw [if_neg (fun h => BAD.out h.2)])
                        have E2 := Aside0.mk (show xf = 11 from by rw [XF.out]; unfold edE; rw [if_pos ASK.out, if_neg BAD.out])
                        go_wp2_with (first | (refine st_arr rfl 70 _ _ rfl g6 70 ?hx #[.int .u64 0, .int .u64 0, .int .u64 0, .slice none 0 0, .slice none 0 0] ?hy _ X6b.out (by rw [size70]; rfl) rfl (by simp [Value.oneCell']) ?_; (case hx => rfl); (case hy => rfl); intro w5 hb5 hbb hk5 hs5; have HB5 := Aside0.mk (hbb _ _ HBF.out (show w.heap.size ≤ g6 by have := N1.out; omega)); have X65 := Aside0.mk hb5; clear hb5 hbb hk5 hs5) | fail)
                        have r0 : w5.cell? ⟨g6, 0, none⟩ = some (.int .u64 0) := (blk_cell X65.out 0).trans rfl
                        have r1 : w5.cell? ⟨g6, 1, none⟩ = some (.int .u64 0) := (blk_cell X65.out 1).trans rfl
                        have r2 : w5.cell? ⟨g6, 2, none⟩ = some (.int .u64 0) := (blk_cell X65.out 2).trans rfl
                        have r3 : w5.cell? ⟨g6, 3, none⟩ = some (.slice none 0 0) := (blk_cell X65.out 3).trans rfl
                        have r4 : w5.cell? ⟨g6, 4, none⟩ = some (.slice none 0 0) := (blk_cell X65.out 4).trans rfl
                        exact bodyPost_ret (v := .tuple #[.agg #[.int .u64 0, .int .u64 0, .int .u64 0, .slice none 0 0, .slice none 0 0], .int .i64 11]) (by simp [results, Try.results49, go_sem, r0, r1, r2, r3, r4]) rfl ⟨none, 0, none, 0, by rw [E1.out, E2.out]; rfl, by rw [E1.out]; exact Kd.R_nil _ _ _ _ _, by rw [E1.out]; exact Kd.R_nil _ _ _ _ _, HB5.out⟩
                      · have t1 : decide (m.f0 < 1) = false := decide_eq_false h1
                        by_cases h2 : 99999998 < m.f0
                        · have t2 : decide (99999998 < m.f0) = true := decide_eq_true h2
                          have BAD := Aside0.mk (show ¬ edG v (ll : Int) In Ov out from fun h => by have h3 := (h.2 m MIN.out).2.2.2.2; omega)
                          go_wp2_with fail
                          refine start_ (n := 41) (S := (fun w' => Below wr.heap.size wr w' ∧ w'.cell? (ax.add (k * 7)) = some (.int .u64 m.f0) ∧ w'.cell? ⟨(ax.add (k * 7)).block, (ax.add (k * 7)).off + 3, none⟩ = some (.string m.f3) ∧ w'.cell? ⟨(ax.add (k * 7)).block, (ax.add (k * 7)).off + 4, none⟩ = some (.string m.f4))) (ds := []) (bl 41 0 []) (by kernel_rfl) rfl (by kernel_rfl) ⟨below_drew (Below.refl _ _), ha0, ha3, ha4⟩ (fun hHeld => ?_)
                          refine pure_ (i := 0) (N := (some 92)) (v := ?_) (a' := ?_) (bl 41 1 []) rfl rfl (by kernel_rfl) (fun _ _ _ h => h) (Or.inl ⟨by rfl, ?_⟩) ?_ ?_
                          rotate_left
                          · intro w'
                            go_simp
                            with_reducible rfl
                          rotate_left
                          · simp only [Act.put, sA_, sB_, sC_, i64_w, i32_w]
                            rfl
                          refine pure_ (i := 1) (N := (some 93)) (v := ?_) (a' := ?_) (bl 41 2 []) rfl rfl (by kernel_rfl) (fun _ _ _ h => h) (Or.inl ⟨by rfl, ?_⟩) ?_ ?_
                          rotate_left
                          · intro w'
                            go_simp
                            with_reducible rfl
                          rotate_left
                          · simp only [Act.put, sA_, sB_, sC_, i64_w, i32_w]
                            rfl
                          refine pure_ (i := 2) (N := (some 94)) (v := ?_) (a' := ?_) (bl 41 3 []) rfl rfl (by kernel_rfl) (fun _ _ _ h => h) (Or.inl ⟨by rfl, ?_⟩) ?_ ?_
                          rotate_left
                          · intro w'
                            go_simp
                            with_reducible rfl
                          rotate_left
                          · simp only [Act.put, sA_, sB_, sC_, i64_w, i32_w]
                            rfl
                          refine pure_ (i := 3) (N := (some 95)) (v := ?_) (a' := ?_) (bl 41 4 []) rfl rfl (by kernel_rfl) (fun _ _ _ h => h) (Or.inl ⟨by rfl, ?_⟩) ?_ ?_
                          rotate_left
                          · intro w'
                            go_simp
                            with_reducible rfl
                          rotate_left
                          · simp only [Act.put, sA_, sB_, sC_, i64_w, i32_w]
                            rfl
                          refine pure_ (i := 4) (N := (some 96)) (v := ?_) (a' := ?_) (bl 41 5 []) rfl rfl (by kernel_rfl) (fun _ _ _ h => h) (Or.inl ⟨by rfl, ?_⟩) ?_ ?_
                          rotate_left
                          · intro w'
                            go_simp
                            with_reducible rfl
                          rotate_left
                          · simp only [Act.put, sA_, sB_, sC_, i64_w, i32_w]
                            rfl
                          refine pure_ (i := 5) (N := (some 97)) (v := ?_) (a' := ?_) (bl 41 6 []) rfl rfl (by kernel_rfl) (fun _ _ _ h => h) (Or.inl ⟨by rfl, ?_⟩) ?_ ?_
                          rotate_left
                          · intro w'
                            go_simp
                            with_reducible rfl
                          rotate_left
                          · simp only [Act.put, sA_, sB_, sC_, i64_w, i32_w]
                            rfl
                          refine pure_ (i := 6) (N := (some 98)) (v := ?_) (a' := ?_) (bl 41 7 []) rfl rfl (by kernel_rfl) (fun _ _ _ h => h) (Or.inl ⟨by rfl, ?_⟩) ?_ ?_
                          rotate_left
                          · intro w'
                            go_simp
                            with_reducible rfl
                          rotate_left
                          · simp only [Act.put, sA_, sB_, sC_, i64_w, i32_w]
                            rfl
                          refine pure_ (i := 7) (N := (some 99)) (v := ?_) (a' := ?_) (bl 41 8 []) rfl rfl (by kernel_rfl) (fun _ _ _ h => h) (Or.inl ⟨by rfl, ?_⟩) ?_ ?_
                          rotate_left
                          · intro w'
                            go_simp
                            with_reducible rfl
                          rotate_left
                          · simp only [Act.put, sA_, sB_, sC_, i64_w, i32_w]
                            rfl
                          refine take_ (i := 8) (N := (some 100)) (v := ?_) (a' := ?_) (bl 41 9 []) rfl rfl (by kernel_rfl) (fun _ _ _ h => h) (Or.inl ⟨by rfl, ?_⟩) hHeld ?_ ?_
                          rotate_left
                          · rintro w' ⟨s0, s1, s2, s3⟩
                            go_simp
                            with_reducible rfl
                          rotate_left
                          · simp only [Act.put, sA_, sB_, sC_, i64_w, i32_w]
                            rfl
                          refine pure_ (i := 9) (N := (some 101)) (v := ?_) (a' := ?_) (bl 41 10 []) rfl rfl (by kernel_rfl) (fun _ _ _ h => h) (Or.inl ⟨by rfl, ?_⟩) ?_ ?_
                          rotate_left
                          · intro w'
                            go_simp
                            with_reducible rfl
                          rotate_left
                          · simp only [Act.put, sA_, sB_, sC_, i64_w, i32_w]
                            rfl
                          -- 10: Op.call { value (Operand.func 95), args := #[t101], argTypes := #[23] }   [guarded: some (3, false)]
                          refine one_ (i := 10) (N := (some 102)) (bl 41 11 []) rfl rfl (by kernel_rfl) (by decide) (fun K hK => ?_)
                          refine goes_ Try.func95 (by kernel_rfl) rfl #[.slice Bl L.length cl] (by rfl) rfl rfl (by (try simp only [List.map_toArray, List.map_cons, List.map_nil]); first | done | rfl) ?_
                          (with_reducible refine (KSP.out _ hHeld.1).mono ?_)
                          rintro e w7 ⟨rfl, hb⟩
                          refine ⟨_, rfl, ?_⟩
                          have hOld := hHeld
                          clear hHeld
                          refine hK.out _ _ (⟨below_step hOld.1 hb, pw_cell_below hb hOld.2.1, pw_cell_below hb hOld.2.2.1, pw_cell_below hb hOld.2.2.2⟩) (fun hHeld => ?_)
                          clear hOld hK K
                          refine norm_ (a' := ?_) ?_ ?_
                          rotate_left
                          · show Act.put _ (some 102) _ = _
                            simp only [Act.put, List.setIfInBounds_toArray, List.set_cons_zero, List.set_cons_succ, i64_w, i32_w]
                            rfl
                          refine pure_ (i := 11) (N := (some 103)) (v := ?_) (a' := ?_) (bl 41 12 []) rfl rfl (by kernel_rfl) (fun _ _ _ h => h) (Or.inl ⟨by rfl, ?_⟩) ?_ ?_
                          rotate_left
                          · intro w'
                            go_simp
                            with_reducible rfl
                          rotate_left
                          · simp only [Act.put, sA_, sB_, sC_, i64_w, i32_w]
                            rfl
                          refine pure_ (i := 12) (N := (some 104)) (v := ?_) (a' := ?_) (bl 41 13 []) rfl rfl (by kernel_rfl) (fun _ _ _ h => h) (Or.inl ⟨by rfl, ?_⟩) ?_ ?_
                          rotate_left
                          · intro w'
                            go_simp
                            with_reducible rfl
                          rotate_left
                          · simp only [Act.put, sA_, sB_, sC_, i64_w, i32_w]
                            rfl
                          refine pure_ (i := 13) (N := (some 105)) (v := ?_) (a' := ?_) (bl 41 14 []) rfl rfl (by kernel_rfl) (fun _ _ _ h => h) (Or.inl ⟨by rfl, ?_⟩) ?_ ?_
                          rotate_left
                          · intro w'
                            go_simp
                            with_reducible rfl
                          rotate_left
                          · simp only [Act.put, sA_, sB_, sC_, i64_w, i32_w]
                            rfl
                          refine pure_ (i := 14) (N := (some 106)) (v := ?_) (a' := ?_) (bl 41 15 []) rfl rfl (by kernel_rfl) (fun _ _ _ h => h) (Or.inl ⟨by rfl, ?_⟩) ?_ ?_
                          rotate_left
                          · intro w'
                            go_simp
                            with_reducible rfl
                          rotate_left
                          · simp only [Act.put, sA_, sB_, sC_, i64_w, i32_w]
                            rfl
                          refine pure_ (i := 15) (N := (some 107)) (v := ?_) (a' := ?_) (bl 41 16 []) rfl rfl (by kernel_rfl) (fun _ _ _ h => h) (Or.inl ⟨by rfl, ?_⟩) ?_ ?_
                          rotate_left
                          · intro w'
                            go_simp
                            with_reducible rfl
                          rotate_left
                          · simp only [Act.put, sA_, sB_, sC_, i64_w, i32_w]
                            rfl
                          refine pure_ (i := 16) (N := (some 108)) (v := ?_) (a' := ?_) (bl 41 17 []) rfl rfl (by kernel_rfl) (fun _ _ _ h => h) (Or.inl ⟨by rfl, ?_⟩) ?_ ?_
                          rotate_left
                          · intro w'
                            go_simp
                            with_reducible rfl
                          rotate_left
                          · simp only [Act.put, sA_, sB_, sC_, i64_w, i32_w]
                            rfl
                          refine pure_ (i := 17) (N := (some 109)) (v := ?_) (a' := ?_) (bl 41 18 []) rfl rfl (by kernel_rfl) (fun _ _ _ h => h) (Or.inl ⟨by rfl, ?_⟩) ?_ ?_
                          rotate_left
                          · intro w'
                            go_simp
                            with_reducible rfl
                          rotate_left
                          · simp only [Act.put, sA_, sB_, sC_, i64_w, i32_w]
                            rfl
                          refine pure_ (i := 18) (N := (some 110)) (v := ?_) (a' := ?_) (bl 41 19 []) rfl rfl (by kernel_rfl) (fun _ _ _ h => h) (Or.inl ⟨by rfl, ?_⟩) ?_ ?_
                          rotate_left
                          · intro w'
                            go_simp
                            with_reducible rfl
                          rotate_left
                          · simp only [Act.put, sA_, sB_, sC_, i64_w, i32_w]
                            rfl
                          refine take_ (i := 19) (N := (some 111)) (v := ?_) (a' := ?_) (bl 41 20 []) rfl rfl (by kernel_rfl) (fun _ _ _ h => h) (Or.inl ⟨by rfl, ?_⟩) hHeld ?_ ?_
                          rotate_left
                          · rintro w' ⟨s0, s1, s2, s3⟩
                            go_simp
                            with_reducible rfl
                          rotate_left
                          · simp only [Act.put, sA_, sB_, sC_, i64_w, i32_w]
                            rfl
                          refine pure_ (i := 20) (N := (some 112)) (v := ?_) (a' := ?_) (bl 41 21 []) rfl rfl (by kernel_rfl) (fun _ _ _ h => h) (Or.inl ⟨by rfl, ?_⟩) ?_ ?_
                          rotate_left
                          · intro w'
                            go_simp
                            with_reducible rfl
                          rotate_left
                          · simp only [Act.put, sA_, sB_, sC_, i64_w, i32_w]
                            rfl
                          -- 21: Op.call { value (Operand.func 95), args := #[t112], argTypes := #[23] }   [guarded: some (14, false)]
                          refine one_ (i := 21) (N := (some 113)) (bl 41 22 []) rfl rfl (by kernel_rfl) (by decide) (fun K hK => ?_)
                          refine goes_ Try.func95 (by kernel_rfl) rfl #[.slice Bl L.length cl] (by rfl) rfl rfl (by (try simp only [List.map_toArray, List.map_cons, List.map_nil]); first | done | rfl) ?_
                          (with_reducible refine (KSP.out _ hHeld.1).mono ?_)
                          rintro e w8 ⟨rfl, hb⟩
                          refine ⟨_, rfl, ?_⟩
                          have hOld := hHeld
                          clear hHeld
                          refine hK.out _ _ (⟨below_step hOld.1 hb, pw_cell_below hb hOld.2.1, pw_cell_below hb hOld.2.2.1, pw_cell_below hb hOld.2.2.2⟩) (fun hHeld => ?_)
                          clear hOld hK K
                          refine norm_ (a' := ?_) ?_ ?_
                          rotate_left
                          · show Act.put _ (some 113) _ = _
                            simp only [Act.put, List.setIfInBounds_toArray, List.set_cons_zero, List.set_cons_succ, i64_w, i32_w]
                            rfl
                          refine pure_ (i := 22) (N := (some 114)) (v := ?_) (a' := ?_) (bl 41 23 []) rfl rfl (by kernel_rfl) (fun _ _ _ h => h) (Or.inl ⟨by rfl, ?_⟩) ?_ ?_
                          rotate_left
                          · intro w'
                            go_simp
                            with_reducible rfl
                          rotate_left
                          · simp only [Act.put, sA_, sB_, sC_, i64_w, i32_w]
                            rfl
                          refine pure_ (i := 23) (N := (some 115)) (v := ?_) (a' := ?_) (bl 41 24 []) rfl rfl (by kernel_rfl) (fun _ _ _ h => h) (Or.inl ⟨by rfl, ?_⟩) ?_ ?_
                          rotate_left
                          · intro w'
                            go_simp
                            with_reducible rfl
                          rotate_left
                          · simp only [Act.put, sA_, sB_, sC_, i64_w, i32_w]
                            rfl
                          refine pure_ (i := 24) (N := (some 116)) (v := ?_) (a' := ?_) (bl 41 25 []) rfl rfl (by kernel_rfl) (fun _ _ _ h => h) (Or.inl ⟨by rfl, ?_⟩) ?_ ?_
                          rotate_left
                          · intro w'
                            go_simp
                            with_reducible rfl
                          rotate_left
                          · simp only [Act.put, sA_, sB_, sC_, i64_w, i32_w]
                            rfl
                          refine pure_ (i := 25) (N := (some 117)) (v := ?_) (a' := ?_) (bl 41 26 []) rfl rfl (by kernel_rfl) (fun _ _ _ h => h) (Or.inl ⟨by rfl, ?_⟩) ?_ ?_
                          rotate_left
                          · intro w'
                            go_simp
                            with_reducible rfl
                          rotate_left
                          · simp only [Act.put, sA_, sB_, sC_, i64_w, i32_w]
                            rfl
                          refine pure_ (i := 26) (N := (some 118)) (v := ?_) (a' := ?_) (bl 41 27 []) rfl rfl (by kernel_rfl) (fun _ _ _ h => h) (Or.inl ⟨by rfl, ?_⟩) ?_ ?_
                          rotate_left
                          · intro w'
                            go_simp
                            with_reducible rfl
                          rotate_left
                          · simp only [Act.put, sA_, sB_, sC_, i64_w, i32_w]
                            rfl
                          refine pure_ (i := 27) (N := (some 119)) (v := ?_) (a' := ?_) (bl 41 28 []) rfl rfl (by kernel_rfl) (fun _ _ _ h => h) (Or.inl ⟨by rfl, ?_⟩) ?_ ?_
                          rotate_left
                          · intro w'
                            go_simp
                            with_reducible rfl
                          rotate_left
                          · simp only [Act.put, sA_, sB_, sC_, i64_w, i32_w]
                            rfl
                          refine pure_ (i := 28) (N := (some 120)) (v := ?_) (a' := ?_) (bl 41 29 []) rfl rfl (by kernel_rfl) (fun _ _ _ h => h) (Or.inl ⟨by rfl, ?_⟩) ?_ ?_
                          rotate_left
                          · intro w'
                            go_simp
                            with_reducible rfl
                          rotate_left
                          · simp only [Act.put, sA_, sB_, sC_, i64_w, i32_w]
                            rfl
                          refine pure_ (i := 29) (N := (some 121)) (v := ?_) (a' := ?_) (bl 41 30 []) rfl rfl (by kernel_rfl) (fun _ _ _ h => h) (Or.inl ⟨by rfl, ?_⟩) ?_ ?_
                          rotate_left
                          · intro w'
                            go_simp
                            with_reducible rfl
                          rotate_left
                          · simp only [Act.put, sA_, sB_, sC_, i64_w, i32_w]
                            rfl
                          refine take_ (i := 30) (N := (some 122)) (v := ?_) (a' := ?_) (bl 41 31 []) rfl rfl (by kernel_rfl) (fun _ _ _ h => h) (Or.inl ⟨by rfl, ?_⟩) hHeld ?_ ?_
                          rotate_left
                          · rintro w' ⟨s0, s1, s2, s3⟩
                            go_simp
                            with_reducible rfl
                          rotate_left
                          · simp only [Act.put, sA_, sB_, sC_, i64_w, i32_w]
                            rfl
                          refine pure_ (i := 31) (N := (some 123)) (v := ?_) (a' := ?_) (bl 41 32 []) rfl rfl (by kernel_rfl) (fun _ _ _ h => h) (Or.inl ⟨by rfl, ?_⟩) ?_ ?_
                          rotate_left
                          · intro w'
                            go_simp
                            with_reducible rfl
                          rotate_left
                          · simp only [Act.put, sA_, sB_, sC_, i64_w, i32_w]
                            rfl
                          refine pure_ (i := 32) (N := (some 124)) (v := ?_) (a' := ?_) (bl 41 33 []) rfl rfl (by kernel_rfl) (fun _ _ _ h => h) (Or.inl ⟨by rfl, ?_⟩) ?_ ?_
                          rotate_left
                          · intro w'
                            go_simp
                            with_reducible rfl
                          rotate_left
                          · simp only [Act.put, sA_, sB_, sC_, i64_w, i32_w]
                            rfl
                          refine pure_ (i := 33) (N := (some 125)) (v := ?_) (a' := ?_) (bl 41 34 []) rfl rfl (by kernel_rfl) (fun _ _ _ h => h) (Or.inl ⟨by rfl, ?_⟩) ?_ ?_
                          rotate_left
                          · intro w'
                            go_simp
                            with_reducible rfl
                          rotate_left
                          · simp only [Act.put, sA_, sB_, sC_, i64_w, i32_w]
                            rfl
                          refine pure_ (i := 34) (N := (some 126)) (v := ?_) (a' := ?_) (bl 41 35 []) rfl rfl (by kernel_rfl) (fun _ _ _ h => h) (Or.inl ⟨by rfl, ?_⟩) ?_ ?_
                          rotate_left
                          · intro w'
                            go_simp
                            with_reducible rfl
                          rotate_left
                          · simp only [Act.put, sA_, sB_, sC_, i64_w, i32_w]
                            rfl
                          refine pure_ (i := 35) (N := (some 127)) (v := ?_) (a' := ?_) (bl 41 36 []) rfl rfl (by kernel_rfl) (fun _ _ _ h => h) (Or.inl ⟨by rfl, ?_⟩) ?_ ?_
                          rotate_left
                          · intro w'
                            go_simp
                            with_reducible rfl
                          rotate_left
                          · simp only [Act.put, sA_, sB_, sC_, i64_w, i32_w]
                            rfl
                          refine pure_ (i := 36) (N := (some 128)) (v := ?_) (a' := ?_) (bl 41 37 []) rfl rfl (by kernel_rfl) (fun _ _ _ h => h) (Or.inl ⟨by rfl, ?_⟩) ?_ ?_
                          rotate_left
                          · intro w'
                            go_simp
                            with_reducible rfl
                          rotate_left
                          · simp only [Act.put, sA_, sB_, sC_, i64_w, i32_w]
                            rfl
                          refine pure_ (i := 37) (N := (some 129)) (v := ?_) (a' := ?_) (bl 41 38 []) rfl rfl (by kernel_rfl) (fun _ _ _ h => h) (Or.inl ⟨by rfl, ?_⟩) ?_ ?_
                          rotate_left
                          · intro w'
                            go_simp
                            with_reducible rfl
                          rotate_left
                          · simp only [Act.put, sA_, sB_, sC_, i64_w, i32_w]
                            rfl
                          refine take_ (i := 38) (N := (some 130)) (v := ?_) (a' := ?_) (bl 41 39 []) rfl rfl (by kernel_rfl) (fun _ _ _ h => h) (Or.inl ⟨by rfl, ?_⟩) hHeld ?_ ?_
                          rotate_left
                          · rintro w' ⟨s0, s1, s2, s3⟩
                            go_simp
                            with_reducible rfl
                          rotate_left
                          · simp only [Act.put, sA_, sB_, sC_, i64_w, i32_w]
                            rfl
                          refine pure_ (i := 39) (N := (some 131)) (v := ?_) (a' := ?_) (bl 41 40 []) rfl rfl (by kernel_rfl) (fun _ _ _ h => h) (Or.inl ⟨by rfl, ?_⟩) ?_ ?_
                          rotate_left
                          · intro w'
                            go_simp
                            with_reducible rfl
                          rotate_left
                          · simp only [Act.put, sA_, sB_, sC_, i64_w, i32_w]
                            rfl
                          refine pure_ (i := 40) (N := (some 132)) (v := ?_) (a' := ?_) (bl 41 41 []) rfl rfl (by kernel_rfl) (fun _ _ _ h => h) (Or.inl ⟨by rfl, ?_⟩) ?_ ?_
                          rotate_left
                          · intro w'
                            go_simp
                            with_reducible rfl
                          rotate_left
                          · simp only [Act.put, sA_, sB_, sC_, i64_w, i32_w]
                            rfl
                          refine done_ (by kernel_rfl) ?_
                          have X6b := Aside0.mk (blk_below X6.out hHeld.1)
                          have HBF := Aside0.mk (below_step HB3.out (below_step HB.out hHeld.1))
                          clear hHeld
                          have E1 := Aside0.mk (show xe = zE from by rw [XE.out]; unfold edV; rw [if_neg (fun h => BAD.out h.2)])
                          have E2 := Aside0.mk (show xf = 11 from by rw [XF.out]; unfold edE; rw [if_pos ASK.out, if_neg BAD.out])
                          go_wp2_with (first | (refine st_arr rfl 70 _ _ rfl g6 70 ?hx #[.int .u64 0, .int .u64 0, .int .u64 0, .slice none 0 0, .slice none 0 0] ?hy _ X6b.out (by rw [size70]; rfl) rfl (by simp [Value.oneCell']) ?_; (case hx => rfl); (case hy => rfl); intro w5 hb5 hbb hk5 hs5; have HB5 := Aside0.mk (hbb _ _ HBF.out (show w.heap.size ≤ g6 by have := N1.out; omega)); have X65 := Aside0.mk hb5; clear hb5 hbb hk5 hs5) | fail)
                          have r0 : w5.cell? ⟨g6, 0, none⟩ = some (.int .u64 0) := (blk_cell X65.out 0).trans rfl
                          have r1 : w5.cell? ⟨g6, 1, none⟩ = some (.int .u64 0) := (blk_cell X65.out 1).trans rfl
                          have r2 : w5.cell? ⟨g6, 2, none⟩ = some (.int .u64 0) := (blk_cell X65.out 2).trans rfl
                          have r3 : w5.cell? ⟨g6, 3, none⟩ = some (.slice none 0 0) := (blk_cell X65.out 3).trans rfl
                          have r4 : w5.cell? ⟨g6, 4, none⟩ = some (.slice none 0 0) := (blk_cell X65.out 4).trans rfl
                          exact bodyPost_ret (v := .tuple #[.agg #[.int .u64 0, .int .u64 0, .int .u64 0, .slice none 0 0, .slice none 0 0], .int .i64 11]) (by simp [results, Try.results49, go_sem, r0, r1, r2, r3, r4]) rfl ⟨none, 0, none, 0, by rw [E1.out, E2.out]; rfl, by rw [E1.out]; exact Kd.R_nil _ _ _ _ _, by rw [E1.out]; exact Kd.R_nil _ _ _ _ _, HB5.out⟩
                        · have t2 : decide (99999998 < m.f0) = false := decide_eq_false h2
                          have CAME := Aside0.mk (show cameP (In ++ Ov) m from ⟨HNE.out, by rw [← SQ.out]; exact hf, by rw [← SQ.out]; exact hg, by omega, by omega⟩)
                          clear h1 h2
                          go_wp2_with fail
                          refine start_ (n := 41) (S := (fun w' => Below wr.heap.size wr w' ∧ w'.cell? (ax.add (k * 7)) = some (.int .u64 m.f0) ∧ w'.cell? ⟨(ax.add (k * 7)).block, (ax.add (k * 7)).off + 3, none⟩ = some (.string m.f3) ∧ w'.cell? ⟨(ax.add (k * 7)).block, (ax.add (k * 7)).off + 4, none⟩ = some (.string m.f4))) (ds := []) (bl 41 0 []) (by kernel_rfl) rfl (by kernel_rfl) ⟨below_drew (Below.refl _ _), ha0, ha3, ha4⟩ (fun hHeld => ?_)
                          refine pure_ (i := 0) (N := (some 92)) (v := ?_) (a' := ?_) (bl 41 1 []) rfl rfl (by kernel_rfl) (fun _ _ _ h => h) (Or.inl ⟨by rfl, ?_⟩) ?_ ?_
                          rotate_left
                          · intro w'
                            go_simp
                            with_reducible rfl
                          rotate_left
                          · simp only [Act.put, sA_, sB_, sC_, i64_w, i32_w]
                            rfl
                          refine pure_ (i := 1) (N := (some 93)) (v := ?_) (a' := ?_) (bl 41 2 []) rfl rfl (by kernel_rfl) (fun _ _ _ h => h) (Or.inl ⟨by rfl, ?_⟩) ?_ ?_
                          rotate_left
                          · intro w'
                            go_simp
                            with_reducible rfl
                          rotate_left
                          · simp only [Act.put, sA_, sB_, sC_, i64_w, i32_w]
                            rfl
                          refine pure_ (i := 2) (N := (some 94)) (v := ?_) (a' := ?_) (bl 41 3 []) rfl rfl (by kernel_rfl) (fun _ _ _ h => h) (Or.inl ⟨by rfl, ?_⟩) ?_ ?_
                          rotate_left
                          · intro w'
                            go_simp
                            with_reducible rfl
                          rotate_left
                          · simp only [Act.put, sA_, sB_, sC_, i64_w, i32_w]
                            rfl
                          refine pure_ (i := 3) (N := (some 95)) (v := ?_) (a' := ?_) (bl 41 4 []) rfl rfl (by kernel_rfl) (fun _ _ _ h => h) (Or.inl ⟨by rfl, ?_⟩) ?_ ?_
                          rotate_left
                          · intro w'
                            go_simp
                            with_reducible rfl
                          rotate_left
                          · simp only [Act.put, sA_, sB_, sC_, i64_w, i32_w]
                            rfl
                          refine pure_ (i := 4) (N := (some 96)) (v := ?_) (a' := ?_) (bl 41 5 []) rfl rfl (by kernel_rfl) (fun _ _ _ h => h) (Or.inl ⟨by rfl, ?_⟩) ?_ ?_
                          rotate_left
                          · intro w'
                            go_simp
                            with_reducible rfl
                          rotate_left
                          · simp only [Act.put, sA_, sB_, sC_, i64_w, i32_w]
                            rfl
                          refine pure_ (i := 5) (N := (some 97)) (v := ?_) (a' := ?_) (bl 41 6 []) rfl rfl (by kernel_rfl) (fun _ _ _ h => h) (Or.inl ⟨by rfl, ?_⟩) ?_ ?_
                          rotate_left
                          · intro w'
                            go_simp
                            with_reducible rfl
                          rotate_left
                          · simp only [Act.put, sA_, sB_, sC_, i64_w, i32_w]
                            rfl
                          refine pure_ (i := 6) (N := (some 98)) (v := ?_) (a' := ?_) (bl 41 7 []) rfl rfl (by kernel_rfl) (fun _ _ _ h => h) (Or.inl ⟨by rfl, ?_⟩) ?_ ?_
                          rotate_left
                          · intro w'
                            go_simp
                            with_reducible rfl
                          rotate_left
                          · simp only [Act.put, sA_, sB_, sC_, i64_w, i32_w]
                            rfl
                          refine pure_ (i := 7) (N := (some 99)) (v := ?_) (a' := ?_) (bl 41 8 []) rfl rfl (by kernel_rfl) (fun _ _ _ h => h) (Or.inl ⟨by rfl, ?_⟩) ?_ ?_
                          rotate_left
                          · intro w'
                            go_simp
                            with_reducible rfl
                          rotate_left
                          · simp only [Act.put, sA_, sB_, sC_, i64_w, i32_w]
                            rfl
                          refine take_ (i := 8) (N := (some 100)) (v := ?_) (a' := ?_) (bl 41 9 []) rfl rfl (by kernel_rfl) (fun _ _ _ h => h) (Or.inl ⟨by rfl, ?_⟩) hHeld ?_ ?_
                          rotate_left
                          · rintro w' ⟨s0, s1, s2, s3⟩
                            go_simp
                            with_reducible rfl
                          rotate_left
                          · simp only [Act.put, sA_, sB_, sC_, i64_w, i32_w]
                            rfl
                          refine pure_ (i := 9) (N := (some 101)) (v := ?_) (a' := ?_) (bl 41 10 []) rfl rfl (by kernel_rfl) (fun _ _ _ h => h) (Or.inl ⟨by rfl, ?_⟩) ?_ ?_
                          rotate_left
                          · intro w'
                            go_simp
                            with_reducible rfl
                          rotate_left
                          · simp only [Act.put, sA_, sB_, sC_, i64_w, i32_w]
                            rfl
                          -- 10: Op.call { value (Operand.func 95), args := #[t101], argTypes := #[23] }   [guarded: some (3, false)]
                          refine one_ (i := 10) (N := (some 102)) (bl 41 11 []) rfl rfl (by kernel_rfl) (by decide) (fun K hK => ?_)
                          refine goes_ Try.func95 (by kernel_rfl) rfl #[.slice Bl L.length cl] (by rfl) rfl rfl (by (try simp only [List.map_toArray, List.map_cons, List.map_nil]); first | done | rfl) ?_
                          (with_reducible refine (KSP.out _ hHeld.1).mono ?_)
                          rintro e w7 ⟨rfl, hb⟩
                          refine ⟨_, rfl, ?_⟩
                          have hOld := hHeld
                          clear hHeld
                          refine hK.out _ _ (⟨below_step hOld.1 hb, pw_cell_below hb hOld.2.1, pw_cell_below hb hOld.2.2.1, pw_cell_below hb hOld.2.2.2⟩) (fun hHeld => ?_)
                          clear hOld hK K
                          refine norm_ (a' := ?_) ?_ ?_
                          rotate_left
                          · show Act.put _ (some 102) _ = _
                            simp only [Act.put, List.setIfInBounds_toArray, List.set_cons_zero, List.set_cons_succ, i64_w, i32_w]
                            rfl
                          refine pure_ (i := 11) (N := (some 103)) (v := ?_) (a' := ?_) (bl 41 12 []) rfl rfl (by kernel_rfl) (fun _ _ _ h => h) (Or.inl ⟨by rfl, ?_⟩) ?_ ?_
                          rotate_left
                          · intro w'
                            go_simp
                            with_reducible rfl
                          rotate_left
                          · simp only [Act.put, sA_, sB_, sC_, i64_w, i32_w]
                            rfl
                          refine pure_ (i := 12) (N := (some 104)) (v := ?_) (a' := ?_) (bl 41 13 []) rfl rfl (by kernel_rfl) (fun _ _ _ h => h) (Or.inl ⟨by rfl, ?_⟩) ?_ ?_
                          rotate_left
                          · intro w'
                            go_simp
                            with_reducible rfl
                          rotate_left
                          · simp only [Act.put, sA_, sB_, sC_, i64_w, i32_w]
                            rfl
                          refine pure_ (i := 13) (N := (some 105)) (v := ?_) (a' := ?_) (bl 41 14 []) rfl rfl (by kernel_rfl) (fun _ _ _ h => h) (Or.inl ⟨by rfl, ?_⟩) ?_ ?_
                          rotate_left
                          · intro w'
                            go_simp
                            with_reducible rfl
                          rotate_left
                          · simp only [Act.put, sA_, sB_, sC_, i64_w, i32_w]
                            rfl
                          refine pure_ (i := 14) (N := (some 106)) (v := ?_) (a' := ?_) (bl 41 15 []) rfl rfl (by kernel_rfl) (fun _ _ _ h => h) (Or.inl ⟨by rfl, ?_⟩) ?_ ?_
                          rotate_left
                          · intro w'
                            go_simp
                            with_reducible rfl
                          rotate_left
                          · simp only [Act.put, sA_, sB_, sC_, i64_w, i32_w]
                            rfl
                          refine pure_ (i := 15) (N := (some 107)) (v := ?_) (a' := ?_) (bl 41 16 []) rfl rfl (by kernel_rfl) (fun _ _ _ h => h) (Or.inl ⟨by rfl, ?_⟩) ?_ ?_
                          rotate_left
                          · intro w'
                            go_simp
                            with_reducible rfl
                          rotate_left
                          · simp only [Act.put, sA_, sB_, sC_, i64_w, i32_w]
                            rfl
                          refine pure_ (i := 16) (N := (some 108)) (v := ?_) (a' := ?_) (bl 41 17 []) rfl rfl (by kernel_rfl) (fun _ _ _ h => h) (Or.inl ⟨by rfl, ?_⟩) ?_ ?_
                          rotate_left
                          · intro w'
                            go_simp
                            with_reducible rfl
                          rotate_left
                          · simp only [Act.put, sA_, sB_, sC_, i64_w, i32_w]
                            rfl
                          refine pure_ (i := 17) (N := (some 109)) (v := ?_) (a' := ?_) (bl 41 18 []) rfl rfl (by kernel_rfl) (fun _ _ _ h => h) (Or.inl ⟨by rfl, ?_⟩) ?_ ?_
                          rotate_left
                          · intro w'
                            go_simp
                            with_reducible rfl
                          rotate_left
                          · simp only [Act.put, sA_, sB_, sC_, i64_w, i32_w]
                            rfl
                          refine pure_ (i := 18) (N := (some 110)) (v := ?_) (a' := ?_) (bl 41 19 []) rfl rfl (by kernel_rfl) (fun _ _ _ h => h) (Or.inl ⟨by rfl, ?_⟩) ?_ ?_
                          rotate_left
                          · intro w'
                            go_simp
                            with_reducible rfl
                          rotate_left
                          · simp only [Act.put, sA_, sB_, sC_, i64_w, i32_w]
                            rfl
                          refine take_ (i := 19) (N := (some 111)) (v := ?_) (a' := ?_) (bl 41 20 []) rfl rfl (by kernel_rfl) (fun _ _ _ h => h) (Or.inl ⟨by rfl, ?_⟩) hHeld ?_ ?_
                          rotate_left
                          · rintro w' ⟨s0, s1, s2, s3⟩
                            go_simp
                            with_reducible rfl
                          rotate_left
                          · simp only [Act.put, sA_, sB_, sC_, i64_w, i32_w]
                            rfl
                          refine pure_ (i := 20) (N := (some 112)) (v := ?_) (a' := ?_) (bl 41 21 []) rfl rfl (by kernel_rfl) (fun _ _ _ h => h) (Or.inl ⟨by rfl, ?_⟩) ?_ ?_
                          rotate_left
                          · intro w'
                            go_simp
                            with_reducible rfl
                          rotate_left
                          · simp only [Act.put, sA_, sB_, sC_, i64_w, i32_w]
                            rfl
                          -- 21: Op.call { value (Operand.func 95), args := #[t112], argTypes := #[23] }   [guarded: some (14, false)]
                          refine one_ (i := 21) (N := (some 113)) (bl 41 22 []) rfl rfl (by kernel_rfl) (by decide) (fun K hK => ?_)
                          refine goes_ Try.func95 (by kernel_rfl) rfl #[.slice Bl L.length cl] (by rfl) rfl rfl (by (try simp only [List.map_toArray, List.map_cons, List.map_nil]); first | done | rfl) ?_
                          (with_reducible refine (KSP.out _ hHeld.1).mono ?_)
                          rintro e w8 ⟨rfl, hb⟩
                          refine ⟨_, rfl, ?_⟩
                          have hOld := hHeld
                          clear hHeld
                          refine hK.out _ _ (⟨below_step hOld.1 hb, pw_cell_below hb hOld.2.1, pw_cell_below hb hOld.2.2.1, pw_cell_below hb hOld.2.2.2⟩) (fun hHeld => ?_)
                          clear hOld hK K
                          refine norm_ (a' := ?_) ?_ ?_
                          rotate_left
                          · show Act.put _ (some 113) _ = _
                            simp only [Act.put, List.setIfInBounds_toArray, List.set_cons_zero, List.set_cons_succ, i64_w, i32_w]
                            rfl
                          refine pure_ (i := 22) (N := (some 114)) (v := ?_) (a' := ?_) (bl 41 23 []) rfl rfl (by kernel_rfl) (fun _ _ _ h => h) (Or.inl ⟨by rfl, ?_⟩) ?_ ?_
                          rotate_left
                          · intro w'
                            go_simp
                            with_reducible rfl
                          rotate_left
                          · simp only [Act.put, sA_, sB_, sC_, i64_w, i32_w]
                            rfl
                          refine pure_ (i := 23) (N := (some 115)) (v := ?_) (a' := ?_) (bl 41 24 []) rfl rfl (by kernel_rfl) (fun _ _ _ h => h) (Or.inl ⟨by rfl, ?_⟩) ?_ ?_
                          rotate_left
                          · intro w'
                            go_simp
                            with_reducible rfl
                          rotate_left
                          · simp only [Act.put, sA_, sB_, sC_, i64_w, i32_w]
                            rfl
                          refine pure_ (i := 24) (N := (some 116)) (v := ?_) (a' := ?_) (bl 41 25 []) rfl rfl (by kernel_rfl) (fun _ _ _ h => h) (Or.inl ⟨by rfl, ?_⟩) ?_ ?_
                          rotate_left
                          · intro w'
                            go_simp
                            with_reducible rfl
                          rotate_left
                          · simp only [Act.put, sA_, sB_, sC_, i64_w, i32_w]
                            rfl
                          refine pure_ (i := 25) (N := (some 117)) (v := ?_) (a' := ?_) (bl 41 26 []) rfl rfl (by kernel_rfl) (fun _ _ _ h => h) (Or.inl ⟨by rfl, ?_⟩) ?_ ?_
                          rotate_left
                          · intro w'
                            go_simp
                            with_reducible rfl
                          rotate_left
                          · simp only [Act.put, sA_, sB_, sC_, i64_w, i32_w]
                            rfl
                          refine pure_ (i := 26) (N := (some 118)) (v := ?_) (a' := ?_) (bl 41 27 []) rfl rfl (by kernel_rfl) (fun _ _ _ h => h) (Or.inl ⟨by rfl, ?_⟩) ?_ ?_
                          rotate_left
                          · intro w'
                            go_simp
                            with_reducible rfl
                          rotate_left
                          · simp only [Act.put, sA_, sB_, sC_, i64_w, i32_w]
                            rfl
                          refine pure_ (i := 27) (N := (some 119)) (v := ?_) (a' := ?_) (bl 41 28 []) rfl rfl (by kernel_rfl) (fun _ _ _ h => h) (Or.inl ⟨by rfl, ?_⟩) ?_ ?_
                          rotate_left
                          · intro w'
                            go_simp
                            with_reducible rfl
                          rotate_left
                          · simp only [Act.put, sA_, sB_, sC_, i64_w, i32_w]
                            rfl
                          refine pure_ (i := 28) (N := (some 120)) (v := ?_) (a' := ?_) (bl 41 29 []) rfl rfl (by kernel_rfl) (fun _ _ _ h => h) (Or.inl ⟨by rfl, ?_⟩) ?_ ?_
                          rotate_left
                          · intro w'
                            go_simp
                            with_reducible rfl
                          rotate_left
                          · simp only [Act.put, sA_, sB_, sC_, i64_w, i32_w]
                            rfl
                          refine pure_ (i := 29) (N := (some 121)) (v := ?_) (a' := ?_) (bl 41 30 []) rfl rfl (by kernel_rfl) (fun _ _ _ h => h) (Or.inl ⟨by rfl, ?_⟩) ?_ ?_
                          rotate_left
                          · intro w'
                            go_simp
                            with_reducible rfl
                          rotate_left
                          · simp only [Act.put, sA_, sB_, sC_, i64_w, i32_w]
                            rfl
                          refine take_ (i := 30) (N := (some 122)) (v := ?_) (a' := ?_) (bl 41 31 []) rfl rfl (by kernel_rfl) (fun _ _ _ h => h) (Or.inl ⟨by rfl, ?_⟩) hHeld ?_ ?_
                          rotate_left
                          · rintro w' ⟨s0, s1, s2, s3⟩
                            go_simp
                            with_reducible rfl
                          rotate_left
                          · simp only [Act.put, sA_, sB_, sC_, i64_w, i32_w]
                            rfl
                          refine pure_ (i := 31) (N := (some 123)) (v := ?_) (a' := ?_) (bl 41 32 []) rfl rfl (by kernel_rfl) (fun _ _ _ h => h) (Or.inl ⟨by rfl, ?_⟩) ?_ ?_
                          rotate_left
                          · intro w'
                            go_simp
                            with_reducible rfl
                          rotate_left
                          · simp only [Act.put, sA_, sB_, sC_, i64_w, i32_w]
                            rfl
                          refine pure_ (i := 32) (N := (some 124)) (v := ?_) (a' := ?_) (bl 41 33 []) rfl rfl (by kernel_rfl) (fun _ _ _ h => h) (Or.inl ⟨by rfl, ?_⟩) ?_ ?_
                          rotate_left
                          · intro w'
                            go_simp
                            with_reducible rfl
                          rotate_left
                          · simp only [Act.put, sA_, sB_, sC_, i64_w, i32_w]
                            rfl
                          refine pure_ (i := 33) (N := (some 125)) (v := ?_) (a' := ?_) (bl 41 34 []) rfl rfl (by kernel_rfl) (fun _ _ _ h => h) (Or.inl ⟨by rfl, ?_⟩) ?_ ?_
                          rotate_left
                          · intro w'
                            go_simp
                            with_reducible rfl
                          rotate_left
                          · simp only [Act.put, sA_, sB_, sC_, i64_w, i32_w]
                            rfl
                          refine pure_ (i := 34) (N := (some 126)) (v := ?_) (a' := ?_) (bl 41 35 []) rfl rfl (by kernel_rfl) (fun _ _ _ h => h) (Or.inl ⟨by rfl, ?_⟩) ?_ ?_
                          rotate_left
                          · intro w'
                            go_simp
                            with_reducible rfl
                          rotate_left
                          · simp only [Act.put, sA_, sB_, sC_, i64_w, i32_w]
                            rfl
                          refine pure_ (i := 35) (N := (some 127)) (v := ?_) (a' := ?_) (bl 41 36 []) rfl rfl (by kernel_rfl) (fun _ _ _ h => h) (Or.inl ⟨by rfl, ?_⟩) ?_ ?_
                          rotate_left
                          · intro w'
                            go_simp
                            with_reducible rfl
                          rotate_left
                          · simp only [Act.put, sA_, sB_, sC_, i64_w, i32_w]
                            rfl
                          refine pure_ (i := 36) (N := (some 128)) (v := ?_) (a' := ?_) (bl 41 37 []) rfl rfl (by kernel_rfl) (fun _ _ _ h => h) (Or.inl ⟨by rfl, ?_⟩) ?_ ?_
                          rotate_left
                          · intro w'
                            go_simp
                            with_reducible rfl
                          rotate_left
                          · simp only [Act.put, sA_, sB_, sC_, i64_w, i32_w]
                            rfl
                          refine pure_ (i := 37) (N := (some 129)) (v := ?_) (a' := ?_) (bl 41 38 []) rfl rfl (by kernel_rfl) (fun _ _ _ h => h) (Or.inl ⟨by rfl, ?_⟩) ?_ ?_
                          rotate_left
                          · intro w'
                            go_simp
                            with_reducible rfl
                          rotate_left
                          · simp only [Act.put, sA_, sB_, sC_, i64_w, i32_w]
                            rfl
                          refine take_ (i := 38) (N := (some 130)) (v := ?_) (a' := ?_) (bl 41 39 []) rfl rfl (by kernel_rfl) (fun _ _ _ h => h) (Or.inl ⟨by rfl, ?_⟩) hHeld ?_ ?_
                          rotate_left
                          · rintro w' ⟨s0, s1, s2, s3⟩
                            go_simp
                            with_reducible rfl
                          rotate_left
                          · simp only [Act.put, sA_, sB_, sC_, i64_w, i32_w]
                            rfl
                          refine pure_ (i := 39) (N := (some 131)) (v := ?_) (a' := ?_) (bl 41 40 []) rfl rfl (by kernel_rfl) (fun _ _ _ h => h) (Or.inl ⟨by rfl, ?_⟩) ?_ ?_
                          rotate_left
                          · intro w'
                            go_simp
                            with_reducible rfl
                          rotate_left
                          · simp only [Act.put, sA_, sB_, sC_, i64_w, i32_w]
                            rfl
                          refine pure_ (i := 40) (N := (some 132)) (v := ?_) (a' := ?_) (bl 41 41 []) rfl rfl (by kernel_rfl) (fun _ _ _ h => h) (Or.inl ⟨by rfl, ?_⟩) ?_ ?_
                          rotate_left
                          · intro w'
                            go_simp
                            with_reducible rfl
                          rotate_left
                          · simp only [Act.put, sA_, sB_, sC_, i64_w, i32_w]
                            rfl
                          refine done_ (by kernel_rfl) ?_
                          go_upto_region 25 with (fail)
                          have hb7 := hHeld.1
                          have HBx := Aside0.mk (below_step HB.out hb7)
                          have X8x := Aside0.mk (blk_below X8.out hb7)
                          have X4x := Aside0.mk (blk_below X4.out hb7)
                          have RGx := Aside0.mk (Kd.R_below RG.out hb7)
                          have RAx := Aside0.mk (Kd.R_below RA.out hb7)
                          have RLx := Aside0.mk (Kd.R_below RL.out hb7)
                          rename_i wx_0
                          clear hHeld ha0 ha1 ha2 ha3 ha4 ha5 ha6
                          obtain ⟨wx, hwx⟩ : ∃ W, W = w8 := ⟨_, rfl⟩
                          rw [← hwx] at HBx X8x X4x RGx RAx RLx ⊢
                          clear hwx hb7
                          obtain ⟨ax', ea', ha0, ha1, ha2, ha3, ha4, ha5, ha6⟩ := at_T58 (Kd.C_below H5.out (below_step HB3.out HBx.out)) (k : Int) p0 p1
                          obtain rfl : ax = ax' := by rw [HAX.out] at ea'; cases ea'; rfl
                          rw [Int.toNat_natCast] at ha0 ha1 ha2 ha3 ha4 ha5 ha6
                          rw [show rd_T58 out (k : Int) = m from (by rw [EM.out]; unfold rd_T58; rw [Int.toNat_natCast])] at ha0 ha1 ha2 ha3 ha4 ha5 ha6
                          clear ea'
                          by_cases hmx : mx < m.f0
                          · have MXE := Aside0.mk (show mxL (out.take (k + 1)) = m.f0 by rw [MXS.out, if_pos hmx])
                            go_wp2_with fail
                            clear hmx
                            refine start_ (n := 14) (S := (fun w' => w'.heap[w3.heap.size]? = some (.cells #[.int .u64 0, .int .u64 0, .int .u64 0, .slice B (goneL (ll : Int) In Ov (In ++ Ov).length).length cb, .slice B2 AD.length cb2] 70 (0, 0)) ∧ w'.heap[g4]? = some (.cells #[.int .i64 (ll : Int), .slice A1 In.length c1, .slice A2 Ov.length c2] 52 (0, 0)) ∧ w'.cell? (ax.add (k * 7)) = some (.int .u64 m.f0) ∧ w'.cell? ⟨(ax.add (k * 7)).block, (ax.add (k * 7)).off + 1, none⟩ = some (.int .i64 m.f1) ∧ w'.cell? ⟨(ax.add (k * 7)).block, (ax.add (k * 7)).off + 2, none⟩ = some (.int .i64 m.f2) ∧ w'.cell? ⟨(ax.add (k * 7)).block, (ax.add (k * 7)).off + 3, none⟩ = some (.string m.f3) ∧ w'.cell? ⟨(ax.add (k * 7)).block, (ax.add (k * 7)).off + 4, none⟩ = some (.string m.f4) ∧ w'.cell? ⟨(ax.add (k * 7)).block, (ax.add (k * 7)).off + 5, none⟩ = some (.int .u64 m.f5) ∧ w'.cell? ⟨(ax.add (k * 7)).block, (ax.add (k * 7)).off + 6, none⟩ = some (.int .u64 m.f6))) (ds := [11, 13]) #[false, false, false, false, false, false, false, false, false, false, false, false, false, false] (by kernel_rfl) rfl rfl ⟨blk_drew X8x.out, blk_drew X4x.out, ha0, ha1, ha2, ha3, ha4, ha5, ha6⟩ (fun hHeld => ?_)
                            have RG9 := Aside0.mk (Kd.R_drew RGx.out)
                            have RA9 := Aside0.mk (Kd.R_drew RAx.out)
                            have RL9 := Aside0.mk (Kd.R_drew RLx.out)
                            have HB9 := Aside0.mk (below_drew HBx.out)
                            have X8d := Aside0.mk (blk_drew X8x.out)
                            generalize wx.drew = w9 at *
                            -- 0: Op.fieldAddr 70 t8 4
                            refine pure_ (i := 0) (N := (some 141)) (v := ?_) (a' := ?_) #[true, false, false, false, false, false, false, false, false, false, false, false, false, false] rfl rfl (by kernel_rfl) (fun _ _ _ h => h) (Or.inl ⟨by rfl, ?_⟩) ?_ ?_
                            rotate_left
                            · intro w'
                              go_simp
                              with_reducible rfl
                            rotate_left
                            · simp only [Act.put, List.setIfInBounds_toArray, List.set_cons_zero, List.set_cons_succ, i64_w, i32_w]
                              rfl
                            -- 1: Op.load 68 t141
                            refine take_ (i := 1) (N := (some 142)) (v := ?_) (a' := ?_) #[true, true, false, false, false, false, false, false, false, false, false, false, false, false] rfl rfl (by kernel_rfl) (fun _ _ _ h => h) (Or.inl ⟨by rfl, ?_⟩) hHeld ?_ ?_
                            rotate_left
                            · rintro w' ⟨s0, s1, s2, s3, s4, s5, s6, s7, s8⟩
                              have z4 : w'.cell? ⟨w3.heap.size, 4, none⟩ = some (.slice B2 AD.length cb2) := (blk_cell s0 4).trans rfl
                              go_simp
                              with_reducible rfl
                            rotate_left
                            · simp only [Act.put, List.setIfInBounds_toArray, List.set_cons_zero, List.set_cons_succ, i64_w, i32_w]
                              rfl
                            -- 2: Op.fieldAddr 52 t4 0
                            refine pure_ (i := 2) (N := (some 143)) (v := ?_) (a' := ?_) #[true, true, true, false, false, false, false, false, false, false, false, false, false, false] rfl rfl (by kernel_rfl) (fun _ _ _ h => h) (Or.inl ⟨by rfl, ?_⟩) ?_ ?_
                            rotate_left
                            · intro w'
                              go_simp
                              with_reducible rfl
                            rotate_left
                            · simp only [Act.put, List.setIfInBounds_toArray, List.set_cons_zero, List.set_cons_succ, i64_w, i32_w]
                              rfl
                            -- 3: Op.load 3 t143
                            refine take_ (i := 3) (N := (some 144)) (v := ?_) (a' := ?_) #[true, true, true, true, false, false, false, false, false, false, false, false, false, false] rfl rfl (by kernel_rfl) (fun _ _ _ h => h) (Or.inl ⟨by rfl, ?_⟩) hHeld ?_ ?_
                            rotate_left
                            · rintro w' ⟨s0, s1, s2, s3, s4, s5, s6, s7, s8⟩
                              have q0 : w'.cell? ⟨g4, 0, none⟩ = some (.int .i64 (ll : Int)) := (blk_cell s1 0).trans rfl
                              go_simp
                              with_reducible rfl
                            rotate_left
                            · simp only [Act.put, List.setIfInBounds_toArray, List.set_cons_zero, List.set_cons_succ, i64_w, i32_w]
                              rfl
                            -- 4: Op.binOp BinOp.add 3 t144 (const (1:i64)) 3
                            refine pure_ (i := 4) (N := (some 145)) (v := ?_) (a' := ?_) #[true, true, true, true, true, false, false, false, false, false, false, false, false, false] rfl rfl (by kernel_rfl) (fun _ _ _ h => h) (Or.inl ⟨by rfl, ?_⟩) ?_ ?_
                            rotate_left
                            · intro w'
                              go_simp
                              with_reducible rfl
                            rotate_left
                            · simp only [Act.put, List.setIfInBounds_toArray, List.set_cons_zero, List.set_cons_succ, i64_w, i32_w]
                              rfl
                            -- 5: Op.move t2
                            refine pure_ (i := 5) (N := (some 146)) (v := ?_) (a' := ?_) #[true, true, true, true, true, true, false, false, false, false, false, false, false, false] rfl rfl (by kernel_rfl) (fun _ _ _ h => h) (Or.inl ⟨by rfl, ?_⟩) ?_ ?_
                            rotate_left
                            · intro w'
                              go_simp
                              with_reducible rfl
                            rotate_left
                            · simp only [Act.put, List.setIfInBounds_toArray, List.set_cons_zero, List.set_cons_succ, i64_w, i32_w]
                              rfl
                            -- 6: Op.move t14
                            refine pure_ (i := 6) (N := (some 147)) (v := ?_) (a' := ?_) #[true, true, true, true, true, true, true, false, false, false, false, false, false, false] rfl rfl (by kernel_rfl) (fun _ _ _ h => h) (Or.inl ⟨by rfl, ?_⟩) ?_ ?_
                            rotate_left
                            · intro w'
                              go_simp
                              with_reducible rfl
                            rotate_left
                            · simp only [Act.put, List.setIfInBounds_toArray, List.set_cons_zero, List.set_cons_succ, i64_w, i32_w]
                              rfl
                            -- 7: Op.indexAddr 23 t146 t147
                            refine pure_ (i := 7) (N := (some 148)) (v := ?_) (a' := ?_) #[true, true, true, true, true, true, true, true, false, false, false, false, false, false] rfl rfl (by kernel_rfl) (fun _ _ _ h => h) (Or.inl ⟨by rfl, ?_⟩) ?_ ?_
                            rotate_left
                            · intro w'
                              go_simp
                              with_reducible rfl
                            rotate_left
                            · simp only [Act.put, List.setIfInBounds_toArray, List.set_cons_zero, List.set_cons_succ, i64_w, i32_w]
                              rfl
                            -- 8: Op.load 58 t148
                            refine take_ (i := 8) (N := (some 149)) (v := ?_) (a' := ?_) #[true, true, true, true, true, true, true, true, true, false, false, false, false, false] rfl rfl (by kernel_rfl) (fun _ _ _ h => h) (Or.inl ⟨by rfl, ?_⟩) hHeld ?_ ?_
                            rotate_left
                            · rintro w' ⟨s0, s1, s2, s3, s4, s5, s6, s7, s8⟩
                              go_simp
                              with_reducible rfl
                            rotate_left
                            · simp only [Act.put, List.setIfInBounds_toArray, List.set_cons_zero, List.set_cons_succ, i64_w, i32_w]
                              rfl
                            -- 9: Op.build 82 #[(0, t145), (1, t149)]
                            refine pure_ (i := 9) (N := (some 150)) (v := ?_) (a' := ?_) #[true, true, true, true, true, true, true, true, true, true, false, false, false, false] rfl rfl (by kernel_rfl) (fun _ _ _ h => h) (Or.inl ⟨by rfl, ?_⟩) ?_ ?_
                            rotate_left
                            · intro w'
                              go_simp
                              with_reducible rfl
                            rotate_left
                            · simp only [Act.put, List.setIfInBounds_toArray, List.set_cons_zero, List.set_cons_succ, i64_w, i32_w]
                              rfl
                            -- 10: Op.buildSlice 68 1 #[(0, t150)]
                            refine one_ (i := 10) (N := (some 151)) #[true, true, true, true, true, true, true, true, true, true, true, false, false, false] rfl rfl (by kernel_rfl) (by decide) (fun K hK => ?_)
                            refine value_ (w1 := w9.alloc (.cells #[.int .i64 al, .int .u64 m.f0, .int .i64 m.f1, .int .i64 m.f2, .string m.f3, .string m.f4, .int .u64 m.f5, .int .u64 m.f6] 82)) (v := .slice (some ⟨w9.heap.size, 0, none⟩) 1 1) (by rfl) rfl (by go_simp) ?_
                            have hOld := hHeld
                            clear hHeld
                            refine hK.out _ _ (⟨blk_alloc hOld.1 _, blk_alloc hOld.2.1 _, pw_cell_below (below_alloc (Below.refl w9.heap.size w9) _) hOld.2.2.1, pw_cell_below (below_alloc (Below.refl w9.heap.size w9) _) hOld.2.2.2.1, pw_cell_below (below_alloc (Below.refl w9.heap.size w9) _) hOld.2.2.2.2.1, pw_cell_below (below_alloc (Below.refl w9.heap.size w9) _) hOld.2.2.2.2.2.1, pw_cell_below (below_alloc (Below.refl w9.heap.size w9) _) hOld.2.2.2.2.2.2.1, pw_cell_below (below_alloc (Below.refl w9.heap.size w9) _) hOld.2.2.2.2.2.2.2.1, pw_cell_below (below_alloc (Below.refl w9.heap.size w9) _) hOld.2.2.2.2.2.2.2.2⟩) (fun hHeld => ?_)
                            clear hOld hK K
                            refine norm_ (a' := ?_) ?_ ?_
                            rotate_left
                            · show Act.put _ (some 151) _ = _
                              simp only [Act.put, List.setIfInBounds_toArray, List.set_cons_zero, List.set_cons_succ, i64_w, i32_w]
                              rfl
                            -- 11: Op.call { builtin append, args := #[t142, t151], argTypes := #[68, 68] }
                            refine last_ (i := 11) (N := (some 152)) #[true, true, true, true, true, true, true, true, true, true, true, true, false, false] rfl rfl (by kernel_rfl) (by decide) (fun K hK => ?_)
                            refine Kd.R_append_step k82 (w0 := w3) (W := w9) w3.heap.size (by rfl) (.tmp 142) (.tmp 151) 68 82 (.agg #[(.int .i64 0), (.int .u64 0), (.int .i64 0), (.int .i64 0), (.string ⟨#[]⟩), (.string ⟨#[]⟩), (.int .u64 0), (.int .u64 0)]) 80 (by rfl) Try.underlying68 info82 rfl (by decide) (by omega) (.slice B2 AD.length cb2) AD (⟨al, m⟩ : S82) [.int .i64 al, .int .u64 m.f0, .int .i64 m.f1, .int .i64 m.f2, .string m.f3, .string m.f4, .int .u64 m.f5, .int .u64 m.f6] (fun _ => True) (fun _ => False) (by rfl) (by rfl) (k82_mkM _ _ _ (⟨al, m⟩ : S82)) (fun _ h => h.elim) (fun _ _ => trivial) RA9.out HB9.out HB9.out.size (by have := LAD.out; omega) ?_
                            intro va wa ho hb hg hat
                            have HBa := Aside0.mk hb
                            have X8a := Aside0.mk (blk_grown X8d.out hg (Kd.R_ne RA9.out X8d.out (by decide)))
                            have RLa := Aside0.mk (Kd.R_over RL9.out RA9.out (by intro x hx; simp [show k58.E = [] from rfl] at hx; omega) hg)
                            have RGa := Aside0.mk (Kd.R_over RG9.out RA9.out (by intro x hx; simp [show k84.E = [] from rfl] at hx; omega) hg)
                            obtain ⟨AD2, hA2⟩ : ∃ G2, G2 = AD ++ [(⟨al, m⟩ : S82)] := ⟨_, rfl⟩
                            rw [← hA2] at ho
                            have AQ2 := Aside0.mk hA2
                            clear hA2
                            obtain ⟨B3, cb3, hv⟩ := Kd.R_slice ho
                            subst hv
                            have HRa := Aside0.mk ho
                            clear ho hb hg hat
                            try clear hHeld
                            refine hK.out _ _ ?_
                            clear hK K
                            refine norm_ (a' := ?_) ?_ ?_
                            rotate_left
                            · show Act.put _ (some 152) _ = _
                              simp only [Act.put, List.setIfInBounds_toArray, List.set_cons_zero, List.set_cons_succ, i64_w, i32_w]
                              rfl
                            -- 12: Op.fieldAddr 70 t8 4
                            refine pure_ (i := 12) (N := (some 153)) (v := ?_) (a' := ?_) #[true, true, true, true, true, true, true, true, true, true, true, true, true, false] rfl rfl (by kernel_rfl) (fun _ _ _ h => h) (Or.inl ⟨by rfl, ?_⟩) ?_ ?_
                            rotate_left
                            · intro w'
                              go_simp
                              with_reducible rfl
                            rotate_left
                            · simp only [Act.put, List.setIfInBounds_toArray, List.set_cons_zero, List.set_cons_succ, i64_w, i32_w]
                              rfl
                            -- 13: Op.store 68 t153 t152
                            refine last_ (i := 13) (N := none) #[true, true, true, true, true, true, true, true, true, true, true, true, true, true] rfl rfl (by kernel_rfl) (by decide) (fun K hK => ?_)
                            have hc_ : wa.cell? ⟨w3.heap.size, 4, none⟩ = some (.slice B2 AD.length cb2) := (blk_cell X8a.out 4).trans rfl
                            have hf_ := blk_frozen X8a.out 4
                            refine skip_ (w1 := wa.setCell ⟨w3.heap.size, 4, none⟩ (.slice B3 AD2.length cb3)) (by rfl) rfl (by go_simp) ?_
                            clear hc_ hf_
                            try clear hHeld
                            refine hK.out _ _ ?_
                            clear hK K
                            refine done_ (by kernel_rfl) ?_
                            have HBn := Aside0.mk (below_set (j := 4) (v := .slice B3 AD2.length cb3) HBa.out (Nat.le_refl _))
                            have X8n := Aside0.mk (five_set (cs' := #[.int .u64 0, .int .u64 0, .int .u64 0, .slice B (goneL (ll : Int) In Ov (In ++ Ov).length).length cb, .slice B3 AD2.length cb3]) X8a.out (j := 4) (.slice B3 AD2.length cb3) rfl)
                            have RGn := Aside0.mk (Kd.R_mono (Kd.R_set RGa.out X8a.out (by intro x hx; simp [show k84.E = [] from rfl] at hx; omega) 4 (.slice B3 AD2.length cb3)) (fun _ _ => trivial))
                            have RLn := Aside0.mk (Kd.R_mono (Kd.R_set RLa.out X8a.out (by intro x hx; simp [show k58.E = [] from rfl] at hx; omega) 4 (.slice B3 AD2.length cb3)) (fun _ _ => trivial))
                            have RAn := Aside0.mk (Kd.R_mono (Kd.R_set HRa.out X8a.out (by intro x hx; simp [show k82.E = [] from rfl] at hx; omega) 4 (.slice B3 AD2.length cb3)) (fun _ _ => trivial))
                            have AD2E := Aside0.mk (show addL (ll : Int) (out.take (k + 1)) = AD2 by rw [TS.out, addL_snoc, ← ADQ.out, AQ2.out, ALQ.out])
                            go_wp2_with fail
                            try rw [ew]
                            try rw [← HAX.out]
                            clear ew aq aq2 aq3
                            go_roundg q
                            case measure => omega
                            case rel => exact ⟨k + 1, B3, cb3, rfl, by rw [MXE.out], ⟨by have := HKK.out; omega⟩, HBn, by rw [AD2E.out]; exact X8n, RGn, by rw [AD2E.out]; exact RAn, RLn, by exact ⟨fun i hi => by
                              by_cases e : i = k
                              · subst e; rw [← EM.out]; exact CAME.out
                              · exact CP.out i (by omega)⟩⟩
                          · have MXE := Aside0.mk (show mxL (out.take (k + 1)) = mx by rw [MXS.out, if_neg hmx])
                            go_wp2_with fail
                            clear hmx
                            refine start_ (n := 14) (S := (fun w' => w'.heap[w3.heap.size]? = some (.cells #[.int .u64 0, .int .u64 0, .int .u64 0, .slice B (goneL (ll : Int) In Ov (In ++ Ov).length).length cb, .slice B2 AD.length cb2] 70 (0, 0)) ∧ w'.heap[g4]? = some (.cells #[.int .i64 (ll : Int), .slice A1 In.length c1, .slice A2 Ov.length c2] 52 (0, 0)) ∧ w'.cell? (ax.add (k * 7)) = some (.int .u64 m.f0) ∧ w'.cell? ⟨(ax.add (k * 7)).block, (ax.add (k * 7)).off + 1, none⟩ = some (.int .i64 m.f1) ∧ w'.cell? ⟨(ax.add (k * 7)).block, (ax.add (k * 7)).off + 2, none⟩ = some (.int .i64 m.f2) ∧ w'.cell? ⟨(ax.add (k * 7)).block, (ax.add (k * 7)).off + 3, none⟩ = some (.string m.f3) ∧ w'.cell? ⟨(ax.add (k * 7)).block, (ax.add (k * 7)).off + 4, none⟩ = some (.string m.f4) ∧ w'.cell? ⟨(ax.add (k * 7)).block, (ax.add (k * 7)).off + 5, none⟩ = some (.int .u64 m.f5) ∧ w'.cell? ⟨(ax.add (k * 7)).block, (ax.add (k * 7)).off + 6, none⟩ = some (.int .u64 m.f6))) (ds := [11, 13]) #[false, false, false, false, false, false, false, false, false, false, false, false, false, false] (by kernel_rfl) rfl rfl ⟨blk_drew X8x.out, blk_drew X4x.out, ha0, ha1, ha2, ha3, ha4, ha5, ha6⟩ (fun hHeld => ?_)
                            have RG9 := Aside0.mk (Kd.R_drew RGx.out)
                            have RA9 := Aside0.mk (Kd.R_drew RAx.out)
                            have RL9 := Aside0.mk (Kd.R_drew RLx.out)
                            have HB9 := Aside0.mk (below_drew HBx.out)
                            have X8d := Aside0.mk (blk_drew X8x.out)
                            generalize wx.drew = w9 at *
                            -- 0: Op.fieldAddr 70 t8 4
                            refine pure_ (i := 0) (N := (some 141)) (v := ?_) (a' := ?_) #[true, false, false, false, false, false, false, false, false, false, false, false, false, false] rfl rfl (by kernel_rfl) (fun _ _ _ h => h) (Or.inl ⟨by rfl, ?_⟩) ?_ ?_
                            rotate_left
                            · intro w'
                              go_simp
                              with_reducible rfl
                            rotate_left
                            · simp only [Act.put, List.setIfInBounds_toArray, List.set_cons_zero, List.set_cons_succ, i64_w, i32_w]
                              rfl
                            -- 1: Op.load 68 t141
                            refine take_ (i := 1) (N := (some 142)) (v := ?_) (a' := ?_) #[true, true, false, false, false, false, false, false, false, false, false, false, false, false] rfl rfl (by kernel_rfl) (fun _ _ _ h => h) (Or.inl ⟨by rfl, ?_⟩) hHeld ?_ ?_
                            rotate_left
                            · rintro w' ⟨s0, s1, s2, s3, s4, s5, s6, s7, s8⟩
                              have z4 : w'.cell? ⟨w3.heap.size, 4, none⟩ = some (.slice B2 AD.length cb2) := (blk_cell s0 4).trans rfl
                              go_simp
                              with_reducible rfl
                            rotate_left
                            · simp only [Act.put, List.setIfInBounds_toArray, List.set_cons_zero, List.set_cons_succ, i64_w, i32_w]
                              rfl
                            -- 2: Op.fieldAddr 52 t4 0
                            refine pure_ (i := 2) (N := (some 143)) (v := ?_) (a' := ?_) #[true, true, true, false, false, false, false, false, false, false, false, false, false, false] rfl rfl (by kernel_rfl) (fun _ _ _ h => h) (Or.inl ⟨by rfl, ?_⟩) ?_ ?_
                            rotate_left
                            · intro w'
                              go_simp
                              with_reducible rfl
                            rotate_left
                            · simp only [Act.put, List.setIfInBounds_toArray, List.set_cons_zero, List.set_cons_succ, i64_w, i32_w]
                              rfl
                            -- 3: Op.load 3 t143
                            refine take_ (i := 3) (N := (some 144)) (v := ?_) (a' := ?_) #[true, true, true, true, false, false, false, false, false, false, false, false, false, false] rfl rfl (by kernel_rfl) (fun _ _ _ h => h) (Or.inl ⟨by rfl, ?_⟩) hHeld ?_ ?_
                            rotate_left
                            · rintro w' ⟨s0, s1, s2, s3, s4, s5, s6, s7, s8⟩
                              have q0 : w'.cell? ⟨g4, 0, none⟩ = some (.int .i64 (ll : Int)) := (blk_cell s1 0).trans rfl
                              go_simp
                              with_reducible rfl
                            rotate_left
                            · simp only [Act.put, List.setIfInBounds_toArray, List.set_cons_zero, List.set_cons_succ, i64_w, i32_w]
                              rfl
                            -- 4: Op.binOp BinOp.add 3 t144 (const (1:i64)) 3
                            refine pure_ (i := 4) (N := (some 145)) (v := ?_) (a' := ?_) #[true, true, true, true, true, false, false, false, false, false, false, false, false, false] rfl rfl (by kernel_rfl) (fun _ _ _ h => h) (Or.inl ⟨by rfl, ?_⟩) ?_ ?_
                            rotate_left
                            · intro w'
                              go_simp
                              with_reducible rfl
                            rotate_left
                            · simp only [Act.put, List.setIfInBounds_toArray, List.set_cons_zero, List.set_cons_succ, i64_w, i32_w]
                              rfl
                            -- 5: Op.move t2
                            refine pure_ (i := 5) (N := (some 146)) (v := ?_) (a' := ?_) #[true, true, true, true, true, true, false, false, false, false, false, false, false, false] rfl rfl (by kernel_rfl) (fun _ _ _ h => h) (Or.inl ⟨by rfl, ?_⟩) ?_ ?_
                            rotate_left
                            · intro w'
                              go_simp
                              with_reducible rfl
                            rotate_left
                            · simp only [Act.put, List.setIfInBounds_toArray, List.set_cons_zero, List.set_cons_succ, i64_w, i32_w]
                              rfl
                            -- 6: Op.move t14
                            refine pure_ (i := 6) (N := (some 147)) (v := ?_) (a' := ?_) #[true, true, true, true, true, true, true, false, false, false, false, false, false, false] rfl rfl (by kernel_rfl) (fun _ _ _ h => h) (Or.inl ⟨by rfl, ?_⟩) ?_ ?_
                            rotate_left
                            · intro w'
                              go_simp
                              with_reducible rfl
                            rotate_left
                            · simp only [Act.put, List.setIfInBounds_toArray, List.set_cons_zero, List.set_cons_succ, i64_w, i32_w]
                              rfl
                            -- 7: Op.indexAddr 23 t146 t147
                            refine pure_ (i := 7) (N := (some 148)) (v := ?_) (a' := ?_) #[true, true, true, true, true, true, true, true, false, false, false, false, false, false] rfl rfl (by kernel_rfl) (fun _ _ _ h => h) (Or.inl ⟨by rfl, ?_⟩) ?_ ?_
                            rotate_left
                            · intro w'
                              go_simp
                              with_reducible rfl
                            rotate_left
                            · simp only [Act.put, List.setIfInBounds_toArray, List.set_cons_zero, List.set_cons_succ, i64_w, i32_w]
                              rfl
                            -- 8: Op.load 58 t148
                            refine take_ (i := 8) (N := (some 149)) (v := ?_) (a' := ?_) #[true, true, true, true, true, true, true, true, true, false, false, false, false, false] rfl rfl (by kernel_rfl) (fun _ _ _ h => h) (Or.inl ⟨by rfl, ?_⟩) hHeld ?_ ?_
                            rotate_left
                            · rintro w' ⟨s0, s1, s2, s3, s4, s5, s6, s7, s8⟩
                              go_simp
                              with_reducible rfl
                            rotate_left
                            · simp only [Act.put, List.setIfInBounds_toArray, List.set_cons_zero, List.set_cons_succ, i64_w, i32_w]
                              rfl
                            -- 9: Op.build 82 #[(0, t145), (1, t149)]
                            refine pure_ (i := 9) (N := (some 150)) (v := ?_) (a' := ?_) #[true, true, true, true, true, true, true, true, true, true, false, false, false, false] rfl rfl (by kernel_rfl) (fun _ _ _ h => h) (Or.inl ⟨by rfl, ?_⟩) ?_ ?_
                            rotate_left
                            · intro w'
                              go_simp
                              with_reducible rfl
                            rotate_left
                            · simp only [Act.put, List.setIfInBounds_toArray, List.set_cons_zero, List.set_cons_succ, i64_w, i32_w]
                              rfl
                            -- 10: Op.buildSlice 68 1 #[(0, t150)]
                            refine one_ (i := 10) (N := (some 151)) #[true, true, true, true, true, true, true, true, true, true, true, false, false, false] rfl rfl (by kernel_rfl) (by decide) (fun K hK => ?_)
                            refine value_ (w1 := w9.alloc (.cells #[.int .i64 al, .int .u64 m.f0, .int .i64 m.f1, .int .i64 m.f2, .string m.f3, .string m.f4, .int .u64 m.f5, .int .u64 m.f6] 82)) (v := .slice (some ⟨w9.heap.size, 0, none⟩) 1 1) (by rfl) rfl (by go_simp) ?_
                            have hOld := hHeld
                            clear hHeld
                            refine hK.out _ _ (⟨blk_alloc hOld.1 _, blk_alloc hOld.2.1 _, pw_cell_below (below_alloc (Below.refl w9.heap.size w9) _) hOld.2.2.1, pw_cell_below (below_alloc (Below.refl w9.heap.size w9) _) hOld.2.2.2.1, pw_cell_below (below_alloc (Below.refl w9.heap.size w9) _) hOld.2.2.2.2.1, pw_cell_below (below_alloc (Below.refl w9.heap.size w9) _) hOld.2.2.2.2.2.1, pw_cell_below (below_alloc (Below.refl w9.heap.size w9) _) hOld.2.2.2.2.2.2.1, pw_cell_below (below_alloc (Below.refl w9.heap.size w9) _) hOld.2.2.2.2.2.2.2.1, pw_cell_below (below_alloc (Below.refl w9.heap.size w9) _) hOld.2.2.2.2.2.2.2.2⟩) (fun hHeld => ?_)
                            clear hOld hK K
                            refine norm_ (a' := ?_) ?_ ?_
                            rotate_left
                            · show Act.put _ (some 151) _ = _
                              simp only [Act.put, List.setIfInBounds_toArray, List.set_cons_zero, List.set_cons_succ, i64_w, i32_w]
                              rfl
                            -- 11: Op.call { builtin append, args := #[t142, t151], argTypes := #[68, 68] }
                            refine last_ (i := 11) (N := (some 152)) #[true, true, true, true, true, true, true, true, true, true, true, true, false, false] rfl rfl (by kernel_rfl) (by decide) (fun K hK => ?_)
                            refine Kd.R_append_step k82 (w0 := w3) (W := w9) w3.heap.size (by rfl) (.tmp 142) (.tmp 151) 68 82 (.agg #[(.int .i64 0), (.int .u64 0), (.int .i64 0), (.int .i64 0), (.string ⟨#[]⟩), (.string ⟨#[]⟩), (.int .u64 0), (.int .u64 0)]) 80 (by rfl) Try.underlying68 info82 rfl (by decide) (by omega) (.slice B2 AD.length cb2) AD (⟨al, m⟩ : S82) [.int .i64 al, .int .u64 m.f0, .int .i64 m.f1, .int .i64 m.f2, .string m.f3, .string m.f4, .int .u64 m.f5, .int .u64 m.f6] (fun _ => True) (fun _ => False) (by rfl) (by rfl) (k82_mkM _ _ _ (⟨al, m⟩ : S82)) (fun _ h => h.elim) (fun _ _ => trivial) RA9.out HB9.out HB9.out.size (by have := LAD.out; omega) ?_
                            intro va wa ho hb hg hat
                            have HBa := Aside0.mk hb
                            have X8a := Aside0.mk (blk_grown X8d.out hg (Kd.R_ne RA9.out X8d.out (by decide)))
                            have RLa := Aside0.mk (Kd.R_over RL9.out RA9.out (by intro x hx; simp [show k58.E = [] from rfl] at hx; omega) hg)
                            have RGa := Aside0.mk (Kd.R_over RG9.out RA9.out (by intro x hx; simp [show k84.E = [] from rfl] at hx; omega) hg)
                            obtain ⟨AD2, hA2⟩ : ∃ G2, G2 = AD ++ [(⟨al, m⟩ : S82)] := ⟨_, rfl⟩
                            rw [← hA2] at ho
                            have AQ2 := Aside0.mk hA2
                            clear hA2
                            obtain ⟨B3, cb3, hv⟩ := Kd.R_slice ho
                            subst hv
                            have HRa := Aside0.mk ho
                            clear ho hb hg hat
                            try clear hHeld
                            refine hK.out _ _ ?_
                            clear hK K
                            refine norm_ (a' := ?_) ?_ ?_
                            rotate_left
                            · show Act.put _ (some 152) _ = _
                              simp only [Act.put, List.setIfInBounds_toArray, List.set_cons_zero, List.set_cons_succ, i64_w, i32_w]
                              rfl
                            -- 12: Op.fieldAddr 70 t8 4
                            refine pure_ (i := 12) (N := (some 153)) (v := ?_) (a' := ?_) #[true, true, true, true, true, true, true, true, true, true, true, true, true, false] rfl rfl (by kernel_rfl) (fun _ _ _ h => h) (Or.inl ⟨by rfl, ?_⟩) ?_ ?_
                            rotate_left
                            · intro w'
                              go_simp
                              with_reducible rfl
                            rotate_left
                            · simp only [Act.put, List.setIfInBounds_toArray, List.set_cons_zero, List.set_cons_succ, i64_w, i32_w]
                              rfl
                            -- 13: Op.store 68 t153 t152
                            refine last_ (i := 13) (N := none) #[true, true, true, true, true, true, true, true, true, true, true, true, true, true] rfl rfl (by kernel_rfl) (by decide) (fun K hK => ?_)
                            have hc_ : wa.cell? ⟨w3.heap.size, 4, none⟩ = some (.slice B2 AD.length cb2) := (blk_cell X8a.out 4).trans rfl
                            have hf_ := blk_frozen X8a.out 4
                            refine skip_ (w1 := wa.setCell ⟨w3.heap.size, 4, none⟩ (.slice B3 AD2.length cb3)) (by rfl) rfl (by go_simp) ?_
                            clear hc_ hf_
                            try clear hHeld
                            refine hK.out _ _ ?_
                            clear hK K
                            refine done_ (by kernel_rfl) ?_
                            have HBn := Aside0.mk (below_set (j := 4) (v := .slice B3 AD2.length cb3) HBa.out (Nat.le_refl _))
                            have X8n := Aside0.mk (five_set (cs' := #[.int .u64 0, .int .u64 0, .int .u64 0, .slice B (goneL (ll : Int) In Ov (In ++ Ov).length).length cb, .slice B3 AD2.length cb3]) X8a.out (j := 4) (.slice B3 AD2.length cb3) rfl)
                            have RGn := Aside0.mk (Kd.R_mono (Kd.R_set RGa.out X8a.out (by intro x hx; simp [show k84.E = [] from rfl] at hx; omega) 4 (.slice B3 AD2.length cb3)) (fun _ _ => trivial))
                            have RLn := Aside0.mk (Kd.R_mono (Kd.R_set RLa.out X8a.out (by intro x hx; simp [show k58.E = [] from rfl] at hx; omega) 4 (.slice B3 AD2.length cb3)) (fun _ _ => trivial))
                            have RAn := Aside0.mk (Kd.R_mono (Kd.R_set HRa.out X8a.out (by intro x hx; simp [show k82.E = [] from rfl] at hx; omega) 4 (.slice B3 AD2.length cb3)) (fun _ _ => trivial))
                            have AD2E := Aside0.mk (show addL (ll : Int) (out.take (k + 1)) = AD2 by rw [TS.out, addL_snoc, ← ADQ.out, AQ2.out, ALQ.out])
                            go_wp2_with fail
                            try rw [ew]
                            try rw [← HAX.out]
                            clear ew aq aq2 aq3
                            go_roundg q
                            case measure => omega
                            case rel => exact ⟨k + 1, B3, cb3, rfl, by rw [MXE.out], ⟨by have := HKK.out; omega⟩, HBn, by rw [AD2E.out]; exact X8n, RGn, by rw [AD2E.out]; exact RAn, RLn, by exact ⟨fun i hi => by
                              by_cases e : i = k
                              · subst e; rw [← EM.out]; exact CAME.out
                              · exact CP.out i (by omega)⟩⟩
          | succ q =>
            have hk : i < L.length := by have := HK.out; omega
            have HKL := Aside0.mk hk
            have d1 : decide ((i : Int) < (L.length : Int)) = true := decide_eq_true (by omega)
            have d2 : decide (i < L.length) = true := decide_eq_true hk
            have p0 : 0 ≤ (i : Int) := Int.natCast_nonneg _
            have p1 : (i : Int) < (L.length : Int) := by omega
            have ew : wrap64 ((i : Int) + 1) = ((i + 1 : Nat) : Int) := by have h1 := LLEN.out; unfold wrap64; omega
            obtain ⟨ax, ea, ha0, ha1, ha2, ha3, ha4, ha5, ha6⟩ := at_T58 (Kd.R_reads' RL.out).2.2 (i : Int) p0 p1
            rw [Int.toNat_natCast] at ha0 ha1 ha2 ha3 ha4 ha5 ha6
            have EMR := Aside0.mk (show rd_T58 L (i : Int) = L.getD i z58 by unfold rd_T58; rw [Int.toNat_natCast])
            generalize rd_T58 L (i : Int) = m at *
            have KL := Aside0.mk (show i < (In ++ Ov).length by rw [← LQ.out]; exact hk)
            have EM := Aside0.mk (show (In ++ Ov).getD i z58 = m by rw [EMR.out, LQ.out])
            obtain ⟨G, hG⟩ : ∃ G, G = goneL (ll : Int) In Ov i := ⟨_, rfl⟩
            rw [← hG] at RG X8
            have LG := Aside0.mk (show G.length ≤ 300000000 by rw [hG, goneL_len]; have := LLEN.out; omega)
            have GQ := Aside0.mk hG
            clear hG hk
            rw [ea]
            have HAX := Aside0.mk ea
            clear ea
            by_cases hlt : i < In.length
            · skip
              have HJ4 := Aside0.mk (show ll < 4 by have := LL3.out; omega)
              have jn0 : 0 ≤ (ll : Int) := Int.natCast_nonneg _
              have jn1 : (ll : Int) < 4 := by have := HJ4.out; omega
              have jq := trivial
              have jq3 : wrap64 (ll : Int) = (ll : Int) := by unfold wrap64; have := HJ4.out; omega
              have LVQ := Aside0.mk (show lvOf (ll : Int) In i = (ll : Int) by unfold lvOf; rw [if_pos hlt])
              have GS := Aside0.mk (goneL_snoc (ll : Int) In Ov i)
              rw [EM.out, LVQ.out, ← GQ.out] at GS
              have GPS := Aside0.mk (goneP_succ (v := v) (lev := (ll : Int)) KL.out)
              rw [EM.out, LVQ.out, Int.toNat_natCast] at GPS
              have t0 : decide ((In.length : Int) ≤ (i : Int)) = false := decide_eq_false (by omega)
              have t1 : decide (In.length ≤ i) = false := decide_eq_false (by omega)
              clear hlt
              go_upto_region 11 with (fail)
              clear t0 t1 jq y0 y1 y2
              have KH := Aside0.mk (show ∀ w9, Below wr.heap.size wr w9 → Calls Try.prog 100 #[.slice (p.a ll) (v.lv ll).length (p.c ll), .agg (mCs m)] w9 fun x w' => x = .returned (.bool (decide (m ∈ v.lv ll))) ∧ Below w9.heap.size w9 w' from fun w9 hb => has_calls w9 (p.a ll) (p.c ll) (v.lv ll) m (((HC.out.below (below_step HB3.out HB.out)).below hb) ll HJ4.out).1)
              refine start_ (n := 10) (S := (fun w' => Below wr.heap.size wr w' ∧ w'.heap[w.heap.size]? = some (.cells (vCs v p) 26 (0, 0)) ∧ w'.cell? (ax.add (i * 7)) = some (.int .u64 m.f0) ∧ w'.cell? ⟨(ax.add (i * 7)).block, (ax.add (i * 7)).off + 1, none⟩ = some (.int .i64 m.f1) ∧ w'.cell? ⟨(ax.add (i * 7)).block, (ax.add (i * 7)).off + 2, none⟩ = some (.int .i64 m.f2) ∧ w'.cell? ⟨(ax.add (i * 7)).block, (ax.add (i * 7)).off + 3, none⟩ = some (.string m.f3) ∧ w'.cell? ⟨(ax.add (i * 7)).block, (ax.add (i * 7)).off + 4, none⟩ = some (.string m.f4) ∧ w'.cell? ⟨(ax.add (i * 7)).block, (ax.add (i * 7)).off + 5, none⟩ = some (.int .u64 m.f5) ∧ w'.cell? ⟨(ax.add (i * 7)).block, (ax.add (i * 7)).off + 6, none⟩ = some (.int .u64 m.f6))) (ds := []) #[false, false, false, false, false, false, false, false, false, false] (by kernel_rfl) rfl rfl ⟨below_drew (Below.refl _ _), blk_drew X2.out, ha0, ha1, ha2, ha3, ha4, ha5, ha6⟩ (fun hHeld => ?_)
              -- 0: Op.move t11
              refine pure_ (i := 0) (N := (some 46)) (v := ?_) (a' := ?_) #[true, false, false, false, false, false, false, false, false, false] rfl rfl (by kernel_rfl) (fun _ _ _ h => h) (Or.inl ⟨by rfl, ?_⟩) ?_ ?_
              rotate_left
              · intro w'
                go_simp
                with_reducible rfl
              rotate_left
              · simp only [Act.put, List.setIfInBounds_toArray, List.set_cons_zero, List.set_cons_succ, i64_w, i32_w]
                rfl
              -- 1: Op.fieldAddr 26 t3 3
              refine pure_ (i := 1) (N := (some 47)) (v := ?_) (a' := ?_) #[true, true, false, false, false, false, false, false, false, false] rfl rfl (by kernel_rfl) (fun _ _ _ h => h) (Or.inl ⟨by rfl, ?_⟩) ?_ ?_
              rotate_left
              · intro w'
                go_simp
                with_reducible rfl
              rotate_left
              · simp only [Act.put, List.setIfInBounds_toArray, List.set_cons_zero, List.set_cons_succ, i64_w, i32_w]
                rfl
              -- 2: Op.indexAddr 24 t47 t46
              refine pure_ (i := 2) (N := (some 48)) (v := ?_) (a' := ?_) #[true, true, true, false, false, false, false, false, false, false] rfl rfl (by kernel_rfl) (fun _ _ _ h => h) (Or.inl ⟨by rfl, ?_⟩) ?_ ?_
              rotate_left
              · intro w'
                go_simp
                with_reducible rfl
              rotate_left
              · simp only [Act.put, List.setIfInBounds_toArray, List.set_cons_zero, List.set_cons_succ, i64_w, i32_w]
                rfl
              -- 3: Op.load 23 t48
              refine take_ (i := 3) (N := (some 49)) (v := ?_) (a' := ?_) #[true, true, true, true, false, false, false, false, false, false] rfl rfl (by kernel_rfl) (fun _ _ _ h => h) (Or.inl ⟨by rfl, ?_⟩) hHeld ?_ ?_
              rotate_left
              · rintro w' ⟨s0, s1, s2, s3, s4, s5, s6, s7, s8⟩
                have hv_ := vcell s1 ll HJ4.out
                go_simp
                with_reducible rfl
              rotate_left
              · simp only [Act.put, List.setIfInBounds_toArray, List.set_cons_zero, List.set_cons_succ, i64_w, i32_w]
                rfl
              -- 4: Op.move t9
              refine pure_ (i := 4) (N := (some 50)) (v := ?_) (a' := ?_) #[true, true, true, true, true, false, false, false, false, false] rfl rfl (by kernel_rfl) (fun _ _ _ h => h) (Or.inl ⟨by rfl, ?_⟩) ?_ ?_
              rotate_left
              · intro w'
                go_simp
                with_reducible rfl
              rotate_left
              · simp only [Act.put, List.setIfInBounds_toArray, List.set_cons_zero, List.set_cons_succ, i64_w, i32_w]
                rfl
              -- 5: Op.move t10
              refine pure_ (i := 5) (N := (some 51)) (v := ?_) (a' := ?_) #[true, true, true, true, true, true, false, false, false, false] rfl rfl (by kernel_rfl) (fun _ _ _ h => h) (Or.inl ⟨by rfl, ?_⟩) ?_ ?_
              rotate_left
              · intro w'
                go_simp
                with_reducible rfl
              rotate_left
              · simp only [Act.put, List.setIfInBounds_toArray, List.set_cons_zero, List.set_cons_succ, i64_w, i32_w]
                rfl
              -- 6: Op.indexAddr 23 t50 t51
              refine pure_ (i := 6) (N := (some 52)) (v := ?_) (a' := ?_) #[true, true, true, true, true, true, true, false, false, false] rfl rfl (by kernel_rfl) (fun _ _ _ h => h) (Or.inl ⟨by rfl, ?_⟩) ?_ ?_
              rotate_left
              · intro w'
                go_simp
                with_reducible rfl
              rotate_left
              · simp only [Act.put, List.setIfInBounds_toArray, List.set_cons_zero, List.set_cons_succ, i64_w, i32_w]
                rfl
              -- 7: Op.load 58 t52
              refine take_ (i := 7) (N := (some 53)) (v := ?_) (a' := ?_) #[true, true, true, true, true, true, true, true, false, false] rfl rfl (by kernel_rfl) (fun _ _ _ h => h) (Or.inl ⟨by rfl, ?_⟩) hHeld ?_ ?_
              rotate_left
              · rintro w' ⟨s0, s1, s2, s3, s4, s5, s6, s7, s8⟩
                go_simp
                with_reducible rfl
              rotate_left
              · simp only [Act.put, List.setIfInBounds_toArray, List.set_cons_zero, List.set_cons_succ, i64_w, i32_w]
                rfl
              -- 8: Op.call { value (Operand.func 100), args := #[t49, t53], argTypes := #[23, 58] }
              refine one_ (i := 8) (N := (some 54)) #[true, true, true, true, true, true, true, true, true, false] rfl rfl (by kernel_rfl) (by decide) (fun K hK => ?_)
              refine goes_ Try.func100 (by kernel_rfl) rfl #[.slice (p.a ll) (v.lv ll).length (p.c ll), .agg #[.int .u64 m.f0, .int .i64 m.f1, .int .i64 m.f2, .string m.f3, .string m.f4, .int .u64 m.f5, .int .u64 m.f6]] (by rfl) rfl rfl (by (try simp only [List.map_toArray, List.map_cons, List.map_nil]); first | done | rfl) ?_
              (with_reducible refine (KH.out _ hHeld.1).mono ?_)
              rintro e w7 ⟨rfl, hb⟩
              refine ⟨_, rfl, ?_⟩
              have hOld := hHeld
              clear hHeld
              refine hK.out _ _ (keep_q hOld hb) (fun hHeld => ?_)
              clear hOld hK K
              refine norm_ (a' := ?_) ?_ ?_
              rotate_left
              · show Act.put _ (some 54) _ = _
                simp only [Act.put, List.setIfInBounds_toArray, List.set_cons_zero, List.set_cons_succ, i64_w, i32_w]
                rfl
              -- 9: Op.unOp UnOp.not 4 t54
              refine pure_ (i := 9) (N := (some 55)) (v := ?_) (a' := ?_) #[true, true, true, true, true, true, true, true, true, true] rfl rfl (by kernel_rfl) (fun _ _ _ h => h) (Or.inl ⟨by rfl, ?_⟩) ?_ ?_
              rotate_left
              · intro w'
                go_simp
                with_reducible rfl
              rotate_left
              · simp only [Act.put, List.setIfInBounds_toArray, List.set_cons_zero, List.set_cons_succ, i64_w, i32_w]
                rfl
              refine done_ (by kernel_rfl) ?_
              clear KH jq3
              have hb7 := hHeld.1
              clear hHeld ha0 ha1 ha2 ha3 ha4 ha5 ha6
              have HB7 := Aside0.mk (below_step HB.out hb7)
              have X67 := Aside0.mk (blk_below X6.out hb7)
              have HBF := Aside0.mk (below_step HB3.out HB7.out)
              by_cases hin : m ∈ v.lv ll
              · rw [decide_eq_true hin]
                have MIN := Aside0.mk hin
                have X87 := Aside0.mk (blk_below X8.out hb7)
                have RG7 := Aside0.mk (Kd.R_below RG.out hb7)
                have RL7 := Aside0.mk (Kd.R_below RL.out hb7)
                clear hin hb7 X2 X4 X6 X8 RG RL HB
                go_wp2_with fail
                go_loopg [12] i (fun kq v12 w' => ∃ j : Nat, v12 = .int .i64 (j : Int) ∧ Aside0 (kq + j = i) ∧ Aside0 (Below w7.heap.size w7 w') ∧ Aside0 (∀ j', j' < j → ¬ (L.getD j' z58).f0 = m.f0))
                case atStart => exact ⟨0, rfl, ⟨by omega⟩, ⟨Below.refl _ _⟩, ⟨fun j' hj => by omega⟩⟩
                case round =>
                  rename World => wq
                  obtain ⟨j, rfl, HJJ, HBJ, HNE⟩ := hrel
                  have HBq := Aside0.mk (below_step HB7.out HBJ.out)
                  have RLq := Aside0.mk (Kd.R_below RL7.out HBJ.out)
                  obtain ⟨ax', ea', ha0, ha1, ha2, ha3, ha4, ha5, ha6⟩ := at_T58 (Kd.R_reads' RLq.out).2.2 (i : Int) p0 p1
                  obtain rfl : ax = ax' := by rw [HAX.out] at ea'; cases ea'; rfl
                  rw [Int.toNat_natCast] at ha0 ha1 ha2 ha3 ha4 ha5 ha6
                  rw [show rd_T58 L (i : Int) = m from (by rw [EMR.out]; unfold rd_T58; rw [Int.toNat_natCast])] at ha0 ha1 ha2 ha3 ha4 ha5 ha6
                  clear ea' ha1 ha2 ha3 ha4 ha5 ha6
                  cases gk with
                  | zero =>
                    obtain rfl : i = j := by have := HJJ.out; omega
                    have d3 : decide ((i : Int) < (i : Int)) = false := by simp
                    have NIN := Aside0.mk (show m.f0 ∉ nums ((In ++ Ov).take i) from fun h => by
                      rw [← LQ.out] at h
                      unfold nums at h
                      rw [List.mem_map] at h
                      obtain ⟨x, hx, hx2⟩ := h
                      obtain ⟨y, hy, hy2⟩ := List.getElem_of_mem hx
                      rw [List.length_take] at hy
                      rw [List.getElem_take] at hy2
                      refine HNE.out y (by omega) ?_
                      rw [List.getD_eq_getElem?_getD, List.getElem?_eq_getElem (by omega)]
                      show (L[y]'(by omega)).f0 = m.f0
                      rw [hy2]; exact hx2)
                    have GP2 := Aside0.mk (GPS.out.mpr ⟨GP.out, MIN.out, NIN.out⟩)
                    have X89 := Aside0.mk (blk_below X87.out HBJ.out)
                    have RGq := Aside0.mk (Kd.R_below RG7.out HBJ.out)
                    go_wp2_with fail
                    refine start_ (n := 13) (S := (fun w' => w'.heap[w3.heap.size]? = some (.cells #[.int .u64 0, .int .u64 0, .int .u64 0, .slice B G.length cb, .slice none 0 0] 70 (0, 0)) ∧ w'.cell? (ax.add (i * 7)) = some (.int .u64 m.f0))) (ds := [10, 12]) #[false, false, false, false, false, false, false, false, false, false, false, false, false] (by kernel_rfl) rfl rfl ⟨blk_drew X89.out, ha0⟩ (fun hHeld => ?_)
                    have RG9 := Aside0.mk (Kd.R_drew RGq.out)
                    have RL9 := Aside0.mk (Kd.R_drew RLq.out)
                    have HB9 := Aside0.mk (below_drew HBq.out)
                    have X8d := Aside0.mk (blk_drew X89.out)
                    generalize wq.drew = w9 at *
                    -- 0: Op.fieldAddr 70 t8 3
                    refine pure_ (i := 0) (N := (some 74)) (v := ?_) (a' := ?_) #[true, false, false, false, false, false, false, false, false, false, false, false, false] rfl rfl (by kernel_rfl) (fun _ _ _ h => h) (Or.inl ⟨by rfl, ?_⟩) ?_ ?_
                    rotate_left
                    · intro w'
                      go_simp
                      with_reducible rfl
                    rotate_left
                    · simp only [Act.put, List.setIfInBounds_toArray, List.set_cons_zero, List.set_cons_succ, i64_w, i32_w]
                      rfl
                    -- 1: Op.load 67 t74
                    refine take_ (i := 1) (N := (some 75)) (v := ?_) (a' := ?_) #[true, true, false, false, false, false, false, false, false, false, false, false, false] rfl rfl (by kernel_rfl) (fun _ _ _ h => h) (Or.inl ⟨by rfl, ?_⟩) hHeld ?_ ?_
                    rotate_left
                    · rintro w' ⟨s0, s1⟩
                      have z3 : w'.cell? ⟨w3.heap.size, 3, none⟩ = some (.slice B G.length cb) := (blk_cell s0 3).trans rfl
                      go_simp
                      with_reducible rfl
                    rotate_left
                    · simp only [Act.put, List.setIfInBounds_toArray, List.set_cons_zero, List.set_cons_succ, i64_w, i32_w]
                      rfl
                    -- 2: Op.move t11
                    refine pure_ (i := 2) (N := (some 76)) (v := ?_) (a' := ?_) #[true, true, true, false, false, false, false, false, false, false, false, false, false] rfl rfl (by kernel_rfl) (fun _ _ _ h => h) (Or.inl ⟨by rfl, ?_⟩) ?_ ?_
                    rotate_left
                    · intro w'
                      go_simp
                      with_reducible rfl
                    rotate_left
                    · simp only [Act.put, List.setIfInBounds_toArray, List.set_cons_zero, List.set_cons_succ, i64_w, i32_w]
                      rfl
                    -- 3: Op.move t9
                    refine pure_ (i := 3) (N := (some 77)) (v := ?_) (a' := ?_) #[true, true, true, true, false, false, false, false, false, false, false, false, false] rfl rfl (by kernel_rfl) (fun _ _ _ h => h) (Or.inl ⟨by rfl, ?_⟩) ?_ ?_
                    rotate_left
                    · intro w'
                      go_simp
                      with_reducible rfl
                    rotate_left
                    · simp only [Act.put, List.setIfInBounds_toArray, List.set_cons_zero, List.set_cons_succ, i64_w, i32_w]
                      rfl
                    -- 4: Op.move t10
                    refine pure_ (i := 4) (N := (some 78)) (v := ?_) (a' := ?_) #[true, true, true, true, true, false, false, false, false, false, false, false, false] rfl rfl (by kernel_rfl) (fun _ _ _ h => h) (Or.inl ⟨by rfl, ?_⟩) ?_ ?_
                    rotate_left
                    · intro w'
                      go_simp
                      with_reducible rfl
                    rotate_left
                    · simp only [Act.put, List.setIfInBounds_toArray, List.set_cons_zero, List.set_cons_succ, i64_w, i32_w]
                      rfl
                    -- 5: Op.indexAddr 23 t77 t78
                    refine pure_ (i := 5) (N := (some 79)) (v := ?_) (a' := ?_) #[true, true, true, true, true, true, false, false, false, false, false, false, false] rfl rfl (by kernel_rfl) (fun _ _ _ h => h) (Or.inl ⟨by rfl, ?_⟩) ?_ ?_
                    rotate_left
                    · intro w'
                      go_simp
                      with_reducible rfl
                    rotate_left
                    · simp only [Act.put, List.setIfInBounds_toArray, List.set_cons_zero, List.set_cons_succ, i64_w, i32_w]
                      rfl
                    -- 6: Op.fieldAddr 58 t79 0
                    refine pure_ (i := 6) (N := (some 80)) (v := ?_) (a' := ?_) #[true, true, true, true, true, true, true, false, false, false, false, false, false] rfl rfl (by kernel_rfl) (fun _ _ _ h => h) (Or.inl ⟨by rfl, ?_⟩) ?_ ?_
                    rotate_left
                    · intro w'
                      go_simp
                      with_reducible rfl
                    rotate_left
                    · simp only [Act.put, List.setIfInBounds_toArray, List.set_cons_zero, List.set_cons_succ, i64_w, i32_w]
                      rfl
                    -- 7: Op.load 22 t80
                    refine take_ (i := 7) (N := (some 81)) (v := ?_) (a' := ?_) #[true, true, true, true, true, true, true, true, false, false, false, false, false] rfl rfl (by kernel_rfl) (fun _ _ _ h => h) (Or.inl ⟨by rfl, ?_⟩) hHeld ?_ ?_
                    rotate_left
                    · rintro w' ⟨s0, s1⟩
                      go_simp
                      with_reducible rfl
                    rotate_left
                    · simp only [Act.put, List.setIfInBounds_toArray, List.set_cons_zero, List.set_cons_succ, i64_w, i32_w]
                      rfl
                    -- 8: Op.build 84 #[(0, t76), (1, t81)]
                    refine pure_ (i := 8) (N := (some 82)) (v := ?_) (a' := ?_) #[true, true, true, true, true, true, true, true, true, false, false, false, false] rfl rfl (by kernel_rfl) (fun _ _ _ h => h) (Or.inl ⟨by rfl, ?_⟩) ?_ ?_
                    rotate_left
                    · intro w'
                      go_simp
                      with_reducible rfl
                    rotate_left
                    · simp only [Act.put, List.setIfInBounds_toArray, List.set_cons_zero, List.set_cons_succ, i64_w, i32_w]
                      rfl
                    -- 9: Op.buildSlice 67 1 #[(0, t82)]
                    refine one_ (i := 9) (N := (some 83)) #[true, true, true, true, true, true, true, true, true, true, false, false, false] rfl rfl (by kernel_rfl) (by decide) (fun K hK => ?_)
                    refine value_ (w1 := w9.alloc (.cells #[.int .i64 (ll : Int), .int .u64 m.f0] 84)) (v := .slice (some ⟨w9.heap.size, 0, none⟩) 1 1) (by rfl) rfl (by go_simp) ?_
                    have hOld := hHeld
                    clear hHeld
                    refine hK.out _ _ (⟨blk_alloc hOld.1 _, pw_cell_below (below_alloc (Below.refl w9.heap.size w9) _) hOld.2⟩) (fun hHeld => ?_)
                    clear hOld hK K
                    refine norm_ (a' := ?_) ?_ ?_
                    rotate_left
                    · show Act.put _ (some 83) _ = _
                      simp only [Act.put, List.setIfInBounds_toArray, List.set_cons_zero, List.set_cons_succ, i64_w, i32_w]
                      rfl
                    -- 10: Op.call { builtin append, args := #[t75, t83], argTypes := #[67, 67] }
                    refine last_ (i := 10) (N := (some 84)) #[true, true, true, true, true, true, true, true, true, true, true, false, false] rfl rfl (by kernel_rfl) (by decide) (fun K hK => ?_)
                    refine Kd.R_append_step k84 (w0 := w3) (W := w9) w3.heap.size (by rfl) (.tmp 75) (.tmp 83) 67 84 (.agg #[(.int .i64 0), (.int .u64 0)]) 16 (by rfl) Try.underlying67 info84 rfl (by decide) (by omega) (.slice B G.length cb) G (⟨(ll : Int), m.f0⟩ : S84) [.int .i64 (ll : Int), .int .u64 m.f0] (fun _ => True) (fun _ => False) (by rfl) (by rfl) (k84_mkM _ _ _ (⟨(ll : Int), m.f0⟩ : S84)) (fun _ h => h.elim) (fun _ _ => trivial) RG9.out HB9.out HB9.out.size (by have := LG.out; omega) ?_
                    intro va wa ho hb hg hat
                    have HBa := Aside0.mk hb
                    have X8a := Aside0.mk (blk_grown X8d.out hg (Kd.R_ne RG9.out X8d.out (by decide)))
                    have RLa := Aside0.mk (Kd.R_over RL9.out RG9.out (by intro x hx; simp [show k58.E = [] from rfl] at hx; omega) hg)
                    obtain ⟨G2, hG2⟩ : ∃ G2, G2 = G ++ [(⟨(ll : Int), m.f0⟩ : S84)] := ⟨_, rfl⟩
                    rw [← hG2] at ho
                    have GQ2 := Aside0.mk hG2
                    clear hG2
                    obtain ⟨B', cb', hv⟩ := Kd.R_slice ho
                    subst hv
                    have HRa := Aside0.mk ho
                    clear ho hb hg hat
                    try clear hHeld
                    refine hK.out _ _ ?_
                    clear hK K
                    refine norm_ (a' := ?_) ?_ ?_
                    rotate_left
                    · show Act.put _ (some 84) _ = _
                      simp only [Act.put, List.setIfInBounds_toArray, List.set_cons_zero, List.set_cons_succ, i64_w, i32_w]
                      rfl
                    -- 11: Op.fieldAddr 70 t8 3
                    refine pure_ (i := 11) (N := (some 85)) (v := ?_) (a' := ?_) #[true, true, true, true, true, true, true, true, true, true, true, true, false] rfl rfl (by kernel_rfl) (fun _ _ _ h => h) (Or.inl ⟨by rfl, ?_⟩) ?_ ?_
                    rotate_left
                    · intro w'
                      go_simp
                      with_reducible rfl
                    rotate_left
                    · simp only [Act.put, List.setIfInBounds_toArray, List.set_cons_zero, List.set_cons_succ, i64_w, i32_w]
                      rfl
                    -- 12: Op.store 67 t85 t84
                    refine last_ (i := 12) (N := none) #[true, true, true, true, true, true, true, true, true, true, true, true, true] rfl rfl (by kernel_rfl) (by decide) (fun K hK => ?_)
                    have hc_ : wa.cell? ⟨w3.heap.size, 3, none⟩ = some (.slice B G.length cb) := (blk_cell X8a.out 3).trans rfl
                    have hf_ := blk_frozen X8a.out 3
                    refine skip_ (w1 := wa.setCell ⟨w3.heap.size, 3, none⟩ (.slice B' G2.length cb')) (by rfl) rfl (by go_simp) ?_
                    clear hc_ hf_
                    try clear hHeld
                    refine hK.out _ _ ?_
                    clear hK K
                    refine done_ (by kernel_rfl) ?_
                    have HBn := Aside0.mk (below_set (j := 3) (v := .slice B' G2.length cb') HBa.out (Nat.le_refl _))
                    have X8n := Aside0.mk (five_set (cs' := #[.int .u64 0, .int .u64 0, .int .u64 0, .slice B' G2.length cb', .slice none 0 0]) X8a.out (j := 3) (.slice B' G2.length cb') rfl)
                    have RGn := Aside0.mk (Kd.R_mono (Kd.R_set HRa.out X8a.out (by intro x hx; simp [show k84.E = [] from rfl] at hx; omega) 3 (.slice B' G2.length cb')) (fun _ _ => trivial))
                    have RLn := Aside0.mk (Kd.R_mono (Kd.R_set RLa.out X8a.out (by intro x hx; simp [show k58.E = [] from rfl] at hx; omega) 3 (.slice B' G2.length cb')) (fun _ _ => trivial))
                    have G2E := Aside0.mk (show goneL (ll : Int) In Ov (i + 1) = G2 by rw [GS.out, GQ2.out])
                    go_wp2_with fail
                    try rw [ew]
                    try rw [← HAX.out]
                    clear ew
                    go_roundg q
                    case measure => omega
                    case rel => exact ⟨i + 1, B', cb', rfl, ⟨by have := HK.out; omega⟩, HBn, by rw [G2E.out]; exact X8n, by rw [G2E.out]; exact RGn, RLn, GP2⟩
                  | succ qj =>
                    have hj : j < i := by have := HJJ.out; omega
                    have HJL := Aside0.mk hj
                    have d3 : decide ((j : Int) < (i : Int)) = true := decide_eq_true (by omega)
                    have d4 : decide (j < i) = true := decide_eq_true hj
                    have j0 : 0 ≤ (j : Int) := Int.natCast_nonneg _
                    have j1 : (j : Int) < (L.length : Int) := by omega
                    obtain ⟨ay, eb, hb0, hb1, hb2, hb3, hb4, hb5, hb6⟩ := at_T58 (Kd.R_reads' RLq.out).2.2 (j : Int) j0 j1
                    obtain rfl : ax = ay := by rw [HAX.out] at eb; cases eb; rfl
                    rw [Int.toNat_natCast] at hb0 hb1 hb2 hb3 hb4 hb5 hb6
                    have EJ := Aside0.mk (show rd_T58 L (j : Int) = L.getD j z58 by unfold rd_T58; rw [Int.toNat_natCast])
                    generalize rd_T58 L (j : Int) = mj at *
                    have ewj : wrap64 ((j : Int) + 1) = ((j + 1 : Nat) : Int) := by have h1 := LLEN.out; have h2 := HJL.out; have h3 := HKL.out; unfold wrap64; omega
                    clear eb hj hb1 hb2 hb3 hb4 hb5 hb6
                    by_cases he : mj.f0 = m.f0
                    · have e0 : (mj.f0 == m.f0) = true := beq_iff_eq.mpr he
                      have BAD := Aside0.mk (show ¬ edG v (ll : Int) In Ov out from fun h => (GPS.out.mp (goneP_pre h.1 (show i + 1 ≤ (In ++ Ov).length from KL.out))).2.2 (by
                        rw [← he, EJ.out]
                        unfold nums
                        rw [← LQ.out]
                        refine List.mem_map.mpr ⟨_, ?_, rfl⟩
                        have h2 : j < L.length := by have := HJL.out; have := HKL.out; omega
                        rw [List.getD_eq_getElem?_getD, List.getElem?_eq_getElem h2]
                        exact List.mem_iff_getElem?.mpr ⟨j, by rw [List.getElem?_take_of_lt HJL.out, List.getElem?_eq_getElem h2]; rfl⟩))
                      clear he
                      go_wp2_with fail
                      go_quiet (fail)
                      have X6q := Aside0.mk (blk_drewN (blk_below X67.out HBJ.out) nq)
                      have HBq2 := Aside0.mk (pw_below_drewN (below_step HB3.out HBq.out) nq)
                      have E1 := Aside0.mk (show xe = zE from by rw [XE.out]; unfold edV; rw [if_neg (fun h => BAD.out h.2)])
                      have E2 := Aside0.mk (show xf = 11 from by rw [XF.out]; unfold edE; rw [if_pos ASK.out, if_neg BAD.out])
                      go_wp2_with (first | (refine st_arr rfl 70 _ _ rfl g6 70 ?hx #[.int .u64 0, .int .u64 0, .int .u64 0, .slice none 0 0, .slice none 0 0] ?hy _ X6q.out (by rw [size70]; rfl) rfl (by simp [Value.oneCell']) ?_; (case hx => rfl); (case hy => rfl); intro w5 hb5 hbb hk5 hs5; have HB5 := Aside0.mk (hbb _ _ HBq2.out (show w.heap.size ≤ g6 by have := N1.out; omega)); have X65 := Aside0.mk hb5; clear hb5 hbb hk5 hs5) | fail)
                      have r0 : w5.cell? ⟨g6, 0, none⟩ = some (.int .u64 0) := (blk_cell X65.out 0).trans rfl
                      have r1 : w5.cell? ⟨g6, 1, none⟩ = some (.int .u64 0) := (blk_cell X65.out 1).trans rfl
                      have r2 : w5.cell? ⟨g6, 2, none⟩ = some (.int .u64 0) := (blk_cell X65.out 2).trans rfl
                      have r3 : w5.cell? ⟨g6, 3, none⟩ = some (.slice none 0 0) := (blk_cell X65.out 3).trans rfl
                      have r4 : w5.cell? ⟨g6, 4, none⟩ = some (.slice none 0 0) := (blk_cell X65.out 4).trans rfl
                      exact bodyPost_ret (v := .tuple #[.agg #[.int .u64 0, .int .u64 0, .int .u64 0, .slice none 0 0, .slice none 0 0], .int .i64 11]) (by simp [results, Try.results49, go_sem, r0, r1, r2, r3, r4]) rfl ⟨none, 0, none, 0, by rw [E1.out, E2.out]; rfl, by rw [E1.out]; exact Kd.R_nil _ _ _ _ _, by rw [E1.out]; exact Kd.R_nil _ _ _ _ _, HB5.out⟩
                    · have e0 : (mj.f0 == m.f0) = false := beq_eq_false_iff_ne.mpr he
                      have HNJ := Aside0.mk (show ¬ (L.getD j z58).f0 = m.f0 by rw [← EJ.out]; exact he)
                      clear he
                      go_wp2_with fail
                      go_quiet (fail)
                      go_wp2_with fail
                      try rw [ewj]
                      clear ewj ew
                      go_roundg qj
                      case measure => omega
                      case rel => exact ⟨j + 1, rfl, ⟨by have := HJJ.out; omega⟩, ⟨pw_below_drewN HBJ.out nq⟩, ⟨fun j' hj' => by
                        by_cases e : j' = j
                        · subst e; exact HNJ.out
                        · exact HNE.out j' (by omega)⟩⟩
              · rw [decide_eq_false hin]
                have BAD := Aside0.mk (show ¬ edG v (ll : Int) In Ov out from fun h => hin (GPS.out.mp (goneP_pre h.1 (show i + 1 ≤ (In ++ Ov).length from KL.out))).2.1)
                clear hin hb7
                have E1 := Aside0.mk (show xe = zE from by rw [XE.out]; unfold edV; rw [if_neg (fun h => BAD.out h.2)])
                have E2 := Aside0.mk (show xf = 11 from by rw [XF.out]; unfold edE; rw [if_pos ASK.out, if_neg BAD.out])
                go_wp2_with (first | (refine st_arr rfl 70 _ _ rfl g6 70 ?hx #[.int .u64 0, .int .u64 0, .int .u64 0, .slice none 0 0, .slice none 0 0] ?hy _ X67.out (by rw [size70]; rfl) rfl (by simp [Value.oneCell']) ?_; (case hx => rfl); (case hy => rfl); intro w5 hb5 hbb hk5 hs5; have HB5 := Aside0.mk (hbb _ _ HBF.out (show w.heap.size ≤ g6 by have := N1.out; omega)); have X65 := Aside0.mk hb5; clear hb5 hbb hk5 hs5) | fail)
                have r0 : w5.cell? ⟨g6, 0, none⟩ = some (.int .u64 0) := (blk_cell X65.out 0).trans rfl
                have r1 : w5.cell? ⟨g6, 1, none⟩ = some (.int .u64 0) := (blk_cell X65.out 1).trans rfl
                have r2 : w5.cell? ⟨g6, 2, none⟩ = some (.int .u64 0) := (blk_cell X65.out 2).trans rfl
                have r3 : w5.cell? ⟨g6, 3, none⟩ = some (.slice none 0 0) := (blk_cell X65.out 3).trans rfl
                have r4 : w5.cell? ⟨g6, 4, none⟩ = some (.slice none 0 0) := (blk_cell X65.out 4).trans rfl
                exact bodyPost_ret (v := .tuple #[.agg #[.int .u64 0, .int .u64 0, .int .u64 0, .slice none 0 0, .slice none 0 0], .int .i64 11]) (by simp [results, Try.results49, go_sem, r0, r1, r2, r3, r4]) rfl ⟨none, 0, none, 0, by rw [E1.out, E2.out]; rfl, by rw [E1.out]; exact Kd.R_nil _ _ _ _ _, by rw [E1.out]; exact Kd.R_nil _ _ _ _ _, HB5.out⟩
            · skip
              obtain ⟨jn, hjn⟩ : ∃ jn : Nat, jn = ll + 1 := ⟨_, rfl⟩
              have HJN := Aside0.mk hjn
              have HJ4 := Aside0.mk (show jn < 4 by have := LL3.out; omega)
              have jn0 : 0 ≤ (jn : Int) := Int.natCast_nonneg _
              have jn1 : (jn : Int) < 4 := by have := HJ4.out; omega
              have jq : (ll : Int) + 1 = (jn : Int) := by omega
              have jq3 : wrap64 (jn : Int) = (jn : Int) := by unfold wrap64; have := HJ4.out; omega
              clear hjn
              have LVQ := Aside0.mk (show lvOf (ll : Int) In i = (jn : Int) by unfold lvOf; rw [if_neg hlt]; have := HJN.out; omega)
              have GS := Aside0.mk (goneL_snoc (ll : Int) In Ov i)
              rw [EM.out, LVQ.out, ← GQ.out] at GS
              have GPS := Aside0.mk (goneP_succ (v := v) (lev := (ll : Int)) KL.out)
              rw [EM.out, LVQ.out, Int.toNat_natCast] at GPS
              have t0 : decide ((In.length : Int) ≤ (i : Int)) = true := decide_eq_true (by omega)
              have t1 : decide (In.length ≤ i) = true := decide_eq_true (by omega)
              clear hlt
              go_upto_region 11 with (fail)
              clear t0 t1 jq y0 y1 y2
              have KH := Aside0.mk (show ∀ w9, Below wr.heap.size wr w9 → Calls Try.prog 100 #[.slice (p.a jn) (v.lv jn).length (p.c jn), .agg (mCs m)] w9 fun x w' => x = .returned (.bool (decide (m ∈ v.lv jn))) ∧ Below w9.heap.size w9 w' from fun w9 hb => has_calls w9 (p.a jn) (p.c jn) (v.lv jn) m (((HC.out.below (below_step HB3.out HB.out)).below hb) jn HJ4.out).1)
              refine start_ (n := 10) (S := (fun w' => Below wr.heap.size wr w' ∧ w'.heap[w.heap.size]? = some (.cells (vCs v p) 26 (0, 0)) ∧ w'.cell? (ax.add (i * 7)) = some (.int .u64 m.f0) ∧ w'.cell? ⟨(ax.add (i * 7)).block, (ax.add (i * 7)).off + 1, none⟩ = some (.int .i64 m.f1) ∧ w'.cell? ⟨(ax.add (i * 7)).block, (ax.add (i * 7)).off + 2, none⟩ = some (.int .i64 m.f2) ∧ w'.cell? ⟨(ax.add (i * 7)).block, (ax.add (i * 7)).off + 3, none⟩ = some (.string m.f3) ∧ w'.cell? ⟨(ax.add (i * 7)).block, (ax.add (i * 7)).off + 4, none⟩ = some (.string m.f4) ∧ w'.cell? ⟨(ax.add (i * 7)).block, (ax.add (i * 7)).off + 5, none⟩ = some (.int .u64 m.f5) ∧ w'.cell? ⟨(ax.add (i * 7)).block, (ax.add (i * 7)).off + 6, none⟩ = some (.int .u64 m.f6))) (ds := []) #[false, false, false, false, false, false, false, false, false, false] (by kernel_rfl) rfl rfl ⟨below_drew (Below.refl _ _), blk_drew X2.out, ha0, ha1, ha2, ha3, ha4, ha5, ha6⟩ (fun hHeld => ?_)
              -- 0: Op.move t11
              refine pure_ (i := 0) (N := (some 46)) (v := ?_) (a' := ?_) #[true, false, false, false, false, false, false, false, false, false] rfl rfl (by kernel_rfl) (fun _ _ _ h => h) (Or.inl ⟨by rfl, ?_⟩) ?_ ?_
              rotate_left
              · intro w'
                go_simp
                with_reducible rfl
              rotate_left
              · simp only [Act.put, List.setIfInBounds_toArray, List.set_cons_zero, List.set_cons_succ, i64_w, i32_w]
                rfl
              -- 1: Op.fieldAddr 26 t3 3
              refine pure_ (i := 1) (N := (some 47)) (v := ?_) (a' := ?_) #[true, true, false, false, false, false, false, false, false, false] rfl rfl (by kernel_rfl) (fun _ _ _ h => h) (Or.inl ⟨by rfl, ?_⟩) ?_ ?_
              rotate_left
              · intro w'
                go_simp
                with_reducible rfl
              rotate_left
              · simp only [Act.put, List.setIfInBounds_toArray, List.set_cons_zero, List.set_cons_succ, i64_w, i32_w]
                rfl
              -- 2: Op.indexAddr 24 t47 t46
              refine pure_ (i := 2) (N := (some 48)) (v := ?_) (a' := ?_) #[true, true, true, false, false, false, false, false, false, false] rfl rfl (by kernel_rfl) (fun _ _ _ h => h) (Or.inl ⟨by rfl, ?_⟩) ?_ ?_
              rotate_left
              · intro w'
                go_simp
                with_reducible rfl
              rotate_left
              · simp only [Act.put, List.setIfInBounds_toArray, List.set_cons_zero, List.set_cons_succ, i64_w, i32_w]
                rfl
              -- 3: Op.load 23 t48
              refine take_ (i := 3) (N := (some 49)) (v := ?_) (a' := ?_) #[true, true, true, true, false, false, false, false, false, false] rfl rfl (by kernel_rfl) (fun _ _ _ h => h) (Or.inl ⟨by rfl, ?_⟩) hHeld ?_ ?_
              rotate_left
              · rintro w' ⟨s0, s1, s2, s3, s4, s5, s6, s7, s8⟩
                have hv_ := vcell s1 jn HJ4.out
                go_simp
                with_reducible rfl
              rotate_left
              · simp only [Act.put, List.setIfInBounds_toArray, List.set_cons_zero, List.set_cons_succ, i64_w, i32_w]
                rfl
              -- 4: Op.move t9
              refine pure_ (i := 4) (N := (some 50)) (v := ?_) (a' := ?_) #[true, true, true, true, true, false, false, false, false, false] rfl rfl (by kernel_rfl) (fun _ _ _ h => h) (Or.inl ⟨by rfl, ?_⟩) ?_ ?_
              rotate_left
              · intro w'
                go_simp
                with_reducible rfl
              rotate_left
              · simp only [Act.put, List.setIfInBounds_toArray, List.set_cons_zero, List.set_cons_succ, i64_w, i32_w]
                rfl
              -- 5: Op.move t10
              refine pure_ (i := 5) (N := (some 51)) (v := ?_) (a' := ?_) #[true, true, true, true, true, true, false, false, false, false] rfl rfl (by kernel_rfl) (fun _ _ _ h => h) (Or.inl ⟨by rfl, ?_⟩) ?_ ?_
              rotate_left
              · intro w'
                go_simp
                with_reducible rfl
              rotate_left
              · simp only [Act.put, List.setIfInBounds_toArray, List.set_cons_zero, List.set_cons_succ, i64_w, i32_w]
                rfl
              -- 6: Op.indexAddr 23 t50 t51
              refine pure_ (i := 6) (N := (some 52)) (v := ?_) (a' := ?_) #[true, true, true, true, true, true, true, false, false, false] rfl rfl (by kernel_rfl) (fun _ _ _ h => h) (Or.inl ⟨by rfl, ?_⟩) ?_ ?_
              rotate_left
              · intro w'
                go_simp
                with_reducible rfl
              rotate_left
              · simp only [Act.put, List.setIfInBounds_toArray, List.set_cons_zero, List.set_cons_succ, i64_w, i32_w]
                rfl
              -- 7: Op.load 58 t52
              refine take_ (i := 7) (N := (some 53)) (v := ?_) (a' := ?_) #[true, true, true, true, true, true, true, true, false, false] rfl rfl (by kernel_rfl) (fun _ _ _ h => h) (Or.inl ⟨by rfl, ?_⟩) hHeld ?_ ?_
              rotate_left
              · rintro w' ⟨s0, s1, s2, s3, s4, s5, s6, s7, s8⟩
                go_simp
                with_reducible rfl
              rotate_left
              · simp only [Act.put, List.setIfInBounds_toArray, List.set_cons_zero, List.set_cons_succ, i64_w, i32_w]
                rfl
              -- 8: Op.call { value (Operand.func 100), args := #[t49, t53], argTypes := #[23, 58] }
              refine one_ (i := 8) (N := (some 54)) #[true, true, true, true, true, true, true, true, true, false] rfl rfl (by kernel_rfl) (by decide) (fun K hK => ?_)
              refine goes_ Try.func100 (by kernel_rfl) rfl #[.slice (p.a jn) (v.lv jn).length (p.c jn), .agg #[.int .u64 m.f0, .int .i64 m.f1, .int .i64 m.f2, .string m.f3, .string m.f4, .int .u64 m.f5, .int .u64 m.f6]] (by rfl) rfl rfl (by (try simp only [List.map_toArray, List.map_cons, List.map_nil]); first | done | rfl) ?_
              (with_reducible refine (KH.out _ hHeld.1).mono ?_)
              rintro e w7 ⟨rfl, hb⟩
              refine ⟨_, rfl, ?_⟩
              have hOld := hHeld
              clear hHeld
              refine hK.out _ _ (keep_q hOld hb) (fun hHeld => ?_)
              clear hOld hK K
              refine norm_ (a' := ?_) ?_ ?_
              rotate_left
              · show Act.put _ (some 54) _ = _
                simp only [Act.put, List.setIfInBounds_toArray, List.set_cons_zero, List.set_cons_succ, i64_w, i32_w]
                rfl
              -- 9: Op.unOp UnOp.not 4 t54
              refine pure_ (i := 9) (N := (some 55)) (v := ?_) (a' := ?_) #[true, true, true, true, true, true, true, true, true, true] rfl rfl (by kernel_rfl) (fun _ _ _ h => h) (Or.inl ⟨by rfl, ?_⟩) ?_ ?_
              rotate_left
              · intro w'
                go_simp
                with_reducible rfl
              rotate_left
              · simp only [Act.put, List.setIfInBounds_toArray, List.set_cons_zero, List.set_cons_succ, i64_w, i32_w]
                rfl
              refine done_ (by kernel_rfl) ?_
              clear KH jq3
              have hb7 := hHeld.1
              clear hHeld ha0 ha1 ha2 ha3 ha4 ha5 ha6
              have HB7 := Aside0.mk (below_step HB.out hb7)
              have X67 := Aside0.mk (blk_below X6.out hb7)
              have HBF := Aside0.mk (below_step HB3.out HB7.out)
              by_cases hin : m ∈ v.lv jn
              · rw [decide_eq_true hin]
                have MIN := Aside0.mk hin
                have X87 := Aside0.mk (blk_below X8.out hb7)
                have RG7 := Aside0.mk (Kd.R_below RG.out hb7)
                have RL7 := Aside0.mk (Kd.R_below RL.out hb7)
                clear hin hb7 X2 X4 X6 X8 RG RL HB
                go_wp2_with fail
                go_loopg [12] i (fun kq v12 w' => ∃ j : Nat, v12 = .int .i64 (j : Int) ∧ Aside0 (kq + j = i) ∧ Aside0 (Below w7.heap.size w7 w') ∧ Aside0 (∀ j', j' < j → ¬ (L.getD j' z58).f0 = m.f0))
                case atStart => exact ⟨0, rfl, ⟨by omega⟩, ⟨Below.refl _ _⟩, ⟨fun j' hj => by omega⟩⟩
                case round =>
                  rename World => wq
                  obtain ⟨j, rfl, HJJ, HBJ, HNE⟩ := hrel
                  have HBq := Aside0.mk (below_step HB7.out HBJ.out)
                  have RLq := Aside0.mk (Kd.R_below RL7.out HBJ.out)
                  obtain ⟨ax', ea', ha0, ha1, ha2, ha3, ha4, ha5, ha6⟩ := at_T58 (Kd.R_reads' RLq.out).2.2 (i : Int) p0 p1
                  obtain rfl : ax = ax' := by rw [HAX.out] at ea'; cases ea'; rfl
                  rw [Int.toNat_natCast] at ha0 ha1 ha2 ha3 ha4 ha5 ha6
                  rw [show rd_T58 L (i : Int) = m from (by rw [EMR.out]; unfold rd_T58; rw [Int.toNat_natCast])] at ha0 ha1 ha2 ha3 ha4 ha5 ha6
                  clear ea' ha1 ha2 ha3 ha4 ha5 ha6
                  cases gk with
                  | zero =>
                    obtain rfl : i = j := by have := HJJ.out; omega
                    have d3 : decide ((i : Int) < (i : Int)) = false := by simp
                    have NIN := Aside0.mk (show m.f0 ∉ nums ((In ++ Ov).take i) from fun h => by
                      rw [← LQ.out] at h
                      unfold nums at h
                      rw [List.mem_map] at h
                      obtain ⟨x, hx, hx2⟩ := h
                      obtain ⟨y, hy, hy2⟩ := List.getElem_of_mem hx
                      rw [List.length_take] at hy
                      rw [List.getElem_take] at hy2
                      refine HNE.out y (by omega) ?_
                      rw [List.getD_eq_getElem?_getD, List.getElem?_eq_getElem (by omega)]
                      show (L[y]'(by omega)).f0 = m.f0
                      rw [hy2]; exact hx2)
                    have GP2 := Aside0.mk (GPS.out.mpr ⟨GP.out, MIN.out, NIN.out⟩)
                    have X89 := Aside0.mk (blk_below X87.out HBJ.out)
                    have RGq := Aside0.mk (Kd.R_below RG7.out HBJ.out)
                    go_wp2_with fail
                    refine start_ (n := 13) (S := (fun w' => w'.heap[w3.heap.size]? = some (.cells #[.int .u64 0, .int .u64 0, .int .u64 0, .slice B G.length cb, .slice none 0 0] 70 (0, 0)) ∧ w'.cell? (ax.add (i * 7)) = some (.int .u64 m.f0))) (ds := [10, 12]) #[false, false, false, false, false, false, false, false, false, false, false, false, false] (by kernel_rfl) rfl rfl ⟨blk_drew X89.out, ha0⟩ (fun hHeld => ?_)
                    have RG9 := Aside0.mk (Kd.R_drew RGq.out)
                    have RL9 := Aside0.mk (Kd.R_drew RLq.out)
                    have HB9 := Aside0.mk (below_drew HBq.out)
                    have X8d := Aside0.mk (blk_drew X89.out)
                    generalize wq.drew = w9 at *
                    -- 0: Op.fieldAddr 70 t8 3
                    refine pure_ (i := 0) (N := (some 74)) (v := ?_) (a' := ?_) #[true, false, false, false, false, false, false, false, false, false, false, false, false] rfl rfl (by kernel_rfl) (fun _ _ _ h => h) (Or.inl ⟨by rfl, ?_⟩) ?_ ?_
                    rotate_left
                    · intro w'
                      go_simp
                      with_reducible rfl
                    rotate_left
                    · simp only [Act.put, List.setIfInBounds_toArray, List.set_cons_zero, List.set_cons_succ, i64_w, i32_w]
                      rfl
                    -- 1: Op.load 67 t74
                    refine take_ (i := 1) (N := (some 75)) (v := ?_) (a' := ?_) #[true, true, false, false, false, false, false, false, false, false, false, false, false] rfl rfl (by kernel_rfl) (fun _ _ _ h => h) (Or.inl ⟨by rfl, ?_⟩) hHeld ?_ ?_
                    rotate_left
                    · rintro w' ⟨s0, s1⟩
                      have z3 : w'.cell? ⟨w3.heap.size, 3, none⟩ = some (.slice B G.length cb) := (blk_cell s0 3).trans rfl
                      go_simp
                      with_reducible rfl
                    rotate_left
                    · simp only [Act.put, List.setIfInBounds_toArray, List.set_cons_zero, List.set_cons_succ, i64_w, i32_w]
                      rfl
                    -- 2: Op.move t11
                    refine pure_ (i := 2) (N := (some 76)) (v := ?_) (a' := ?_) #[true, true, true, false, false, false, false, false, false, false, false, false, false] rfl rfl (by kernel_rfl) (fun _ _ _ h => h) (Or.inl ⟨by rfl, ?_⟩) ?_ ?_
                    rotate_left
                    · intro w'
                      go_simp
                      with_reducible rfl
                    rotate_left
                    · simp only [Act.put, List.setIfInBounds_toArray, List.set_cons_zero, List.set_cons_succ, i64_w, i32_w]
                      rfl
                    -- 3: Op.move t9
                    refine pure_ (i := 3) (N := (some 77)) (v := ?_) (a' := ?_) #[true, true, true, true, false, false, false, false, false, false, false, false, false] rfl rfl (by kernel_rfl) (fun _ _ _ h => h) (Or.inl ⟨by rfl, ?_⟩) ?_ ?_
                    rotate_left
                    · intro w'
                      go_simp
                      with_reducible rfl
                    rotate_left
                    · simp only [Act.put, List.setIfInBounds_toArray, List.set_cons_zero, List.set_cons_succ, i64_w, i32_w]
                      rfl
                    -- 4: Op.move t10
                    refine pure_ (i := 4) (N := (some 78)) (v := ?_) (a' := ?_) #[true, true, true, true, true, false, false, false, false, false, false, false, false] rfl rfl (by kernel_rfl) (fun _ _ _ h => h) (Or.inl ⟨by rfl, ?_⟩) ?_ ?_
                    rotate_left
                    · intro w'
                      go_simp
                      with_reducible rfl
                    rotate_left
                    · simp only [Act.put, List.setIfInBounds_toArray, List.set_cons_zero, List.set_cons_succ, i64_w, i32_w]
                      rfl
                    -- 5: Op.indexAddr 23 t77 t78
                    refine pure_ (i := 5) (N := (some 79)) (v := ?_) (a' := ?_) #[true, true, true, true, true, true, false, false, false, false, false, false, false] rfl rfl (by kernel_rfl) (fun _ _ _ h => h) (Or.inl ⟨by rfl, ?_⟩) ?_ ?_
                    rotate_left
                    · intro w'
                      go_simp
                      with_reducible rfl
                    rotate_left
                    · simp only [Act.put, List.setIfInBounds_toArray, List.set_cons_zero, List.set_cons_succ, i64_w, i32_w]
                      rfl
                    -- 6: Op.fieldAddr 58 t79 0
                    refine pure_ (i := 6) (N := (some 80)) (v := ?_) (a' := ?_) #[true, true, true, true, true, true, true, false, false, false, false, false, false] rfl rfl (by kernel_rfl) (fun _ _ _ h => h) (Or.inl ⟨by rfl, ?_⟩) ?_ ?_
                    rotate_left
                    · intro w'
                      go_simp
                      with_reducible rfl
                    rotate_left
                    · simp only [Act.put, List.setIfInBounds_toArray, List.set_cons_zero, List.set_cons_succ, i64_w, i32_w]
                      rfl
                    -- 7: Op.load 22 t80
                    refine take_ (i := 7) (N := (some 81)) (v := ?_) (a' := ?_) #[true, true, true, true, true, true, true, true, false, false, false, false, false] rfl rfl (by kernel_rfl) (fun _ _ _ h => h) (Or.inl ⟨by rfl, ?_⟩) hHeld ?_ ?_
                    rotate_left
                    · rintro w' ⟨s0, s1⟩
                      go_simp
                      with_reducible rfl
                    rotate_left
                    · simp only [Act.put, List.setIfInBounds_toArray, List.set_cons_zero, List.set_cons_succ, i64_w, i32_w]
                      rfl
                    -- 8: Op.build 84 #[(0, t76), (1, t81)]
                    refine pure_ (i := 8) (N := (some 82)) (v := ?_) (a' := ?_) #[true, true, true, true, true, true, true, true, true, false, false, false, false] rfl rfl (by kernel_rfl) (fun _ _ _ h => h) (Or.inl ⟨by rfl, ?_⟩) ?_ ?_
                    rotate_left
                    · intro w'
                      go_simp
                      with_reducible rfl
                    rotate_left
                    · simp only [Act.put, List.setIfInBounds_toArray, List.set_cons_zero, List.set_cons_succ, i64_w, i32_w]
                      rfl
                    -- 9: Op.buildSlice 67 1 #[(0, t82)]
                    refine one_ (i := 9) (N := (some 83)) #[true, true, true, true, true, true, true, true, true, true, false, false, false] rfl rfl (by kernel_rfl) (by decide) (fun K hK => ?_)
                    refine value_ (w1 := w9.alloc (.cells #[.int .i64 (jn : Int), .int .u64 m.f0] 84)) (v := .slice (some ⟨w9.heap.size, 0, none⟩) 1 1) (by rfl) rfl (by go_simp) ?_
                    have hOld := hHeld
                    clear hHeld
                    refine hK.out _ _ (⟨blk_alloc hOld.1 _, pw_cell_below (below_alloc (Below.refl w9.heap.size w9) _) hOld.2⟩) (fun hHeld => ?_)
                    clear hOld hK K
                    refine norm_ (a' := ?_) ?_ ?_
                    rotate_left
                    · show Act.put _ (some 83) _ = _
                      simp only [Act.put, List.setIfInBounds_toArray, List.set_cons_zero, List.set_cons_succ, i64_w, i32_w]
                      rfl
                    -- 10: Op.call { builtin append, args := #[t75, t83], argTypes := #[67, 67] }
                    refine last_ (i := 10) (N := (some 84)) #[true, true, true, true, true, true, true, true, true, true, true, false, false] rfl rfl (by kernel_rfl) (by decide) (fun K hK => ?_)
                    refine Kd.R_append_step k84 (w0 := w3) (W := w9) w3.heap.size (by rfl) (.tmp 75) (.tmp 83) 67 84 (.agg #[(.int .i64 0), (.int .u64 0)]) 16 (by rfl) Try.underlying67 info84 rfl (by decide) (by omega) (.slice B G.length cb) G (⟨(jn : Int), m.f0⟩ : S84) [.int .i64 (jn : Int), .int .u64 m.f0] (fun _ => True) (fun _ => False) (by rfl) (by rfl) (k84_mkM _ _ _ (⟨(jn : Int), m.f0⟩ : S84)) (fun _ h => h.elim) (fun _ _ => trivial) RG9.out HB9.out HB9.out.size (by have := LG.out; omega) ?_
                    intro va wa ho hb hg hat
                    have HBa := Aside0.mk hb
                    have X8a := Aside0.mk (blk_grown X8d.out hg (Kd.R_ne RG9.out X8d.out (by decide)))
                    have RLa := Aside0.mk (Kd.R_over RL9.out RG9.out (by intro x hx; simp [show k58.E = [] from rfl] at hx; omega) hg)
                    obtain ⟨G2, hG2⟩ : ∃ G2, G2 = G ++ [(⟨(jn : Int), m.f0⟩ : S84)] := ⟨_, rfl⟩
                    rw [← hG2] at ho
                    have GQ2 := Aside0.mk hG2
                    clear hG2
                    obtain ⟨B', cb', hv⟩ := Kd.R_slice ho
                    subst hv
                    have HRa := Aside0.mk ho
                    clear ho hb hg hat
                    try clear hHeld
                    refine hK.out _ _ ?_
                    clear hK K
                    refine norm_ (a' := ?_) ?_ ?_
                    rotate_left
                    · show Act.put _ (some 84) _ = _
                      simp only [Act.put, List.setIfInBounds_toArray, List.set_cons_zero, List.set_cons_succ, i64_w, i32_w]
                      rfl
                    -- 11: Op.fieldAddr 70 t8 3
                    refine pure_ (i := 11) (N := (some 85)) (v := ?_) (a' := ?_) #[true, true, true, true, true, true, true, true, true, true, true, true, false] rfl rfl (by kernel_rfl) (fun _ _ _ h => h) (Or.inl ⟨by rfl, ?_⟩) ?_ ?_
                    rotate_left
                    · intro w'
                      go_simp
                      with_reducible rfl
                    rotate_left
                    · simp only [Act.put, List.setIfInBounds_toArray, List.set_cons_zero, List.set_cons_succ, i64_w, i32_w]
                      rfl
                    -- 12: Op.store 67 t85 t84
                    refine last_ (i := 12) (N := none) #[true, true, true, true, true, true, true, true, true, true, true, true, true] rfl rfl (by kernel_rfl) (by decide) (fun K hK => ?_)
                    have hc_ : wa.cell? ⟨w3.heap.size, 3, none⟩ = some (.slice B G.length cb) := (blk_cell X8a.out 3).trans rfl
                    have hf_ := blk_frozen X8a.out 3
                    refine skip_ (w1 := wa.setCell ⟨w3.heap.size, 3, none⟩ (.slice B' G2.length cb')) (by rfl) rfl (by go_simp) ?_
                    clear hc_ hf_
                    try clear hHeld
                    refine hK.out _ _ ?_
                    clear hK K
                    refine done_ (by kernel_rfl) ?_
                    have HBn := Aside0.mk (below_set (j := 3) (v := .slice B' G2.length cb') HBa.out (Nat.le_refl _))
                    have X8n := Aside0.mk (five_set (cs' := #[.int .u64 0, .int .u64 0, .int .u64 0, .slice B' G2.length cb', .slice none 0 0]) X8a.out (j := 3) (.slice B' G2.length cb') rfl)
                    have RGn := Aside0.mk (Kd.R_mono (Kd.R_set HRa.out X8a.out (by intro x hx; simp [show k84.E = [] from rfl] at hx; omega) 3 (.slice B' G2.length cb')) (fun _ _ => trivial))
                    have RLn := Aside0.mk (Kd.R_mono (Kd.R_set RLa.out X8a.out (by intro x hx; simp [show k58.E = [] from rfl] at hx; omega) 3 (.slice B' G2.length cb')) (fun _ _ => trivial))
                    have G2E := Aside0.mk (show goneL (ll : Int) In Ov (i + 1) = G2 by rw [GS.out, GQ2.out])
                    go_wp2_with fail
                    try rw [ew]
                    try rw [← HAX.out]
                    clear ew
                    go_roundg q
                    case measure => omega
                    case rel => exact ⟨i + 1, B', cb', rfl, ⟨by have := HK.out; omega⟩, HBn, by rw [G2E.out]; exact X8n, by rw [G2E.out]; exact RGn, RLn, GP2⟩
                  | succ qj =>
                    have hj : j < i := by have := HJJ.out; omega
                    have HJL := Aside0.mk hj
                    have d3 : decide ((j : Int) < (i : Int)) = true := decide_eq_true (by omega)
                    have d4 : decide (j < i) = true := decide_eq_true hj
                    have j0 : 0 ≤ (j : Int) := Int.natCast_nonneg _
                    have j1 : (j : Int) < (L.length : Int) := by omega
                    obtain ⟨ay, eb, hb0, hb1, hb2, hb3, hb4, hb5, hb6⟩ := at_T58 (Kd.R_reads' RLq.out).2.2 (j : Int) j0 j1
                    obtain rfl : ax = ay := by rw [HAX.out] at eb; cases eb; rfl
                    rw [Int.toNat_natCast] at hb0 hb1 hb2 hb3 hb4 hb5 hb6
                    have EJ := Aside0.mk (show rd_T58 L (j : Int) = L.getD j z58 by unfold rd_T58; rw [Int.toNat_natCast])
                    generalize rd_T58 L (j : Int) = mj at *
                    have ewj : wrap64 ((j : Int) + 1) = ((j + 1 : Nat) : Int) := by have h1 := LLEN.out; have h2 := HJL.out; have h3 := HKL.out; unfold wrap64; omega
                    clear eb hj hb1 hb2 hb3 hb4 hb5 hb6
                    by_cases he : mj.f0 = m.f0
                    · have e0 : (mj.f0 == m.f0) = true := beq_iff_eq.mpr he
                      have BAD := Aside0.mk (show ¬ edG v (ll : Int) In Ov out from fun h => (GPS.out.mp (goneP_pre h.1 (show i + 1 ≤ (In ++ Ov).length from KL.out))).2.2 (by
                        rw [← he, EJ.out]
                        unfold nums
                        rw [← LQ.out]
                        refine List.mem_map.mpr ⟨_, ?_, rfl⟩
                        have h2 : j < L.length := by have := HJL.out; have := HKL.out; omega
                        rw [List.getD_eq_getElem?_getD, List.getElem?_eq_getElem h2]
                        exact List.mem_iff_getElem?.mpr ⟨j, by rw [List.getElem?_take_of_lt HJL.out, List.getElem?_eq_getElem h2]; rfl⟩))
                      clear he
                      go_wp2_with fail
                      go_quiet (fail)
                      have X6q := Aside0.mk (blk_drewN (blk_below X67.out HBJ.out) nq)
                      have HBq2 := Aside0.mk (pw_below_drewN (below_step HB3.out HBq.out) nq)
                      have E1 := Aside0.mk (show xe = zE from by rw [XE.out]; unfold edV; rw [if_neg (fun h => BAD.out h.2)])
                      have E2 := Aside0.mk (show xf = 11 from by rw [XF.out]; unfold edE; rw [if_pos ASK.out, if_neg BAD.out])
                      go_wp2_with (first | (refine st_arr rfl 70 _ _ rfl g6 70 ?hx #[.int .u64 0, .int .u64 0, .int .u64 0, .slice none 0 0, .slice none 0 0] ?hy _ X6q.out (by rw [size70]; rfl) rfl (by simp [Value.oneCell']) ?_; (case hx => rfl); (case hy => rfl); intro w5 hb5 hbb hk5 hs5; have HB5 := Aside0.mk (hbb _ _ HBq2.out (show w.heap.size ≤ g6 by have := N1.out; omega)); have X65 := Aside0.mk hb5; clear hb5 hbb hk5 hs5) | fail)
                      have r0 : w5.cell? ⟨g6, 0, none⟩ = some (.int .u64 0) := (blk_cell X65.out 0).trans rfl
                      have r1 : w5.cell? ⟨g6, 1, none⟩ = some (.int .u64 0) := (blk_cell X65.out 1).trans rfl
                      have r2 : w5.cell? ⟨g6, 2, none⟩ = some (.int .u64 0) := (blk_cell X65.out 2).trans rfl
                      have r3 : w5.cell? ⟨g6, 3, none⟩ = some (.slice none 0 0) := (blk_cell X65.out 3).trans rfl
                      have r4 : w5.cell? ⟨g6, 4, none⟩ = some (.slice none 0 0) := (blk_cell X65.out 4).trans rfl
                      exact bodyPost_ret (v := .tuple #[.agg #[.int .u64 0, .int .u64 0, .int .u64 0, .slice none 0 0, .slice none 0 0], .int .i64 11]) (by simp [results, Try.results49, go_sem, r0, r1, r2, r3, r4]) rfl ⟨none, 0, none, 0, by rw [E1.out, E2.out]; rfl, by rw [E1.out]; exact Kd.R_nil _ _ _ _ _, by rw [E1.out]; exact Kd.R_nil _ _ _ _ _, HB5.out⟩
                    · have e0 : (mj.f0 == m.f0) = false := beq_eq_false_iff_ne.mpr he
                      have HNJ := Aside0.mk (show ¬ (L.getD j z58).f0 = m.f0 by rw [← EJ.out]; exact he)
                      clear he
                      go_wp2_with fail
                      go_quiet (fail)
                      go_wp2_with fail
                      try rw [ewj]
                      clear ewj ew
                      go_roundg qj
                      case measure => omega
                      case rel => exact ⟨j + 1, rfl, ⟨by have := HJJ.out; omega⟩, ⟨pw_below_drewN HBJ.out nq⟩, ⟨fun j' hj' => by
                        by_cases e : j' = j
                        · subst e; exact HNJ.out
                        · exact HNE.out j' (by omega)⟩⟩
              · rw [decide_eq_false hin]
                have BAD := Aside0.mk (show ¬ edG v (ll : Int) In Ov out from fun h => hin (GPS.out.mp (goneP_pre h.1 (show i + 1 ≤ (In ++ Ov).length from KL.out))).2.1)
                clear hin hb7
                have E1 := Aside0.mk (show xe = zE from by rw [XE.out]; unfold edV; rw [if_neg (fun h => BAD.out h.2)])
                have E2 := Aside0.mk (show xf = 11 from by rw [XF.out]; unfold edE; rw [if_pos ASK.out, if_neg BAD.out])
                go_wp2_with (first | (refine st_arr rfl 70 _ _ rfl g6 70 ?hx #[.int .u64 0, .int .u64 0, .int .u64 0, .slice none 0 0, .slice none 0 0] ?hy _ X67.out (by rw [size70]; rfl) rfl (by simp [Value.oneCell']) ?_; (case hx => rfl); (case hy => rfl); intro w5 hb5 hbb hk5 hs5; have HB5 := Aside0.mk (hbb _ _ HBF.out (show w.heap.size ≤ g6 by have := N1.out; omega)); have X65 := Aside0.mk hb5; clear hb5 hbb hk5 hs5) | fail)
                have r0 : w5.cell? ⟨g6, 0, none⟩ = some (.int .u64 0) := (blk_cell X65.out 0).trans rfl
                have r1 : w5.cell? ⟨g6, 1, none⟩ = some (.int .u64 0) := (blk_cell X65.out 1).trans rfl
                have r2 : w5.cell? ⟨g6, 2, none⟩ = some (.int .u64 0) := (blk_cell X65.out 2).trans rfl
                have r3 : w5.cell? ⟨g6, 3, none⟩ = some (.slice none 0 0) := (blk_cell X65.out 3).trans rfl
                have r4 : w5.cell? ⟨g6, 4, none⟩ = some (.slice none 0 0) := (blk_cell X65.out 4).trans rfl
                exact bodyPost_ret (v := .tuple #[.agg #[.int .u64 0, .int .u64 0, .int .u64 0, .slice none 0 0, .slice none 0 0], .int .i64 11]) (by simp [results, Try.results49, go_sem, r0, r1, r2, r3, r4]) rfl ⟨none, 0, none, 0, by rw [E1.out, E2.out]; rfl, by rw [E1.out]; exact Kd.R_nil _ _ _ _ _, by rw [E1.out]; exact Kd.R_nil _ _ _ _ _, HB5.out⟩
      · have NA := Aside0.mk (show ¬ askP v lev from fun h => by have := h.2.2; omega)
        have z0 : decide (lev < 0) = false := decide_eq_false (by omega)
        have z1 : decide ((2 : Int) < lev) = true := decide_eq_true (by omega)
        clear h0 h1
        have E1 := Aside0.mk (show xe = zE from by rw [XE.out]; unfold edV; rw [if_neg (fun h => NA.out h.1)])
        have E2 := Aside0.mk (show xf = 2 from by rw [XF.out]; unfold edE; rw [if_neg NA.out])
        go_wp2_with (first | (refine st_arr rfl 70 _ _ rfl g6 70 ?hx #[.int .u64 0, .int .u64 0, .int .u64 0, .slice none 0 0, .slice none 0 0] ?hy _ X63.out (by rw [size70]; rfl) rfl (by simp [Value.oneCell']) ?_; (case hx => rfl); (case hy => rfl); intro w5 hb5 hbb hk5 hs5; have HB5 := Aside0.mk (hbb _ _ HB3.out (show w.heap.size ≤ g6 by have := N1.out; omega)); have X65 := Aside0.mk hb5; clear hb5 hbb hk5 hs5) | fail)
        have r0 : w5.cell? ⟨g6, 0, none⟩ = some (.int .u64 0) := (blk_cell X65.out 0).trans rfl
        have r1 : w5.cell? ⟨g6, 1, none⟩ = some (.int .u64 0) := (blk_cell X65.out 1).trans rfl
        have r2 : w5.cell? ⟨g6, 2, none⟩ = some (.int .u64 0) := (blk_cell X65.out 2).trans rfl
        have r3 : w5.cell? ⟨g6, 3, none⟩ = some (.slice none 0 0) := (blk_cell X65.out 3).trans rfl
        have r4 : w5.cell? ⟨g6, 4, none⟩ = some (.slice none 0 0) := (blk_cell X65.out 4).trans rfl
        exact bodyPost_ret (v := .tuple #[.agg #[.int .u64 0, .int .u64 0, .int .u64 0, .slice none 0 0, .slice none 0 0], .int .i64 2]) (by simp [results, Try.results49, go_sem, r0, r1, r2, r3, r4]) rfl ⟨none, 0, none, 0, by rw [E1.out, E2.out]; rfl, by rw [E1.out]; exact Kd.R_nil _ _ _ _ _, by rw [E1.out]; exact Kd.R_nil _ _ _ _ _, HB5.out⟩
    · have NA := Aside0.mk (show ¬ askP v lev from fun h => by have := h.2.1; omega)
      have z0 : decide (lev < 0) = true := decide_eq_true (by omega)
      clear h0
      have E1 := Aside0.mk (show xe = zE from by rw [XE.out]; unfold edV; rw [if_neg (fun h => NA.out h.1)])
      have E2 := Aside0.mk (show xf = 2 from by rw [XF.out]; unfold edE; rw [if_neg NA.out])
      go_wp2_with (first | (refine st_arr rfl 70 _ _ rfl g6 70 ?hx #[.int .u64 0, .int .u64 0, .int .u64 0, .slice none 0 0, .slice none 0 0] ?hy _ X63.out (by rw [size70]; rfl) rfl (by simp [Value.oneCell']) ?_; (case hx => rfl); (case hy => rfl); intro w5 hb5 hbb hk5 hs5; have HB5 := Aside0.mk (hbb _ _ HB3.out (show w.heap.size ≤ g6 by have := N1.out; omega)); have X65 := Aside0.mk hb5; clear hb5 hbb hk5 hs5) | fail)
      have r0 : w5.cell? ⟨g6, 0, none⟩ = some (.int .u64 0) := (blk_cell X65.out 0).trans rfl
      have r1 : w5.cell? ⟨g6, 1, none⟩ = some (.int .u64 0) := (blk_cell X65.out 1).trans rfl
      have r2 : w5.cell? ⟨g6, 2, none⟩ = some (.int .u64 0) := (blk_cell X65.out 2).trans rfl
      have r3 : w5.cell? ⟨g6, 3, none⟩ = some (.slice none 0 0) := (blk_cell X65.out 3).trans rfl
      have r4 : w5.cell? ⟨g6, 4, none⟩ = some (.slice none 0 0) := (blk_cell X65.out 4).trans rfl
      exact bodyPost_ret (v := .tuple #[.agg #[.int .u64 0, .int .u64 0, .int .u64 0, .slice none 0 0, .slice none 0 0], .int .i64 2]) (by simp [results, Try.results49, go_sem, r0, r1, r2, r3, r4]) rfl ⟨none, 0, none, 0, by rw [E1.out, E2.out]; rfl, by rw [E1.out]; exact Kd.R_nil _ _ _ _ _, by rw [E1.out]; exact Kd.R_nil _ _ _ _ _, HB5.out⟩
  · rw [decide_eq_false hr]
    have NA := Aside0.mk (show ¬ askP v lev from fun h => hr h.1)
    clear hr
    have E1 := Aside0.mk (show xe = zE from by rw [XE.out]; unfold edV; rw [if_neg (fun h => NA.out h.1)])
    have E2 := Aside0.mk (show xf = 2 from by rw [XF.out]; unfold edE; rw [if_neg NA.out])
    go_wp2_with (first | (refine st_arr rfl 70 _ _ rfl g6 70 ?hx #[.int .u64 0, .int .u64 0, .int .u64 0, .slice none 0 0, .slice none 0 0] ?hy _ X63.out (by rw [size70]; rfl) rfl (by simp [Value.oneCell']) ?_; (case hx => rfl); (case hy => rfl); intro w5 hb5 hbb hk5 hs5; have HB5 := Aside0.mk (hbb _ _ HB3.out (show w.heap.size ≤ g6 by have := N1.out; omega)); have X65 := Aside0.mk hb5; clear hb5 hbb hk5 hs5) | fail)
    have r0 : w5.cell? ⟨g6, 0, none⟩ = some (.int .u64 0) := (blk_cell X65.out 0).trans rfl
    have r1 : w5.cell? ⟨g6, 1, none⟩ = some (.int .u64 0) := (blk_cell X65.out 1).trans rfl
    have r2 : w5.cell? ⟨g6, 2, none⟩ = some (.int .u64 0) := (blk_cell X65.out 2).trans rfl
    have r3 : w5.cell? ⟨g6, 3, none⟩ = some (.slice none 0 0) := (blk_cell X65.out 3).trans rfl
    have r4 : w5.cell? ⟨g6, 4, none⟩ = some (.slice none 0 0) := (blk_cell X65.out 4).trans rfl
    exact bodyPost_ret (v := .tuple #[.agg #[.int .u64 0, .int .u64 0, .int .u64 0, .slice none 0 0, .slice none 0 0], .int .i64 2]) (by simp [results, Try.results49, go_sem, r0, r1, r2, r3, r4]) rfl ⟨none, 0, none, 0, by rw [E1.out, E2.out]; rfl, by rw [E1.out]; exact Kd.R_nil _ _ _ _ _, by rw [E1.out]; exact Kd.R_nil _ _ _ _ _, HB5.out⟩
end Go.Proofs.Ytkjepfofiegcdaa.V
