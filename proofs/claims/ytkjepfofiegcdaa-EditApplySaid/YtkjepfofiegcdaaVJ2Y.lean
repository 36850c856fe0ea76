import Derived.Test.YtkjepfofiegcdaaVM4Y
import Derived.Test.YtkjepfofiegcdaaVM5Y
import Derived.Test.YtkjepfofiegcdaaVX3Y
import Derived.Deep.CutRange
/- freshetref14.Apply (55), walked: it answers applyV. Conditions: at most 100000 tables a level, 100000 added; the numbers are such as the machine has. -/
namespace Go.Proofs.Ytkjepfofiegcdaa.V
set_option linter.unusedVariables false
set_option linter.unusedSimpArgs false
open Go.RowKit Go.Proofs.YtkjepfofiegcdaaW.PrintWords Go.Proofs.YtkjepfofiegcdaaW.PrintLast Go.Proofs.YtkjepfofiegcdaaW.PrintMore Go.Proofs.Ytkjepfofiegcdaa.PB14
attribute [local go_sem] max_two
/-- Four rows, each readable and owned. -/
def RowsR (w : World) (base : Nat) (u : Ver) (p : Pl) : Prop := ∀ i, i < 4 → Kd.R k58 58 w base (fun _ => True) (slV u p i) (u.lv i)
theorem RowsR.vc {w : World} {base : Nat} {u : Ver} {p : Pl} (h : RowsR w base u p) : VC w u p := fun i hi => by
  have h1 := Kd.R_reads' (h i hi)
  exact ⟨h1.2.2, h1.2.1⟩
theorem RowsR.below {w w' : World} {base : Nat} {u : Ver} {p : Pl} (h : RowsR w base u p) (hb : Below w.heap.size w w') : RowsR w' base u p := fun i hi => Kd.R_below (h i hi) hb
theorem RowsR.set {w : World} {base : Nat} {u : Ver} {p : Pl} (h : RowsR w base u p) {g t : Nat} {cs : Array Value} (hx : w.heap[g]? = some (.cells cs t (0, 0))) (ht : t ≠ 58) (j : Nat) (v : Value) : RowsR (w.setCell ⟨g, j, none⟩ v) base u p :=
  fun i hi => Kd.R_mono (Kd.R_set (h i hi) hx (by intro x hq; simp [show k58.E = [] from rfl] at hq; omega) j v) (fun _ _ => trivial)
theorem RowsR.step {w w' : World} {base : Nat} {u : Ver} {p : Pl} (h : RowsR w base u p) (hb : Below w.heap.size w w') {i : Nat} (hi : i < 4) {l : List S58} {B : Option Addr} {cb : Nat} (hR : Kd.R k58 58 w' base (fun _ => True) (.slice B l.length cb) l) : RowsR w' base (u.set i l) (p.set i B cb) := fun j hj => by
  rw [slV_set u p i j hi hj, Ver.set_lv u i j hi hj]
  by_cases e : j = i
  · rw [if_pos e, if_pos e]; exact hR
  · rw [if_neg e, if_neg e]; exact Kd.R_below (h j hj) hb
theorem RowsR.zero (w : World) (base : Nat) (u : Ver) (hu : ∀ i, i < 4 → u.lv i = []) : RowsR w base u firstP := fun i hi => by
  rw [show slV u firstP i = .slice none 0 0 by unfold slV; rw [hu i hi]; rcases (by omega : i = 0 ∨ i = 1 ∨ i = 2 ∨ i = 3) with rfl | rfl | rfl | rfl <;> rfl, hu i hi]
  exact Kd.R_nil _ _ _ _ _
theorem RowsR.other {w w' : World} {base : Nat} {u : Ver} {p : Pl} (h : RowsR w base u p) {g t : Nat} {cs : Array Value} (hx : w.heap[g]? = some (.cells cs t (0, 0))) (ht : t ≠ 58) (hk : ∀ k, k ≠ g → w'.heap[k]? = w.heap[k]?) : RowsR w' base u p :=
  fun i hi => Kd.R_mono (Kd.R_step (Kd.R_types (h i hi) hx (by intro x hq; simp [show k58.E = [] from rfl] at hq; omega)) (fun k ho _ => hk k ho.2)) (fun _ _ => trivial)
theorem max_later {was n : Int} (h : laterB was n = true) (hw : 0 ≤ was) : (if was < n then n else was) = laterN was n := by
  unfold laterN
  unfold laterB at h
  rw [Bool.or_eq_true, decide_eq_true_eq, decide_eq_true_eq] at h
  by_cases e : n = 0
  · rw [if_pos e, if_neg (by omega)]
  · rw [if_neg e]
    by_cases e2 : was < n
    · rw [if_pos e2]
    · rw [if_neg e2]; omega
theorem max_num {was n : Int} (h : laterB was n = true) (hw : 0 ≤ was) : Builtin.max2 (.int .u64 was) (.int .u64 n) = pure (.int .u64 (laterN was n)) := by
  rw [max2_int, max_later h hw]
theorem withoutB_calls (w : World) (A : Option Addr) (c : Nat) (l : List S58) (n : Int) (b : Bool) (hC : k58.C w A l.length l) (hl : l.length ≤ 1000000000) (hb : decide (n ∈ nums l) = b) :
    Calls Try.prog 109 #[.slice A l.length c, .int .u64 n] w fun e w' => ∃ (B : Option Addr) (cb : Nat), e = .returned (.tuple #[.slice B (woL l n).length cb, .bool b]) ∧ Kd.R k58 58 w' w.heap.size (fun _ => True) (.slice B (woL l n).length cb) (woL l n) ∧ Below w.heap.size w w' := by
  have h := without_calls w A c l n hC hl
  have e : decide ((woL l n).length < l.length) = b := by rw [← hb]; exact decide_eq_decide.mpr woL_short
  rw [e] at h
  exact h
theorem headV_lvs (v : Ver) : ∀ i, i < 4 → (headV v 0).lv i = [] := fun i hi => by
  rcases (by omega : i = 0 ∨ i = 1 ∨ i = 2 ∨ i = 3) with rfl | rfl | rfl | rfl <;> rfl
set_option maxHeartbeats 8000000 in
set_option maxRecDepth 100000 in
theorem applyR_calls (w : World) (v : Ver) (p : Pl) (e : Edt) (A1 A2 : Option Addr) (c1 c2 : Nat) (hC : VC w v p) (hW : VW v) (h1 : k84.C w A1 e.gone.length e.gone) (h2 : k82.C w A2 e.added.length e.added) (hn : ∀ i, i < 4 → (v.lv i).length ≤ 100000) (hga : e.added.length ≤ 100000) (p0 : 0 ≤ v.log) (p1 : 0 ≤ v.next) (p2 : 0 ≤ v.seq) :
    Calls Try.prog 55 #[.agg (vCs v p), .agg (eCs e A1 c1 A2 c2)] w fun x w' => ∃ q : Pl, x = .returned (.tuple #[.agg (vCs (applyV v e).1 q), .int .i64 (applyV v e).2]) ∧ VC w' (applyV v e).1 q ∧ Below w.heap.size w w' := by
  obtain ⟨u, r, hur⟩ : ∃ u r, applyV v e = (u, r) := ⟨_, _, rfl⟩
  rw [hur]
  have UR := Aside0.mk hur
  have HW := Aside0.mk hW
  have HLN := Aside0.mk hn
  have HLA := Aside0.mk hga
  have P0 := Aside0.mk p0
  have P1 := Aside0.mk p1
  have P2 := Aside0.mk p2
  clear hur hW hn hga p0 p1 p2
  have HC := Aside0.mk hC
  have H1 := Aside0.mk h1
  have H2 := Aside0.mk h2
  have HB := Aside0.mk (below_alloc (below_alloc ((Below.refl w.heap.size w).alloc (Nat.le_refl _) (.cells (vCs v p) 26)) (.cells (eCs e A1 c1 A2 c2) 70)) (.cells #[.int .u64 0, .int .u64 0, .int .u64 0, .slice none 0 0, .slice none 0 0, .slice none 0 0, .slice none 0 0] 26))
  have X1 := Aside0.mk (blk_alloc (blk_alloc (blk_new w (.cells (vCs v p) 26)) (.cells (eCs e A1 c1 A2 c2) 70)) (.cells #[.int .u64 0, .int .u64 0, .int .u64 0, .slice none 0 0, .slice none 0 0, .slice none 0 0, .slice none 0 0] 26))
  have X2 := Aside0.mk (blk_alloc (blk_new (w.alloc (.cells (vCs v p) 26)) (.cells (eCs e A1 c1 A2 c2) 70)) (.cells #[.int .u64 0, .int .u64 0, .int .u64 0, .slice none 0 0, .slice none 0 0, .slice none 0 0, .slice none 0 0] 26))
  have X3 := Aside0.mk (blk_new ((w.alloc (.cells (vCs v p) 26)).alloc (.cells (eCs e A1 c1 A2 c2) 70)) (.cells #[.int .u64 0, .int .u64 0, .int .u64 0, .slice none 0 0, .slice none 0 0, .slice none 0 0, .slice none 0 0] 26))
  clear hC h1 h2
  go_enter Try.func55, Try.ntmps55
  go_upto_region 1 with (fail)
  generalize hg3 : ((w.alloc (.cells (vCs v p) 26)).alloc (.cells (eCs e A1 c1 A2 c2) 70)).heap.size = g3 at *
  have e3 : w.heap.size + 1 + 1 = g3 := by rw [← hg3]; simp
  generalize hg2 : (w.alloc (.cells (vCs v p) 26)).heap.size = g2 at *
  have e2 : w.heap.size + 1 = g2 := by rw [← hg2]; simp
  try rw [e3]
  try rw [e2]
  have N2 := Aside0.mk (show w.heap.size < g2 by omega)
  have N3 := Aside0.mk (show g2 < g3 by omega)
  clear hg3 e3 hg2 e2
  generalize ((w.alloc (.cells (vCs v p) 26)).alloc (.cells (eCs e A1 c1 A2 c2) 70)).alloc (.cells #[.int .u64 0, .int .u64 0, .int .u64 0, .slice none 0 0, .slice none 0 0, .slice none 0 0, .slice none 0 0] 26) = w1 at *
  obtain ⟨ba, hba⟩ : ∃ ba : Bool, ba = true ↔ ¬ askE v e := by
    by_cases h : askE v e
    · exact ⟨false, ⟨(fun h2 => by cases h2), fun h2 => absurd h h2⟩⟩
    · exact ⟨true, ⟨fun _ => h, fun _ => rfl⟩⟩
  have BT := Aside0.mk hba
  clear hba
  go_cut [59] from 16 to 59 (fun c wx => c = .bool ba ∧ Aside0 (Below w.heap.size w wx) ∧ Aside0 (wx.heap[w.heap.size]? = some (.cells (vCs v p) 26 (0, 0))) ∧ Aside0 (wx.heap[g2]? = some (.cells (eCs e A1 c1 A2 c2) 70 (0, 0))) ∧ Aside0 (wx.heap[g3]? = some (.cells #[.int .u64 0, .int .u64 0, .int .u64 0, .slice none 0 0, .slice none 0 0, .slice none 0 0, .slice none 0 0] 26 (0, 0))))
  case first =>
    have b0 : w1.cell? ⟨w.heap.size, 0, none⟩ = some (.int .u64 v.log) := (blk_cell X1.out 0).trans rfl
    have b1 : w1.cell? ⟨w.heap.size, 1, none⟩ = some (.int .u64 v.next) := (blk_cell X1.out 1).trans rfl
    have b2 : w1.cell? ⟨w.heap.size, 2, none⟩ = some (.int .u64 v.seq) := (blk_cell X1.out 2).trans rfl
    have b3 : w1.cell? ⟨w.heap.size, 3, none⟩ = some (.slice p.a0 v.l0.length p.c0) := (blk_cell X1.out 3).trans rfl
    have b4 : w1.cell? ⟨w.heap.size, 4, none⟩ = some (.slice p.a1 v.l1.length p.c1) := (blk_cell X1.out 4).trans rfl
    have b5 : w1.cell? ⟨w.heap.size, 5, none⟩ = some (.slice p.a2 v.l2.length p.c2) := (blk_cell X1.out 5).trans rfl
    have b6 : w1.cell? ⟨w.heap.size, 6, none⟩ = some (.slice p.a3 v.l3.length p.c3) := (blk_cell X1.out 6).trans rfl
    go_wp2_with fail
    refine (rightR_calls _ v p (HC.out.below HB.out)).mono ?_
    rintro x w2 ⟨rfl, hb⟩
    have HB2 := Aside0.mk (below_step HB.out hb)
    have X12 := Aside0.mk (blk_below X1.out hb)
    have X22 := Aside0.mk (blk_below X2.out hb)
    have X32 := Aside0.mk (blk_below X3.out hb)
    clear hb b0 b1 b2 b3 b4 b5 b6
    by_cases hr : rightP v
    · rw [decide_eq_true hr]
      have RV := Aside0.mk hr
      clear hr
      have b0 : w2.cell? ⟨w.heap.size, 0, none⟩ = some (.int .u64 v.log) := (blk_cell X12.out 0).trans rfl
      have b1 : w2.cell? ⟨w.heap.size, 1, none⟩ = some (.int .u64 v.next) := (blk_cell X12.out 1).trans rfl
      have b2 : w2.cell? ⟨w.heap.size, 2, none⟩ = some (.int .u64 v.seq) := (blk_cell X12.out 2).trans rfl
      have b3 : w2.cell? ⟨w.heap.size, 3, none⟩ = some (.slice p.a0 v.l0.length p.c0) := (blk_cell X12.out 3).trans rfl
      have b4 : w2.cell? ⟨w.heap.size, 4, none⟩ = some (.slice p.a1 v.l1.length p.c1) := (blk_cell X12.out 4).trans rfl
      have b5 : w2.cell? ⟨w.heap.size, 5, none⟩ = some (.slice p.a2 v.l2.length p.c2) := (blk_cell X12.out 5).trans rfl
      have b6 : w2.cell? ⟨w.heap.size, 6, none⟩ = some (.slice p.a3 v.l3.length p.c3) := (blk_cell X12.out 6).trans rfl
      have e0 : w2.cell? ⟨g2, 0, none⟩ = some (.int .u64 e.log) := (blk_cell X22.out 0).trans rfl
      have e1 : w2.cell? ⟨g2, 1, none⟩ = some (.int .u64 e.next) := (blk_cell X22.out 1).trans rfl
      have e2 : w2.cell? ⟨g2, 2, none⟩ = some (.int .u64 e.seq) := (blk_cell X22.out 2).trans rfl
      have e3 : w2.cell? ⟨g2, 3, none⟩ = some (.slice A1 e.gone.length c1) := (blk_cell X22.out 3).trans rfl
      have e4 : w2.cell? ⟨g2, 4, none⟩ = some (.slice A2 e.added.length c2) := (blk_cell X22.out 4).trans rfl
      by_cases ne0 : e.log = 0
      · have na0 : decide (e.log = 0) = true := decide_eq_true ne0
        have nb0 : (e.log == 0) = true := beq_iff_eq.mpr ne0
        have nc0 : (e.log != 0) = false := by rw [bne, nb0]; rfl
        have nd0 : decide (¬ e.log = 0) = false := decide_eq_false (fun h => h ne0)
        have NE0 := Aside0.mk (show laterB v.log e.log = true by unfold laterB; rw [na0]; rfl)
        clear ne0
        by_cases ne1 : e.next = 0
        · have na1 : decide (e.next = 0) = true := decide_eq_true ne1
          have nb1 : (e.next == 0) = true := beq_iff_eq.mpr ne1
          have nc1 : (e.next != 0) = false := by rw [bne, nb1]; rfl
          have nd1 : decide (¬ e.next = 0) = false := decide_eq_false (fun h => h ne1)
          have NE1 := Aside0.mk (show laterB v.next e.next = true by unfold laterB; rw [na1]; rfl)
          clear ne1
          by_cases ne2 : e.seq = 0
          · have na2 : decide (e.seq = 0) = true := decide_eq_true ne2
            have nb2 : (e.seq == 0) = true := beq_iff_eq.mpr ne2
            have nc2 : (e.seq != 0) = false := by rw [bne, nb2]; rfl
            have nd2 : decide (¬ e.seq = 0) = false := decide_eq_false (fun h => h ne2)
            have NE2 := Aside0.mk (show laterB v.seq e.seq = true by unfold laterB; rw [na2]; rfl)
            clear ne2
            by_cases hl : listedP e
            · have LP_ := hl
              have GOOD := Aside0.mk (show askE v e from ⟨⟨RV.out, NE0.out, NE1.out, NE2.out⟩, hl⟩)
              go_wp2_with fail
              refine (listedR_calls _ e A1 A2 c1 c2 (Kd.C_below H1.out HB2.out) (Kd.C_below H2.out HB2.out)).mono ?_
              rintro x w4 ⟨rfl, hb⟩
              rw [decide_eq_true LP_]
              have HB4 := Aside0.mk (below_step HB2.out hb)
              have X14 := Aside0.mk (blk_below X12.out hb)
              have X24 := Aside0.mk (blk_below X22.out hb)
              have X34 := Aside0.mk (blk_below X32.out hb)
              clear hb
              go_wp2_with fail
              go_meet
              exact ⟨congrArg Value.bool ((show ba = false from by cases hb_ : ba with | false => rfl | true => exact absurd GOOD.out (BT.out.mp hb_)).symm), HB4, X14, X24, X34⟩
            · have LP_ := hl
              have BAD := Aside0.mk (show ¬ askE v e from fun h => hl h.2)
              go_wp2_with fail
              refine (listedR_calls _ e A1 A2 c1 c2 (Kd.C_below H1.out HB2.out) (Kd.C_below H2.out HB2.out)).mono ?_
              rintro x w4 ⟨rfl, hb⟩
              rw [decide_eq_false LP_]
              have HB4 := Aside0.mk (below_step HB2.out hb)
              have X14 := Aside0.mk (blk_below X12.out hb)
              have X24 := Aside0.mk (blk_below X22.out hb)
              have X34 := Aside0.mk (blk_below X32.out hb)
              clear hb
              go_wp2_with fail
              go_meet
              exact ⟨congrArg Value.bool ((BT.out.mpr BAD.out).symm), HB4, X14, X24, X34⟩
          · have na2 : decide (e.seq = 0) = false := decide_eq_false ne2
            have nb2 : (e.seq == 0) = false := beq_eq_false_iff_ne.mpr ne2
            have nc2 : (e.seq != 0) = true := bne_iff_ne.mpr ne2
            have nd2 : decide (¬ e.seq = 0) = true := decide_eq_true ne2
            clear ne2
            by_cases nl2 : e.seq < v.seq
            · have ng2 : decide (e.seq < v.seq) = true := decide_eq_true nl2
              have BAD := Aside0.mk (show ¬ askE v e from fun h => by
                have h1 := h.1.2.2.2
                unfold laterB at h1
                rw [na2, Bool.false_or, decide_eq_true_eq] at h1
                omega)
              clear nl2
              go_wp2_with fail
              go_meet
              exact ⟨congrArg Value.bool ((BT.out.mpr BAD.out).symm), HB2, X12, X22, X32⟩
            · have ng2 : decide (e.seq < v.seq) = false := decide_eq_false nl2
              have NE2 := Aside0.mk (show laterB v.seq e.seq = true by unfold laterB; rw [na2, Bool.false_or]; exact decide_eq_true (by omega))
              clear nl2
              by_cases hl : listedP e
              · have LP_ := hl
                have GOOD := Aside0.mk (show askE v e from ⟨⟨RV.out, NE0.out, NE1.out, NE2.out⟩, hl⟩)
                go_wp2_with fail
                refine (listedR_calls _ e A1 A2 c1 c2 (Kd.C_below H1.out HB2.out) (Kd.C_below H2.out HB2.out)).mono ?_
                rintro x w4 ⟨rfl, hb⟩
                rw [decide_eq_true LP_]
                have HB4 := Aside0.mk (below_step HB2.out hb)
                have X14 := Aside0.mk (blk_below X12.out hb)
                have X24 := Aside0.mk (blk_below X22.out hb)
                have X34 := Aside0.mk (blk_below X32.out hb)
                clear hb
                go_wp2_with fail
                go_meet
                exact ⟨congrArg Value.bool ((show ba = false from by cases hb_ : ba with | false => rfl | true => exact absurd GOOD.out (BT.out.mp hb_)).symm), HB4, X14, X24, X34⟩
              · have LP_ := hl
                have BAD := Aside0.mk (show ¬ askE v e from fun h => hl h.2)
                go_wp2_with fail
                refine (listedR_calls _ e A1 A2 c1 c2 (Kd.C_below H1.out HB2.out) (Kd.C_below H2.out HB2.out)).mono ?_
                rintro x w4 ⟨rfl, hb⟩
                rw [decide_eq_false LP_]
                have HB4 := Aside0.mk (below_step HB2.out hb)
                have X14 := Aside0.mk (blk_below X12.out hb)
                have X24 := Aside0.mk (blk_below X22.out hb)
                have X34 := Aside0.mk (blk_below X32.out hb)
                clear hb
                go_wp2_with fail
                go_meet
                exact ⟨congrArg Value.bool ((BT.out.mpr BAD.out).symm), HB4, X14, X24, X34⟩
        · have na1 : decide (e.next = 0) = false := decide_eq_false ne1
          have nb1 : (e.next == 0) = false := beq_eq_false_iff_ne.mpr ne1
          have nc1 : (e.next != 0) = true := bne_iff_ne.mpr ne1
          have nd1 : decide (¬ e.next = 0) = true := decide_eq_true ne1
          clear ne1
          by_cases nl1 : e.next < v.next
          · have ng1 : decide (e.next < v.next) = true := decide_eq_true nl1
            have BAD := Aside0.mk (show ¬ askE v e from fun h => by
              have h1 := h.1.2.2.1
              unfold laterB at h1
              rw [na1, Bool.false_or, decide_eq_true_eq] at h1
              omega)
            clear nl1
            go_wp2_with fail
            go_meet
            exact ⟨congrArg Value.bool ((BT.out.mpr BAD.out).symm), HB2, X12, X22, X32⟩
          · have ng1 : decide (e.next < v.next) = false := decide_eq_false nl1
            have NE1 := Aside0.mk (show laterB v.next e.next = true by unfold laterB; rw [na1, Bool.false_or]; exact decide_eq_true (by omega))
            clear nl1
            by_cases ne2 : e.seq = 0
            · have na2 : decide (e.seq = 0) = true := decide_eq_true ne2
              have nb2 : (e.seq == 0) = true := beq_iff_eq.mpr ne2
              have nc2 : (e.seq != 0) = false := by rw [bne, nb2]; rfl
              have nd2 : decide (¬ e.seq = 0) = false := decide_eq_false (fun h => h ne2)
              have NE2 := Aside0.mk (show laterB v.seq e.seq = true by unfold laterB; rw [na2]; rfl)
              clear ne2
              by_cases hl : listedP e
              · have LP_ := hl
                have GOOD := Aside0.mk (show askE v e from ⟨⟨RV.out, NE0.out, NE1.out, NE2.out⟩, hl⟩)
                go_wp2_with fail
                refine (listedR_calls _ e A1 A2 c1 c2 (Kd.C_below H1.out HB2.out) (Kd.C_below H2.out HB2.out)).mono ?_
                rintro x w4 ⟨rfl, hb⟩
                rw [decide_eq_true LP_]
                have HB4 := Aside0.mk (below_step HB2.out hb)
                have X14 := Aside0.mk (blk_below X12.out hb)
                have X24 := Aside0.mk (blk_below X22.out hb)
                have X34 := Aside0.mk (blk_below X32.out hb)
                clear hb
                go_wp2_with fail
                go_meet
                exact ⟨congrArg Value.bool ((show ba = false from by cases hb_ : ba with | false => rfl | true => exact absurd GOOD.out (BT.out.mp hb_)).symm), HB4, X14, X24, X34⟩
              · have LP_ := hl
                have BAD := Aside0.mk (show ¬ askE v e from fun h => hl h.2)
                go_wp2_with fail
                refine (listedR_calls _ e A1 A2 c1 c2 (Kd.C_below H1.out HB2.out) (Kd.C_below H2.out HB2.out)).mono ?_
                rintro x w4 ⟨rfl, hb⟩
                rw [decide_eq_false LP_]
                have HB4 := Aside0.mk (below_step HB2.out hb)
                have X14 := Aside0.mk (blk_below X12.out hb)
                have X24 := Aside0.mk (blk_below X22.out hb)
                have X34 := Aside0.mk (blk_below X32.out hb)
                clear hb
                go_wp2_with fail
                go_meet
                exact ⟨congrArg Value.bool ((BT.out.mpr BAD.out).symm), HB4, X14, X24, X34⟩
            · have na2 : decide (e.seq = 0) = false := decide_eq_false ne2
              have nb2 : (e.seq == 0) = false := beq_eq_false_iff_ne.mpr ne2
              have nc2 : (e.seq != 0) = true := bne_iff_ne.mpr ne2
              have nd2 : decide (¬ e.seq = 0) = true := decide_eq_true ne2
              clear ne2
              by_cases nl2 : e.seq < v.seq
              · have ng2 : decide (e.seq < v.seq) = true := decide_eq_true nl2
                have BAD := Aside0.mk (show ¬ askE v e from fun h => by
                  have h1 := h.1.2.2.2
                  unfold laterB at h1
                  rw [na2, Bool.false_or, decide_eq_true_eq] at h1
                  omega)
                clear nl2
                go_wp2_with fail
                go_meet
                exact ⟨congrArg Value.bool ((BT.out.mpr BAD.out).symm), HB2, X12, X22, X32⟩
              · have ng2 : decide (e.seq < v.seq) = false := decide_eq_false nl2
                have NE2 := Aside0.mk (show laterB v.seq e.seq = true by unfold laterB; rw [na2, Bool.false_or]; exact decide_eq_true (by omega))
                clear nl2
                by_cases hl : listedP e
                · have LP_ := hl
                  have GOOD := Aside0.mk (show askE v e from ⟨⟨RV.out, NE0.out, NE1.out, NE2.out⟩, hl⟩)
                  go_wp2_with fail
                  refine (listedR_calls _ e A1 A2 c1 c2 (Kd.C_below H1.out HB2.out) (Kd.C_below H2.out HB2.out)).mono ?_
                  rintro x w4 ⟨rfl, hb⟩
                  rw [decide_eq_true LP_]
                  have HB4 := Aside0.mk (below_step HB2.out hb)
                  have X14 := Aside0.mk (blk_below X12.out hb)
                  have X24 := Aside0.mk (blk_below X22.out hb)
                  have X34 := Aside0.mk (blk_below X32.out hb)
                  clear hb
                  go_wp2_with fail
                  go_meet
                  exact ⟨congrArg Value.bool ((show ba = false from by cases hb_ : ba with | false => rfl | true => exact absurd GOOD.out (BT.out.mp hb_)).symm), HB4, X14, X24, X34⟩
                · have LP_ := hl
                  have BAD := Aside0.mk (show ¬ askE v e from fun h => hl h.2)
                  go_wp2_with fail
                  refine (listedR_calls _ e A1 A2 c1 c2 (Kd.C_below H1.out HB2.out) (Kd.C_below H2.out HB2.out)).mono ?_
                  rintro x w4 ⟨rfl, hb⟩
                  rw [decide_eq_false LP_]
                  have HB4 := Aside0.mk (below_step HB2.out hb)
                  have X14 := Aside0.mk (blk_below X12.out hb)
                  have X24 := Aside0.mk (blk_below X22.out hb)
                  have X34 := Aside0.mk (blk_below X32.out hb)
                  clear hb
                  go_wp2_with fail
                  go_meet
                  exact ⟨congrArg Value.bool ((BT.out.mpr BAD.out).symm), HB4, X14, X24, X34⟩
      · have na0 : decide (e.log = 0) = false := decide_eq_false ne0
        have nb0 : (e.log == 0) = false := beq_eq_false_iff_ne.mpr ne0
        have nc0 : (e.log != 0) = true := bne_iff_ne.mpr ne0
        have nd0 : decide (¬ e.log = 0) = true := decide_eq_true ne0
        clear ne0
        by_cases nl0 : e.log < v.log
        · have ng0 : decide (e.log < v.log) = true := decide_eq_true nl0
          have BAD := Aside0.mk (show ¬ askE v e from fun h => by
            have h1 := h.1.2.1
            unfold laterB at h1
            rw [na0, Bool.false_or, decide_eq_true_eq] at h1
            omega)
          clear nl0
          go_wp2_with fail
          go_meet
          exact ⟨congrArg Value.bool ((BT.out.mpr BAD.out).symm), HB2, X12, X22, X32⟩
        · have ng0 : decide (e.log < v.log) = false := decide_eq_false nl0
          have NE0 := Aside0.mk (show laterB v.log e.log = true by unfold laterB; rw [na0, Bool.false_or]; exact decide_eq_true (by omega))
          clear nl0
          by_cases ne1 : e.next = 0
          · have na1 : decide (e.next = 0) = true := decide_eq_true ne1
            have nb1 : (e.next == 0) = true := beq_iff_eq.mpr ne1
            have nc1 : (e.next != 0) = false := by rw [bne, nb1]; rfl
            have nd1 : decide (¬ e.next = 0) = false := decide_eq_false (fun h => h ne1)
            have NE1 := Aside0.mk (show laterB v.next e.next = true by unfold laterB; rw [na1]; rfl)
            clear ne1
            by_cases ne2 : e.seq = 0
            · have na2 : decide (e.seq = 0) = true := decide_eq_true ne2
              have nb2 : (e.seq == 0) = true := beq_iff_eq.mpr ne2
              have nc2 : (e.seq != 0) = false := by rw [bne, nb2]; rfl
              have nd2 : decide (¬ e.seq = 0) = false := decide_eq_false (fun h => h ne2)
              have NE2 := Aside0.mk (show laterB v.seq e.seq = true by unfold laterB; rw [na2]; rfl)
              clear ne2
              by_cases hl : listedP e
              · have LP_ := hl
                have GOOD := Aside0.mk (show askE v e from ⟨⟨RV.out, NE0.out, NE1.out, NE2.out⟩, hl⟩)
                go_wp2_with fail
                refine (listedR_calls _ e A1 A2 c1 c2 (Kd.C_below H1.out HB2.out) (Kd.C_below H2.out HB2.out)).mono ?_
                rintro x w4 ⟨rfl, hb⟩
                rw [decide_eq_true LP_]
                have HB4 := Aside0.mk (below_step HB2.out hb)
                have X14 := Aside0.mk (blk_below X12.out hb)
                have X24 := Aside0.mk (blk_below X22.out hb)
                have X34 := Aside0.mk (blk_below X32.out hb)
                clear hb
                go_wp2_with fail
                go_meet
                exact ⟨congrArg Value.bool ((show ba = false from by cases hb_ : ba with | false => rfl | true => exact absurd GOOD.out (BT.out.mp hb_)).symm), HB4, X14, X24, X34⟩
              · have LP_ := hl
                have BAD := Aside0.mk (show ¬ askE v e from fun h => hl h.2)
                go_wp2_with fail
                refine (listedR_calls _ e A1 A2 c1 c2 (Kd.C_below H1.out HB2.out) (Kd.C_below H2.out HB2.out)).mono ?_
                rintro x w4 ⟨rfl, hb⟩
                rw [decide_eq_false LP_]
                have HB4 := Aside0.mk (below_step HB2.out hb)
                have X14 := Aside0.mk (blk_below X12.out hb)
                have X24 := Aside0.mk (blk_below X22.out hb)
                have X34 := Aside0.mk (blk_below X32.out hb)
                clear hb
                go_wp2_with fail
                go_meet
                exact ⟨congrArg Value.bool ((BT.out.mpr BAD.out).symm), HB4, X14, X24, X34⟩
            · have na2 : decide (e.seq = 0) = false := decide_eq_false ne2
              have nb2 : (e.seq == 0) = false := beq_eq_false_iff_ne.mpr ne2
              have nc2 : (e.seq != 0) = true := bne_iff_ne.mpr ne2
              have nd2 : decide (¬ e.seq = 0) = true := decide_eq_true ne2
              clear ne2
              by_cases nl2 : e.seq < v.seq
              · have ng2 : decide (e.seq < v.seq) = true := decide_eq_true nl2
                have BAD := Aside0.mk (show ¬ askE v e from fun h => by
                  have h1 := h.1.2.2.2
                  unfold laterB at h1
                  rw [na2, Bool.false_or, decide_eq_true_eq] at h1
                  omega)
                clear nl2
                go_wp2_with fail
                go_meet
                exact ⟨congrArg Value.bool ((BT.out.mpr BAD.out).symm), HB2, X12, X22, X32⟩
              · have ng2 : decide (e.seq < v.seq) = false := decide_eq_false nl2
                have NE2 := Aside0.mk (show laterB v.seq e.seq = true by unfold laterB; rw [na2, Bool.false_or]; exact decide_eq_true (by omega))
                clear nl2
                by_cases hl : listedP e
                · have LP_ := hl
                  have GOOD := Aside0.mk (show askE v e from ⟨⟨RV.out, NE0.out, NE1.out, NE2.out⟩, hl⟩)
                  go_wp2_with fail
                  refine (listedR_calls _ e A1 A2 c1 c2 (Kd.C_below H1.out HB2.out) (Kd.C_below H2.out HB2.out)).mono ?_
                  rintro x w4 ⟨rfl, hb⟩
                  rw [decide_eq_true LP_]
                  have HB4 := Aside0.mk (below_step HB2.out hb)
                  have X14 := Aside0.mk (blk_below X12.out hb)
                  have X24 := Aside0.mk (blk_below X22.out hb)
                  have X34 := Aside0.mk (blk_below X32.out hb)
                  clear hb
                  go_wp2_with fail
                  go_meet
                  exact ⟨congrArg Value.bool ((show ba = false from by cases hb_ : ba with | false => rfl | true => exact absurd GOOD.out (BT.out.mp hb_)).symm), HB4, X14, X24, X34⟩
                · have LP_ := hl
                  have BAD := Aside0.mk (show ¬ askE v e from fun h => hl h.2)
                  go_wp2_with fail
                  refine (listedR_calls _ e A1 A2 c1 c2 (Kd.C_below H1.out HB2.out) (Kd.C_below H2.out HB2.out)).mono ?_
                  rintro x w4 ⟨rfl, hb⟩
                  rw [decide_eq_false LP_]
                  have HB4 := Aside0.mk (below_step HB2.out hb)
                  have X14 := Aside0.mk (blk_below X12.out hb)
                  have X24 := Aside0.mk (blk_below X22.out hb)
                  have X34 := Aside0.mk (blk_below X32.out hb)
                  clear hb
                  go_wp2_with fail
                  go_meet
                  exact ⟨congrArg Value.bool ((BT.out.mpr BAD.out).symm), HB4, X14, X24, X34⟩
          · have na1 : decide (e.next = 0) = false := decide_eq_false ne1
            have nb1 : (e.next == 0) = false := beq_eq_false_iff_ne.mpr ne1
            have nc1 : (e.next != 0) = true := bne_iff_ne.mpr ne1
            have nd1 : decide (¬ e.next = 0) = true := decide_eq_true ne1
            clear ne1
            by_cases nl1 : e.next < v.next
            · have ng1 : decide (e.next < v.next) = true := decide_eq_true nl1
              have BAD := Aside0.mk (show ¬ askE v e from fun h => by
                have h1 := h.1.2.2.1
                unfold laterB at h1
                rw [na1, Bool.false_or, decide_eq_true_eq] at h1
                omega)
              clear nl1
              go_wp2_with fail
              go_meet
              exact ⟨congrArg Value.bool ((BT.out.mpr BAD.out).symm), HB2, X12, X22, X32⟩
            · have ng1 : decide (e.next < v.next) = false := decide_eq_false nl1
              have NE1 := Aside0.mk (show laterB v.next e.next = true by unfold laterB; rw [na1, Bool.false_or]; exact decide_eq_true (by omega))
              clear nl1
              by_cases ne2 : e.seq = 0
              · have na2 : decide (e.seq = 0) = true := decide_eq_true ne2
                have nb2 : (e.seq == 0) = true := beq_iff_eq.mpr ne2
                have nc2 : (e.seq != 0) = false := by rw [bne, nb2]; rfl
                have nd2 : decide (¬ e.seq = 0) = false := decide_eq_false (fun h => h ne2)
                have NE2 := Aside0.mk (show laterB v.seq e.seq = true by unfold laterB; rw [na2]; rfl)
                clear ne2
                by_cases hl : listedP e
                · have LP_ := hl
                  have GOOD := Aside0.mk (show askE v e from ⟨⟨RV.out, NE0.out, NE1.out, NE2.out⟩, hl⟩)
                  go_wp2_with fail
                  refine (listedR_calls _ e A1 A2 c1 c2 (Kd.C_below H1.out HB2.out) (Kd.C_below H2.out HB2.out)).mono ?_
                  rintro x w4 ⟨rfl, hb⟩
                  rw [decide_eq_true LP_]
                  have HB4 := Aside0.mk (below_step HB2.out hb)
                  have X14 := Aside0.mk (blk_below X12.out hb)
                  have X24 := Aside0.mk (blk_below X22.out hb)
                  have X34 := Aside0.mk (blk_below X32.out hb)
                  clear hb
                  go_wp2_with fail
                  go_meet
                  exact ⟨congrArg Value.bool ((show ba = false from by cases hb_ : ba with | false => rfl | true => exact absurd GOOD.out (BT.out.mp hb_)).symm), HB4, X14, X24, X34⟩
                · have LP_ := hl
                  have BAD := Aside0.mk (show ¬ askE v e from fun h => hl h.2)
                  go_wp2_with fail
                  refine (listedR_calls _ e A1 A2 c1 c2 (Kd.C_below H1.out HB2.out) (Kd.C_below H2.out HB2.out)).mono ?_
                  rintro x w4 ⟨rfl, hb⟩
                  rw [decide_eq_false LP_]
                  have HB4 := Aside0.mk (below_step HB2.out hb)
                  have X14 := Aside0.mk (blk_below X12.out hb)
                  have X24 := Aside0.mk (blk_below X22.out hb)
                  have X34 := Aside0.mk (blk_below X32.out hb)
                  clear hb
                  go_wp2_with fail
                  go_meet
                  exact ⟨congrArg Value.bool ((BT.out.mpr BAD.out).symm), HB4, X14, X24, X34⟩
              · have na2 : decide (e.seq = 0) = false := decide_eq_false ne2
                have nb2 : (e.seq == 0) = false := beq_eq_false_iff_ne.mpr ne2
                have nc2 : (e.seq != 0) = true := bne_iff_ne.mpr ne2
                have nd2 : decide (¬ e.seq = 0) = true := decide_eq_true ne2
                clear ne2
                by_cases nl2 : e.seq < v.seq
                · have ng2 : decide (e.seq < v.seq) = true := decide_eq_true nl2
                  have BAD := Aside0.mk (show ¬ askE v e from fun h => by
                    have h1 := h.1.2.2.2
                    unfold laterB at h1
                    rw [na2, Bool.false_or, decide_eq_true_eq] at h1
                    omega)
                  clear nl2
                  go_wp2_with fail
                  go_meet
                  exact ⟨congrArg Value.bool ((BT.out.mpr BAD.out).symm), HB2, X12, X22, X32⟩
                · have ng2 : decide (e.seq < v.seq) = false := decide_eq_false nl2
                  have NE2 := Aside0.mk (show laterB v.seq e.seq = true by unfold laterB; rw [na2, Bool.false_or]; exact decide_eq_true (by omega))
                  clear nl2
                  by_cases hl : listedP e
                  · have LP_ := hl
                    have GOOD := Aside0.mk (show askE v e from ⟨⟨RV.out, NE0.out, NE1.out, NE2.out⟩, hl⟩)
                    go_wp2_with fail
                    refine (listedR_calls _ e A1 A2 c1 c2 (Kd.C_below H1.out HB2.out) (Kd.C_below H2.out HB2.out)).mono ?_
                    rintro x w4 ⟨rfl, hb⟩
                    rw [decide_eq_true LP_]
                    have HB4 := Aside0.mk (below_step HB2.out hb)
                    have X14 := Aside0.mk (blk_below X12.out hb)
                    have X24 := Aside0.mk (blk_below X22.out hb)
                    have X34 := Aside0.mk (blk_below X32.out hb)
                    clear hb
                    go_wp2_with fail
                    go_meet
                    exact ⟨congrArg Value.bool ((show ba = false from by cases hb_ : ba with | false => rfl | true => exact absurd GOOD.out (BT.out.mp hb_)).symm), HB4, X14, X24, X34⟩
                  · have LP_ := hl
                    have BAD := Aside0.mk (show ¬ askE v e from fun h => hl h.2)
                    go_wp2_with fail
                    refine (listedR_calls _ e A1 A2 c1 c2 (Kd.C_below H1.out HB2.out) (Kd.C_below H2.out HB2.out)).mono ?_
                    rintro x w4 ⟨rfl, hb⟩
                    rw [decide_eq_false LP_]
                    have HB4 := Aside0.mk (below_step HB2.out hb)
                    have X14 := Aside0.mk (blk_below X12.out hb)
                    have X24 := Aside0.mk (blk_below X22.out hb)
                    have X34 := Aside0.mk (blk_below X32.out hb)
                    clear hb
                    go_wp2_with fail
                    go_meet
                    exact ⟨congrArg Value.bool ((BT.out.mpr BAD.out).symm), HB4, X14, X24, X34⟩
    · rw [decide_eq_false hr]
      have BAD := Aside0.mk (show ¬ askE v e from fun h => hr h.1.1)
      clear hr
      go_wp2_with fail
      go_meet
      exact ⟨congrArg Value.bool ((BT.out.mpr BAD.out).symm), HB2, X12, X22, X32⟩
  case rest =>
    obtain ⟨rfl, HBc, X1c, X2c, X3c⟩ := hcut
    clear HB X1 X2 X3
    by_cases hask : askE v e
    · have hbf : ba = false := by
        cases hb_ : ba with
        | false => rfl
        | true => exact absurd hask (BT.out.mp hb_)
      subst hbf
      have AK := Aside0.mk hask
      clear hask
      have GV := Aside0.mk (show goneV (bndV v e) (e.gone.drop 0) e.added = (u, r) by
        rw [← UR.out]; unfold applyV; rw [if_pos AK.out]; rfl)
      have OK0 := Aside0.mk (okS_bnd e AK.out.1.1 HW.out HLN.out)
      have BVL := Aside0.mk (bndV_lv v e)
      have mm0 := max_num AK.out.1.2.1 P0.out
      have mm1 := max_num AK.out.1.2.2.1 P1.out
      have mm2 := max_num AK.out.1.2.2.2 P2.out
      have b0 : wc.cell? ⟨w.heap.size, 0, none⟩ = some (.int .u64 v.log) := (blk_cell X1c.out 0).trans rfl
      have b1 : wc.cell? ⟨w.heap.size, 1, none⟩ = some (.int .u64 v.next) := (blk_cell X1c.out 1).trans rfl
      have b2 : wc.cell? ⟨w.heap.size, 2, none⟩ = some (.int .u64 v.seq) := (blk_cell X1c.out 2).trans rfl
      have e0 : wc.cell? ⟨g2, 0, none⟩ = some (.int .u64 e.log) := (blk_cell X2c.out 0).trans rfl
      have e1 : wc.cell? ⟨g2, 1, none⟩ = some (.int .u64 e.next) := (blk_cell X2c.out 1).trans rfl
      have e2 : wc.cell? ⟨g2, 2, none⟩ = some (.int .u64 e.seq) := (blk_cell X2c.out 2).trans rfl
      have HB5 := Aside0.mk (below_alloc HBc.out (.cells (vCs (headV (bndV v e) 0) firstP) 26))
      have X15 := Aside0.mk (blk_alloc X1c.out (.cells (vCs (headV (bndV v e) 0) firstP) 26))
      have X25 := Aside0.mk (blk_alloc X2c.out (.cells (vCs (headV (bndV v e) 0) firstP) 26))
      have X35 := Aside0.mk (blk_alloc X3c.out (.cells (vCs (headV (bndV v e) 0) firstP) 26))
      have X65 := Aside0.mk (blk_new wc (.cells (vCs (headV (bndV v e) 0) firstP) 26))
      have N6 := Aside0.mk (show g3 < wc.heap.size from blk_lt X3c.out)
      go_upto_region 4 with (fail)
      clear mm0 mm1 mm2 b0 b1 b2 e0 e1 e2
      generalize wc.heap.size = g6 at *
      have wx_ : wc.alloc (.cells (vCs (headV (bndV v e) 0) firstP) 26) = wc.alloc (.cells #[.int .u64 (laterN v.log e.log), .int .u64 (laterN v.next e.next), .int .u64 (laterN v.seq e.seq), .slice none 0 0, .slice none 0 0, .slice none 0 0, .slice none 0 0] 26) := rfl
      rw [wx_] at HB5 X15 X25 X35 X65
      clear wx_
      generalize wc.alloc (.cells #[.int .u64 (laterN v.log e.log), .int .u64 (laterN v.next e.next), .int .u64 (laterN v.seq e.seq), .slice none 0 0, .slice none 0 0, .slice none 0 0, .slice none 0 0] 26) = w5 at *
      obtain ⟨bv, hbv⟩ : ∃ bv, bv = bndV v e := ⟨_, rfl⟩
      rw [← hbv] at GV OK0 BVL X65
      clear hbv
      go_wp2_with fail
      go_loopg [7] 4 (fun kq v7 w' => ∃ (i : Nat) (q : Pl), v7 = .int .i64 (i : Int) ∧ Aside0 (kq + i = 4) ∧ Aside0 (Below w.heap.size w w') ∧ Aside0 (w'.heap[w.heap.size]? = some (.cells (vCs v p) 26 (0, 0))) ∧ Aside0 (w'.heap[g2]? = some (.cells (eCs e A1 c1 A2 c2) 70 (0, 0))) ∧ Aside0 (w'.heap[g3]? = some (.cells #[.int .u64 0, .int .u64 0, .int .u64 0, .slice none 0 0, .slice none 0 0, .slice none 0 0, .slice none 0 0] 26 (0, 0))) ∧ Aside0 (w'.heap[g6]? = some (.cells (vCs (headV bv i) q) 26 (0, 0))) ∧ Aside0 (RowsR w' w.heap.size (headV bv i) q))
      case atStart => exact ⟨0, firstP, rfl, ⟨by omega⟩, HB5, X15, X25, X35, X65, ⟨RowsR.zero _ _ _ (headV_lvs bv)⟩⟩
      case round =>
        clear HB5 X15 X25 X35 X65
        obtain ⟨i, q, rfl, HK, HB, X1, X2, X3, X6, RR⟩ := hrel
        cases gk with
        | zero =>
          have ei : i = 4 := by have := HK.out; omega
          subst ei
          rw [headV_all] at X6 RR
          have OKS0 := Aside0.mk OK0.out
          go_wp2_with fail
          go_loopg [8, 9, 10] e.gone.length (fun kq v8 v9 v10 w' => ∃ (k : Nat) (y : Ver) (q : Pl), v8 = .int .i64 (k : Int) ∧ Aside0 (kq + k = e.gone.length) ∧ Aside0 (Below w.heap.size w w') ∧ Aside0 (w'.heap[w.heap.size]? = some (.cells (vCs v p) 26 (0, 0))) ∧ Aside0 (w'.heap[g2]? = some (.cells (eCs e A1 c1 A2 c2) 70 (0, 0))) ∧ Aside0 (w'.heap[g3]? = some (.cells #[.int .u64 0, .int .u64 0, .int .u64 0, .slice none 0 0, .slice none 0 0, .slice none 0 0, .slice none 0 0] 26 (0, 0))) ∧ Aside0 (w'.heap[g6]? = some (.cells (vCs y q) 26 (0, 0))) ∧ Aside0 (RowsR w' w.heap.size y q) ∧ Aside0 (goneV y (e.gone.drop k) e.added = (u, r)) ∧ Aside0 (okS y 100000))
          case atStart => exact ⟨0, bv, q, rfl, ⟨rfl⟩, HB, X1, X2, X3, X6, RR, GV, OKS0⟩
          case round =>
            clear HB X1 X2 X3 X6 RR GV OKS0 OK0
            obtain ⟨k, y, q, rfl, HK, HB, X1, X2, X3, X6, RR, GV, OKS⟩ := hrel
            have e3 : wr.cell? ⟨g2, 3, none⟩ = some (.slice A1 e.gone.length c1) := (blk_cell X2.out 3).trans rfl
            cases gk with
            | zero =>
              have ek : k = e.gone.length := by have := HK.out; omega
              have CV := Aside0.mk (show comeV y e.added = (u, r) by have h := GV.out; rw [ek, List.drop_length] at h; exact h)
              have d4 : decide ((k : Int) < (e.gone.length : Int)) = false := decide_eq_false (by omega)
              have d5 : decide (k < e.gone.length) = false := decide_eq_false (by omega)
              clear ek GV
              go_wp2_with fail
              clear e3
              have CV0 := Aside0.mk (show comeV y (e.added.drop 0) = (u, r) from CV.out)
              have OK5 := Aside0.mk (show okS y (100000 + 0) from OKS.out)
              clear CV OKS
              go_loopg [11, 12, 13, 14, 15] e.added.length (fun kq v11 v12 v13 v14 v15 w' => ∃ (k : Nat) (y : Ver) (q : Pl), v11 = .int .i64 (k : Int) ∧ Aside0 (kq + k = e.added.length) ∧ Aside0 (Below w.heap.size w w') ∧ Aside0 (w'.heap[w.heap.size]? = some (.cells (vCs v p) 26 (0, 0))) ∧ Aside0 (w'.heap[g2]? = some (.cells (eCs e A1 c1 A2 c2) 70 (0, 0))) ∧ Aside0 (w'.heap[g3]? = some (.cells #[.int .u64 0, .int .u64 0, .int .u64 0, .slice none 0 0, .slice none 0 0, .slice none 0 0, .slice none 0 0] 26 (0, 0))) ∧ Aside0 (w'.heap[g6]? = some (.cells (vCs y q) 26 (0, 0))) ∧ Aside0 (RowsR w' w.heap.size y q) ∧ Aside0 (comeV y (e.added.drop k) = (u, r)) ∧ Aside0 (okS y (100000 + k)))
              case atStart => exact ⟨0, y, q, rfl, ⟨by omega⟩, HB, X1, X2, X3, X6, RR, CV0, OK5⟩
              case round =>
                clear HB X1 X2 X3 X6 RR CV0 OK5
                obtain ⟨k, y, q, rfl, HK, HB, X1, X2, X3, X6, RR, CV, OKS⟩ := hrel
                have e4 : wr.cell? ⟨g2, 4, none⟩ = some (.slice A2 e.added.length c2) := (blk_cell X2.out 4).trans rfl
                cases gk with
                | zero =>
                  have ek : k = e.added.length := by have := HK.out; omega
                  have LV := Aside0.mk (show lastV y = (u, r) by have h := CV.out; rw [ek, List.drop_length] at h; exact h)
                  have d6 : decide ((k : Int) < (e.added.length : Int)) = false := decide_eq_false (by omega)
                  have d7 : decide (k < e.added.length) = false := decide_eq_false (by omega)
                  clear ek CV
                  have b0 : wr.cell? ⟨g6, 0, none⟩ = some (.int .u64 y.log) := (blk_cell X6.out 0).trans rfl
                  have b1 : wr.cell? ⟨g6, 1, none⟩ = some (.int .u64 y.next) := (blk_cell X6.out 1).trans rfl
                  have b2 : wr.cell? ⟨g6, 2, none⟩ = some (.int .u64 y.seq) := (blk_cell X6.out 2).trans rfl
                  have b3 : wr.cell? ⟨g6, 3, none⟩ = some (.slice q.a0 y.l0.length q.c0) := (blk_cell X6.out 3).trans rfl
                  have b4 : wr.cell? ⟨g6, 4, none⟩ = some (.slice q.a1 y.l1.length q.c1) := (blk_cell X6.out 4).trans rfl
                  have b5 : wr.cell? ⟨g6, 5, none⟩ = some (.slice q.a2 y.l2.length q.c2) := (blk_cell X6.out 5).trans rfl
                  have b6 : wr.cell? ⟨g6, 6, none⟩ = some (.slice q.a3 y.l3.length q.c3) := (blk_cell X6.out 6).trans rfl
                  go_wp2_with fail
                  refine (rightR_calls _ y q RR.out.vc).mono ?_
                  rintro x w6 ⟨rfl, hb⟩
                  have HB6 := Aside0.mk (below_step HB.out hb)
                  have X16 := Aside0.mk (blk_below X1.out hb)
                  have X26 := Aside0.mk (blk_below X2.out hb)
                  have X36 := Aside0.mk (blk_below X3.out hb)
                  have X66 := Aside0.mk (blk_below X6.out hb)
                  have RR6 := Aside0.mk (RR.out.below hb)
                  clear hb b0 b1 b2 b3 b4 b5 b6 e4
                  by_cases hr : rightP y
                  · rw [decide_eq_true hr]
                    have AV2 : (u, r) = (y, 0) := LV.out.symm.trans (if_pos hr)
                    injection AV2 with e1_ e2_
                    have E1 := Aside0.mk e1_
                    have E2 := Aside0.mk e2_
                    clear hr e1_ e2_
                    have b0 : w6.cell? ⟨g6, 0, none⟩ = some (.int .u64 y.log) := (blk_cell X66.out 0).trans rfl
                    have b1 : w6.cell? ⟨g6, 1, none⟩ = some (.int .u64 y.next) := (blk_cell X66.out 1).trans rfl
                    have b2 : w6.cell? ⟨g6, 2, none⟩ = some (.int .u64 y.seq) := (blk_cell X66.out 2).trans rfl
                    have b3 : w6.cell? ⟨g6, 3, none⟩ = some (.slice q.a0 y.l0.length q.c0) := (blk_cell X66.out 3).trans rfl
                    have b4 : w6.cell? ⟨g6, 4, none⟩ = some (.slice q.a1 y.l1.length q.c1) := (blk_cell X66.out 4).trans rfl
                    have b5 : w6.cell? ⟨g6, 5, none⟩ = some (.slice q.a2 y.l2.length q.c2) := (blk_cell X66.out 5).trans rfl
                    have b6 : w6.cell? ⟨g6, 6, none⟩ = some (.slice q.a3 y.l3.length q.c3) := (blk_cell X66.out 6).trans rfl
                    go_wp2_with (first | (refine st_arr rfl 26 _ _ rfl g3 26 ?hx (vCs y q) ?hy _ X36.out (by rw [size26]; rfl) rfl (by simp [Value.oneCell']) ?_; (case hx => rfl); (case hy => rfl); intro w7 hb7 hbb hk7 hs7; have HB7 := Aside0.mk (hbb _ _ HB6.out (show w.heap.size ≤ g3 by have := N2.out; have := N3.out; omega)); have X7 := Aside0.mk hb7; have RR7 := Aside0.mk (RowsR.other RR6.out X36.out (by decide) hk7).vc; clear hb7 hbb hk7 hs7) | fail)
                    have r0 : w7.cell? ⟨g3, 0, none⟩ = some (.int .u64 y.log) := (blk_cell X7.out 0).trans rfl
                    have r1 : w7.cell? ⟨g3, 1, none⟩ = some (.int .u64 y.next) := (blk_cell X7.out 1).trans rfl
                    have r2 : w7.cell? ⟨g3, 2, none⟩ = some (.int .u64 y.seq) := (blk_cell X7.out 2).trans rfl
                    have r3 : w7.cell? ⟨g3, 3, none⟩ = some (.slice q.a0 y.l0.length q.c0) := (blk_cell X7.out 3).trans rfl
                    have r4 : w7.cell? ⟨g3, 4, none⟩ = some (.slice q.a1 y.l1.length q.c1) := (blk_cell X7.out 4).trans rfl
                    have r5 : w7.cell? ⟨g3, 5, none⟩ = some (.slice q.a2 y.l2.length q.c2) := (blk_cell X7.out 5).trans rfl
                    have r6 : w7.cell? ⟨g3, 6, none⟩ = some (.slice q.a3 y.l3.length q.c3) := (blk_cell X7.out 6).trans rfl
                    have e1_ := E1.out
                    have e2_ := E2.out
                    subst e1_
                    subst e2_
                    exact bodyPost_ret (v := .tuple #[.agg (vCs u q), .int .i64 0]) (by simp [results, Try.results55, go_sem, r0, r1, r2, r3, r4, r5, r6]) rfl ⟨q, rfl, RR7.out, HB7.out⟩
                  · rw [decide_eq_false hr]
                    have NR := Aside0.mk hr
                    clear hr
                    have AV2 : (u, r) = (zeroV, 11) := LV.out.symm.trans (if_neg NR.out)
                    injection AV2 with e1_ e2_
                    have E1 := Aside0.mk e1_
                    have E2 := Aside0.mk e2_
                    clear e1_ e2_
                    go_wp2_with (first | (refine st_arr rfl 26 _ _ rfl g3 26 ?hx #[.int .u64 0, .int .u64 0, .int .u64 0, .slice none 0 0, .slice none 0 0, .slice none 0 0, .slice none 0 0] ?hy _ X36.out (by rw [size26]; rfl) rfl (by simp [Value.oneCell']) ?_; (case hx => rfl); (case hy => rfl); intro w7 hb7 hbb hk7 hs7; have HB7 := Aside0.mk (hbb _ _ HB6.out (show w.heap.size ≤ g3 by have := N2.out; have := N3.out; omega)); have X7 := Aside0.mk hb7; clear hb7 hbb hk7 hs7) | fail)
                    have r0 : w7.cell? ⟨g3, 0, none⟩ = some (.int .u64 0) := (blk_cell X7.out 0).trans rfl
                    have r1 : w7.cell? ⟨g3, 1, none⟩ = some (.int .u64 0) := (blk_cell X7.out 1).trans rfl
                    have r2 : w7.cell? ⟨g3, 2, none⟩ = some (.int .u64 0) := (blk_cell X7.out 2).trans rfl
                    have r3 : w7.cell? ⟨g3, 3, none⟩ = some (.slice none 0 0) := (blk_cell X7.out 3).trans rfl
                    have r4 : w7.cell? ⟨g3, 4, none⟩ = some (.slice none 0 0) := (blk_cell X7.out 4).trans rfl
                    have r5 : w7.cell? ⟨g3, 5, none⟩ = some (.slice none 0 0) := (blk_cell X7.out 5).trans rfl
                    have r6 : w7.cell? ⟨g3, 6, none⟩ = some (.slice none 0 0) := (blk_cell X7.out 6).trans rfl
                    have e1_ := E1.out
                    have e2_ := E2.out
                    subst e1_
                    subst e2_
                    exact bodyPost_ret (v := .tuple #[.agg #[.int .u64 0, .int .u64 0, .int .u64 0, .slice none 0 0, .slice none 0 0, .slice none 0 0, .slice none 0 0], .int .i64 11]) (by simp [results, Try.results55, go_sem, r0, r1, r2, r3, r4, r5, r6]) rfl ⟨firstP, rfl, (Rows4.zero _ w.heap.size).vc, HB7.out⟩
                | succ z5 =>
                  have KL := Aside0.mk (show k < e.added.length by have := HK.out; omega)
                  have d4 : decide ((k : Int) < (e.added.length : Int)) = true := decide_eq_true (by have := HK.out; omega)
                  have d5 : decide (k < e.added.length) = true := decide_eq_true (by have := HK.out; omega)
                  have p0 : 0 ≤ (k : Int) := Int.natCast_nonneg _
                  have p1 : (k : Int) < (e.added.length : Int) := by have := HK.out; omega
                  obtain ⟨ad, ea, ha0, ha1, ha2, ha3, ha4, ha5, ha6, ha7⟩ := at_T82 (Kd.C_below H2.out HB.out) (k : Int) p0 p1
                  have hmx := getD_mem e.added z82 (k := k) (by have := HK.out; omega)
                  have EM := Aside0.mk (show rd_T82 e.added (k : Int) = e.added.getD k z82 by unfold rd_T82; rw [Int.toNat_natCast])
                  rw [← EM.out] at hmx
                  generalize rd_T82 e.added (k : Int) = x at *
                  have hlx := AK.out.2.2 x hmx
                  obtain ⟨lv, hlv⟩ : ∃ lv : Nat, x.f0 = (lv : Int) := ⟨x.f0.toNat, by have := hlx.1.1; omega⟩
                  have HLV := Aside0.mk (show lv < 4 by have := hlx.1.2; omega)
                  have l0_ : 0 ≤ (lv : Int) := Int.natCast_nonneg _
                  have l1_ : (lv : Int) < 4 := by have := HLV.out; omega
                  obtain ⟨f0, m⟩ := x
                  dsimp only at hlv ha0 ha1 ha2 ha3 ha4 ha5 ha6 ha7
                  have MP := Aside0.mk (show mayP m from hlx.2)
                  subst hlv
                  have HAX := Aside0.mk ea
                  rw [Int.toNat_natCast] at ha0 ha1 ha2 ha3 ha4 ha5 ha6 ha7
                  clear hmx hlx ea
                  have CE := Aside0.mk (⟨ha0, ha1, ha2, ha3, ha4, ha5, ha6, ha7⟩ : wr.cell? (ad.add (k * 8)) = some (.int .i64 (lv : Int)) ∧ wr.cell? ⟨(ad.add (k * 8)).block, (ad.add (k * 8)).off + 1, none⟩ = some (.int .u64 m.f0) ∧ wr.cell? ⟨(ad.add (k * 8)).block, (ad.add (k * 8)).off + 2, none⟩ = some (.int .i64 m.f1) ∧ wr.cell? ⟨(ad.add (k * 8)).block, (ad.add (k * 8)).off + 3, none⟩ = some (.int .i64 m.f2) ∧ wr.cell? ⟨(ad.add (k * 8)).block, (ad.add (k * 8)).off + 4, none⟩ = some (.string m.f3) ∧ wr.cell? ⟨(ad.add (k * 8)).block, (ad.add (k * 8)).off + 5, none⟩ = some (.string m.f4) ∧ wr.cell? ⟨(ad.add (k * 8)).block, (ad.add (k * 8)).off + 6, none⟩ = some (.int .u64 m.f5) ∧ wr.cell? ⟨(ad.add (k * 8)).block, (ad.add (k * 8)).off + 7, none⟩ = some (.int .u64 m.f6))
                  clear ha0 ha1 ha2 ha3 ha4 ha5 ha6 ha7
                  go_wp2_with fail
                  clear e4
                  obtain ⟨w3, hw3⟩ : ∃ x, x = wr := ⟨_, rfl⟩
                  subst hw3
                  go_loopg [12, 13, 14] 4 (fun kq v12 v13 v14 w' => ∃ i : Nat, v12 = .int .i64 (i : Int) ∧ Aside0 (kq + i = 4) ∧ Aside0 (Below w3.heap.size w3 w') ∧ Aside0 (∀ j, j < i → m.f0 ∉ nums (y.lv j)))
                  case atStart => exact ⟨0, rfl, ⟨by omega⟩, ⟨Below.refl _ _⟩, ⟨fun j hj => by omega⟩⟩
                  case round =>
                    obtain ⟨i, rfl, HK4, HBW, HJ⟩ := hrel
                    have HB6 := Aside0.mk (below_step HB.out HBW.out)
                    have X16 := Aside0.mk (blk_below X1.out HBW.out)
                    have X26 := Aside0.mk (blk_below X2.out HBW.out)
                    have X36 := Aside0.mk (blk_below X3.out HBW.out)
                    have X66 := Aside0.mk (blk_below X6.out HBW.out)
                    have RR6 := Aside0.mk (RR.out.below HBW.out)
                    have CE6 := Aside0.mk (show wr.cell? (ad.add (k * 8)) = some (.int .i64 (lv : Int)) ∧ wr.cell? ⟨(ad.add (k * 8)).block, (ad.add (k * 8)).off + 1, none⟩ = some (.int .u64 m.f0) ∧ wr.cell? ⟨(ad.add (k * 8)).block, (ad.add (k * 8)).off + 2, none⟩ = some (.int .i64 m.f1) ∧ wr.cell? ⟨(ad.add (k * 8)).block, (ad.add (k * 8)).off + 3, none⟩ = some (.int .i64 m.f2) ∧ wr.cell? ⟨(ad.add (k * 8)).block, (ad.add (k * 8)).off + 4, none⟩ = some (.string m.f3) ∧ wr.cell? ⟨(ad.add (k * 8)).block, (ad.add (k * 8)).off + 5, none⟩ = some (.string m.f4) ∧ wr.cell? ⟨(ad.add (k * 8)).block, (ad.add (k * 8)).off + 6, none⟩ = some (.int .u64 m.f5) ∧ wr.cell? ⟨(ad.add (k * 8)).block, (ad.add (k * 8)).off + 7, none⟩ = some (.int .u64 m.f6) from ⟨pw_cell_below HBW.out CE.out.1, pw_cell_below HBW.out CE.out.2.1, pw_cell_below HBW.out CE.out.2.2.1, pw_cell_below HBW.out CE.out.2.2.2.1, pw_cell_below HBW.out CE.out.2.2.2.2.1, pw_cell_below HBW.out CE.out.2.2.2.2.2.1, pw_cell_below HBW.out CE.out.2.2.2.2.2.2.1, pw_cell_below HBW.out CE.out.2.2.2.2.2.2.2⟩)
                    cases gk with
                    | zero =>
                      have ei : i = 4 := by have := HK4.out; omega
                      subst ei
                      have CZ := Aside0.mk (show cntV y m.f0 = 0 by
                        rw [lv_cnt]
                        have h0 := List.count_eq_zero.mpr (HJ.out 0 (by omega))
                        have h1 := List.count_eq_zero.mpr (HJ.out 1 (by omega))
                        have h2 := List.count_eq_zero.mpr (HJ.out 2 (by omega))
                        have h3 := List.count_eq_zero.mpr (HJ.out 3 (by omega))
                        omega)
                      obtain ⟨l, hl⟩ : ∃ l, l = y.lv lv := ⟨_, rfl⟩
                      have LE := Aside0.mk hl
                      have LL := Aside0.mk (show l.length ≤ 1000000000 by rw [hl]; have h1 := OKS.out.2.2 lv HLV.out; have h2 := HLA.out; have h3 := KL.out; omega)
                      have LVN := Aside0.mk l0_
                      clear hl HJ
                      have e4 : wr.cell? ⟨g2, 4, none⟩ = some (.slice (some ad) e.added.length c2) := by rw [← HAX.out]; exact (blk_cell X26.out 4).trans rfl
                      obtain ⟨a0, a1, a2, a3, a4, a5, a6, a7⟩ := CE6.out
                      go_upto_region 25 with (fail)
                      clear e4 a0 a1 a2 a3 a4 a5 a6 a7
                      refine start_ (n := 16) (S := (fun w' => w'.heap[g2]? = some (.cells (eCs e A1 c1 A2 c2) 70 (0, 0)) ∧ w'.heap[g6]? = some (.cells (vCs y q) 26 (0, 0)) ∧ w'.cell? (ad.add (k * 8)) = some (.int .i64 (lv : Int)) ∧ w'.cell? ⟨(ad.add (k * 8)).block, (ad.add (k * 8)).off + 1, none⟩ = some (.int .u64 m.f0) ∧ w'.cell? ⟨(ad.add (k * 8)).block, (ad.add (k * 8)).off + 2, none⟩ = some (.int .i64 m.f1) ∧ w'.cell? ⟨(ad.add (k * 8)).block, (ad.add (k * 8)).off + 3, none⟩ = some (.int .i64 m.f2) ∧ w'.cell? ⟨(ad.add (k * 8)).block, (ad.add (k * 8)).off + 4, none⟩ = some (.string m.f3) ∧ w'.cell? ⟨(ad.add (k * 8)).block, (ad.add (k * 8)).off + 5, none⟩ = some (.string m.f4) ∧ w'.cell? ⟨(ad.add (k * 8)).block, (ad.add (k * 8)).off + 6, none⟩ = some (.int .u64 m.f5) ∧ w'.cell? ⟨(ad.add (k * 8)).block, (ad.add (k * 8)).off + 7, none⟩ = some (.int .u64 m.f6))) (ds := [15]) #[false, false, false, false, false, false, false, false, false, false, false, false, false, false, false, false] (by kernel_rfl) rfl rfl ⟨blk_drew X26.out, blk_drew X66.out, CE6.out⟩ (fun hHeld => ?_)
                      have HBd := Aside0.mk (below_step HB6.out (below_drew (Below.refl _ _)))
                      have X1d := Aside0.mk (blk_below X16.out (below_drew (Below.refl _ _)))
                      have X2d := Aside0.mk (blk_below X26.out (below_drew (Below.refl _ _)))
                      have X3d := Aside0.mk (blk_below X36.out (below_drew (Below.refl _ _)))
                      have X6d := Aside0.mk (blk_below X66.out (below_drew (Below.refl _ _)))
                      have RRd := Aside0.mk (RR6.out.below (below_drew (Below.refl _ _)))
                      clear HB6 X16 X26 X36 X66 RR6
                      generalize wr.drew = wd at *
                      have RLd := Aside0.mk (show k58.C wd (q.a lv) l.length l by rw [LE.out]; exact (RRd.out.vc lv HLV.out).1)
                      have RLC := Aside0.mk (show l.length ≤ q.c lv by rw [LE.out]; exact (RRd.out.vc lv HLV.out).2)
                      refine pure_ (i := 0) (N := (some 162)) (v := ?_) (a' := ?_) #[true, false, false, false, false, false, false, false, false, false, false, false, false, false, false, false] rfl rfl (by kernel_rfl) (fun _ _ _ h => h) (Or.inl ⟨by rfl, ?_⟩) ?_ ?_
                      rotate_left
                      · intro w'
                        go_simp
                        with_reducible rfl
                      rotate_left
                      · simp only [Act.put, List.setIfInBounds_toArray, List.set_cons_zero, List.set_cons_succ, i64_w, i32_w]
                        rfl
                      refine pure_ (i := 1) (N := (some 163)) (v := ?_) (a' := ?_) #[true, true, false, false, false, false, false, false, false, false, false, false, false, false, false, false] rfl rfl (by kernel_rfl) (fun _ _ _ h => h) (Or.inl ⟨by rfl, ?_⟩) ?_ ?_
                      rotate_left
                      · intro w'
                        go_simp
                        with_reducible rfl
                      rotate_left
                      · simp only [Act.put, List.setIfInBounds_toArray, List.set_cons_zero, List.set_cons_succ, i64_w, i32_w]
                        rfl
                      refine pure_ (i := 2) (N := (some 164)) (v := ?_) (a' := ?_) #[true, true, true, false, false, false, false, false, false, false, false, false, false, false, false, false] rfl rfl (by kernel_rfl) (fun _ _ _ h => h) (Or.inl ⟨by rfl, ?_⟩) ?_ ?_
                      rotate_left
                      · intro w'
                        go_simp
                        with_reducible rfl
                      rotate_left
                      · simp only [Act.put, List.setIfInBounds_toArray, List.set_cons_zero, List.set_cons_succ, i64_w, i32_w]
                        rfl
                      refine pure_ (i := 3) (N := (some 165)) (v := ?_) (a' := ?_) #[true, true, true, true, false, false, false, false, false, false, false, false, false, false, false, false] rfl rfl (by kernel_rfl) (fun _ _ _ h => h) (Or.inl ⟨by rfl, ?_⟩) ?_ ?_
                      rotate_left
                      · intro w'
                        go_simp
                        with_reducible rfl
                      rotate_left
                      · simp only [Act.put, List.setIfInBounds_toArray, List.set_cons_zero, List.set_cons_succ, i64_w, i32_w]
                        rfl
                      refine take_ (i := 4) (N := (some 166)) (v := ?_) (a' := ?_) #[true, true, true, true, true, false, false, false, false, false, false, false, false, false, false, false] rfl rfl (by kernel_rfl) (fun _ _ _ h => h) (Or.inl ⟨by rfl, ?_⟩) hHeld ?_ ?_
                      rotate_left
                      · rintro w' ⟨s0, s1, s2, s3, s4, s5, s6, s7, s8, s9⟩
                        have z4 : w'.cell? ⟨g6, 3 + lv, none⟩ = some (.slice (q.a lv) l.length (q.c lv)) := by have h := vcell s1 lv HLV.out; rw [← LE.out] at h; exact h
                        go_simp
                        with_reducible rfl
                      rotate_left
                      · simp only [Act.put, List.setIfInBounds_toArray, List.set_cons_zero, List.set_cons_succ, i64_w, i32_w]
                        rfl
                      refine pure_ (i := 5) (N := (some 167)) (v := ?_) (a' := ?_) #[true, true, true, true, true, true, false, false, false, false, false, false, false, false, false, false] rfl rfl (by kernel_rfl) (fun _ _ _ h => h) (Or.inl ⟨by rfl, ?_⟩) ?_ ?_
                      rotate_left
                      · intro w'
                        go_simp
                        with_reducible rfl
                      rotate_left
                      · simp only [Act.put, List.setIfInBounds_toArray, List.set_cons_zero, List.set_cons_succ, i64_w, i32_w]
                        rfl
                      refine take_ (i := 6) (N := (some 168)) (v := ?_) (a' := ?_) #[true, true, true, true, true, true, true, false, false, false, false, false, false, false, false, false] rfl rfl (by kernel_rfl) (fun _ _ _ h => h) (Or.inl ⟨by rfl, ?_⟩) hHeld ?_ ?_
                      rotate_left
                      · rintro w' ⟨s0, s1, s2, s3, s4, s5, s6, s7, s8, s9⟩
                        have z3 : w'.cell? ⟨g2, 4, none⟩ = some (.slice (some ad) e.added.length c2) := by rw [← HAX.out]; exact (blk_cell s0 4).trans rfl
                        go_simp
                        with_reducible rfl
                      rotate_left
                      · simp only [Act.put, List.setIfInBounds_toArray, List.set_cons_zero, List.set_cons_succ, i64_w, i32_w]
                        rfl
                      refine pure_ (i := 7) (N := (some 169)) (v := ?_) (a' := ?_) #[true, true, true, true, true, true, true, true, false, false, false, false, false, false, false, false] rfl rfl (by kernel_rfl) (fun _ _ _ h => h) (Or.inl ⟨by rfl, ?_⟩) ?_ ?_
                      rotate_left
                      · intro w'
                        go_simp
                        with_reducible rfl
                      rotate_left
                      · simp only [Act.put, List.setIfInBounds_toArray, List.set_cons_zero, List.set_cons_succ, i64_w, i32_w]
                        rfl
                      refine pure_ (i := 8) (N := (some 170)) (v := ?_) (a' := ?_) #[true, true, true, true, true, true, true, true, true, false, false, false, false, false, false, false] rfl rfl (by kernel_rfl) (fun _ _ _ h => h) (Or.inl ⟨by rfl, ?_⟩) ?_ ?_
                      rotate_left
                      · intro w'
                        go_simp
                        with_reducible rfl
                      rotate_left
                      · simp only [Act.put, List.setIfInBounds_toArray, List.set_cons_zero, List.set_cons_succ, i64_w, i32_w]
                        rfl
                      refine pure_ (i := 9) (N := (some 171)) (v := ?_) (a' := ?_) #[true, true, true, true, true, true, true, true, true, true, false, false, false, false, false, false] rfl rfl (by kernel_rfl) (fun _ _ _ h => h) (Or.inl ⟨by rfl, ?_⟩) ?_ ?_
                      rotate_left
                      · intro w'
                        go_simp
                        with_reducible rfl
                      rotate_left
                      · simp only [Act.put, List.setIfInBounds_toArray, List.set_cons_zero, List.set_cons_succ, i64_w, i32_w]
                        rfl
                      refine take_ (i := 10) (N := (some 172)) (v := ?_) (a' := ?_) #[true, true, true, true, true, true, true, true, true, true, true, false, false, false, false, false] rfl rfl (by kernel_rfl) (fun _ _ _ h => h) (Or.inl ⟨by rfl, ?_⟩) hHeld ?_ ?_
                      rotate_left
                      · rintro w' ⟨s0, s1, s2, s3, s4, s5, s6, s7, s8, s9⟩
                        go_simp
                        with_reducible rfl
                      rotate_left
                      · simp only [Act.put, List.setIfInBounds_toArray, List.set_cons_zero, List.set_cons_succ, i64_w, i32_w]
                        rfl
                      refine pure_ (i := 11) (N := (some 173)) (v := ?_) (a' := ?_) #[true, true, true, true, true, true, true, true, true, true, true, true, false, false, false, false] rfl rfl (by kernel_rfl) (fun _ _ _ h => h) (Or.inl ⟨by rfl, ?_⟩) ?_ ?_
                      rotate_left
                      · intro w'
                        go_simp
                        with_reducible rfl
                      rotate_left
                      · simp only [Act.put, List.setIfInBounds_toArray, List.set_cons_zero, List.set_cons_succ, i64_w, i32_w]
                        rfl
                      refine pure_ (i := 13) (N := (some 175)) (v := ?_) (a' := ?_) #[true, true, true, true, true, true, true, true, true, true, true, true, false, true, false, false] rfl rfl (by kernel_rfl) (fun _ _ _ h => h) (Or.inl ⟨by rfl, ?_⟩) ?_ ?_
                      rotate_left
                      · intro w'
                        go_simp
                        with_reducible rfl
                      rotate_left
                      · simp only [Act.put, List.setIfInBounds_toArray, List.set_cons_zero, List.set_cons_succ, i64_w, i32_w]
                        rfl
                      refine one_ (i := 12) (N := (some 174)) #[true, true, true, true, true, true, true, true, true, true, true, true, true, true, false, false] rfl rfl (by kernel_rfl) (by decide) (fun K hK => ?_)
                      refine goes_ Try.func110 (by kernel_rfl) rfl #[.slice (q.a lv) l.length (q.c lv), .agg (mCs m), .int .i64 (lv : Int)] (by rfl) rfl rfl (by (try simp only [List.map_toArray, List.map_cons, List.map_nil]); first | done | rfl) ?_
                      (with_reducible refine (with_calls _ (q.a lv) (q.c lv) l m (lv : Int) LVN.out RLd.out RLC.out LL.out).mono ?_)
                      rintro e wA ⟨vA, rfl, hR, hb⟩
                      refine ⟨_, rfl, ?_⟩
                      obtain ⟨B, cb, hvA⟩ := Kd.R_slice hR
                      subst hvA
                      have RB := Aside0.mk (Kd.R_lower hR HBd.out.size)
                      have HBA := Aside0.mk (below_step HBd.out hb)
                      have X1A := Aside0.mk (blk_below X1d.out hb)
                      have X2A := Aside0.mk (blk_below X2d.out hb)
                      have X3A := Aside0.mk (blk_below X3d.out hb)
                      have X6A := Aside0.mk (blk_below X6d.out hb)
                      have RRA := Aside0.mk (RRd.out.below hb)
                      have hOld := hHeld
                      clear hHeld
                      refine hK.out _ _ (⟨blk_below hOld.1 hb, blk_below hOld.2.1 hb, pw_cell_below hb hOld.2.2.1, pw_cell_below hb hOld.2.2.2.1, pw_cell_below hb hOld.2.2.2.2.1, pw_cell_below hb hOld.2.2.2.2.2.1, pw_cell_below hb hOld.2.2.2.2.2.2.1, pw_cell_below hb hOld.2.2.2.2.2.2.2.1, pw_cell_below hb hOld.2.2.2.2.2.2.2.2.1, pw_cell_below hb hOld.2.2.2.2.2.2.2.2.2⟩) (fun hHeld => ?_)
                      clear hOld hK K
                      refine norm_ (a' := ?_) ?_ ?_
                      rotate_left
                      · show Act.put _ (some 174) _ = _
                        simp only [Act.put, List.setIfInBounds_toArray, List.set_cons_zero, List.set_cons_succ, i64_w, i32_w]
                        rfl
                      refine pure_ (i := 14) (N := (some 176)) (v := ?_) (a' := ?_) #[true, true, true, true, true, true, true, true, true, true, true, true, true, true, true, false] rfl rfl (by kernel_rfl) (fun _ _ _ h => h) (Or.inl ⟨by rfl, ?_⟩) ?_ ?_
                      rotate_left
                      · intro w'
                        go_simp
                        with_reducible rfl
                      rotate_left
                      · simp only [Act.put, List.setIfInBounds_toArray, List.set_cons_zero, List.set_cons_succ, i64_w, i32_w]
                        rfl
                      have hfz := blk_frozen hHeld.2.1 (3 + lv)
                      have hcz := vcell hHeld.2.1 lv HLV.out
                      refine last_ (i := 15) (N := none) #[true, true, true, true, true, true, true, true, true, true, true, true, true, true, true, true] rfl rfl (by kernel_rfl) (by decide) (fun K hK => ?_)
                      refine skip_ (w1 := wA.setCell ⟨g6, 3 + lv, none⟩ (.slice B (wiL (lv : Int) m l).length cb)) (by rfl) rfl (by go_simp) ?_
                      try clear hHeld
                      refine hK.out _ _ ?_
                      clear hK K
                      have X6n := Aside0.mk (show (wA.setCell ⟨g6, 3 + lv, none⟩ (.slice B (wiL (lv : Int) m l).length cb)).heap[g6]? = some (.cells (vCs (y.set lv (wiL (lv : Int) m l)) (q.set lv B cb)) 26 (0, 0)) from five_set X6A.out _ (vCs_set y q lv HLV.out (wiL (lv : Int) m l) (B) (cb)))
                      have X1n := Aside0.mk (blk_far X1A.out (p := ⟨g6, 3 + lv, none⟩) (show w.heap.size ≠ g6 by have := N2.out; have := N3.out; have := N6.out; omega) (.slice B (wiL (lv : Int) m l).length cb))
                      have X2n := Aside0.mk (blk_far X2A.out (p := ⟨g6, 3 + lv, none⟩) (show g2 ≠ g6 by have := N3.out; have := N6.out; omega) (.slice B (wiL (lv : Int) m l).length cb))
                      have X3n := Aside0.mk (blk_far X3A.out (p := ⟨g6, 3 + lv, none⟩) (show g3 ≠ g6 by have := N6.out; omega) (.slice B (wiL (lv : Int) m l).length cb))
                      have HBn := Aside0.mk (below_set (j := 3 + lv) (v := .slice B (wiL (lv : Int) m l).length cb) HBA.out (show w.heap.size ≤ g6 by have := N2.out; have := N3.out; have := N6.out; omega))
                      have RRn := Aside0.mk ((RowsR.step RRA.out (Below.refl _ _) HLV.out RB.out).set X6A.out (by decide) (3 + lv) (.slice B (wiL (lv : Int) m l).length cb))
                      clear hfz hcz
                      generalize wA.setCell ⟨g6, 3 + lv, none⟩ (.slice B (wiL (lv : Int) m l).length cb) = wZ at *
                      refine done_ (by kernel_rfl) ?_
                      go_wp2_with fail
                      have GVn := Aside0.mk (show comeV (y.set lv (wiL (lv : Int) m l)) (e.added.drop (k + 1)) = (u, r) by
                        rw [LE.out, ← come_yes KL.out EM.out.symm CZ.out]; exact CV.out)
                      have OKn := Aside0.mk (show okS (y.set lv (wiL (lv : Int) m l)) (100000 + (k + 1)) by rw [LE.out]; exact OKS.out.come HLV.out MP.out CZ.out)
                      have ew : wrap64 ((k : Int) + 1) = ((k + 1 : Nat) : Int) := by have h1 := KL.out; have h2 := HLA.out; unfold wrap64; omega
                      try rw [ew]
                      clear ew
                      go_roundg z5
                      case measure => omega
                      case rel => exact ⟨k + 1, _, _, rfl, ⟨by have := HK.out; omega⟩, HBn, X1n, X2n, X3n, X6n, RRn, GVn, OKn⟩
                    | succ q4 =>
                      have hi : i < 4 := by have := HK4.out; omega
                      have HI := Aside0.mk hi
                      have d0 : decide ((i : Int) < 4) = true := decide_eq_true (by omega)
                      have i0 : 0 ≤ (i : Int) := Int.natCast_nonneg _
                      have i1 : (i : Int) < 4 := by omega
                      obtain ⟨l, hl⟩ : ∃ l, l = y.lv i := ⟨_, rfl⟩
                      have LE := Aside0.mk hl
                      have LL := Aside0.mk (show l.length ≤ 1000000000 by rw [hl]; have h1 := OKS.out.2.2 i hi; have h2 := HLA.out; have h3 := KL.out; omega)
                      clear hl hi
                      by_cases hin : m.f0 ∈ nums l
                      · obtain ⟨bw, hbw⟩ : ∃ bw : Bool, decide (m.f0 ∈ nums l) = bw := ⟨_, rfl⟩
                        have BT_ : bw = true := hbw.symm.trans (decide_eq_true hin)
                        have BW := Aside0.mk hbw
                        have CP := Aside0.mk (show 0 < cntV y m.f0 by
                          have h1 : 0 < (nums (y.lv i)).count m.f0 := List.count_pos_iff.mpr (by rw [← LE.out]; exact hin)
                          rw [lv_cnt]
                          rcases (by have := HI.out; omega : i = 0 ∨ i = 1 ∨ i = 2 ∨ i = 3) with rfl | rfl | rfl | rfl <;> omega)
                        clear hbw hin
                        go_upto_region 21 with (fail)
                        refine start_ (n := 17) (S := (fun w' => w'.heap[g2]? = some (.cells (eCs e A1 c1 A2 c2) 70 (0, 0)) ∧ w'.heap[g6]? = some (.cells (vCs y q) 26 (0, 0)) ∧ w'.cell? (ad.add (k * 8)) = some (.int .i64 (lv : Int)) ∧ w'.cell? ⟨(ad.add (k * 8)).block, (ad.add (k * 8)).off + 1, none⟩ = some (.int .u64 m.f0) ∧ w'.cell? ⟨(ad.add (k * 8)).block, (ad.add (k * 8)).off + 2, none⟩ = some (.int .i64 m.f1) ∧ w'.cell? ⟨(ad.add (k * 8)).block, (ad.add (k * 8)).off + 3, none⟩ = some (.int .i64 m.f2) ∧ w'.cell? ⟨(ad.add (k * 8)).block, (ad.add (k * 8)).off + 4, none⟩ = some (.string m.f3) ∧ w'.cell? ⟨(ad.add (k * 8)).block, (ad.add (k * 8)).off + 5, none⟩ = some (.string m.f4) ∧ w'.cell? ⟨(ad.add (k * 8)).block, (ad.add (k * 8)).off + 6, none⟩ = some (.int .u64 m.f5) ∧ w'.cell? ⟨(ad.add (k * 8)).block, (ad.add (k * 8)).off + 7, none⟩ = some (.int .u64 m.f6))) (ds := []) #[false, false, false, false, false, false, false, false, false, false, false, false, false, false, false, false, false] (by kernel_rfl) rfl rfl ⟨blk_drew X26.out, blk_drew X66.out, CE6.out⟩ (fun hHeld => ?_)
                        have HBd := Aside0.mk (below_step HB6.out (below_drew (Below.refl _ _)))
                        have X1d := Aside0.mk (blk_below X16.out (below_drew (Below.refl _ _)))
                        have X2d := Aside0.mk (blk_below X26.out (below_drew (Below.refl _ _)))
                        have X3d := Aside0.mk (blk_below X36.out (below_drew (Below.refl _ _)))
                        have X6d := Aside0.mk (blk_below X66.out (below_drew (Below.refl _ _)))
                        have RRd := Aside0.mk (RR6.out.below (below_drew (Below.refl _ _)))
                        clear HB6 X16 X26 X36 X66 RR6 CE6
                        generalize wr.drew = wd at *
                        have RLd := Aside0.mk (show k58.C wd (q.a i) l.length l by rw [LE.out]; exact (RRd.out.vc i HI.out).1)
                        refine pure_ (i := 0) (N := (some 140)) (v := ?_) (a' := ?_) #[true, false, false, false, false, false, false, false, false, false, false, false, false, false, false, false, false] rfl rfl (by kernel_rfl) (fun _ _ _ h => h) (Or.inl ⟨by rfl, ?_⟩) ?_ ?_
                        rotate_left
                        · intro w'
                          go_simp
                          with_reducible rfl
                        rotate_left
                        · simp only [Act.put, List.setIfInBounds_toArray, List.set_cons_zero, List.set_cons_succ, i64_w, i32_w]
                          rfl
                        refine pure_ (i := 1) (N := (some 141)) (v := ?_) (a' := ?_) #[true, true, false, false, false, false, false, false, false, false, false, false, false, false, false, false, false] rfl rfl (by kernel_rfl) (fun _ _ _ h => h) (Or.inl ⟨by rfl, ?_⟩) ?_ ?_
                        rotate_left
                        · intro w'
                          go_simp
                          with_reducible rfl
                        rotate_left
                        · simp only [Act.put, List.setIfInBounds_toArray, List.set_cons_zero, List.set_cons_succ, i64_w, i32_w]
                          rfl
                        refine pure_ (i := 2) (N := (some 142)) (v := ?_) (a' := ?_) #[true, true, true, false, false, false, false, false, false, false, false, false, false, false, false, false, false] rfl rfl (by kernel_rfl) (fun _ _ _ h => h) (Or.inl ⟨by rfl, ?_⟩) ?_ ?_
                        rotate_left
                        · intro w'
                          go_simp
                          with_reducible rfl
                        rotate_left
                        · simp only [Act.put, List.setIfInBounds_toArray, List.set_cons_zero, List.set_cons_succ, i64_w, i32_w]
                          rfl
                        refine take_ (i := 3) (N := (some 143)) (v := ?_) (a' := ?_) #[true, true, true, true, false, false, false, false, false, false, false, false, false, false, false, false, false] rfl rfl (by kernel_rfl) (fun _ _ _ h => h) (Or.inl ⟨by rfl, ?_⟩) hHeld ?_ ?_
                        rotate_left
                        · rintro w' ⟨s0, s1, s2, s3, s4, s5, s6, s7, s8, s9⟩
                          have z4 : w'.cell? ⟨g6, 3 + i, none⟩ = some (.slice (q.a i) l.length (q.c i)) := by have h := vcell s1 i HI.out; rw [← LE.out] at h; exact h
                          go_simp
                          with_reducible rfl
                        rotate_left
                        · simp only [Act.put, List.setIfInBounds_toArray, List.set_cons_zero, List.set_cons_succ, i64_w, i32_w]
                          rfl
                        refine pure_ (i := 4) (N := (some 144)) (v := ?_) (a' := ?_) #[true, true, true, true, true, false, false, false, false, false, false, false, false, false, false, false, false] rfl rfl (by kernel_rfl) (fun _ _ _ h => h) (Or.inl ⟨by rfl, ?_⟩) ?_ ?_
                        rotate_left
                        · intro w'
                          go_simp
                          with_reducible rfl
                        rotate_left
                        · simp only [Act.put, List.setIfInBounds_toArray, List.set_cons_zero, List.set_cons_succ, i64_w, i32_w]
                          rfl
                        refine take_ (i := 5) (N := (some 145)) (v := ?_) (a' := ?_) #[true, true, true, true, true, true, false, false, false, false, false, false, false, false, false, false, false] rfl rfl (by kernel_rfl) (fun _ _ _ h => h) (Or.inl ⟨by rfl, ?_⟩) hHeld ?_ ?_
                        rotate_left
                        · rintro w' ⟨s0, s1, s2, s3, s4, s5, s6, s7, s8, s9⟩
                          have z3 : w'.cell? ⟨g2, 4, none⟩ = some (.slice (some ad) e.added.length c2) := by rw [← HAX.out]; exact (blk_cell s0 4).trans rfl
                          go_simp
                          with_reducible rfl
                        rotate_left
                        · simp only [Act.put, List.setIfInBounds_toArray, List.set_cons_zero, List.set_cons_succ, i64_w, i32_w]
                          rfl
                        refine pure_ (i := 6) (N := (some 146)) (v := ?_) (a' := ?_) #[true, true, true, true, true, true, true, false, false, false, false, false, false, false, false, false, false] rfl rfl (by kernel_rfl) (fun _ _ _ h => h) (Or.inl ⟨by rfl, ?_⟩) ?_ ?_
                        rotate_left
                        · intro w'
                          go_simp
                          with_reducible rfl
                        rotate_left
                        · simp only [Act.put, List.setIfInBounds_toArray, List.set_cons_zero, List.set_cons_succ, i64_w, i32_w]
                          rfl
                        refine pure_ (i := 7) (N := (some 147)) (v := ?_) (a' := ?_) #[true, true, true, true, true, true, true, true, false, false, false, false, false, false, false, false, false] rfl rfl (by kernel_rfl) (fun _ _ _ h => h) (Or.inl ⟨by rfl, ?_⟩) ?_ ?_
                        rotate_left
                        · intro w'
                          go_simp
                          with_reducible rfl
                        rotate_left
                        · simp only [Act.put, List.setIfInBounds_toArray, List.set_cons_zero, List.set_cons_succ, i64_w, i32_w]
                          rfl
                        refine pure_ (i := 8) (N := (some 148)) (v := ?_) (a' := ?_) #[true, true, true, true, true, true, true, true, true, false, false, false, false, false, false, false, false] rfl rfl (by kernel_rfl) (fun _ _ _ h => h) (Or.inl ⟨by rfl, ?_⟩) ?_ ?_
                        rotate_left
                        · intro w'
                          go_simp
                          with_reducible rfl
                        rotate_left
                        · simp only [Act.put, List.setIfInBounds_toArray, List.set_cons_zero, List.set_cons_succ, i64_w, i32_w]
                          rfl
                        refine pure_ (i := 9) (N := (some 149)) (v := ?_) (a' := ?_) #[true, true, true, true, true, true, true, true, true, true, false, false, false, false, false, false, false] rfl rfl (by kernel_rfl) (fun _ _ _ h => h) (Or.inl ⟨by rfl, ?_⟩) ?_ ?_
                        rotate_left
                        · intro w'
                          go_simp
                          with_reducible rfl
                        rotate_left
                        · simp only [Act.put, List.setIfInBounds_toArray, List.set_cons_zero, List.set_cons_succ, i64_w, i32_w]
                          rfl
                        refine take_ (i := 10) (N := (some 150)) (v := ?_) (a' := ?_) #[true, true, true, true, true, true, true, true, true, true, true, false, false, false, false, false, false] rfl rfl (by kernel_rfl) (fun _ _ _ h => h) (Or.inl ⟨by rfl, ?_⟩) hHeld ?_ ?_
                        rotate_left
                        · rintro w' ⟨s0, s1, s2, s3, s4, s5, s6, s7, s8, s9⟩
                          go_simp
                          with_reducible rfl
                        rotate_left
                        · simp only [Act.put, List.setIfInBounds_toArray, List.set_cons_zero, List.set_cons_succ, i64_w, i32_w]
                          rfl
                        refine one_ (i := 11) (N := (some 151)) #[true, true, true, true, true, true, true, true, true, true, true, true, false, false, false, false, false] rfl rfl (by kernel_rfl) (by decide) (fun K hK => ?_)
                        refine goes_ Try.func109 (by kernel_rfl) rfl #[.slice (q.a i) l.length (q.c i), .int .u64 m.f0] (by rfl) rfl rfl (by (try simp only [List.map_toArray, List.map_cons, List.map_nil]); first | done | rfl) ?_
                        (with_reducible refine (withoutB_calls _ (q.a i) (q.c i) l m.f0 bw RLd.out LL.out BW.out).mono ?_)
                        rintro e wA ⟨B, cb, rfl, hR, hb⟩
                        refine ⟨_, rfl, ?_⟩
                        have HBA := Aside0.mk (below_step HBd.out hb)
                        have X1A := Aside0.mk (blk_below X1d.out hb)
                        have X2A := Aside0.mk (blk_below X2d.out hb)
                        have X3A := Aside0.mk (blk_below X3d.out hb)
                        have X6A := Aside0.mk (blk_below X6d.out hb)
                        have RRA := Aside0.mk (RRd.out.below hb)
                        have hOld := hHeld
                        clear hHeld
                        refine hK.out _ _ (⟨blk_below hOld.1 hb, blk_below hOld.2.1 hb, pw_cell_below hb hOld.2.2.1, pw_cell_below hb hOld.2.2.2.1, pw_cell_below hb hOld.2.2.2.2.1, pw_cell_below hb hOld.2.2.2.2.2.1, pw_cell_below hb hOld.2.2.2.2.2.2.1, pw_cell_below hb hOld.2.2.2.2.2.2.2.1, pw_cell_below hb hOld.2.2.2.2.2.2.2.2.1, pw_cell_below hb hOld.2.2.2.2.2.2.2.2.2⟩) (fun hHeld => ?_)
                        clear hOld hK K
                        refine norm_ (a' := ?_) ?_ ?_
                        rotate_left
                        · show Act.put _ (some 151) _ = _
                          simp only [Act.put, List.setIfInBounds_toArray, List.set_cons_zero, List.set_cons_succ, i64_w, i32_w]
                          rfl
                        have CEA := Aside0.mk hHeld.2.2
                        clear HBd X1d X2d X3d X6d RRd RLd
                        refine pure_ (i := 12) (N := (some 139)) (v := ?_) (a' := ?_) #[true, true, true, true, true, true, true, true, true, true, true, true, true, false, false, false, false] rfl rfl (by kernel_rfl) (fun _ _ _ h => h) (Or.inl ⟨by rfl, ?_⟩) ?_ ?_
                        rotate_left
                        · intro w'
                          go_simp
                          with_reducible rfl
                        rotate_left
                        · simp only [Act.put, List.setIfInBounds_toArray, List.set_cons_zero, List.set_cons_succ, i64_w, i32_w]
                          rfl
                        refine pure_ (i := 13) (N := (some 152)) (v := ?_) (a' := ?_) #[true, true, true, true, true, true, true, true, true, true, true, true, true, true, false, false, false] rfl rfl (by kernel_rfl) (fun _ _ _ h => h) (Or.inl ⟨by rfl, ?_⟩) ?_ ?_
                        rotate_left
                        · intro w'
                          go_simp
                          with_reducible rfl
                        rotate_left
                        · simp only [Act.put, List.setIfInBounds_toArray, List.set_cons_zero, List.set_cons_succ, i64_w, i32_w]
                          rfl
                        refine pure_ (i := 14) (N := (some 153)) (v := ?_) (a' := ?_) #[true, true, true, true, true, true, true, true, true, true, true, true, true, true, true, false, false] rfl rfl (by kernel_rfl) (fun _ _ _ h => h) (Or.inl ⟨by rfl, ?_⟩) ?_ ?_
                        rotate_left
                        · intro w'
                          go_simp
                          with_reducible rfl
                        rotate_left
                        · simp only [Act.put, List.setIfInBounds_toArray, List.set_cons_zero, List.set_cons_succ, i64_w, i32_w]
                          rfl
                        refine pure_ (i := 15) (N := (some 13)) (v := ?_) (a' := ?_) #[true, true, true, true, true, true, true, true, true, true, true, true, true, true, true, true, false] rfl rfl (by kernel_rfl) (fun _ _ _ h => h) (Or.inl ⟨by rfl, ?_⟩) ?_ ?_
                        rotate_left
                        · intro w'
                          go_simp
                          with_reducible rfl
                        rotate_left
                        · simp only [Act.put, List.setIfInBounds_toArray, List.set_cons_zero, List.set_cons_succ, i64_w, i32_w]
                          rfl
                        refine pure_ (i := 16) (N := (some 14)) (v := ?_) (a' := ?_) #[true, true, true, true, true, true, true, true, true, true, true, true, true, true, true, true, true] rfl rfl (by kernel_rfl) (fun _ _ _ h => h) (Or.inl ⟨by rfl, ?_⟩) ?_ ?_
                        rotate_left
                        · intro w'
                          go_simp
                          with_reducible rfl
                        rotate_left
                        · simp only [Act.put, List.setIfInBounds_toArray, List.set_cons_zero, List.set_cons_succ, i64_w, i32_w]
                          rfl
                        refine done_ (by kernel_rfl) ?_
                        clear hHeld
                        subst BT_
                        have AV2 : (u, r) = (zeroV, 5) := CV.out.symm.trans (come_no KL.out EM.out.symm CP.out)
                        injection AV2 with e1_ e2_
                        have E1 := Aside0.mk e1_
                        have E2 := Aside0.mk e2_
                        clear e1_ e2_
                        go_wp2_with (first | (refine st_arr rfl 26 _ _ rfl g3 26 ?hx #[.int .u64 0, .int .u64 0, .int .u64 0, .slice none 0 0, .slice none 0 0, .slice none 0 0, .slice none 0 0] ?hy _ X3A.out (by rw [size26]; rfl) rfl (by simp [Value.oneCell']) ?_; (case hx => rfl); (case hy => rfl); intro w7 hb7 hbb hk7 hs7; have HB7 := Aside0.mk (hbb _ _ HBA.out (show w.heap.size ≤ g3 by have := N2.out; have := N3.out; omega)); have X7 := Aside0.mk hb7; clear hb7 hbb hk7 hs7) | fail)
                        have r0 : w7.cell? ⟨g3, 0, none⟩ = some (.int .u64 0) := (blk_cell X7.out 0).trans rfl
                        have r1 : w7.cell? ⟨g3, 1, none⟩ = some (.int .u64 0) := (blk_cell X7.out 1).trans rfl
                        have r2 : w7.cell? ⟨g3, 2, none⟩ = some (.int .u64 0) := (blk_cell X7.out 2).trans rfl
                        have r3 : w7.cell? ⟨g3, 3, none⟩ = some (.slice none 0 0) := (blk_cell X7.out 3).trans rfl
                        have r4 : w7.cell? ⟨g3, 4, none⟩ = some (.slice none 0 0) := (blk_cell X7.out 4).trans rfl
                        have r5 : w7.cell? ⟨g3, 5, none⟩ = some (.slice none 0 0) := (blk_cell X7.out 5).trans rfl
                        have r6 : w7.cell? ⟨g3, 6, none⟩ = some (.slice none 0 0) := (blk_cell X7.out 6).trans rfl
                        have e1_ := E1.out
                        have e2_ := E2.out
                        subst e1_
                        subst e2_
                        exact bodyPost_ret (v := .tuple #[.agg #[.int .u64 0, .int .u64 0, .int .u64 0, .slice none 0 0, .slice none 0 0, .slice none 0 0, .slice none 0 0], .int .i64 5]) (by simp [results, Try.results55, go_sem, r0, r1, r2, r3, r4, r5, r6]) rfl ⟨firstP, rfl, (Rows4.zero _ w.heap.size).vc, HB7.out⟩
                      · obtain ⟨bw, hbw⟩ : ∃ bw : Bool, decide (m.f0 ∈ nums l) = bw := ⟨_, rfl⟩
                        have BT_ : bw = false := hbw.symm.trans (decide_eq_false hin)
                        have BW := Aside0.mk hbw
                        have NIN := Aside0.mk (show m.f0 ∉ nums (y.lv i) by rw [← LE.out]; exact hin)
                        have HBW0 := HBW
                        clear hbw hin
                        go_upto_region 21 with (fail)
                        refine start_ (n := 17) (S := (fun w' => w'.heap[g2]? = some (.cells (eCs e A1 c1 A2 c2) 70 (0, 0)) ∧ w'.heap[g6]? = some (.cells (vCs y q) 26 (0, 0)) ∧ w'.cell? (ad.add (k * 8)) = some (.int .i64 (lv : Int)) ∧ w'.cell? ⟨(ad.add (k * 8)).block, (ad.add (k * 8)).off + 1, none⟩ = some (.int .u64 m.f0) ∧ w'.cell? ⟨(ad.add (k * 8)).block, (ad.add (k * 8)).off + 2, none⟩ = some (.int .i64 m.f1) ∧ w'.cell? ⟨(ad.add (k * 8)).block, (ad.add (k * 8)).off + 3, none⟩ = some (.int .i64 m.f2) ∧ w'.cell? ⟨(ad.add (k * 8)).block, (ad.add (k * 8)).off + 4, none⟩ = some (.string m.f3) ∧ w'.cell? ⟨(ad.add (k * 8)).block, (ad.add (k * 8)).off + 5, none⟩ = some (.string m.f4) ∧ w'.cell? ⟨(ad.add (k * 8)).block, (ad.add (k * 8)).off + 6, none⟩ = some (.int .u64 m.f5) ∧ w'.cell? ⟨(ad.add (k * 8)).block, (ad.add (k * 8)).off + 7, none⟩ = some (.int .u64 m.f6))) (ds := []) #[false, false, false, false, false, false, false, false, false, false, false, false, false, false, false, false, false] (by kernel_rfl) rfl rfl ⟨blk_drew X26.out, blk_drew X66.out, CE6.out⟩ (fun hHeld => ?_)
                        have HBWd := Aside0.mk (below_step HBW0.out (below_drew (Below.refl _ _)))
                        have HBd := Aside0.mk (below_step HB6.out (below_drew (Below.refl _ _)))
                        have X1d := Aside0.mk (blk_below X16.out (below_drew (Below.refl _ _)))
                        have X2d := Aside0.mk (blk_below X26.out (below_drew (Below.refl _ _)))
                        have X3d := Aside0.mk (blk_below X36.out (below_drew (Below.refl _ _)))
                        have X6d := Aside0.mk (blk_below X66.out (below_drew (Below.refl _ _)))
                        have RRd := Aside0.mk (RR6.out.below (below_drew (Below.refl _ _)))
                        clear HB6 X16 X26 X36 X66 RR6 CE6
                        generalize wr.drew = wd at *
                        have RLd := Aside0.mk (show k58.C wd (q.a i) l.length l by rw [LE.out]; exact (RRd.out.vc i HI.out).1)
                        refine pure_ (i := 0) (N := (some 140)) (v := ?_) (a' := ?_) #[true, false, false, false, false, false, false, false, false, false, false, false, false, false, false, false, false] rfl rfl (by kernel_rfl) (fun _ _ _ h => h) (Or.inl ⟨by rfl, ?_⟩) ?_ ?_
                        rotate_left
                        · intro w'
                          go_simp
                          with_reducible rfl
                        rotate_left
                        · simp only [Act.put, List.setIfInBounds_toArray, List.set_cons_zero, List.set_cons_succ, i64_w, i32_w]
                          rfl
                        refine pure_ (i := 1) (N := (some 141)) (v := ?_) (a' := ?_) #[true, true, false, false, false, false, false, false, false, false, false, false, false, false, false, false, false] rfl rfl (by kernel_rfl) (fun _ _ _ h => h) (Or.inl ⟨by rfl, ?_⟩) ?_ ?_
                        rotate_left
                        · intro w'
                          go_simp
                          with_reducible rfl
                        rotate_left
                        · simp only [Act.put, List.setIfInBounds_toArray, List.set_cons_zero, List.set_cons_succ, i64_w, i32_w]
                          rfl
                        refine pure_ (i := 2) (N := (some 142)) (v := ?_) (a' := ?_) #[true, true, true, false, false, false, false, false, false, false, false, false, false, false, false, false, false] rfl rfl (by kernel_rfl) (fun _ _ _ h => h) (Or.inl ⟨by rfl, ?_⟩) ?_ ?_
                        rotate_left
                        · intro w'
                          go_simp
                          with_reducible rfl
                        rotate_left
                        · simp only [Act.put, List.setIfInBounds_toArray, List.set_cons_zero, List.set_cons_succ, i64_w, i32_w]
                          rfl
                        refine take_ (i := 3) (N := (some 143)) (v := ?_) (a' := ?_) #[true, true, true, true, false, false, false, false, false, false, false, false, false, false, false, false, false] rfl rfl (by kernel_rfl) (fun _ _ _ h => h) (Or.inl ⟨by rfl, ?_⟩) hHeld ?_ ?_
                        rotate_left
                        · rintro w' ⟨s0, s1, s2, s3, s4, s5, s6, s7, s8, s9⟩
                          have z4 : w'.cell? ⟨g6, 3 + i, none⟩ = some (.slice (q.a i) l.length (q.c i)) := by have h := vcell s1 i HI.out; rw [← LE.out] at h; exact h
                          go_simp
                          with_reducible rfl
                        rotate_left
                        · simp only [Act.put, List.setIfInBounds_toArray, List.set_cons_zero, List.set_cons_succ, i64_w, i32_w]
                          rfl
                        refine pure_ (i := 4) (N := (some 144)) (v := ?_) (a' := ?_) #[true, true, true, true, true, false, false, false, false, false, false, false, false, false, false, false, false] rfl rfl (by kernel_rfl) (fun _ _ _ h => h) (Or.inl ⟨by rfl, ?_⟩) ?_ ?_
                        rotate_left
                        · intro w'
                          go_simp
                          with_reducible rfl
                        rotate_left
                        · simp only [Act.put, List.setIfInBounds_toArray, List.set_cons_zero, List.set_cons_succ, i64_w, i32_w]
                          rfl
                        refine take_ (i := 5) (N := (some 145)) (v := ?_) (a' := ?_) #[true, true, true, true, true, true, false, false, false, false, false, false, false, false, false, false, false] rfl rfl (by kernel_rfl) (fun _ _ _ h => h) (Or.inl ⟨by rfl, ?_⟩) hHeld ?_ ?_
                        rotate_left
                        · rintro w' ⟨s0, s1, s2, s3, s4, s5, s6, s7, s8, s9⟩
                          have z3 : w'.cell? ⟨g2, 4, none⟩ = some (.slice (some ad) e.added.length c2) := by rw [← HAX.out]; exact (blk_cell s0 4).trans rfl
                          go_simp
                          with_reducible rfl
                        rotate_left
                        · simp only [Act.put, List.setIfInBounds_toArray, List.set_cons_zero, List.set_cons_succ, i64_w, i32_w]
                          rfl
                        refine pure_ (i := 6) (N := (some 146)) (v := ?_) (a' := ?_) #[true, true, true, true, true, true, true, false, false, false, false, false, false, false, false, false, false] rfl rfl (by kernel_rfl) (fun _ _ _ h => h) (Or.inl ⟨by rfl, ?_⟩) ?_ ?_
                        rotate_left
                        · intro w'
                          go_simp
                          with_reducible rfl
                        rotate_left
                        · simp only [Act.put, List.setIfInBounds_toArray, List.set_cons_zero, List.set_cons_succ, i64_w, i32_w]
                          rfl
                        refine pure_ (i := 7) (N := (some 147)) (v := ?_) (a' := ?_) #[true, true, true, true, true, true, true, true, false, false, false, false, false, false, false, false, false] rfl rfl (by kernel_rfl) (fun _ _ _ h => h) (Or.inl ⟨by rfl, ?_⟩) ?_ ?_
                        rotate_left
                        · intro w'
                          go_simp
                          with_reducible rfl
                        rotate_left
                        · simp only [Act.put, List.setIfInBounds_toArray, List.set_cons_zero, List.set_cons_succ, i64_w, i32_w]
                          rfl
                        refine pure_ (i := 8) (N := (some 148)) (v := ?_) (a' := ?_) #[true, true, true, true, true, true, true, true, true, false, false, false, false, false, false, false, false] rfl rfl (by kernel_rfl) (fun _ _ _ h => h) (Or.inl ⟨by rfl, ?_⟩) ?_ ?_
                        rotate_left
                        · intro w'
                          go_simp
                          with_reducible rfl
                        rotate_left
                        · simp only [Act.put, List.setIfInBounds_toArray, List.set_cons_zero, List.set_cons_succ, i64_w, i32_w]
                          rfl
                        refine pure_ (i := 9) (N := (some 149)) (v := ?_) (a' := ?_) #[true, true, true, true, true, true, true, true, true, true, false, false, false, false, false, false, false] rfl rfl (by kernel_rfl) (fun _ _ _ h => h) (Or.inl ⟨by rfl, ?_⟩) ?_ ?_
                        rotate_left
                        · intro w'
                          go_simp
                          with_reducible rfl
                        rotate_left
                        · simp only [Act.put, List.setIfInBounds_toArray, List.set_cons_zero, List.set_cons_succ, i64_w, i32_w]
                          rfl
                        refine take_ (i := 10) (N := (some 150)) (v := ?_) (a' := ?_) #[true, true, true, true, true, true, true, true, true, true, true, false, false, false, false, false, false] rfl rfl (by kernel_rfl) (fun _ _ _ h => h) (Or.inl ⟨by rfl, ?_⟩) hHeld ?_ ?_
                        rotate_left
                        · rintro w' ⟨s0, s1, s2, s3, s4, s5, s6, s7, s8, s9⟩
                          go_simp
                          with_reducible rfl
                        rotate_left
                        · simp only [Act.put, List.setIfInBounds_toArray, List.set_cons_zero, List.set_cons_succ, i64_w, i32_w]
                          rfl
                        refine one_ (i := 11) (N := (some 151)) #[true, true, true, true, true, true, true, true, true, true, true, true, false, false, false, false, false] rfl rfl (by kernel_rfl) (by decide) (fun K hK => ?_)
                        refine goes_ Try.func109 (by kernel_rfl) rfl #[.slice (q.a i) l.length (q.c i), .int .u64 m.f0] (by rfl) rfl rfl (by (try simp only [List.map_toArray, List.map_cons, List.map_nil]); first | done | rfl) ?_
                        (with_reducible refine (withoutB_calls _ (q.a i) (q.c i) l m.f0 bw RLd.out LL.out BW.out).mono ?_)
                        rintro e wA ⟨B, cb, rfl, hR, hb⟩
                        refine ⟨_, rfl, ?_⟩
                        have HBWA := Aside0.mk (below_step HBWd.out hb)
                        have HBA := Aside0.mk (below_step HBd.out hb)
                        have X1A := Aside0.mk (blk_below X1d.out hb)
                        have X2A := Aside0.mk (blk_below X2d.out hb)
                        have X3A := Aside0.mk (blk_below X3d.out hb)
                        have X6A := Aside0.mk (blk_below X6d.out hb)
                        have RRA := Aside0.mk (RRd.out.below hb)
                        have hOld := hHeld
                        clear hHeld
                        refine hK.out _ _ (⟨blk_below hOld.1 hb, blk_below hOld.2.1 hb, pw_cell_below hb hOld.2.2.1, pw_cell_below hb hOld.2.2.2.1, pw_cell_below hb hOld.2.2.2.2.1, pw_cell_below hb hOld.2.2.2.2.2.1, pw_cell_below hb hOld.2.2.2.2.2.2.1, pw_cell_below hb hOld.2.2.2.2.2.2.2.1, pw_cell_below hb hOld.2.2.2.2.2.2.2.2.1, pw_cell_below hb hOld.2.2.2.2.2.2.2.2.2⟩) (fun hHeld => ?_)
                        clear hOld hK K
                        refine norm_ (a' := ?_) ?_ ?_
                        rotate_left
                        · show Act.put _ (some 151) _ = _
                          simp only [Act.put, List.setIfInBounds_toArray, List.set_cons_zero, List.set_cons_succ, i64_w, i32_w]
                          rfl
                        have CEA := Aside0.mk hHeld.2.2
                        clear HBd X1d X2d X3d X6d RRd RLd
                        refine pure_ (i := 12) (N := (some 139)) (v := ?_) (a' := ?_) #[true, true, true, true, true, true, true, true, true, true, true, true, true, false, false, false, false] rfl rfl (by kernel_rfl) (fun _ _ _ h => h) (Or.inl ⟨by rfl, ?_⟩) ?_ ?_
                        rotate_left
                        · intro w'
                          go_simp
                          with_reducible rfl
                        rotate_left
                        · simp only [Act.put, List.setIfInBounds_toArray, List.set_cons_zero, List.set_cons_succ, i64_w, i32_w]
                          rfl
                        refine pure_ (i := 13) (N := (some 152)) (v := ?_) (a' := ?_) #[true, true, true, true, true, true, true, true, true, true, true, true, true, true, false, false, false] rfl rfl (by kernel_rfl) (fun _ _ _ h => h) (Or.inl ⟨by rfl, ?_⟩) ?_ ?_
                        rotate_left
                        · intro w'
                          go_simp
                          with_reducible rfl
                        rotate_left
                        · simp only [Act.put, List.setIfInBounds_toArray, List.set_cons_zero, List.set_cons_succ, i64_w, i32_w]
                          rfl
                        refine pure_ (i := 14) (N := (some 153)) (v := ?_) (a' := ?_) #[true, true, true, true, true, true, true, true, true, true, true, true, true, true, true, false, false] rfl rfl (by kernel_rfl) (fun _ _ _ h => h) (Or.inl ⟨by rfl, ?_⟩) ?_ ?_
                        rotate_left
                        · intro w'
                          go_simp
                          with_reducible rfl
                        rotate_left
                        · simp only [Act.put, List.setIfInBounds_toArray, List.set_cons_zero, List.set_cons_succ, i64_w, i32_w]
                          rfl
                        refine pure_ (i := 15) (N := (some 13)) (v := ?_) (a' := ?_) #[true, true, true, true, true, true, true, true, true, true, true, true, true, true, true, true, false] rfl rfl (by kernel_rfl) (fun _ _ _ h => h) (Or.inl ⟨by rfl, ?_⟩) ?_ ?_
                        rotate_left
                        · intro w'
                          go_simp
                          with_reducible rfl
                        rotate_left
                        · simp only [Act.put, List.setIfInBounds_toArray, List.set_cons_zero, List.set_cons_succ, i64_w, i32_w]
                          rfl
                        refine pure_ (i := 16) (N := (some 14)) (v := ?_) (a' := ?_) #[true, true, true, true, true, true, true, true, true, true, true, true, true, true, true, true, true] rfl rfl (by kernel_rfl) (fun _ _ _ h => h) (Or.inl ⟨by rfl, ?_⟩) ?_ ?_
                        rotate_left
                        · intro w'
                          go_simp
                          with_reducible rfl
                        rotate_left
                        · simp only [Act.put, List.setIfInBounds_toArray, List.set_cons_zero, List.set_cons_succ, i64_w, i32_w]
                          rfl
                        refine done_ (by kernel_rfl) ?_
                        clear hHeld
                        subst BT_
                        go_wp2_with fail
                        have ew : wrap64 ((i : Int) + 1) = ((i + 1 : Nat) : Int) := by have h1 := HI.out; unfold wrap64; omega
                        try rw [ew]
                        clear ew
                        go_roundg q4
                        case measure => omega
                        case rel => exact ⟨i + 1, rfl, ⟨by have := HK4.out; omega⟩, HBWA, ⟨fun j hj => by
                          by_cases e : j = i
                          · subst e; exact NIN.out
                          · exact HJ.out j (by omega)⟩⟩
            | succ zq =>
              have KL := Aside0.mk (show k < e.gone.length by have := HK.out; omega)
              have d4 : decide ((k : Int) < (e.gone.length : Int)) = true := decide_eq_true (by have := HK.out; omega)
              have d5 : decide (k < e.gone.length) = true := decide_eq_true (by have := HK.out; omega)
              have p0 : 0 ≤ (k : Int) := Int.natCast_nonneg _
              have p1 : (k : Int) < (e.gone.length : Int) := by have := HK.out; omega
              obtain ⟨ad, ea, ha0, ha1⟩ := at_T84 (Kd.C_below H1.out HB.out) (k : Int) p0 p1
              have hmx := getD_mem e.gone z84 (k := k) (by have := HK.out; omega)
              have EM := Aside0.mk (show rd_T84 e.gone (k : Int) = e.gone.getD k z84 by unfold rd_T84; rw [Int.toNat_natCast])
              rw [← EM.out] at hmx
              generalize rd_T84 e.gone (k : Int) = x at *
              have hlx := AK.out.2.1 x hmx
              obtain ⟨lv, hlv⟩ : ∃ lv : Nat, x.f0 = (lv : Int) := ⟨x.f0.toNat, by have := hlx.1; omega⟩
              have HLV := Aside0.mk (show lv < 4 by have := hlx.2; omega)
              have l0_ : 0 ≤ (lv : Int) := Int.natCast_nonneg _
              have l1_ : (lv : Int) < 4 := by have := HLV.out; omega
              obtain ⟨f0, f1⟩ := x
              dsimp only at hlv ha0 ha1
              subst hlv
              have HAX := Aside0.mk ea
              rw [Int.toNat_natCast] at ha0 ha1
              clear hmx hlx ea
              obtain ⟨l, hl⟩ : ∃ l, l = y.lv lv := ⟨_, rfl⟩
              have LE := Aside0.mk hl
              have LL := Aside0.mk (show l.length ≤ 1000000000 by rw [hl]; have := OKS.out.2.2 lv HLV.out; omega)
              clear hl
              by_cases hin : f1 ∈ nums l
              · obtain ⟨bw, hbw⟩ : ∃ bw : Bool, decide (f1 ∈ nums l) = bw := ⟨_, rfl⟩
                have BT_ : bw = true := hbw.symm.trans (decide_eq_true hin)
                have BW := Aside0.mk hbw
                have IN := Aside0.mk hin
                clear hbw hin
                go_upto_region 11 with (fail)
                clear e3
                refine start_ (n := 21) (S := (fun w' => w'.heap[g2]? = some (.cells (eCs e A1 c1 A2 c2) 70 (0, 0)) ∧ w'.heap[g6]? = some (.cells (vCs y q) 26 (0, 0)) ∧ w'.cell? (ad.add (k * 2)) = some (.int .i64 (lv : Int)) ∧ w'.cell? ⟨(ad.add (k * 2)).block, (ad.add (k * 2)).off + 1, none⟩ = some (.int .u64 f1))) (ds := []) #[false, false, false, false, false, false, false, false, false, false, false, false, false, false, false, false, false, false, false, false, false] (by kernel_rfl) rfl rfl ⟨blk_drew X2.out, blk_drew X6.out, ha0, ha1⟩ (fun hHeld => ?_)
                have HBd := Aside0.mk (below_step HB.out (below_drew (Below.refl _ _)))
                have X1d := Aside0.mk (blk_below X1.out (below_drew (Below.refl _ _)))
                have X2d := Aside0.mk (blk_below X2.out (below_drew (Below.refl _ _)))
                have X3d := Aside0.mk (blk_below X3.out (below_drew (Below.refl _ _)))
                have X6d := Aside0.mk (blk_below X6.out (below_drew (Below.refl _ _)))
                have RRd := Aside0.mk (RR.out.below (below_drew (Below.refl _ _)))
                clear HB X1 X2 X3 X6 RR ha0 ha1
                generalize wr.drew = wd at *
                have RLd := Aside0.mk (show k58.C wd (q.a lv) l.length l by rw [LE.out]; exact (RRd.out.vc lv HLV.out).1)
                refine pure_ (i := 0) (N := (some 98)) (v := ?_) (a' := ?_) #[true, false, false, false, false, false, false, false, false, false, false, false, false, false, false, false, false, false, false, false, false] rfl rfl (by kernel_rfl) (fun _ _ _ h => h) (Or.inl ⟨by rfl, ?_⟩) ?_ ?_
                rotate_left
                · intro w'
                  go_simp
                  with_reducible rfl
                rotate_left
                · simp only [Act.put, List.setIfInBounds_toArray, List.set_cons_zero, List.set_cons_succ, i64_w, i32_w]
                  rfl
                refine take_ (i := 1) (N := (some 99)) (v := ?_) (a' := ?_) #[true, true, false, false, false, false, false, false, false, false, false, false, false, false, false, false, false, false, false, false, false] rfl rfl (by kernel_rfl) (fun _ _ _ h => h) (Or.inl ⟨by rfl, ?_⟩) hHeld ?_ ?_
                rotate_left
                · rintro w' ⟨s0, s1, s2, s3⟩
                  have z3 : w'.cell? ⟨g2, 3, none⟩ = some (.slice (some ad) e.gone.length c1) := by rw [← HAX.out]; exact (blk_cell s0 3).trans rfl
                  go_simp
                  with_reducible rfl
                rotate_left
                · simp only [Act.put, List.setIfInBounds_toArray, List.set_cons_zero, List.set_cons_succ, i64_w, i32_w]
                  rfl
                refine pure_ (i := 2) (N := (some 100)) (v := ?_) (a' := ?_) #[true, true, true, false, false, false, false, false, false, false, false, false, false, false, false, false, false, false, false, false, false] rfl rfl (by kernel_rfl) (fun _ _ _ h => h) (Or.inl ⟨by rfl, ?_⟩) ?_ ?_
                rotate_left
                · intro w'
                  go_simp
                  with_reducible rfl
                rotate_left
                · simp only [Act.put, List.setIfInBounds_toArray, List.set_cons_zero, List.set_cons_succ, i64_w, i32_w]
                  rfl
                refine pure_ (i := 3) (N := (some 101)) (v := ?_) (a' := ?_) #[true, true, true, true, false, false, false, false, false, false, false, false, false, false, false, false, false, false, false, false, false] rfl rfl (by kernel_rfl) (fun _ _ _ h => h) (Or.inl ⟨by rfl, ?_⟩) ?_ ?_
                rotate_left
                · intro w'
                  go_simp
                  with_reducible rfl
                rotate_left
                · simp only [Act.put, List.setIfInBounds_toArray, List.set_cons_zero, List.set_cons_succ, i64_w, i32_w]
                  rfl
                refine pure_ (i := 4) (N := (some 102)) (v := ?_) (a' := ?_) #[true, true, true, true, true, false, false, false, false, false, false, false, false, false, false, false, false, false, false, false, false] rfl rfl (by kernel_rfl) (fun _ _ _ h => h) (Or.inl ⟨by rfl, ?_⟩) ?_ ?_
                rotate_left
                · intro w'
                  go_simp
                  with_reducible rfl
                rotate_left
                · simp only [Act.put, List.setIfInBounds_toArray, List.set_cons_zero, List.set_cons_succ, i64_w, i32_w]
                  rfl
                refine take_ (i := 5) (N := (some 103)) (v := ?_) (a' := ?_) #[true, true, true, true, true, true, false, false, false, false, false, false, false, false, false, false, false, false, false, false, false] rfl rfl (by kernel_rfl) (fun _ _ _ h => h) (Or.inl ⟨by rfl, ?_⟩) hHeld ?_ ?_
                rotate_left
                · rintro w' ⟨s0, s1, s2, s3⟩
                  go_simp
                  with_reducible rfl
                rotate_left
                · simp only [Act.put, List.setIfInBounds_toArray, List.set_cons_zero, List.set_cons_succ, i64_w, i32_w]
                  rfl
                refine pure_ (i := 6) (N := (some 104)) (v := ?_) (a' := ?_) #[true, true, true, true, true, true, true, false, false, false, false, false, false, false, false, false, false, false, false, false, false] rfl rfl (by kernel_rfl) (fun _ _ _ h => h) (Or.inl ⟨by rfl, ?_⟩) ?_ ?_
                rotate_left
                · intro w'
                  go_simp
                  with_reducible rfl
                rotate_left
                · simp only [Act.put, List.setIfInBounds_toArray, List.set_cons_zero, List.set_cons_succ, i64_w, i32_w]
                  rfl
                refine pure_ (i := 7) (N := (some 105)) (v := ?_) (a' := ?_) #[true, true, true, true, true, true, true, true, false, false, false, false, false, false, false, false, false, false, false, false, false] rfl rfl (by kernel_rfl) (fun _ _ _ h => h) (Or.inl ⟨by rfl, ?_⟩) ?_ ?_
                rotate_left
                · intro w'
                  go_simp
                  with_reducible rfl
                rotate_left
                · simp only [Act.put, List.setIfInBounds_toArray, List.set_cons_zero, List.set_cons_succ, i64_w, i32_w]
                  rfl
                refine take_ (i := 8) (N := (some 106)) (v := ?_) (a' := ?_) #[true, true, true, true, true, true, true, true, true, false, false, false, false, false, false, false, false, false, false, false, false] rfl rfl (by kernel_rfl) (fun _ _ _ h => h) (Or.inl ⟨by rfl, ?_⟩) hHeld ?_ ?_
                rotate_left
                · rintro w' ⟨s0, s1, s2, s3⟩
                  have z4 : w'.cell? ⟨g6, 3 + lv, none⟩ = some (.slice (q.a lv) l.length (q.c lv)) := by have h := vcell s1 lv HLV.out; rw [← LE.out] at h; exact h
                  go_simp
                  with_reducible rfl
                rotate_left
                · simp only [Act.put, List.setIfInBounds_toArray, List.set_cons_zero, List.set_cons_succ, i64_w, i32_w]
                  rfl
                refine pure_ (i := 9) (N := (some 107)) (v := ?_) (a' := ?_) #[true, true, true, true, true, true, true, true, true, true, false, false, false, false, false, false, false, false, false, false, false] rfl rfl (by kernel_rfl) (fun _ _ _ h => h) (Or.inl ⟨by rfl, ?_⟩) ?_ ?_
                rotate_left
                · intro w'
                  go_simp
                  with_reducible rfl
                rotate_left
                · simp only [Act.put, List.setIfInBounds_toArray, List.set_cons_zero, List.set_cons_succ, i64_w, i32_w]
                  rfl
                refine take_ (i := 10) (N := (some 108)) (v := ?_) (a' := ?_) #[true, true, true, true, true, true, true, true, true, true, true, false, false, false, false, false, false, false, false, false, false] rfl rfl (by kernel_rfl) (fun _ _ _ h => h) (Or.inl ⟨by rfl, ?_⟩) hHeld ?_ ?_
                rotate_left
                · rintro w' ⟨s0, s1, s2, s3⟩
                  have z3 : w'.cell? ⟨g2, 3, none⟩ = some (.slice (some ad) e.gone.length c1) := by rw [← HAX.out]; exact (blk_cell s0 3).trans rfl
                  go_simp
                  with_reducible rfl
                rotate_left
                · simp only [Act.put, List.setIfInBounds_toArray, List.set_cons_zero, List.set_cons_succ, i64_w, i32_w]
                  rfl
                refine pure_ (i := 11) (N := (some 109)) (v := ?_) (a' := ?_) #[true, true, true, true, true, true, true, true, true, true, true, true, false, false, false, false, false, false, false, false, false] rfl rfl (by kernel_rfl) (fun _ _ _ h => h) (Or.inl ⟨by rfl, ?_⟩) ?_ ?_
                rotate_left
                · intro w'
                  go_simp
                  with_reducible rfl
                rotate_left
                · simp only [Act.put, List.setIfInBounds_toArray, List.set_cons_zero, List.set_cons_succ, i64_w, i32_w]
                  rfl
                refine pure_ (i := 12) (N := (some 110)) (v := ?_) (a' := ?_) #[true, true, true, true, true, true, true, true, true, true, true, true, true, false, false, false, false, false, false, false, false] rfl rfl (by kernel_rfl) (fun _ _ _ h => h) (Or.inl ⟨by rfl, ?_⟩) ?_ ?_
                rotate_left
                · intro w'
                  go_simp
                  with_reducible rfl
                rotate_left
                · simp only [Act.put, List.setIfInBounds_toArray, List.set_cons_zero, List.set_cons_succ, i64_w, i32_w]
                  rfl
                refine pure_ (i := 13) (N := (some 111)) (v := ?_) (a' := ?_) #[true, true, true, true, true, true, true, true, true, true, true, true, true, true, false, false, false, false, false, false, false] rfl rfl (by kernel_rfl) (fun _ _ _ h => h) (Or.inl ⟨by rfl, ?_⟩) ?_ ?_
                rotate_left
                · intro w'
                  go_simp
                  with_reducible rfl
                rotate_left
                · simp only [Act.put, List.setIfInBounds_toArray, List.set_cons_zero, List.set_cons_succ, i64_w, i32_w]
                  rfl
                refine take_ (i := 14) (N := (some 112)) (v := ?_) (a' := ?_) #[true, true, true, true, true, true, true, true, true, true, true, true, true, true, true, false, false, false, false, false, false] rfl rfl (by kernel_rfl) (fun _ _ _ h => h) (Or.inl ⟨by rfl, ?_⟩) hHeld ?_ ?_
                rotate_left
                · rintro w' ⟨s0, s1, s2, s3⟩
                  go_simp
                  with_reducible rfl
                rotate_left
                · simp only [Act.put, List.setIfInBounds_toArray, List.set_cons_zero, List.set_cons_succ, i64_w, i32_w]
                  rfl
                refine one_ (i := 15) (N := (some 113)) #[true, true, true, true, true, true, true, true, true, true, true, true, true, true, true, true, false, false, false, false, false] rfl rfl (by kernel_rfl) (by decide) (fun K hK => ?_)
                refine goes_ Try.func109 (by kernel_rfl) rfl #[.slice (q.a lv) l.length (q.c lv), .int .u64 f1] (by rfl) rfl rfl (by (try simp only [List.map_toArray, List.map_cons, List.map_nil]); first | done | rfl) ?_
                (with_reducible refine (withoutB_calls _ (q.a lv) (q.c lv) l f1 bw RLd.out LL.out BW.out).mono ?_)
                rintro e wA ⟨B, cb, rfl, hR, hb⟩
                refine ⟨_, rfl, ?_⟩
                have RB := Aside0.mk (Kd.R_lower hR HBd.out.size)
                have HBA := Aside0.mk (below_step HBd.out hb)
                have X1A := Aside0.mk (blk_below X1d.out hb)
                have X2A := Aside0.mk (blk_below X2d.out hb)
                have X3A := Aside0.mk (blk_below X3d.out hb)
                have X6A := Aside0.mk (blk_below X6d.out hb)
                have RRA := Aside0.mk (RRd.out.below hb)
                have hOld := hHeld
                clear hHeld
                refine hK.out _ _ (⟨blk_below hOld.1 hb, blk_below hOld.2.1 hb, pw_cell_below hb hOld.2.2.1, pw_cell_below hb hOld.2.2.2⟩) (fun hHeld => ?_)
                clear hOld hK K
                refine norm_ (a' := ?_) ?_ ?_
                rotate_left
                · show Act.put _ (some 113) _ = _
                  simp only [Act.put, List.setIfInBounds_toArray, List.set_cons_zero, List.set_cons_succ, i64_w, i32_w]
                  rfl
                have ha0 := hHeld.2.2.1
                have ha1 := hHeld.2.2.2
                clear HBd X1d X2d X3d X6d RRd RLd
                refine pure_ (i := 16) (N := (some 97)) (v := ?_) (a' := ?_) #[true, true, true, true, true, true, true, true, true, true, true, true, true, true, true, true, true, false, false, false, false] rfl rfl (by kernel_rfl) (fun _ _ _ h => h) (Or.inl ⟨by rfl, ?_⟩) ?_ ?_
                rotate_left
                · intro w'
                  go_simp
                  with_reducible rfl
                rotate_left
                · simp only [Act.put, List.setIfInBounds_toArray, List.set_cons_zero, List.set_cons_succ, i64_w, i32_w]
                  rfl
                refine pure_ (i := 17) (N := (some 114)) (v := ?_) (a' := ?_) #[true, true, true, true, true, true, true, true, true, true, true, true, true, true, true, true, true, true, false, false, false] rfl rfl (by kernel_rfl) (fun _ _ _ h => h) (Or.inl ⟨by rfl, ?_⟩) ?_ ?_
                rotate_left
                · intro w'
                  go_simp
                  with_reducible rfl
                rotate_left
                · simp only [Act.put, List.setIfInBounds_toArray, List.set_cons_zero, List.set_cons_succ, i64_w, i32_w]
                  rfl
                refine pure_ (i := 18) (N := (some 115)) (v := ?_) (a' := ?_) #[true, true, true, true, true, true, true, true, true, true, true, true, true, true, true, true, true, true, true, false, false] rfl rfl (by kernel_rfl) (fun _ _ _ h => h) (Or.inl ⟨by rfl, ?_⟩) ?_ ?_
                rotate_left
                · intro w'
                  go_simp
                  with_reducible rfl
                rotate_left
                · simp only [Act.put, List.setIfInBounds_toArray, List.set_cons_zero, List.set_cons_succ, i64_w, i32_w]
                  rfl
                refine pure_ (i := 19) (N := (some 9)) (v := ?_) (a' := ?_) #[true, true, true, true, true, true, true, true, true, true, true, true, true, true, true, true, true, true, true, true, false] rfl rfl (by kernel_rfl) (fun _ _ _ h => h) (Or.inl ⟨by rfl, ?_⟩) ?_ ?_
                rotate_left
                · intro w'
                  go_simp
                  with_reducible rfl
                rotate_left
                · simp only [Act.put, List.setIfInBounds_toArray, List.set_cons_zero, List.set_cons_succ, i64_w, i32_w]
                  rfl
                refine pure_ (i := 20) (N := (some 10)) (v := ?_) (a' := ?_) #[true, true, true, true, true, true, true, true, true, true, true, true, true, true, true, true, true, true, true, true, true] rfl rfl (by kernel_rfl) (fun _ _ _ h => h) (Or.inl ⟨by rfl, ?_⟩) ?_ ?_
                rotate_left
                · intro w'
                  go_simp
                  with_reducible rfl
                rotate_left
                · simp only [Act.put, List.setIfInBounds_toArray, List.set_cons_zero, List.set_cons_succ, i64_w, i32_w]
                  rfl
                refine done_ (by kernel_rfl) ?_
                clear hHeld
                subst BT_
                have e3 : wA.cell? ⟨g2, 3, none⟩ = some (.slice (some ad) e.gone.length c1) := by rw [← HAX.out]; exact (blk_cell X2A.out 3).trans rfl
                have hvc := vcell X6A.out lv HLV.out
                have ff := blk_frozen X6A.out (3 + lv)
                go_wp2_with fail
                have X6n := Aside0.mk (show (wA.setCell ⟨g6, 3 + lv, none⟩ (.slice B (woL l f1).length cb)).heap[g6]? = some (.cells (vCs (y.set lv (woL l f1)) (q.set lv B cb)) 26 (0, 0)) from five_set X6A.out _ (vCs_set y q lv HLV.out (woL l f1) (B) (cb)))
                have X1n := Aside0.mk (blk_far X1A.out (p := ⟨g6, 3 + lv, none⟩) (show w.heap.size ≠ g6 by have := N2.out; have := N3.out; have := N6.out; omega) (.slice B (woL l f1).length cb))
                have X2n := Aside0.mk (blk_far X2A.out (p := ⟨g6, 3 + lv, none⟩) (show g2 ≠ g6 by have := N3.out; have := N6.out; omega) (.slice B (woL l f1).length cb))
                have X3n := Aside0.mk (blk_far X3A.out (p := ⟨g6, 3 + lv, none⟩) (show g3 ≠ g6 by have := N6.out; omega) (.slice B (woL l f1).length cb))
                have HBn := Aside0.mk (below_set (j := 3 + lv) (v := .slice B (woL l f1).length cb) HBA.out (show w.heap.size ≤ g6 by have := N2.out; have := N3.out; have := N6.out; omega))
                have RRn := Aside0.mk ((RowsR.step RRA.out (Below.refl _ _) HLV.out RB.out).set X6A.out (by decide) (3 + lv) (.slice B (woL l f1).length cb))
                have GVn := Aside0.mk (show goneV (y.set lv (woL l f1)) (e.gone.drop (k + 1)) e.added = (u, r) by
                  rw [LE.out, ← gone_yes KL.out EM.out.symm (by rw [← LE.out]; exact IN.out)]; exact GV.out)
                have OKn := Aside0.mk (show okS (y.set lv (woL l f1)) 100000 by rw [LE.out]; exact OKS.out.go HLV.out f1)
                have ew : wrap64 ((k : Int) + 1) = ((k + 1 : Nat) : Int) := by have h1 := KL.out; have h2 : e.gone.length ≤ 9223372036854775807 := H1.out.2.1; unfold wrap64; omega
                try rw [ew]
                clear ew
                go_roundg zq
                case measure => omega
                case rel => exact ⟨k + 1, _, _, rfl, ⟨by have := HK.out; omega⟩, HBn, X1n, X2n, X3n, X6n, RRn, GVn, OKn⟩
              · obtain ⟨bw, hbw⟩ : ∃ bw : Bool, decide (f1 ∈ nums l) = bw := ⟨_, rfl⟩
                have BT_ : bw = false := hbw.symm.trans (decide_eq_false hin)
                have BW := Aside0.mk hbw
                have IN := Aside0.mk hin
                clear hbw hin
                go_upto_region 11 with (fail)
                clear e3
                refine start_ (n := 21) (S := (fun w' => w'.heap[g2]? = some (.cells (eCs e A1 c1 A2 c2) 70 (0, 0)) ∧ w'.heap[g6]? = some (.cells (vCs y q) 26 (0, 0)) ∧ w'.cell? (ad.add (k * 2)) = some (.int .i64 (lv : Int)) ∧ w'.cell? ⟨(ad.add (k * 2)).block, (ad.add (k * 2)).off + 1, none⟩ = some (.int .u64 f1))) (ds := []) #[false, false, false, false, false, false, false, false, false, false, false, false, false, false, false, false, false, false, false, false, false] (by kernel_rfl) rfl rfl ⟨blk_drew X2.out, blk_drew X6.out, ha0, ha1⟩ (fun hHeld => ?_)
                have HBd := Aside0.mk (below_step HB.out (below_drew (Below.refl _ _)))
                have X1d := Aside0.mk (blk_below X1.out (below_drew (Below.refl _ _)))
                have X2d := Aside0.mk (blk_below X2.out (below_drew (Below.refl _ _)))
                have X3d := Aside0.mk (blk_below X3.out (below_drew (Below.refl _ _)))
                have X6d := Aside0.mk (blk_below X6.out (below_drew (Below.refl _ _)))
                have RRd := Aside0.mk (RR.out.below (below_drew (Below.refl _ _)))
                clear HB X1 X2 X3 X6 RR ha0 ha1
                generalize wr.drew = wd at *
                have RLd := Aside0.mk (show k58.C wd (q.a lv) l.length l by rw [LE.out]; exact (RRd.out.vc lv HLV.out).1)
                refine pure_ (i := 0) (N := (some 98)) (v := ?_) (a' := ?_) #[true, false, false, false, false, false, false, false, false, false, false, false, false, false, false, false, false, false, false, false, false] rfl rfl (by kernel_rfl) (fun _ _ _ h => h) (Or.inl ⟨by rfl, ?_⟩) ?_ ?_
                rotate_left
                · intro w'
                  go_simp
                  with_reducible rfl
                rotate_left
                · simp only [Act.put, List.setIfInBounds_toArray, List.set_cons_zero, List.set_cons_succ, i64_w, i32_w]
                  rfl
                refine take_ (i := 1) (N := (some 99)) (v := ?_) (a' := ?_) #[true, true, false, false, false, false, false, false, false, false, false, false, false, false, false, false, false, false, false, false, false] rfl rfl (by kernel_rfl) (fun _ _ _ h => h) (Or.inl ⟨by rfl, ?_⟩) hHeld ?_ ?_
                rotate_left
                · rintro w' ⟨s0, s1, s2, s3⟩
                  have z3 : w'.cell? ⟨g2, 3, none⟩ = some (.slice (some ad) e.gone.length c1) := by rw [← HAX.out]; exact (blk_cell s0 3).trans rfl
                  go_simp
                  with_reducible rfl
                rotate_left
                · simp only [Act.put, List.setIfInBounds_toArray, List.set_cons_zero, List.set_cons_succ, i64_w, i32_w]
                  rfl
                refine pure_ (i := 2) (N := (some 100)) (v := ?_) (a' := ?_) #[true, true, true, false, false, false, false, false, false, false, false, false, false, false, false, false, false, false, false, false, false] rfl rfl (by kernel_rfl) (fun _ _ _ h => h) (Or.inl ⟨by rfl, ?_⟩) ?_ ?_
                rotate_left
                · intro w'
                  go_simp
                  with_reducible rfl
                rotate_left
                · simp only [Act.put, List.setIfInBounds_toArray, List.set_cons_zero, List.set_cons_succ, i64_w, i32_w]
                  rfl
                refine pure_ (i := 3) (N := (some 101)) (v := ?_) (a' := ?_) #[true, true, true, true, false, false, false, false, false, false, false, false, false, false, false, false, false, false, false, false, false] rfl rfl (by kernel_rfl) (fun _ _ _ h => h) (Or.inl ⟨by rfl, ?_⟩) ?_ ?_
                rotate_left
                · intro w'
                  go_simp
                  with_reducible rfl
                rotate_left
                · simp only [Act.put, List.setIfInBounds_toArray, List.set_cons_zero, List.set_cons_succ, i64_w, i32_w]
                  rfl
                refine pure_ (i := 4) (N := (some 102)) (v := ?_) (a' := ?_) #[true, true, true, true, true, false, false, false, false, false, false, false, false, false, false, false, false, false, false, false, false] rfl rfl (by kernel_rfl) (fun _ _ _ h => h) (Or.inl ⟨by rfl, ?_⟩) ?_ ?_
                rotate_left
                · intro w'
                  go_simp
                  with_reducible rfl
                rotate_left
                · simp only [Act.put, List.setIfInBounds_toArray, List.set_cons_zero, List.set_cons_succ, i64_w, i32_w]
                  rfl
                refine take_ (i := 5) (N := (some 103)) (v := ?_) (a' := ?_) #[true, true, true, true, true, true, false, false, false, false, false, false, false, false, false, false, false, false, false, false, false] rfl rfl (by kernel_rfl) (fun _ _ _ h => h) (Or.inl ⟨by rfl, ?_⟩) hHeld ?_ ?_
                rotate_left
                · rintro w' ⟨s0, s1, s2, s3⟩
                  go_simp
                  with_reducible rfl
                rotate_left
                · simp only [Act.put, List.setIfInBounds_toArray, List.set_cons_zero, List.set_cons_succ, i64_w, i32_w]
                  rfl
                refine pure_ (i := 6) (N := (some 104)) (v := ?_) (a' := ?_) #[true, true, true, true, true, true, true, false, false, false, false, false, false, false, false, false, false, false, false, false, false] rfl rfl (by kernel_rfl) (fun _ _ _ h => h) (Or.inl ⟨by rfl, ?_⟩) ?_ ?_
                rotate_left
                · intro w'
                  go_simp
                  with_reducible rfl
                rotate_left
                · simp only [Act.put, List.setIfInBounds_toArray, List.set_cons_zero, List.set_cons_succ, i64_w, i32_w]
                  rfl
                refine pure_ (i := 7) (N := (some 105)) (v := ?_) (a' := ?_) #[true, true, true, true, true, true, true, true, false, false, false, false, false, false, false, false, false, false, false, false, false] rfl rfl (by kernel_rfl) (fun _ _ _ h => h) (Or.inl ⟨by rfl, ?_⟩) ?_ ?_
                rotate_left
                · intro w'
                  go_simp
                  with_reducible rfl
                rotate_left
                · simp only [Act.put, List.setIfInBounds_toArray, List.set_cons_zero, List.set_cons_succ, i64_w, i32_w]
                  rfl
                refine take_ (i := 8) (N := (some 106)) (v := ?_) (a' := ?_) #[true, true, true, true, true, true, true, true, true, false, false, false, false, false, false, false, false, false, false, false, false] rfl rfl (by kernel_rfl) (fun _ _ _ h => h) (Or.inl ⟨by rfl, ?_⟩) hHeld ?_ ?_
                rotate_left
                · rintro w' ⟨s0, s1, s2, s3⟩
                  have z4 : w'.cell? ⟨g6, 3 + lv, none⟩ = some (.slice (q.a lv) l.length (q.c lv)) := by have h := vcell s1 lv HLV.out; rw [← LE.out] at h; exact h
                  go_simp
                  with_reducible rfl
                rotate_left
                · simp only [Act.put, List.setIfInBounds_toArray, List.set_cons_zero, List.set_cons_succ, i64_w, i32_w]
                  rfl
                refine pure_ (i := 9) (N := (some 107)) (v := ?_) (a' := ?_) #[true, true, true, true, true, true, true, true, true, true, false, false, false, false, false, false, false, false, false, false, false] rfl rfl (by kernel_rfl) (fun _ _ _ h => h) (Or.inl ⟨by rfl, ?_⟩) ?_ ?_
                rotate_left
                · intro w'
                  go_simp
                  with_reducible rfl
                rotate_left
                · simp only [Act.put, List.setIfInBounds_toArray, List.set_cons_zero, List.set_cons_succ, i64_w, i32_w]
                  rfl
                refine take_ (i := 10) (N := (some 108)) (v := ?_) (a' := ?_) #[true, true, true, true, true, true, true, true, true, true, true, false, false, false, false, false, false, false, false, false, false] rfl rfl (by kernel_rfl) (fun _ _ _ h => h) (Or.inl ⟨by rfl, ?_⟩) hHeld ?_ ?_
                rotate_left
                · rintro w' ⟨s0, s1, s2, s3⟩
                  have z3 : w'.cell? ⟨g2, 3, none⟩ = some (.slice (some ad) e.gone.length c1) := by rw [← HAX.out]; exact (blk_cell s0 3).trans rfl
                  go_simp
                  with_reducible rfl
                rotate_left
                · simp only [Act.put, List.setIfInBounds_toArray, List.set_cons_zero, List.set_cons_succ, i64_w, i32_w]
                  rfl
                refine pure_ (i := 11) (N := (some 109)) (v := ?_) (a' := ?_) #[true, true, true, true, true, true, true, true, true, true, true, true, false, false, false, false, false, false, false, false, false] rfl rfl (by kernel_rfl) (fun _ _ _ h => h) (Or.inl ⟨by rfl, ?_⟩) ?_ ?_
                rotate_left
                · intro w'
                  go_simp
                  with_reducible rfl
                rotate_left
                · simp only [Act.put, List.setIfInBounds_toArray, List.set_cons_zero, List.set_cons_succ, i64_w, i32_w]
                  rfl
                refine pure_ (i := 12) (N := (some 110)) (v := ?_) (a' := ?_) #[true, true, true, true, true, true, true, true, true, true, true, true, true, false, false, false, false, false, false, false, false] rfl rfl (by kernel_rfl) (fun _ _ _ h => h) (Or.inl ⟨by rfl, ?_⟩) ?_ ?_
                rotate_left
                · intro w'
                  go_simp
                  with_reducible rfl
                rotate_left
                · simp only [Act.put, List.setIfInBounds_toArray, List.set_cons_zero, List.set_cons_succ, i64_w, i32_w]
                  rfl
                refine pure_ (i := 13) (N := (some 111)) (v := ?_) (a' := ?_) #[true, true, true, true, true, true, true, true, true, true, true, true, true, true, false, false, false, false, false, false, false] rfl rfl (by kernel_rfl) (fun _ _ _ h => h) (Or.inl ⟨by rfl, ?_⟩) ?_ ?_
                rotate_left
                · intro w'
                  go_simp
                  with_reducible rfl
                rotate_left
                · simp only [Act.put, List.setIfInBounds_toArray, List.set_cons_zero, List.set_cons_succ, i64_w, i32_w]
                  rfl
                refine take_ (i := 14) (N := (some 112)) (v := ?_) (a' := ?_) #[true, true, true, true, true, true, true, true, true, true, true, true, true, true, true, false, false, false, false, false, false] rfl rfl (by kernel_rfl) (fun _ _ _ h => h) (Or.inl ⟨by rfl, ?_⟩) hHeld ?_ ?_
                rotate_left
                · rintro w' ⟨s0, s1, s2, s3⟩
                  go_simp
                  with_reducible rfl
                rotate_left
                · simp only [Act.put, List.setIfInBounds_toArray, List.set_cons_zero, List.set_cons_succ, i64_w, i32_w]
                  rfl
                refine one_ (i := 15) (N := (some 113)) #[true, true, true, true, true, true, true, true, true, true, true, true, true, true, true, true, false, false, false, false, false] rfl rfl (by kernel_rfl) (by decide) (fun K hK => ?_)
                refine goes_ Try.func109 (by kernel_rfl) rfl #[.slice (q.a lv) l.length (q.c lv), .int .u64 f1] (by rfl) rfl rfl (by (try simp only [List.map_toArray, List.map_cons, List.map_nil]); first | done | rfl) ?_
                (with_reducible refine (withoutB_calls _ (q.a lv) (q.c lv) l f1 bw RLd.out LL.out BW.out).mono ?_)
                rintro e wA ⟨B, cb, rfl, hR, hb⟩
                refine ⟨_, rfl, ?_⟩
                have RB := Aside0.mk (Kd.R_lower hR HBd.out.size)
                have HBA := Aside0.mk (below_step HBd.out hb)
                have X1A := Aside0.mk (blk_below X1d.out hb)
                have X2A := Aside0.mk (blk_below X2d.out hb)
                have X3A := Aside0.mk (blk_below X3d.out hb)
                have X6A := Aside0.mk (blk_below X6d.out hb)
                have RRA := Aside0.mk (RRd.out.below hb)
                have hOld := hHeld
                clear hHeld
                refine hK.out _ _ (⟨blk_below hOld.1 hb, blk_below hOld.2.1 hb, pw_cell_below hb hOld.2.2.1, pw_cell_below hb hOld.2.2.2⟩) (fun hHeld => ?_)
                clear hOld hK K
                refine norm_ (a' := ?_) ?_ ?_
                rotate_left
                · show Act.put _ (some 113) _ = _
                  simp only [Act.put, List.setIfInBounds_toArray, List.set_cons_zero, List.set_cons_succ, i64_w, i32_w]
                  rfl
                have ha0 := hHeld.2.2.1
                have ha1 := hHeld.2.2.2
                clear HBd X1d X2d X3d X6d RRd RLd
                refine pure_ (i := 16) (N := (some 97)) (v := ?_) (a' := ?_) #[true, true, true, true, true, true, true, true, true, true, true, true, true, true, true, true, true, false, false, false, false] rfl rfl (by kernel_rfl) (fun _ _ _ h => h) (Or.inl ⟨by rfl, ?_⟩) ?_ ?_
                rotate_left
                · intro w'
                  go_simp
                  with_reducible rfl
                rotate_left
                · simp only [Act.put, List.setIfInBounds_toArray, List.set_cons_zero, List.set_cons_succ, i64_w, i32_w]
                  rfl
                refine pure_ (i := 17) (N := (some 114)) (v := ?_) (a' := ?_) #[true, true, true, true, true, true, true, true, true, true, true, true, true, true, true, true, true, true, false, false, false] rfl rfl (by kernel_rfl) (fun _ _ _ h => h) (Or.inl ⟨by rfl, ?_⟩) ?_ ?_
                rotate_left
                · intro w'
                  go_simp
                  with_reducible rfl
                rotate_left
                · simp only [Act.put, List.setIfInBounds_toArray, List.set_cons_zero, List.set_cons_succ, i64_w, i32_w]
                  rfl
                refine pure_ (i := 18) (N := (some 115)) (v := ?_) (a' := ?_) #[true, true, true, true, true, true, true, true, true, true, true, true, true, true, true, true, true, true, true, false, false] rfl rfl (by kernel_rfl) (fun _ _ _ h => h) (Or.inl ⟨by rfl, ?_⟩) ?_ ?_
                rotate_left
                · intro w'
                  go_simp
                  with_reducible rfl
                rotate_left
                · simp only [Act.put, List.setIfInBounds_toArray, List.set_cons_zero, List.set_cons_succ, i64_w, i32_w]
                  rfl
                refine pure_ (i := 19) (N := (some 9)) (v := ?_) (a' := ?_) #[true, true, true, true, true, true, true, true, true, true, true, true, true, true, true, true, true, true, true, true, false] rfl rfl (by kernel_rfl) (fun _ _ _ h => h) (Or.inl ⟨by rfl, ?_⟩) ?_ ?_
                rotate_left
                · intro w'
                  go_simp
                  with_reducible rfl
                rotate_left
                · simp only [Act.put, List.setIfInBounds_toArray, List.set_cons_zero, List.set_cons_succ, i64_w, i32_w]
                  rfl
                refine pure_ (i := 20) (N := (some 10)) (v := ?_) (a' := ?_) #[true, true, true, true, true, true, true, true, true, true, true, true, true, true, true, true, true, true, true, true, true] rfl rfl (by kernel_rfl) (fun _ _ _ h => h) (Or.inl ⟨by rfl, ?_⟩) ?_ ?_
                rotate_left
                · intro w'
                  go_simp
                  with_reducible rfl
                rotate_left
                · simp only [Act.put, List.setIfInBounds_toArray, List.set_cons_zero, List.set_cons_succ, i64_w, i32_w]
                  rfl
                refine done_ (by kernel_rfl) ?_
                clear hHeld
                subst BT_
                have AV2 : (u, r) = (zeroV, 4) := GV.out.symm.trans (gone_no KL.out EM.out.symm (by rw [← LE.out]; exact IN.out))
                injection AV2 with e1_ e2_
                have E1 := Aside0.mk e1_
                have E2 := Aside0.mk e2_
                clear e1_ e2_
                go_wp2_with (first | (refine st_arr rfl 26 _ _ rfl g3 26 ?hx #[.int .u64 0, .int .u64 0, .int .u64 0, .slice none 0 0, .slice none 0 0, .slice none 0 0, .slice none 0 0] ?hy _ X3A.out (by rw [size26]; rfl) rfl (by simp [Value.oneCell']) ?_; (case hx => rfl); (case hy => rfl); intro w7 hb7 hbb hk7 hs7; have HB7 := Aside0.mk (hbb _ _ HBA.out (show w.heap.size ≤ g3 by have := N2.out; have := N3.out; omega)); have X7 := Aside0.mk hb7; clear hb7 hbb hk7 hs7) | fail)
                have r0 : w7.cell? ⟨g3, 0, none⟩ = some (.int .u64 0) := (blk_cell X7.out 0).trans rfl
                have r1 : w7.cell? ⟨g3, 1, none⟩ = some (.int .u64 0) := (blk_cell X7.out 1).trans rfl
                have r2 : w7.cell? ⟨g3, 2, none⟩ = some (.int .u64 0) := (blk_cell X7.out 2).trans rfl
                have r3 : w7.cell? ⟨g3, 3, none⟩ = some (.slice none 0 0) := (blk_cell X7.out 3).trans rfl
                have r4 : w7.cell? ⟨g3, 4, none⟩ = some (.slice none 0 0) := (blk_cell X7.out 4).trans rfl
                have r5 : w7.cell? ⟨g3, 5, none⟩ = some (.slice none 0 0) := (blk_cell X7.out 5).trans rfl
                have r6 : w7.cell? ⟨g3, 6, none⟩ = some (.slice none 0 0) := (blk_cell X7.out 6).trans rfl
                have e1_ := E1.out
                have e2_ := E2.out
                subst e1_
                subst e2_
                exact bodyPost_ret (v := .tuple #[.agg #[.int .u64 0, .int .u64 0, .int .u64 0, .slice none 0 0, .slice none 0 0, .slice none 0 0, .slice none 0 0], .int .i64 4]) (by simp [results, Try.results55, go_sem, r0, r1, r2, r3, r4, r5, r6]) rfl ⟨firstP, rfl, (Rows4.zero _ w.heap.size).vc, HB7.out⟩
        | succ z =>
          have hi : i < 4 := by have := HK.out; omega
          have HI := Aside0.mk hi
          have d0 : decide ((i : Int) < 4) = true := decide_eq_true (by omega)
          have i0 : 0 ≤ (i : Int) := Int.natCast_nonneg _
          have i1 : (i : Int) < 4 := by omega
          have ew : wrap64 ((i : Int) + 1) = ((i + 1 : Nat) : Int) := by unfold wrap64; omega
          obtain ⟨l, hl⟩ : ∃ l, l = v.lv i := ⟨_, rfl⟩
          have LE := Aside0.mk hl
          have HLL := Aside0.mk (show l.length ≤ 100000 by rw [hl]; exact HLN.out i hi)
          have CV := Aside0.mk (show k58.C wr (p.a i) l.length l by rw [hl]; exact ((HC.out.below HB.out) i hi).1)
          clear hl hi
          go_wp2_with (first | ((with_reducible refine gate_dst (N := 82) rfl ?_); refine Kd.R_lit k58 (w0 := wr) wr.heap.size 58 ?hgda (N := 82) ?hda (xs := ([] : List S58)) (inner := []) (ok := fun _ => True) (okp := fun _ => True) ?hra ?hpa (fun _ hk => hk) trivial (Below.refl wr.heap.size wr) (Below.size ((Below.refl wr.heap.size wr))) (by simp) ?_; (case hda => rfl); (case hgda => rfl); (case hra => first | (go_simp; done) | (go_simp; rfl)); (case hpa => exact (Reps.none _ _)); intro va wa ho hb hg_ hnew_; have Ra := Aside0.mk ho; have HBa := Aside0.mk hb; have Xa := Aside0.mk (blk_below X1.out hb); have X6a := Aside0.mk (blk_below X6.out hb); have hva := vcell Xa.out i HI.out; rw [← LE.out] at hva; clear ho hb hg_ hnew_) | ((with_reducible refine gate_builtin (b := .append) (xs := #[.tmp 82, .tmp 86]) rfl ?_); at_builtin; refine Kd.R_append_rows k58 (Rr := k58.K wa) (w0 := wr) wr.heap.size rfl (.tmp 82) (.tmp 86) 23 58 (.agg #[(.int .u64 0), (.int .i64 0), (.int .i64 0), (.string ⟨#[]⟩), (.string ⟨#[]⟩), (.int .u64 0), (.int .u64 0)]) 72 rfl Try.underlying23 info58 rfl (show 0 < 7 by decide) (show 0 < 72 by decide) (va) ([]) (l) (p.a i) (l.length) (p.c i) (fun _ => True) (fun _ => False) rfl rfl ?aOb ?aRb ?aMb (fun _ h => h.elim) ?aFb ?aBb ?aSb ?aLb ?_; (case aRb => exact (Kd.C_below CV.out HBa.out)); (case aMb => (intro x cs hk; obtain rfl := k58_open hk; exact k58_mkM _ _ _ x)); (case aBb => exact HBa.out); (case aFb => exact (fun _ _ => trivial)); (case aOb => exact Ra.out); (case aSb => exact Below.size (HBa.out)); (case aLb => (have h1 := HLL.out; simp; omega)); intro vb wb ho hb hg hat; have HBb := Aside0.mk hb; have Rb := Aside0.mk ho; have X6b := Aside0.mk (blk_grown X6a.out hg (Kd.R_ne Ra.out X6a.out (by decide))); rw [List.nil_append] at Rb; obtain ⟨B', cb', hv1⟩ := Kd.R_slice Rb.out; subst hv1; have ff := blk_frozen X6b.out (3 + i); have hvc := vcell X6b.out i HI.out; clear ho hb hg hat) | fail)
          have RRs := Aside0.mk ((RR.out.step HBb.out HI.out (Kd.R_lower Rb.out HB.out.size)).set X6b.out (by decide) (3 + i) (.slice B' l.length cb'))
          have X6s := Aside0.mk (show (wb.setCell ⟨g6, 3 + i, none⟩ (.slice B' l.length cb')).heap[g6]? = some (.cells (vCs (headV bv (i + 1)) (q.set i B' cb')) 26 (0, 0)) from five_set X6b.out _ (by rw [headV, BVL.out i HI.out, ← LE.out]; exact vCs_set (headV bv i) q i HI.out l B' cb'))
          have X1s := Aside0.mk (blk_far (blk_below X1.out HBb.out) (p := ⟨g6, 3 + i, none⟩) (show w.heap.size ≠ g6 by have := N2.out; have := N3.out; have := N6.out; omega) (.slice B' l.length cb'))
          have X2s := Aside0.mk (blk_far (blk_below X2.out HBb.out) (p := ⟨g6, 3 + i, none⟩) (show g2 ≠ g6 by have := N3.out; have := N6.out; omega) (.slice B' l.length cb'))
          have X3s := Aside0.mk (blk_far (blk_below X3.out HBb.out) (p := ⟨g6, 3 + i, none⟩) (show g3 ≠ g6 by have := N6.out; omega) (.slice B' l.length cb'))
          have HBs := Aside0.mk (below_set (j := 3 + i) (v := .slice B' l.length cb') (below_step HB.out HBb.out) (show w.heap.size ≤ g6 by have := N2.out; have := N3.out; have := N6.out; omega))
          try rw [ew]
          clear ew ff hvc
          go_roundg z
          case measure => omega
          case rel => exact ⟨i + 1, q.set i B' cb', rfl, ⟨by have := HK.out; omega⟩, HBs, X1s, X2s, X3s, X6s, by rw [headV, BVL.out i HI.out, ← LE.out]; exact RRs⟩
    · have hbt : ba = true := BT.out.mpr hask
      subst hbt
      have BAD := Aside0.mk hask
      clear hask
      have AV2 : (u, r) = (zeroV, 2) := UR.out.symm.trans (if_neg BAD.out)
      injection AV2 with e1_ e2_
      have E1 := Aside0.mk e1_
      have E2 := Aside0.mk e2_
      clear e1_ e2_
      go_wp2_with (first | (refine st_arr rfl 26 _ _ rfl g3 26 ?hx #[.int .u64 0, .int .u64 0, .int .u64 0, .slice none 0 0, .slice none 0 0, .slice none 0 0, .slice none 0 0] ?hy _ X3c.out (by rw [size26]; rfl) rfl (by simp [Value.oneCell']) ?_; (case hx => rfl); (case hy => rfl); intro w7 hb7 hbb hk7 hs7; have HB7 := Aside0.mk (hbb _ _ HBc.out (show w.heap.size ≤ g3 by have := N2.out; have := N3.out; omega)); have X7 := Aside0.mk hb7; clear hb7 hbb hk7 hs7) | fail)
      have r0 : w7.cell? ⟨g3, 0, none⟩ = some (.int .u64 0) := (blk_cell X7.out 0).trans rfl
      have r1 : w7.cell? ⟨g3, 1, none⟩ = some (.int .u64 0) := (blk_cell X7.out 1).trans rfl
      have r2 : w7.cell? ⟨g3, 2, none⟩ = some (.int .u64 0) := (blk_cell X7.out 2).trans rfl
      have r3 : w7.cell? ⟨g3, 3, none⟩ = some (.slice none 0 0) := (blk_cell X7.out 3).trans rfl
      have r4 : w7.cell? ⟨g3, 4, none⟩ = some (.slice none 0 0) := (blk_cell X7.out 4).trans rfl
      have r5 : w7.cell? ⟨g3, 5, none⟩ = some (.slice none 0 0) := (blk_cell X7.out 5).trans rfl
      have r6 : w7.cell? ⟨g3, 6, none⟩ = some (.slice none 0 0) := (blk_cell X7.out 6).trans rfl
      have e1_ := E1.out
      have e2_ := E2.out
      subst e1_
      subst e2_
      exact bodyPost_ret (v := .tuple #[.agg #[.int .u64 0, .int .u64 0, .int .u64 0, .slice none 0 0, .slice none 0 0, .slice none 0 0, .slice none 0 0], .int .i64 2]) (by simp [results, Try.results55, go_sem, r0, r1, r2, r3, r4, r5, r6]) rfl ⟨firstP, rfl, (Rows4.zero _ w.heap.size).vc, HB7.out⟩
end Go.Proofs.Ytkjepfofiegcdaa.V
