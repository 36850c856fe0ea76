import Derived.Test.YtkjepfofiegcdaaVX3Y
/- Are two versions the same, a copy with marks, is it kept (freshetref14), walked. Conditions: levels of at most a million tables. -/
namespace Go.Proofs.Ytkjepfofiegcdaa.V
set_option linter.unusedVariables false
set_option linter.unusedSimpArgs false
open Go.RowKit Go.Proofs.YtkjepfofiegcdaaW.PrintWords Go.Proofs.YtkjepfofiegcdaaW.PrintLast Go.Proofs.YtkjepfofiegcdaaW.PrintMore Go.Proofs.Ytkjepfofiegcdaa.PB14
def sameP (a b : Ver) : Prop := (a.log = b.log ∧ a.next = b.next ∧ a.seq = b.seq) ∧ ∀ i, i < 4 → a.lv i = b.lv i
instance (a b : Ver) : Decidable (sameP a b) := by unfold sameP; infer_instance
theorem sameP_iff {a b : Ver} : sameP a b ↔ a = b := by
  constructor
  · rintro ⟨⟨h0, h1, h2⟩, h⟩
    have l0 := h 0 (by omega)
    have l1 := h 1 (by omega)
    have l2 := h 2 (by omega)
    have l3 := h 3 (by omega)
    simp only [Ver.lv] at l0 l1 l2 l3
    cases a; cases b; simp_all
  · rintro rfl; exact ⟨⟨rfl, rfl, rfl⟩, fun _ _ => rfl⟩
def mark : S58 := ⟨0, 0, 77, ⟨#[]⟩, ⟨#[]⟩, 0, 0⟩
/-- A copy: a mark stands behind each level. -/
def MK (w : World) (v : Ver) (p : Pl) : Prop := ∀ i, i < 4 → k58.C w (p.a i) ((v.lv i).length + 1) (v.lv i ++ [mark]) ∧ (v.lv i).length + 1 ≤ p.c i
theorem MK.below {w w' : World} {v : Ver} {p : Pl} (h : MK w v p) (hb : Below w.heap.size w w') : MK w' v p := fun i hi => ⟨Kd.C_below (h i hi).1 hb, (h i hi).2⟩
theorem MK.vc {w : World} {v : Ver} {p : Pl} (h : MK w v p) : VC w v p := fun i hi => by
  obtain ⟨h1, h2⟩ := h i hi
  refine ⟨?_, by omega⟩
  have h3 := Kd.C_take (k := k58) (w := w) (A := p.a i) (xs := v.lv i ++ [mark]) (m := (v.lv i).length) (by rw [List.length_append, List.length_singleton]; exact h1) (by rw [List.length_append]; omega)
  rw [List.take_left' rfl] at h3
  exact h3
theorem cut_past {P : Program} (t e : TypeId) (kh : IntKind) {i : TypeInfo} (ht : P.underlying t = some (.slice e)) (hi : P.info? e = some i) (A : Option Addr) (n c : Nat) (j : Int) (h0 : 0 ≤ j) (hm : j ≤ c) :
    ∀ W : World, (Instr.slice t (.slice A n c) none (some (.int kh j)) none).run P W = .ok (.slice A j.toNat c) W := by
  intro W
  have hel : P.elem t = e := by simp [Program.elem, ht]
  have hu : P.underlying t = some (.slice (P.elem t)) := by rw [hel]; exact ht
  have ha : (A.map fun x => x.add 0) = A := by cases A <;> simp [Addr.add]
  rw [run_slice_h W t A n c hu kh j h0 (by omega), hel]
  simp [sizeOf, typeInfo, hi, sliced, Result.andThen, ha]
def Pl.set (p : Pl) (i : Nat) (a : Option Addr) (c : Nat) : Pl :=
  match i with
  | 0 => { p with a0 := a, c0 := c }
  | 1 => { p with a1 := a, c1 := c }
  | 2 => { p with a2 := a, c2 := c }
  | _ => { p with a3 := a, c3 := c }
theorem Pl.set_a (p : Pl) (i j : Nat) (hi : i < 4) (hj : j < 4) (a : Option Addr) (c : Nat) : (p.set i a c).a j = if j = i then a else p.a j := by
  rcases (by omega : i = 0 ∨ i = 1 ∨ i = 2 ∨ i = 3) with rfl | rfl | rfl | rfl <;> rcases (by omega : j = 0 ∨ j = 1 ∨ j = 2 ∨ j = 3) with rfl | rfl | rfl | rfl <;> rfl
theorem Pl.set_c (p : Pl) (i j : Nat) (hi : i < 4) (hj : j < 4) (a : Option Addr) (c : Nat) : (p.set i a c).c j = if j = i then c else p.c j := by
  rcases (by omega : i = 0 ∨ i = 1 ∨ i = 2 ∨ i = 3) with rfl | rfl | rfl | rfl <;> rcases (by omega : j = 0 ∨ j = 1 ∨ j = 2 ∨ j = 3) with rfl | rfl | rfl | rfl <;> rfl
def Ver.set (v : Ver) (i : Nat) (l : List S58) : Ver :=
  match i with
  | 0 => { v with l0 := l }
  | 1 => { v with l1 := l }
  | 2 => { v with l2 := l }
  | _ => { v with l3 := l }
theorem vCs_set (v : Ver) (p : Pl) (i : Nat) (hi : i < 4) (l : List S58) (a : Option Addr) (c : Nat) : (vCs v p).setIfInBounds (3 + i) (.slice a l.length c) = vCs (v.set i l) (p.set i a c) := by
  rcases (by omega : i = 0 ∨ i = 1 ∨ i = 2 ∨ i = 3) with rfl | rfl | rfl | rfl <;> rfl
theorem Ver.set_self (v : Ver) (i : Nat) (hi : i < 4) : v.set i (v.lv i) = v := by
  rcases (by omega : i = 0 ∨ i = 1 ∨ i = 2 ∨ i = 3) with rfl | rfl | rfl | rfl <;> rfl
set_option maxHeartbeats 8000000 in
set_option maxRecDepth 100000 in
theorem sameV_calls (w : World) (a b : Ver) (p q : Pl) (ha : VC w a p) (hb : VC w b q) : Calls Try.prog 56 #[.agg (vCs a p), .agg (vCs b q)] w fun e w' => e = .returned (.bool (decide (sameP a b))) ∧ Below w.heap.size w w' := by
  have HA := Aside0.mk ha
  have HBV := Aside0.mk hb
  have HB := Aside0.mk (below_alloc ((Below.refl w.heap.size w).alloc (Nat.le_refl _) (.cells (vCs a p) 26)) (.cells (vCs b q) 26))
  have X2 := Aside0.mk (blk_alloc (blk_new w (.cells (vCs a p) 26)) (.cells (vCs b q) 26))
  have X3 := Aside0.mk (blk_new (w.alloc (.cells (vCs a p) 26)) (.cells (vCs b q) 26))
  clear ha hb
  obtain ⟨r, hr⟩ : ∃ r, r = decide (sameP a b) := ⟨_, rfl⟩
  rw [← hr]
  have HRR := Aside0.mk hr
  clear hr
  go_enter Try.func56, Try.ntmps56
  go_upto_region 1 with (fail)
  generalize hg3 : (w.alloc (.cells (vCs a p) 26)).heap.size = g3 at *
  have e3 : w.heap.size + 1 = g3 := by rw [← hg3]; simp
  try rw [e3]
  clear hg3 e3
  generalize (w.alloc (.cells (vCs a p) 26)).alloc (.cells (vCs b q) 26) = w1 at *
  have b0 : w1.cell? ⟨w.heap.size, 0, none⟩ = some (.int .u64 a.log) := (blk_cell X2.out 0).trans rfl
  have b1 : w1.cell? ⟨w.heap.size, 1, none⟩ = some (.int .u64 a.next) := (blk_cell X2.out 1).trans rfl
  have b2 : w1.cell? ⟨w.heap.size, 2, none⟩ = some (.int .u64 a.seq) := (blk_cell X2.out 2).trans rfl
  have d0 : w1.cell? ⟨g3, 0, none⟩ = some (.int .u64 b.log) := (blk_cell X3.out 0).trans rfl
  have d1 : w1.cell? ⟨g3, 1, none⟩ = some (.int .u64 b.next) := (blk_cell X3.out 1).trans rfl
  have d2 : w1.cell? ⟨g3, 2, none⟩ = some (.int .u64 b.seq) := (blk_cell X3.out 2).trans rfl
  by_cases hx0 : a.log = b.log
  · have t0 : (a.log == b.log) = true := beq_iff_eq.mpr hx0
    have v0 : (a.log != b.log) = false := by simp [hx0]
    have E0 := Aside0.mk hx0
    clear hx0
    by_cases hx1 : a.next = b.next
    · have t1 : (a.next == b.next) = true := beq_iff_eq.mpr hx1
      have v1 : (a.next != b.next) = false := by simp [hx1]
      have E1 := Aside0.mk hx1
      clear hx1
      by_cases hx2 : a.seq = b.seq
      · have t2 : (a.seq == b.seq) = true := beq_iff_eq.mpr hx2
        have v2 : (a.seq != b.seq) = false := by simp [hx2]
        have E2 := Aside0.mk hx2
        clear hx2
        go_wp2_with fail
        clear b0 b1 b2 d0 d1 d2 t0 t1 t2 v0 v1 v2
        go_loopg [5] 4 (fun kq v5 w' => ∃ i : Nat, v5 = .int .i64 (i : Int) ∧ Aside0 (kq + i = 4) ∧ Aside0 (Below w1.heap.size w1 w') ∧ Aside0 (∀ j, j < i → a.lv j = b.lv j))
        case atStart => exact ⟨0, rfl, ⟨by omega⟩, ⟨Below.refl _ _⟩, ⟨fun j hj => by omega⟩⟩
        case round =>
          obtain ⟨i, rfl, HK, HBB, HJ⟩ := hrel
          cases gk with
          | zero =>
            have ei : i = 4 := by have := HK.out; omega
            subst ei
            go_wp2_with fail
            go_ret
            exact ⟨ret_bool (by rw [HRR.out]; symm; exact decide_eq_true ⟨⟨E0.out, E1.out, E2.out⟩, HJ.out⟩), below_step HB.out HBB.out⟩
          | succ z =>
            have hi : i < 4 := by have := HK.out; omega
            have HI := Aside0.mk hi
            have d0 : decide ((i : Int) < 4) = true := decide_eq_true (by omega)
            have i0 : 0 ≤ (i : Int) := Int.natCast_nonneg _
            have i1 : (i : Int) < 4 := by omega
            have hv := vcell (blk_below X2.out HBB.out) i hi
            have hu := vcell (blk_below X3.out HBB.out) i hi
            have ew : wrap64 ((i : Int) + 1) = ((i + 1 : Nat) : Int) := by unfold wrap64; omega
            obtain ⟨l, hl⟩ : ∃ l, l = a.lv i := ⟨_, rfl⟩
            obtain ⟨m, hm⟩ : ∃ m, m = b.lv i := ⟨_, rfl⟩
            rw [← hl] at hv
            rw [← hm] at hu
            have LA := Aside0.mk hl
            have LB := Aside0.mk hm
            have KK := sameM_calls wr.drew (p.a i) (q.a i) (p.c i) (q.c i) l m (by rw [hl]; exact Kd.C_drew ((HA.out.below (below_step HB.out HBB.out)) i HI.out).1) (by rw [hm]; exact Kd.C_drew ((HBV.out.below (below_step HB.out HBB.out)) i HI.out).1)
            clear hl hm hi
            by_cases hx : l = m
            · rw [decide_eq_true hx] at KK
              have EX := Aside0.mk hx
              clear hx
              go_wp2_with fail
              go_still_tail 8, (by kernel_rfl)
              go_wp2_with fail
              refine KK.mono ?_
              clear KK
              rintro e w8 ⟨rfl, hb⟩
              replace hb : Below wr.heap.size wr w8 := (below_drew (Below.refl wr.heap.size wr)).trans hb
              have HB8 := Aside0.mk (below_step HBB.out hb)
              clear hb hv hu
              go_wp2_with fail
              try rw [ew]
              clear ew
              go_roundg z
              case measure => omega
              case rel => exact ⟨i + 1, rfl, ⟨by have := HK.out; omega⟩, HB8, ⟨fun j hj => by
                by_cases e : j = i
                · subst e; rw [← LA.out, ← LB.out]; exact EX.out
                · exact HJ.out j (by omega)⟩⟩
            · rw [decide_eq_false hx] at KK
              have HN := Aside0.mk (show ¬ sameP a b from fun h => hx (by rw [LA.out, LB.out]; exact h.2 i HI.out))
              clear hx
              go_wp2_with fail
              go_still_tail 8, (by kernel_rfl)
              go_wp2_with fail
              refine KK.mono ?_
              clear KK
              rintro e w8 ⟨rfl, hb⟩
              replace hb : Below wr.heap.size wr w8 := (below_drew (Below.refl wr.heap.size wr)).trans hb
              have HB8 := Aside0.mk (below_step HBB.out hb)
              clear hb hv hu
              go_wp2_with fail
              go_ret
              exact ⟨ret_bool (by rw [HRR.out]; symm; exact decide_eq_false HN.out), below_step HB.out HB8.out⟩
      · have t2 : (a.seq == b.seq) = false := beq_eq_false_iff_ne.mpr hx2
        have v2 : (a.seq != b.seq) = true := by simp [hx2]
        have HN := Aside0.mk (show ¬ sameP a b from fun h => hx2 h.1.2.2)
        clear hx2
        go_wp2_with fail
        go_ret
        exact ⟨ret_bool (by rw [HRR.out]; symm; exact decide_eq_false HN.out), HB.out⟩
    · have t1 : (a.next == b.next) = false := beq_eq_false_iff_ne.mpr hx1
      have v1 : (a.next != b.next) = true := by simp [hx1]
      have HN := Aside0.mk (show ¬ sameP a b from fun h => hx1 h.1.2.1)
      clear hx1
      go_wp2_with fail
      go_ret
      exact ⟨ret_bool (by rw [HRR.out]; symm; exact decide_eq_false HN.out), HB.out⟩
  · have t0 : (a.log == b.log) = false := beq_eq_false_iff_ne.mpr hx0
    have v0 : (a.log != b.log) = true := by simp [hx0]
    have HN := Aside0.mk (show ¬ sameP a b from fun h => hx0 h.1.1)
    clear hx0
    go_wp2_with fail
    go_ret
    exact ⟨ret_bool (by rw [HRR.out]; symm; exact decide_eq_false HN.out), HB.out⟩
set_option maxHeartbeats 8000000 in
set_option maxRecDepth 100000 in
theorem kept_calls (w : World) (a b : Ver) (p q : Pl) (ha : MK w a p) (hb : VC w b q) (hl : ∀ i, i < 4 → (b.lv i).length ≤ 1000000) : Calls Try.prog 41 #[.agg (vCs a p), .agg (vCs b q)] w fun e w' => e = .returned (.bool (decide (sameP a b))) ∧ Below w.heap.size w w' := by
  have HA := Aside0.mk ha
  have HBV := Aside0.mk hb
  have HL := Aside0.mk hl
  have HB := Aside0.mk (below_alloc ((Below.refl w.heap.size w).alloc (Nat.le_refl _) (.cells (vCs a p) 26)) (.cells (vCs b q) 26))
  have X2 := Aside0.mk (blk_alloc (blk_new w (.cells (vCs a p) 26)) (.cells (vCs b q) 26))
  have X3 := Aside0.mk (blk_new (w.alloc (.cells (vCs a p) 26)) (.cells (vCs b q) 26))
  clear ha hb hl
  obtain ⟨r, hr⟩ : ∃ r, r = decide (sameP a b) := ⟨_, rfl⟩
  rw [← hr]
  have HRR := Aside0.mk hr
  clear hr
  obtain ⟨i58, hi58, _, hsz58, _⟩ := info_parts info58
  have HI58 := Aside0.mk hi58
  clear hi58 hsz58
  go_enter Try.func41, Try.ntmps41
  go_upto_region 1 with (fail)
  generalize hg3 : (w.alloc (.cells (vCs a p) 26)).heap.size = g3 at *
  have e3 : w.heap.size + 1 = g3 := by rw [← hg3]; simp
  try rw [e3]
  clear hg3 e3
  generalize (w.alloc (.cells (vCs a p) 26)).alloc (.cells (vCs b q) 26) = w1 at *
  go_wp2_with fail
  go_loopg [5, 6] 4 (fun kq v5 v6 w' => ∃ i : Nat, v5 = .int .i64 (i : Int) ∧ Aside0 (kq + i = 4) ∧ Aside0 (w' = w1))
  case atStart => exact ⟨0, rfl, ⟨by omega⟩, ⟨rfl⟩⟩
  case round =>
    obtain ⟨i, rfl, HK, HW⟩ := hrel
    obtain rfl := HW.out
    clear HW
    cases gk with
    | zero =>
      have ei : i = 4 := by have := HK.out; omega
      subst ei
      have KK := sameV_calls wr a b p q (HA.out.vc.below HB.out) (HBV.out.below HB.out)
      have b0 : wr.cell? ⟨w.heap.size, 0, none⟩ = some (.int .u64 a.log) := (blk_cell X2.out 0).trans rfl
      have b1 : wr.cell? ⟨w.heap.size, 1, none⟩ = some (.int .u64 a.next) := (blk_cell X2.out 1).trans rfl
      have b2 : wr.cell? ⟨w.heap.size, 2, none⟩ = some (.int .u64 a.seq) := (blk_cell X2.out 2).trans rfl
      have b3 : wr.cell? ⟨w.heap.size, 3, none⟩ = some (.slice p.a0 a.l0.length p.c0) := (blk_cell X2.out 3).trans rfl
      have b4 : wr.cell? ⟨w.heap.size, 4, none⟩ = some (.slice p.a1 a.l1.length p.c1) := (blk_cell X2.out 4).trans rfl
      have b5 : wr.cell? ⟨w.heap.size, 5, none⟩ = some (.slice p.a2 a.l2.length p.c2) := (blk_cell X2.out 5).trans rfl
      have b6 : wr.cell? ⟨w.heap.size, 6, none⟩ = some (.slice p.a3 a.l3.length p.c3) := (blk_cell X2.out 6).trans rfl
      have d0 : wr.cell? ⟨g3, 0, none⟩ = some (.int .u64 b.log) := (blk_cell X3.out 0).trans rfl
      have d1 : wr.cell? ⟨g3, 1, none⟩ = some (.int .u64 b.next) := (blk_cell X3.out 1).trans rfl
      have d2 : wr.cell? ⟨g3, 2, none⟩ = some (.int .u64 b.seq) := (blk_cell X3.out 2).trans rfl
      have d3 : wr.cell? ⟨g3, 3, none⟩ = some (.slice q.a0 b.l0.length q.c0) := (blk_cell X3.out 3).trans rfl
      have d4 : wr.cell? ⟨g3, 4, none⟩ = some (.slice q.a1 b.l1.length q.c1) := (blk_cell X3.out 4).trans rfl
      have d5 : wr.cell? ⟨g3, 5, none⟩ = some (.slice q.a2 b.l2.length q.c2) := (blk_cell X3.out 5).trans rfl
      have d6 : wr.cell? ⟨g3, 6, none⟩ = some (.slice q.a3 b.l3.length q.c3) := (blk_cell X3.out 6).trans rfl
      go_wp2_with fail
      refine KK.mono ?_
      clear KK
      rintro e w8 ⟨rfl, hb⟩
      have HB8 := Aside0.mk (below_step HB.out hb)
      clear hb
      go_wp2_with fail
      go_ret
      exact ⟨ret_bool HRR.out.symm, HB8.out⟩
    | succ z =>
      have hi : i < 4 := by have := HK.out; omega
      have HI := Aside0.mk hi
      have d0 : decide ((i : Int) < 4) = true := decide_eq_true (by omega)
      have i0 : 0 ≤ (i : Int) := Int.natCast_nonneg _
      have i1 : (i : Int) < 4 := by omega
      have hv := vcell X2.out i hi
      have hu := vcell X3.out i hi
      have ew : wrap64 ((i : Int) + 1) = ((i + 1 : Nat) : Int) := by unfold wrap64; omega
      obtain ⟨l, hl⟩ : ∃ l, l = a.lv i := ⟨_, rfl⟩
      obtain ⟨m, hm⟩ : ∃ m, m = b.lv i := ⟨_, rfl⟩
      rw [← hl] at hv
      rw [← hm] at hu
      have LA := Aside0.mk hl
      have LB := Aside0.mk hm
      clear hl hm hi
      by_cases hx : l.length = m.length
      · have t0 : ((l.length : Int) == (m.length : Int)) = true := by rw [hx]; simp
        have t1 : ((l.length : Int) != (m.length : Int)) = false := by rw [hx]; simp
        have t2 : (l.length == m.length) = true := by rw [hx]; simp
        have t3 : (l.length != m.length) = false := by rw [hx]; simp
        have LX := Aside0.mk hx
        have LM := Aside0.mk (show m.length ≤ 1000000 by rw [LB.out]; exact HL.out i HI.out)
        have hmk := ((HA.out.below HB.out) i HI.out)
        rw [← LA.out] at hmk
        obtain ⟨j, hj⟩ : ∃ j : Int, j = (m.length : Int) + 1 := ⟨_, rfl⟩
        have JQ := Aside0.mk hj
        have j0 : 0 ≤ j := by omega
        have jw1 : wrap64 ((m.length : Int) + 1) = j := by have := LM.out; unfold wrap64; omega
        have jw2 : IntKind.i64.wrap ((m.length : Int) + 1) = j := by have := LM.out; rw [IntKind.wrap_i64]; omega
        have jw3 : (m.length : Int) + 1 = j := hj.symm
        have jw4 : wrap64 j = j := by have := LM.out; unfold wrap64; omega
        have hcut := cut_past (P := Try.prog) 23 58 .i64 Try.underlying23 HI58.out (p.a i) l.length (p.c i) j j0 (by have := hmk.2; omega)
        have ejn : j.toNat = l.length + 1 := by omega
        rw [ejn] at hcut
        have hat := at_T58 (show k58.C wr (p.a i) (l ++ [mark]).length (l ++ [mark]) from by rw [List.length_append]; exact hmk.1) (m.length : Int) (by omega) (by rw [List.length_append, List.length_singleton]; omega)
        obtain ⟨ad, ea, _, _, hc2, _⟩ := hat
        rw [Int.toNat_natCast] at hc2
        have em : rd_T58 (l ++ [mark]) (m.length : Int) = mark := by
          unfold rd_T58
          rw [Int.toNat_natCast, ← hx, List.getD_eq_getElem?_getD, List.getElem?_append_right (Nat.le_refl _)]
          simp
        rw [em] at hc2
        replace hc2 : wr.cell? ⟨(ad.add (m.length * 7)).block, (ad.add (m.length * 7)).off + 2, none⟩ = some (.int .i64 77) := hc2
        rw [ea] at hv hcut
        have q0 : (0 : Int) ≤ (m.length : Int) := by omega
        have q1 : (m.length : Int) < ((l.length + 1 : Nat) : Int) := by omega
        have q2 : m.length < l.length + 1 := by omega
        have q3 : (m.length : Int) < (l.length : Int) + 1 := by omega
        clear hx hj hmk em ea j0 ejn
        go_wp2_with fail
        try rw [ew]
        clear ew jw1 jw2 jw3 jw4
        go_roundg z
        case measure => omega
        case rel => exact ⟨i + 1, rfl, ⟨by have := HK.out; omega⟩, ⟨rfl⟩⟩
      · have t0 : ((l.length : Int) == (m.length : Int)) = false := by rw [beq_eq_false_iff_ne]; omega
        have t1 : ((l.length : Int) != (m.length : Int)) = true := by simp; omega
        have t2 : (l.length == m.length) = false := by rw [beq_eq_false_iff_ne]; exact hx
        have t3 : (l.length != m.length) = true := by simp [hx]
        have HN := Aside0.mk (show ¬ sameP a b from fun h => hx (by rw [LA.out, LB.out, h.2 i HI.out]))
        clear hx
        go_wp2_with fail
        go_ret
        exact ⟨ret_bool (by rw [HRR.out]; symm; exact decide_eq_false HN.out), HB.out⟩
set_option maxHeartbeats 8000000 in
set_option maxRecDepth 100000 in
theorem copy_calls (w : World) (v : Ver) (p : Pl) (hC : VC w v p) (hl : ∀ i, i < 4 → (v.lv i).length ≤ 1000000) : Calls Try.prog 35 #[.agg (vCs v p)] w fun e w' => ∃ q : Pl, e = .returned (.agg (vCs v q)) ∧ MK w' v q ∧ Below w.heap.size w w' := by
  have HC := Aside0.mk hC
  have HL := Aside0.mk hl
  have HB := Aside0.mk (below_alloc ((Below.refl w.heap.size w).alloc (Nat.le_refl _) (.cells (vCs v p) 26)) (.cells #[.int .u64 0, .int .u64 0, .int .u64 0, .slice none 0 0, .slice none 0 0, .slice none 0 0, .slice none 0 0] 26))
  have X1 := Aside0.mk (blk_alloc (blk_new w (.cells (vCs v p) 26)) (.cells #[.int .u64 0, .int .u64 0, .int .u64 0, .slice none 0 0, .slice none 0 0, .slice none 0 0, .slice none 0 0] 26))
  have X2 := Aside0.mk (blk_new (w.alloc (.cells (vCs v p) 26)) (.cells #[.int .u64 0, .int .u64 0, .int .u64 0, .slice none 0 0, .slice none 0 0, .slice none 0 0, .slice none 0 0] 26))
  clear hC hl
  obtain ⟨i58, hi58, _, hsz58, _⟩ := info_parts info58
  have HI58 := Aside0.mk hi58
  clear hi58 hsz58
  go_enter Try.func35, Try.ntmps35
  go_upto_region 1 with (fail)
  generalize hg3 : (w.alloc (.cells (vCs v p) 26)).heap.size = g3 at *
  have e3 : w.heap.size + 1 = g3 := by rw [← hg3]; simp
  try rw [e3]
  have NG := Aside0.mk (show w.heap.size < g3 by omega)
  clear hg3 e3
  generalize (w.alloc (.cells (vCs v p) 26)).alloc (.cells #[.int .u64 0, .int .u64 0, .int .u64 0, .slice none 0 0, .slice none 0 0, .slice none 0 0, .slice none 0 0] 26) = w1 at *
  go_wp2_with fail
  go_loopg [3, 4] 4 (fun kq v3 v4 w' => ∃ (i : Nat) (q : Pl), v3 = .int .i64 (i : Int) ∧ Aside0 (kq + i = 4) ∧ Aside0 (Below w.heap.size w w') ∧ Aside0 (w'.heap[w.heap.size]? = some (.cells (vCs v q) 26 (0, 0))) ∧ Aside0 (w'.heap[g3]? = some (.cells #[.int .u64 0, .int .u64 0, .int .u64 0, .slice none 0 0, .slice none 0 0, .slice none 0 0, .slice none 0 0] 26 (0, 0))) ∧ Aside0 (∀ j, i ≤ j → j < 4 → q.a j = p.a j ∧ q.c j = p.c j) ∧ Aside0 (∀ j, j < i → ∃ n, Kd.R k58 58 w' w.heap.size (fun _ => True) (.slice (q.a j) n (q.c j)) (v.lv j ++ [mark])))
  case atStart => exact ⟨0, p, rfl, ⟨by omega⟩, HB, X1, X2, ⟨fun j _ _ => ⟨rfl, rfl⟩⟩, ⟨fun j hj => by omega⟩⟩
  case round =>
    clear HB X1 X2
    obtain ⟨i, q, rfl, HK, HB, X1, X2, HQ, HR⟩ := hrel
    cases gk with
    | zero =>
      have ei : i = 4 := by have := HK.out; omega
      subst ei
      have b0 : wr.cell? ⟨w.heap.size, 0, none⟩ = some (.int .u64 v.log) := (blk_cell X1.out 0).trans rfl
      have b1 : wr.cell? ⟨w.heap.size, 1, none⟩ = some (.int .u64 v.next) := (blk_cell X1.out 1).trans rfl
      have b2 : wr.cell? ⟨w.heap.size, 2, none⟩ = some (.int .u64 v.seq) := (blk_cell X1.out 2).trans rfl
      have b3 : wr.cell? ⟨w.heap.size, 3, none⟩ = some (.slice q.a0 v.l0.length q.c0) := (blk_cell X1.out 3).trans rfl
      have b4 : wr.cell? ⟨w.heap.size, 4, none⟩ = some (.slice q.a1 v.l1.length q.c1) := (blk_cell X1.out 4).trans rfl
      have b5 : wr.cell? ⟨w.heap.size, 5, none⟩ = some (.slice q.a2 v.l2.length q.c2) := (blk_cell X1.out 5).trans rfl
      have b6 : wr.cell? ⟨w.heap.size, 6, none⟩ = some (.slice q.a3 v.l3.length q.c3) := (blk_cell X1.out 6).trans rfl
      go_wp2_with (first | (refine st_arr rfl 26 _ _ rfl g3 26 ?hx (vCs v q) ?hy _ X2.out (by rw [size26]; rfl) rfl (by simp [Value.oneCell']) ?_; (case hx => rfl); (case hy => rfl); intro w5 hb5 hbb hk5 hs5; have HB5 := Aside0.mk (hbb _ _ HB.out (show w.heap.size ≤ g3 by have := NG.out; omega)); have X5 := Aside0.mk hb5; have HR5 := Aside0.mk (show ∀ j, j < 4 → ∃ n, Kd.R k58 58 w5 w.heap.size (fun _ => True) (.slice (q.a j) n (q.c j)) (v.lv j ++ [mark]) from fun j hj => by obtain ⟨n, hn⟩ := HR.out j hj; exact ⟨n, Kd.R_mono (Kd.R_step (Kd.R_types hn X2.out (by intro x hx; simp [show k58.E = [] from rfl] at hx; omega)) (fun k ho _ => hk5 k ho.2)) (fun _ _ => trivial)⟩); clear hb5 hbb hk5 hs5) | fail)
      have r0 : w5.cell? ⟨g3, 0, none⟩ = some (.int .u64 v.log) := (blk_cell X5.out 0).trans rfl
      have r1 : w5.cell? ⟨g3, 1, none⟩ = some (.int .u64 v.next) := (blk_cell X5.out 1).trans rfl
      have r2 : w5.cell? ⟨g3, 2, none⟩ = some (.int .u64 v.seq) := (blk_cell X5.out 2).trans rfl
      have r3 : w5.cell? ⟨g3, 3, none⟩ = some (.slice q.a0 v.l0.length q.c0) := (blk_cell X5.out 3).trans rfl
      have r4 : w5.cell? ⟨g3, 4, none⟩ = some (.slice q.a1 v.l1.length q.c1) := (blk_cell X5.out 4).trans rfl
      have r5 : w5.cell? ⟨g3, 5, none⟩ = some (.slice q.a2 v.l2.length q.c2) := (blk_cell X5.out 5).trans rfl
      have r6 : w5.cell? ⟨g3, 6, none⟩ = some (.slice q.a3 v.l3.length q.c3) := (blk_cell X5.out 6).trans rfl
      exact bodyPost_ret (v := .agg (vCs v q)) (by simp [results, Try.results35, go_sem, r0, r1, r2, r3, r4, r5, r6]) rfl ⟨q, rfl, fun j hj => by
        obtain ⟨n, hn⟩ := HR5.out j hj
        obtain ⟨h1, h2, h3⟩ := Kd.R_reads' hn
        rw [List.length_append, List.length_singleton] at h1 h3
        exact ⟨h3, by omega⟩, HB5.out⟩
    | succ z =>
      have hi : i < 4 := by have := HK.out; omega
      have HI := Aside0.mk hi
      have d0 : decide ((i : Int) < 4) = true := decide_eq_true (by omega)
      have i0 : 0 ≤ (i : Int) := Int.natCast_nonneg _
      have i1 : (i : Int) < 4 := by omega
      have ew : wrap64 ((i : Int) + 1) = ((i + 1 : Nat) : Int) := by unfold wrap64; omega
      obtain ⟨l, hl⟩ : ∃ l, l = v.lv i := ⟨_, rfl⟩
      have LE := Aside0.mk hl
      have HLL := Aside0.mk (show l.length ≤ 1000000 by rw [hl]; exact HL.out i hi)
      have CV := Aside0.mk (show k58.C wr (q.a i) l.length l by rw [hl, (HQ.out i (Nat.le_refl _) hi).1]; exact ((HC.out.below HB.out) i hi).1)
      have lw1 : wrap64 (l.length : Int) = (l.length : Int) := by have := HLL.out; unfold wrap64; omega
      have lw2 : IntKind.i64.wrap (l.length : Int) = (l.length : Int) := by have := HLL.out; rw [IntKind.wrap_i64]; omega
      clear hl hi
      go_wp2_with (first | ((with_reducible refine gate_dst (N := 9) rfl ?_); refine Kd.R_lit k58 (w0 := wr) wr.heap.size 58 ?hgda (N := 9) ?hda (xs := ([] : List S58)) (inner := []) (ok := fun _ => True) (okp := fun _ => True) ?hra ?hpa (fun _ hk => hk) trivial (Below.refl wr.heap.size wr) (Below.size ((Below.refl wr.heap.size wr))) (by simp) ?_; (case hda => rfl); (case hgda => rfl); (case hra => first | (go_simp; done) | (go_simp; rfl)); (case hpa => exact (Reps.none _ _)); intro va wa ho hb hg_ hnew_; have Ra := Aside0.mk ho; have HBa := Aside0.mk hb; have Xa := Aside0.mk (blk_below X1.out (below_none hg_)); have hva := vcell Xa.out i HI.out; rw [← LE.out] at hva; clear ho hb hg_ hnew_) | ((with_reducible refine gate_builtin (b := .append) (xs := #[.tmp 9, .tmp 13]) rfl ?_); at_builtin; refine Kd.R_append_rows k58 (Rr := k58.K wa) (w0 := wr) wr.heap.size rfl (.tmp 9) (.tmp 13) 23 58 (.agg #[(.int .u64 0), (.int .i64 0), (.int .i64 0), (.string ⟨#[]⟩), (.string ⟨#[]⟩), (.int .u64 0), (.int .u64 0)]) 72 rfl Try.underlying23 info58 rfl (show 0 < 7 by decide) (show 0 < 72 by decide) va ([]) (l) (q.a i) l.length (q.c i) (fun _ => True) (fun _ => False) rfl rfl ?aOb ?aRb ?aMb (fun _ h => h.elim) ?aFb ?aBb ?aSb ?aLb ?_; (case aRb => exact (Kd.C_below CV.out HBa.out)); (case aMb => (intro x cs hk; obtain rfl := k58_open hk; exact k58_mkM _ _ _ x)); (case aBb => exact HBa.out); (case aFb => exact (fun _ _ => trivial)); (case aOb => exact Ra.out); (case aSb => exact Below.size (HBa.out)); (case aLb => (have h1 := HLL.out; simp; omega)); intro vb wb ho hb hg hat; have Rb := Aside0.mk ho; have HBb := Aside0.mk hb; have Xb := Aside0.mk (blk_grown Xa.out hg (Kd.R_ne Ra.out Xa.out (by decide))); rw [List.nil_append] at Rb; obtain ⟨B1, cb1, hv1⟩ := Kd.R_slice Rb.out; subst hv1; clear ho hb hg hat) | ((with_reducible refine gate_builtin (b := .append) (xs := #[.tmp 15, .tmp 17]) rfl ?_); at_builtin; refine Kd.R_append k58 (w0 := wr) wr.heap.size rfl (.tmp 15) (.tmp 17) 23 58 (.agg #[(.int .u64 0), (.int .i64 0), (.int .i64 0), (.string ⟨#[]⟩), (.string ⟨#[]⟩), (.int .u64 0), (.int .u64 0)]) 72 rfl Try.underlying23 info58 rfl (show 0 < 7 by decide) (show 0 < 72 by decide) (.slice B1 l.length cb1) (l) mark [.int .u64 0, .int .i64 0, .int .i64 77, .string ⟨#[]⟩, .string ⟨#[]⟩, .int .u64 0, .int .u64 0] (fun _ => True) (fun _ => False) rfl rfl ?aPc (fun _ hk => hk.elim) ?aFc ?aOc ?aBc ?aSc ?aLc ?_; (case aPc => exact k58_mkM _ _ _ mark); (case aBc => exact HBb.out); (case aFc => exact (fun _ _ => trivial)); (case aOc => exact Rb.out); (case aSc => exact Below.size (HBb.out)); (case aLc => (have h1 := HLL.out; omega)); intro va wa ho hb hg hat; have HBc := Aside0.mk hb; have Xc := Aside0.mk (blk_grown Xb.out hg (Kd.R_ne Rb.out Xb.out (by decide))); have ff := blk_frozen Xc.out (3 + i); have hvc := vcell Xc.out i HI.out; obtain ⟨B', cb', hv⟩ := Kd.R_slice ho; subst hv; have kc0 := (Kd.R_reads' ho).2.1; rw [List.length_append, List.length_singleton] at kc0; have kc1 : l.length ≤ cb' := Nat.le_of_succ_le kc0; have kc2 : (l.length : Int) ≤ (cb' : Int) := Int.ofNat_le.mpr kc1; clear kc0; have HRc := Aside0.mk ho; clear ho hb hg hat) | fail)
      clear lw1 lw2
      have HR1 := Aside0.mk (Kd.R_set (Kd.R_lower HRc.out HB.out.size) Xc.out (by intro x hx; simp [show k58.E = [] from rfl] at hx; omega) (3 + i) (.slice B' l.length cb'))
      have HRo := Aside0.mk (show ∀ j, j < i → ∃ n, Kd.R k58 58 (wa.setCell ⟨w.heap.size, 3 + i, none⟩ (.slice B' l.length cb')) w.heap.size (fun _ => True) (.slice (q.a j) n (q.c j)) (v.lv j ++ [mark]) from fun j hj => by
        obtain ⟨n, hn⟩ := HR.out j hj
        exact ⟨n, Kd.R_set (Kd.R_below hn HBc.out) Xc.out (by intro x hx; simp [show k58.E = [] from rfl] at hx; omega) (3 + i) (.slice B' l.length cb')⟩)
      have X1n := Aside0.mk (show (wa.setCell ⟨w.heap.size, 3 + i, none⟩ (.slice B' l.length cb')).heap[w.heap.size]? = some (.cells (vCs v (q.set i B' cb')) 26 (0, 0)) from five_set Xc.out _ (by have h1 := vCs_set v q i HI.out l B' cb'; rw [show v.set i l = v by rw [LE.out]; exact Ver.set_self v i HI.out] at h1; exact h1))
      have X2n := Aside0.mk (blk_far (blk_below X2.out HBc.out) (p := ⟨w.heap.size, 3 + i, none⟩) (show g3 ≠ w.heap.size by have := NG.out; omega) (.slice B' l.length cb'))
      have HBn := Aside0.mk (below_set (j := 3 + i) (v := .slice B' l.length cb') (below_step HB.out HBc.out) (Nat.le_refl _))
      try rw [ew]
      clear ew ff hvc
      go_roundg z
      case measure => omega
      case rel => exact ⟨i + 1, q.set i B' cb', rfl, ⟨by have := HK.out; omega⟩, HBn, X1n, X2n, ⟨fun j h1 h2 => by
        rw [Pl.set_a q i j HI.out h2, Pl.set_c q i j HI.out h2, if_neg (by omega), if_neg (by omega)]
        exact HQ.out j (by omega) h2⟩, ⟨fun j hj => by
        have hj4 : j < 4 := by have := HI.out; omega
        rw [Pl.set_a q i j HI.out hj4, Pl.set_c q i j HI.out hj4]
        by_cases e : j = i
        · subst e
          rw [if_pos rfl, if_pos rfl, ← LE.out]
          exact ⟨_, HR1.out⟩
        · rw [if_neg e, if_neg e]
          exact HRo.out j (by omega)⟩⟩
end Go.Proofs.Ytkjepfofiegcdaa.V
