import Derived.Test.YtkjepfofiegcdaaVM2Y
import Derived.Test.YtkjepfofiegcdaaVM1Y
/- edit.Apply (54), walked: it answers applyV, in memory of its own. Conditions: at most 100000 tables a level, 100000 added; the numbers are such as the machine has. -/
namespace Go.Proofs.Ytkjepfofiegcdaa.V
set_option linter.unusedVariables false
set_option linter.unusedSimpArgs false
open Go.RowKit Go.Proofs.YtkjepfofiegcdaaW.PrintWords Go.Proofs.YtkjepfofiegcdaaW.PrintLast Go.Proofs.YtkjepfofiegcdaaW.PrintMore Go.Proofs.Ytkjepfofiegcdaa.PB14
theorem RowsK.other {n : Nat} {w w' : World} {base : Nat} {u : Ver} {p : Pl} (h : RowsK n w base u p) {g t : Nat} {cs : Array Value} (hx : w.heap[g]? = some (.cells cs t (0, 0))) (ht : t ≠ 58) (hk : ∀ k, k ≠ g → w'.heap[k]? = w.heap[k]?) : RowsK n w' base u p :=
 ⟨fun i hi => Kd.R_mono (Kd.R_step (Kd.R_types (h.1 i hi) hx (by intro x hq; simp [show k58.E = [] from rfl] at hq; omega)) (fun k ho _ => hk k ho.2)) (fun _ _ => trivial), h.2⟩
set_option maxHeartbeats 8000000 in
set_option maxRecDepth 100000 in
theorem apply_calls (w : World) (v : Ver) (p : Pl) (e : Edt) (A1 A2 : Option Addr) (c1 c2 : Nat) (hC : VC w v p) (hW : VW v) (h1 : k84.C w A1 e.gone.length e.gone) (h2 : k82.C w A2 e.added.length e.added) (hn : ∀ i, i < 4 → (v.lv i).length ≤ 100000) (hga : e.added.length ≤ 100000) :
  Calls Try.prog 54 #[.agg (vCs v p), .agg (eCs e A1 c1 A2 c2)] w fun x w' => ∃ q : Pl, x = .returned (.tuple #[.agg (vCs (applyV v e).1 q), .int .i64 (applyV v e).2]) ∧ Rows4 w' w.heap.size (applyV v e).1 q ∧ Below w.heap.size w w' := by
 obtain ⟨u, r, hur⟩ : ∃ u r, applyV v e = (u, r) := ⟨_, _, rfl⟩
 rw [hur]
 have UR := Aside0.mk hur
 have HW := Aside0.mk hW
 have HLN := Aside0.mk hn
 have HLA := Aside0.mk hga
 obtain ⟨rb, hrb⟩ : ∃ rb, rb = decide (rightP v) := ⟨_, rfl⟩
 have RB := Aside0.mk hrb
 clear hur hW hn hga hrb
 have HC := Aside0.mk hC
 have H1 := Aside0.mk h1
 have H2 := Aside0.mk h2
 have HB := Aside0.mk (below_alloc (below_alloc ((Below.refl w.heap.size w).alloc (Nat.le_refl _) (.cells (vCs v p) 26)) (.cells (eCs e A1 c1 A2 c2) 70)) (.cells #[.int .u64 0, .int .u64 0, .int .u64 0, .slice none 0 0, .slice none 0 0, .slice none 0 0, .slice none 0 0] 26))
 have X1 := Aside0.mk (blk_alloc (blk_alloc (blk_new w (.cells (vCs v p) 26)) (.cells (eCs e A1 c1 A2 c2) 70)) (.cells #[.int .u64 0, .int .u64 0, .int .u64 0, .slice none 0 0, .slice none 0 0, .slice none 0 0, .slice none 0 0] 26))
 have X2 := Aside0.mk (blk_alloc (blk_new (w.alloc (.cells (vCs v p) 26)) (.cells (eCs e A1 c1 A2 c2) 70)) (.cells #[.int .u64 0, .int .u64 0, .int .u64 0, .slice none 0 0, .slice none 0 0, .slice none 0 0, .slice none 0 0] 26))
 have X3 := Aside0.mk (blk_new ((w.alloc (.cells (vCs v p) 26)).alloc (.cells (eCs e A1 c1 A2 c2) 70)) (.cells #[.int .u64 0, .int .u64 0, .int .u64 0, .slice none 0 0, .slice none 0 0, .slice none 0 0, .slice none 0 0] 26))
 go_enter Try.func54, Try.ntmps54
 go_upto_region 1 with (fail)
 generalize hg3 : ((w.alloc (.cells (vCs v p) 26)).alloc (.cells (eCs e A1 c1 A2 c2) 70)).heap.size = g3 at *
 have e3 : w.heap.size + 1 + 1 = g3 := by rw [← hg3]; simp
 generalize hg2 : (w.alloc (.cells (vCs v p) 26)).heap.size = g2 at *
 have e2 : w.heap.size + 1 = g2 := by rw [← hg2]; simp
 try rw [e3]
 try rw [e2]
 have N2 := Aside0.mk (show w.heap.size < g2 by omega)
 have N3 := Aside0.mk (show g2 < g3 by omega)
 clear hg3 e3 hg2 e2
 generalize ((w.alloc (.cells (vCs v p) 26)).alloc (.cells (eCs e A1 c1 A2 c2) 70)).alloc (.cells #[.int .u64 0, .int .u64 0, .int .u64 0, .slice none 0 0, .slice none 0 0, .slice none 0 0, .slice none 0 0] 26) = w1 at *
 clear hC h1 h2
 have b0 : w1.cell? ⟨w.heap.size, 0, none⟩ = some (.int .u64 v.log) := (blk_cell X1.out 0).trans rfl
 have b1 : w1.cell? ⟨w.heap.size, 1, none⟩ = some (.int .u64 v.next) := (blk_cell X1.out 1).trans rfl
 have b2 : w1.cell? ⟨w.heap.size, 2, none⟩ = some (.int .u64 v.seq) := (blk_cell X1.out 2).trans rfl
 have b3 : w1.cell? ⟨w.heap.size, 3, none⟩ = some (.slice p.a0 v.l0.length p.c0) := (blk_cell X1.out 3).trans rfl
 have b4 : w1.cell? ⟨w.heap.size, 4, none⟩ = some (.slice p.a1 v.l1.length p.c1) := (blk_cell X1.out 4).trans rfl
 have b5 : w1.cell? ⟨w.heap.size, 5, none⟩ = some (.slice p.a2 v.l2.length p.c2) := (blk_cell X1.out 5).trans rfl
 have b6 : w1.cell? ⟨w.heap.size, 6, none⟩ = some (.slice p.a3 v.l3.length p.c3) := (blk_cell X1.out 6).trans rfl
 go_wp2_with fail
 refine (right_calls _ v p (HC.out.below HB.out) HW.out).mono ?_
 rintro x w2 ⟨rfl, hb⟩
 rw [← RB.out]
 have HB2 := Aside0.mk (below_step HB.out hb)
 have X12 := Aside0.mk (blk_below X1.out hb)
 have X22 := Aside0.mk (blk_below X2.out hb)
 have X32 := Aside0.mk (blk_below X3.out hb)
 clear hb b0 b1 b2 b3 b4 b5 b6 X1 X2 X3 HB
 have HB := HB2; have X1 := X12; have X2 := X22; have X3 := X32
 clear HB2 X12 X22 X32
 go_wp2_with fail
 go_loopg [7, 25] 4 (fun kq v7 v25 w' => ∃ (i : Nat) (q : Pl), v25 = .int .i64 (i : Int) ∧ Aside0 (kq + i = 4) ∧ Aside0 (RowsK i w' w.heap.size v q) ∧ Aside0 (∀ j, i ≤ j → j < 4 → q.a j = p.a j ∧ q.c j = p.c j) ∧ Aside0 (Below w.heap.size w w') ∧ Aside0 (w'.heap[w.heap.size]? = some (.cells (vCs v q) 26 (0, 0))) ∧ Aside0 (w'.heap[g2]? = some (.cells (eCs e A1 c1 A2 c2) 70 (0, 0))) ∧ Aside0 (w'.heap[g3]? = some (.cells #[.int .u64 0, .int .u64 0, .int .u64 0, .slice none 0 0, .slice none 0 0, .slice none 0 0, .slice none 0 0] 26 (0, 0))))
 case atStart => exact ⟨0, p, rfl, ⟨by omega⟩, ⟨RowsK.zero _ _ _ _⟩, ⟨fun _ _ _ => ⟨rfl, rfl⟩⟩, HB, X1, X2, X3⟩
 case round =>
  clear HB X1 X2 X3
  obtain ⟨i, q, rfl, HK, RK, HQ, HB, X1, X2, X3⟩ := hrel
  cases gk with
  | zero =>
   have ei : i = 4 := by have := HK.out; omega
   subst ei
   go_upto_region 7 with (fail)
   refine start_ (n := 15) (S := (fun w' => w'.heap[g2]? = some (.cells (eCs e A1 c1 A2 c2) 70 (0, 0)))) (ds := []) #[false, false, false, false, false, false, false, false, false, false, false, false, false, false, false] (by kernel_rfl) rfl rfl (blk_drew X2.out) (fun hHeld => ?_)
   have XD1 := Aside0.mk (blk_drew X1.out)
   have XD3 := Aside0.mk (blk_drew X3.out)
   have HD := Aside0.mk (below_drew HB.out)
   have RD_ := Aside0.mk (show RowsK 4 wr.drew w.heap.size v q from RK.out.below (below_drew (Below.refl _ _)))
   generalize wr.drew = wd at *
   refine pure_ (i := 0) (N := (some 37)) (v := ?_) (a' := ?_) #[true, false, false, false, false, false, false, false, false, false, false, false, false, false, false] rfl rfl (by kernel_rfl) (fun _ _ _ h => h) (Or.inl ⟨by rfl, ?_⟩) ?_ ?_
   rotate_left
   ·intro w'
    go_simp
    with_reducible rfl
   rotate_left
   ·simp only [Act.put, List.setIfInBounds_toArray, List.set_cons_zero, List.set_cons_succ, i64_w, i32_w]
    rfl
   refine pure_ (i := 1) (N := (some 38)) (v := ?_) (a' := ?_) #[true, true, false, false, false, false, false, false, false, false, false, false, false, false, false] rfl rfl (by kernel_rfl) (fun _ _ _ h => h) (Or.inl ⟨by rfl, ?_⟩) ?_ ?_
   rotate_left
   ·intro w'
    go_simp
    with_reducible rfl
   rotate_left
   ·simp only [Act.put, List.setIfInBounds_toArray, List.set_cons_zero, List.set_cons_succ, i64_w, i32_w]
    rfl
   refine take_ (i := 2) (N := (some 39)) (v := ?_) (a' := ?_) #[true, true, true, false, false, false, false, false, false, false, false, false, false, false, false] rfl rfl (by kernel_rfl) (fun _ _ _ h => h) (Or.inl ⟨by rfl, ?_⟩) hHeld ?_ ?_
   rotate_left
   ·rintro w' s0
    have z0 : w'.cell? ⟨g2, 0, none⟩ = some (.int .u64 e.log) := (blk_cell s0 0).trans rfl
    go_simp
    with_reducible rfl
   rotate_left
   ·simp only [Act.put, List.setIfInBounds_toArray, List.set_cons_zero, List.set_cons_succ, i64_w, i32_w]
    rfl
   refine pure_ (i := 4) (N := (some 41)) (v := ?_) (a' := ?_) #[true, true, true, false, true, false, false, false, false, false, false, false, false, false, false] rfl rfl (by kernel_rfl) (fun _ _ _ h => h) (Or.inl ⟨by rfl, ?_⟩) ?_ ?_
   rotate_left
   ·intro w'
    go_simp
    with_reducible rfl
   rotate_left
   ·simp only [Act.put, List.setIfInBounds_toArray, List.set_cons_zero, List.set_cons_succ, i64_w, i32_w]
    rfl
   refine pure_ (i := 5) (N := (some 42)) (v := ?_) (a' := ?_) #[true, true, true, false, true, true, false, false, false, false, false, false, false, false, false] rfl rfl (by kernel_rfl) (fun _ _ _ h => h) (Or.inl ⟨by rfl, ?_⟩) ?_ ?_
   rotate_left
   ·intro w'
    go_simp
    with_reducible rfl
   rotate_left
   ·simp only [Act.put, List.setIfInBounds_toArray, List.set_cons_zero, List.set_cons_succ, i64_w, i32_w]
    rfl
   refine take_ (i := 6) (N := (some 43)) (v := ?_) (a' := ?_) #[true, true, true, false, true, true, true, false, false, false, false, false, false, false, false] rfl rfl (by kernel_rfl) (fun _ _ _ h => h) (Or.inl ⟨by rfl, ?_⟩) hHeld ?_ ?_
   rotate_left
   ·rintro w' s0
    have z0 : w'.cell? ⟨g2, 1, none⟩ = some (.int .u64 e.next) := (blk_cell s0 1).trans rfl
    go_simp
    with_reducible rfl
   rotate_left
   ·simp only [Act.put, List.setIfInBounds_toArray, List.set_cons_zero, List.set_cons_succ, i64_w, i32_w]
    rfl
   refine pure_ (i := 8) (N := (some 45)) (v := ?_) (a' := ?_) #[true, true, true, false, true, true, true, false, true, false, false, false, false, false, false] rfl rfl (by kernel_rfl) (fun _ _ _ h => h) (Or.inl ⟨by rfl, ?_⟩) ?_ ?_
   rotate_left
   ·intro w'
    go_simp
    with_reducible rfl
   rotate_left
   ·simp only [Act.put, List.setIfInBounds_toArray, List.set_cons_zero, List.set_cons_succ, i64_w, i32_w]
    rfl
   refine pure_ (i := 9) (N := (some 46)) (v := ?_) (a' := ?_) #[true, true, true, false, true, true, true, false, true, true, false, false, false, false, false] rfl rfl (by kernel_rfl) (fun _ _ _ h => h) (Or.inl ⟨by rfl, ?_⟩) ?_ ?_
   rotate_left
   ·intro w'
    go_simp
    with_reducible rfl
   rotate_left
   ·simp only [Act.put, List.setIfInBounds_toArray, List.set_cons_zero, List.set_cons_succ, i64_w, i32_w]
    rfl
   refine take_ (i := 10) (N := (some 47)) (v := ?_) (a' := ?_) #[true, true, true, false, true, true, true, false, true, true, true, false, false, false, false] rfl rfl (by kernel_rfl) (fun _ _ _ h => h) (Or.inl ⟨by rfl, ?_⟩) hHeld ?_ ?_
   rotate_left
   ·rintro w' s0
    have z0 : w'.cell? ⟨g2, 2, none⟩ = some (.int .u64 e.seq) := (blk_cell s0 2).trans rfl
    go_simp
    with_reducible rfl
   rotate_left
   ·simp only [Act.put, List.setIfInBounds_toArray, List.set_cons_zero, List.set_cons_succ, i64_w, i32_w]
    rfl
   refine one_ (i := 3) (N := (some 40)) #[true, true, true, true, true, true, true, false, true, true, true, false, false, false, false] rfl rfl (by kernel_rfl) (by decide) (fun K hK => ?_)
   refine goes_ Try.func102 (by kernel_rfl) rfl #[.pointer (some ⟨w.heap.size, 0, none⟩), .int .u64 e.log] (by rfl) rfl rfl (by (try simp only [List.map_toArray, List.map_cons, List.map_nil]); first | done | rfl) ?_
   (with_reducible refine (later2 _ w.heap.size 0 26 _ v.log e.log XD1.out rfl w.heap.size (Nat.le_refl _)).mono ?_)
   rintro e wA ⟨rfl, hx, hk, hb⟩
   refine ⟨_, rfl, ?_⟩
   have XA1 := Aside0.mk hx
   have XA3 := Aside0.mk ((hk g3 (by have := N2.out; have := N3.out; omega)).trans XD3.out)
   have HA_ := Aside0.mk (HD.out.trans hb)
   have RA_ := Aside0.mk (RD_.out.other XD1.out (by decide) hk)
   have hOld := hHeld
   clear hHeld
   refine hK.out _ _ (((hk g2 (by have := N2.out; omega)).trans hOld)) (fun hHeld => ?_)
   clear hOld hK K
   refine norm_ (a' := ?_) ?_ ?_
   rotate_left
   ·show Act.put _ (some 40) _ = _
    simp only [Act.put, List.setIfInBounds_toArray, List.set_cons_zero, List.set_cons_succ, i64_w, i32_w]
    rfl
   refine one_ (i := 7) (N := (some 44)) #[true, true, true, true, true, true, true, true, true, true, true, false, false, false, false] rfl rfl (by kernel_rfl) (by decide) (fun K hK => ?_)
   refine goes_ Try.func102 (by kernel_rfl) rfl #[.pointer (some ⟨w.heap.size, 1, none⟩), .int .u64 e.next] (by rfl) rfl rfl (by (try simp only [List.map_toArray, List.map_cons, List.map_nil]); first | done | rfl) ?_
   (with_reducible refine (later2 _ w.heap.size 1 26 _ v.next e.next XA1.out rfl w.heap.size (Nat.le_refl _)).mono ?_)
   rintro e wB ⟨rfl, hx, hk, hb⟩
   refine ⟨_, rfl, ?_⟩
   have XB1 := Aside0.mk hx
   have XB3 := Aside0.mk ((hk g3 (by have := N2.out; have := N3.out; omega)).trans XA3.out)
   have HB_ := Aside0.mk (HA_.out.trans hb)
   have RB_ := Aside0.mk (RA_.out.other XA1.out (by decide) hk)
   have hOld := hHeld
   clear hHeld
   refine hK.out _ _ (((hk g2 (by have := N2.out; omega)).trans hOld)) (fun hHeld => ?_)
   clear hOld hK K
   refine norm_ (a' := ?_) ?_ ?_
   rotate_left
   ·show Act.put _ (some 44) _ = _
    simp only [Act.put, List.setIfInBounds_toArray, List.set_cons_zero, List.set_cons_succ, i64_w, i32_w]
    rfl
   refine one_ (i := 11) (N := (some 48)) #[true, true, true, true, true, true, true, true, true, true, true, true, false, false, false] rfl rfl (by kernel_rfl) (by decide) (fun K hK => ?_)
   refine goes_ Try.func102 (by kernel_rfl) rfl #[.pointer (some ⟨w.heap.size, 2, none⟩), .int .u64 e.seq] (by rfl) rfl rfl (by (try simp only [List.map_toArray, List.map_cons, List.map_nil]); first | done | rfl) ?_
   (with_reducible refine (later2 _ w.heap.size 2 26 _ v.seq e.seq XB1.out rfl w.heap.size (Nat.le_refl _)).mono ?_)
   rintro e wC ⟨rfl, hx, hk, hb⟩
   refine ⟨_, rfl, ?_⟩
   have XC1 := Aside0.mk hx
   have XC3 := Aside0.mk ((hk g3 (by have := N2.out; have := N3.out; omega)).trans XB3.out)
   have HC_ := Aside0.mk (HB_.out.trans hb)
   have RC_ := Aside0.mk (RB_.out.other XB1.out (by decide) hk)
   have hOld := hHeld
   clear hHeld
   refine hK.out _ _ (((hk g2 (by have := N2.out; omega)).trans hOld)) (fun hHeld => ?_)
   clear hOld hK K
   refine norm_ (a' := ?_) ?_ ?_
   rotate_left
   ·show Act.put _ (some 48) _ = _
    simp only [Act.put, List.setIfInBounds_toArray, List.set_cons_zero, List.set_cons_succ, i64_w, i32_w]
    rfl
   refine pure_ (i := 12) (N := (some 8)) (v := ?_) (a' := ?_) #[true, true, true, true, true, true, true, true, true, true, true, true, true, false, false] rfl rfl (by kernel_rfl) (fun _ _ _ h => h) (Or.inl ⟨by rfl, ?_⟩) ?_ ?_
   rotate_left
   ·intro w'
    go_simp
    with_reducible rfl
   rotate_left
   ·simp only [Act.put, List.setIfInBounds_toArray, List.set_cons_zero, List.set_cons_succ, i64_w, i32_w]
    rfl
   refine pure_ (i := 13) (N := (some 9)) (v := ?_) (a' := ?_) #[true, true, true, true, true, true, true, true, true, true, true, true, true, true, false] rfl rfl (by kernel_rfl) (fun _ _ _ h => h) (Or.inl ⟨by rfl, ?_⟩) ?_ ?_
   rotate_left
   ·intro w'
    go_simp
    with_reducible rfl
   rotate_left
   ·simp only [Act.put, List.setIfInBounds_toArray, List.set_cons_zero, List.set_cons_succ, i64_w, i32_w]
    rfl
   refine pure_ (i := 14) (N := (some 10)) (v := ?_) (a' := ?_) #[true, true, true, true, true, true, true, true, true, true, true, true, true, true, true] rfl rfl (by kernel_rfl) (fun _ _ _ h => h) (Or.inl ⟨by rfl, ?_⟩) ?_ ?_
   rotate_left
   ·intro w'
    go_simp
    with_reducible rfl
   rotate_left
   ·simp only [Act.put, List.setIfInBounds_toArray, List.set_cons_zero, List.set_cons_succ, i64_w, i32_w]
    rfl
   refine done_ (by kernel_rfl) ?_
   have X2c := Aside0.mk hHeld
   clear hHeld XA1 XA3 HA_ RA_ XB1 XB3 HB_ RB_ XD1 XD3 HD RD_ HB X1 X2 X3 RK
   have HBx := HC_
   obtain ⟨la, hla⟩ : ∃ b, b = laterB v.log e.log := ⟨_, rfl⟩
   obtain ⟨lb, hlb⟩ : ∃ b, b = laterB v.next e.next := ⟨_, rfl⟩
   obtain ⟨lc, hlc⟩ : ∃ b, b = laterB v.seq e.seq := ⟨_, rfl⟩
   rw [← hla, ← hlb, ← hlc]
   have LA := Aside0.mk hla
   have LB := Aside0.mk hlb
   have LC := Aside0.mk hlc
   clear hla hlb hlc
   cases rb with
   | false =>
    have BAD := Aside0.mk (show ¬ askE v e from fun h => by have h1 := RB.out; rw [decide_eq_true h.1.1] at h1; cases h1)
    go_wp2_with (first | (refine st_arr rfl 26 _ _ rfl g3 26 ?hx #[.int .u64 0, .int .u64 0, .int .u64 0, .slice none 0 0, .slice none 0 0, .slice none 0 0, .slice none 0 0] ?hy _ XC3.out (by rw [size26]; rfl) rfl (by simp [Value.oneCell']) ?_; (case hx => rfl); (case hy => rfl); intro w7 hb7 hbb hk7 hs7; have HB7 := Aside0.mk (hbb _ _ HBx.out (show w.heap.size ≤ g3 by have := N2.out; have := N3.out; omega)); have X7 := Aside0.mk hb7; clear hb7 hbb hk7 hs7) | fail)
    have r0 : w7.cell? ⟨g3, 0, none⟩ = some (.int .u64 0) := (blk_cell X7.out 0).trans rfl
    have r1 : w7.cell? ⟨g3, 1, none⟩ = some (.int .u64 0) := (blk_cell X7.out 1).trans rfl
    have r2 : w7.cell? ⟨g3, 2, none⟩ = some (.int .u64 0) := (blk_cell X7.out 2).trans rfl
    have r3 : w7.cell? ⟨g3, 3, none⟩ = some (.slice none 0 0) := (blk_cell X7.out 3).trans rfl
    have r4 : w7.cell? ⟨g3, 4, none⟩ = some (.slice none 0 0) := (blk_cell X7.out 4).trans rfl
    have r5 : w7.cell? ⟨g3, 5, none⟩ = some (.slice none 0 0) := (blk_cell X7.out 5).trans rfl
    have r6 : w7.cell? ⟨g3, 6, none⟩ = some (.slice none 0 0) := (blk_cell X7.out 6).trans rfl
    have AV : applyV v e = (zeroV, 2) := by unfold applyV; exact if_neg BAD.out
    have AV2 : (u, r) = (zeroV, 2) := UR.out.symm.trans AV
    injection AV2 with e1_ e2_
    subst e1_
    subst e2_
    exact bodyPost_ret (v := .tuple #[.agg #[.int .u64 0, .int .u64 0, .int .u64 0, .slice none 0 0, .slice none 0 0, .slice none 0 0, .slice none 0 0], .int .i64 2]) (by simp [results, Try.results54, go_sem, r0, r1, r2, r3, r4, r5, r6]) rfl ⟨firstP, rfl, Rows4.zero _ _, HB7.out⟩
   | true =>
    cases la with
    | false =>
     have BAD := Aside0.mk (show ¬ askE v e from fun h => by have h1 := LA.out; rw [h.1.2.1] at h1; cases h1)
     go_wp2_with (first | (refine st_arr rfl 26 _ _ rfl g3 26 ?hx #[.int .u64 0, .int .u64 0, .int .u64 0, .slice none 0 0, .slice none 0 0, .slice none 0 0, .slice none 0 0] ?hy _ XC3.out (by rw [size26]; rfl) rfl (by simp [Value.oneCell']) ?_; (case hx => rfl); (case hy => rfl); intro w7 hb7 hbb hk7 hs7; have HB7 := Aside0.mk (hbb _ _ HBx.out (show w.heap.size ≤ g3 by have := N2.out; have := N3.out; omega)); have X7 := Aside0.mk hb7; clear hb7 hbb hk7 hs7) | fail)
     have r0 : w7.cell? ⟨g3, 0, none⟩ = some (.int .u64 0) := (blk_cell X7.out 0).trans rfl
     have r1 : w7.cell? ⟨g3, 1, none⟩ = some (.int .u64 0) := (blk_cell X7.out 1).trans rfl
     have r2 : w7.cell? ⟨g3, 2, none⟩ = some (.int .u64 0) := (blk_cell X7.out 2).trans rfl
     have r3 : w7.cell? ⟨g3, 3, none⟩ = some (.slice none 0 0) := (blk_cell X7.out 3).trans rfl
     have r4 : w7.cell? ⟨g3, 4, none⟩ = some (.slice none 0 0) := (blk_cell X7.out 4).trans rfl
     have r5 : w7.cell? ⟨g3, 5, none⟩ = some (.slice none 0 0) := (blk_cell X7.out 5).trans rfl
     have r6 : w7.cell? ⟨g3, 6, none⟩ = some (.slice none 0 0) := (blk_cell X7.out 6).trans rfl
     have AV : applyV v e = (zeroV, 2) := by unfold applyV; exact if_neg BAD.out
     have AV2 : (u, r) = (zeroV, 2) := UR.out.symm.trans AV
     injection AV2 with e1_ e2_
     subst e1_
     subst e2_
     exact bodyPost_ret (v := .tuple #[.agg #[.int .u64 0, .int .u64 0, .int .u64 0, .slice none 0 0, .slice none 0 0, .slice none 0 0, .slice none 0 0], .int .i64 2]) (by simp [results, Try.results54, go_sem, r0, r1, r2, r3, r4, r5, r6]) rfl ⟨firstP, rfl, Rows4.zero _ _, HB7.out⟩
    | true =>
     cases lb with
     | false =>
      have BAD := Aside0.mk (show ¬ askE v e from fun h => by have h1 := LB.out; rw [h.1.2.2.1] at h1; cases h1)
      go_wp2_with (first | (refine st_arr rfl 26 _ _ rfl g3 26 ?hx #[.int .u64 0, .int .u64 0, .int .u64 0, .slice none 0 0, .slice none 0 0, .slice none 0 0, .slice none 0 0] ?hy _ XC3.out (by rw [size26]; rfl) rfl (by simp [Value.oneCell']) ?_; (case hx => rfl); (case hy => rfl); intro w7 hb7 hbb hk7 hs7; have HB7 := Aside0.mk (hbb _ _ HBx.out (show w.heap.size ≤ g3 by have := N2.out; have := N3.out; omega)); have X7 := Aside0.mk hb7; clear hb7 hbb hk7 hs7) | fail)
      have r0 : w7.cell? ⟨g3, 0, none⟩ = some (.int .u64 0) := (blk_cell X7.out 0).trans rfl
      have r1 : w7.cell? ⟨g3, 1, none⟩ = some (.int .u64 0) := (blk_cell X7.out 1).trans rfl
      have r2 : w7.cell? ⟨g3, 2, none⟩ = some (.int .u64 0) := (blk_cell X7.out 2).trans rfl
      have r3 : w7.cell? ⟨g3, 3, none⟩ = some (.slice none 0 0) := (blk_cell X7.out 3).trans rfl
      have r4 : w7.cell? ⟨g3, 4, none⟩ = some (.slice none 0 0) := (blk_cell X7.out 4).trans rfl
      have r5 : w7.cell? ⟨g3, 5, none⟩ = some (.slice none 0 0) := (blk_cell X7.out 5).trans rfl
      have r6 : w7.cell? ⟨g3, 6, none⟩ = some (.slice none 0 0) := (blk_cell X7.out 6).trans rfl
      have AV : applyV v e = (zeroV, 2) := by unfold applyV; exact if_neg BAD.out
      have AV2 : (u, r) = (zeroV, 2) := UR.out.symm.trans AV
      injection AV2 with e1_ e2_
      subst e1_
      subst e2_
      exact bodyPost_ret (v := .tuple #[.agg #[.int .u64 0, .int .u64 0, .int .u64 0, .slice none 0 0, .slice none 0 0, .slice none 0 0, .slice none 0 0], .int .i64 2]) (by simp [results, Try.results54, go_sem, r0, r1, r2, r3, r4, r5, r6]) rfl ⟨firstP, rfl, Rows4.zero _ _, HB7.out⟩
     | true =>
      cases lc with
      | false =>
       have BAD := Aside0.mk (show ¬ askE v e from fun h => by have h1 := LC.out; rw [h.1.2.2.2] at h1; cases h1)
       go_wp2_with (first | (refine st_arr rfl 26 _ _ rfl g3 26 ?hx #[.int .u64 0, .int .u64 0, .int .u64 0, .slice none 0 0, .slice none 0 0, .slice none 0 0, .slice none 0 0] ?hy _ XC3.out (by rw [size26]; rfl) rfl (by simp [Value.oneCell']) ?_; (case hx => rfl); (case hy => rfl); intro w7 hb7 hbb hk7 hs7; have HB7 := Aside0.mk (hbb _ _ HBx.out (show w.heap.size ≤ g3 by have := N2.out; have := N3.out; omega)); have X7 := Aside0.mk hb7; clear hb7 hbb hk7 hs7) | fail)
       have r0 : w7.cell? ⟨g3, 0, none⟩ = some (.int .u64 0) := (blk_cell X7.out 0).trans rfl
       have r1 : w7.cell? ⟨g3, 1, none⟩ = some (.int .u64 0) := (blk_cell X7.out 1).trans rfl
       have r2 : w7.cell? ⟨g3, 2, none⟩ = some (.int .u64 0) := (blk_cell X7.out 2).trans rfl
       have r3 : w7.cell? ⟨g3, 3, none⟩ = some (.slice none 0 0) := (blk_cell X7.out 3).trans rfl
       have r4 : w7.cell? ⟨g3, 4, none⟩ = some (.slice none 0 0) := (blk_cell X7.out 4).trans rfl
       have r5 : w7.cell? ⟨g3, 5, none⟩ = some (.slice none 0 0) := (blk_cell X7.out 5).trans rfl
       have r6 : w7.cell? ⟨g3, 6, none⟩ = some (.slice none 0 0) := (blk_cell X7.out 6).trans rfl
       have AV : applyV v e = (zeroV, 2) := by unfold applyV; exact if_neg BAD.out
       have AV2 : (u, r) = (zeroV, 2) := UR.out.symm.trans AV
       injection AV2 with e1_ e2_
       subst e1_
       subst e2_
       exact bodyPost_ret (v := .tuple #[.agg #[.int .u64 0, .int .u64 0, .int .u64 0, .slice none 0 0, .slice none 0 0, .slice none 0 0, .slice none 0 0], .int .i64 2]) (by simp [results, Try.results54, go_sem, r0, r1, r2, r3, r4, r5, r6]) rfl ⟨firstP, rfl, Rows4.zero _ _, HB7.out⟩
      | true =>
       have AK := Aside0.mk (show rightP v ∧ laterB v.log e.log = true ∧ laterB v.next e.next = true ∧ laterB v.seq e.seq = true from ⟨of_decide_eq_true RB.out.symm, LA.out.symm, LB.out.symm, LC.out.symm⟩)
       clear LA LB LC
       have e0 : wC.cell? ⟨g2, 0, none⟩ = some (.int .u64 e.log) := (blk_cell X2c.out 0).trans rfl
       have e1 : wC.cell? ⟨g2, 1, none⟩ = some (.int .u64 e.next) := (blk_cell X2c.out 1).trans rfl
       have e2 : wC.cell? ⟨g2, 2, none⟩ = some (.int .u64 e.seq) := (blk_cell X2c.out 2).trans rfl
       have e3 : wC.cell? ⟨g2, 3, none⟩ = some (.slice A1 e.gone.length c1) := (blk_cell X2c.out 3).trans rfl
       have e4 : wC.cell? ⟨g2, 4, none⟩ = some (.slice A2 e.added.length c2) := (blk_cell X2c.out 4).trans rfl
       go_wp2_with fail
       refine (listed_calls _ e A1 A2 c1 c2 (Kd.C_below H1.out HBx.out) (Kd.C_below H2.out HBx.out)).mono ?_
       rintro x w3 ⟨rfl, hb⟩
       have HB3 := Aside0.mk (below_step HBx.out hb)
       have X13 := Aside0.mk (blk_below XC1.out hb)
       have X23 := Aside0.mk (blk_below X2c.out hb)
       have X33 := Aside0.mk (blk_below XC3.out hb)
       have RK3 := Aside0.mk (RC_.out.below hb)
       clear hb e0 e1 e2 e3 e4 XC1 X2c XC3 RC_ HBx HC_
       by_cases hl : listedP e
       ·rw [if_pos hl]
        have LP := Aside0.mk hl
        have GV := Aside0.mk (show goneV (bndV v e) (e.gone.drop 0) e.added = (u, r) by
         rw [← UR.out]; unfold applyV; rw [if_pos ⟨AK.out, LP.out⟩]; rfl)
        have OK0 := Aside0.mk (okS_bnd e AK.out.1 HW.out HLN.out)
        have R40 := Aside0.mk (Rows4.bnd e (RowsK.all RK3.out))
        have X1g := Aside0.mk (show w3.heap[w.heap.size]? = some (.cells (vCs (bndV v e) q) 26 (0, 0)) from X13.out)
        clear hl X13 RK3
        generalize bndV v e = y0 at *
        have e3 : w3.cell? ⟨g2, 3, none⟩ = some (.slice A1 e.gone.length c1) := (blk_cell X23.out 3).trans rfl
        have e4 : w3.cell? ⟨g2, 4, none⟩ = some (.slice A2 e.added.length c2) := (blk_cell X23.out 4).trans rfl
        go_wp2_with fail
        clear e3 e4
        go_loopg [12, 13, 72] e.gone.length (fun kq v12 v13 v72 w' => ∃ (k : Nat) (y : Ver) (q : Pl), v72 = .int .i64 (k : Int) ∧ Aside0 (kq + k = e.gone.length) ∧ Aside0 (Below w.heap.size w w') ∧ Aside0 (w'.heap[w.heap.size]? = some (.cells (vCs y q) 26 (0, 0))) ∧ Aside0 (w'.heap[g2]? = some (.cells (eCs e A1 c1 A2 c2) 70 (0, 0))) ∧ Aside0 (w'.heap[g3]? = some (.cells #[.int .u64 0, .int .u64 0, .int .u64 0, .slice none 0 0, .slice none 0 0, .slice none 0 0, .slice none 0 0] 26 (0, 0))) ∧ Aside0 (Rows4 w' w.heap.size y q) ∧ Aside0 (goneV y (e.gone.drop k) e.added = (u, r)) ∧ Aside0 (okS y 100000))
        case atStart => exact ⟨0, y0, q, rfl, ⟨rfl⟩, HB3, X1g, X23, X33, R40, GV, OK0⟩
        case round =>
         clear HB3 X1g X23 X33 R40 GV OK0
         obtain ⟨k, y, q, rfl, HK, HB, X1, X2, X3, R4, GV, OKS⟩ := hrel
         cases gk with
         | zero =>
          have ek : k = e.gone.length := by have := HK.out; omega
          have CV := Aside0.mk (show comeV y e.added = (u, r) by have h := GV.out; rw [ek, List.drop_length] at h; exact h)
          have d4 : decide ((k : Int) < (e.gone.length : Int)) = false := decide_eq_false (by omega)
          have d5 : decide (k < e.gone.length) = false := decide_eq_false (by omega)
          clear ek GV
          have hmm := @run_makeMap Try.prog
          have GM := Aside0.mk HB.out.size
          have NG1 := Aside0.mk (show some w.heap.size ≠ some wr.heap.size from fun e => by injection e with e; have := blk_lt X1.out; omega)
          have NG2 := Aside0.mk (show some g2 ≠ some wr.heap.size from fun e => by injection e with e; have := blk_lt X2.out; omega)
          have NG3 := Aside0.mk (show some g3 ≠ some wr.heap.size from fun e => by injection e with e; have := blk_lt X3.out; omega)
          have HBm := Aside0.mk (below_alloc HB.out (.map #[] 0))
          have X1m := Aside0.mk (blk_alloc X1.out (.map #[] 0))
          have X2m := Aside0.mk (blk_alloc X2.out (.map #[] 0))
          have X3m := Aside0.mk (blk_alloc X3.out (.map #[] 0))
          have R4m := Aside0.mk (R4.out.below ((Below.refl wr.heap.size wr).alloc (Nat.le_refl _) (.map #[] 0)))
          have CM := Aside0.mk (show Cnt (wr.alloc (.map #[] 0)) wr.heap.size (catV y 0).length (cntF (catV y 0)) from Cnt.made wr)
          clear HB X1 X2 X3 R4
          have HB := HBm; have X1 := X1m; have X2 := X2m; have X3 := X3m; have R4 := R4m
          clear HBm X1m X2m X3m R4m
          have b3 : (wr.alloc (.map #[] 0)).cell? ⟨w.heap.size, 3, none⟩ = some (.slice q.a0 y.l0.length q.c0) := (blk_cell X1.out 3).trans rfl
          have b4 : (wr.alloc (.map #[] 0)).cell? ⟨w.heap.size, 4, none⟩ = some (.slice q.a1 y.l1.length q.c1) := (blk_cell X1.out 4).trans rfl
          have b5 : (wr.alloc (.map #[] 0)).cell? ⟨w.heap.size, 5, none⟩ = some (.slice q.a2 y.l2.length q.c2) := (blk_cell X1.out 5).trans rfl
          have b6 : (wr.alloc (.map #[] 0)).cell? ⟨w.heap.size, 6, none⟩ = some (.slice q.a3 y.l3.length q.c3) := (blk_cell X1.out 6).trans rfl
          go_wp2_with fail
          generalize wr.alloc (.map #[] 0) = w5 at *
          generalize wr.heap.size = gm at *
          clear b3 b4 b5 b6
          go_loopg [16, 18, 103] 4 (fun kq v16 v18 v103 w' => ∃ i : Nat, v103 = .int .i64 (i : Int) ∧ Aside0 (kq + i = 4) ∧ Aside0 (Below w.heap.size w w') ∧ Aside0 (w'.heap[w.heap.size]? = some (.cells (vCs y q) 26 (0, 0))) ∧ Aside0 (w'.heap[g2]? = some (.cells (eCs e A1 c1 A2 c2) 70 (0, 0))) ∧ Aside0 (w'.heap[g3]? = some (.cells #[.int .u64 0, .int .u64 0, .int .u64 0, .slice none 0 0, .slice none 0 0, .slice none 0 0, .slice none 0 0] 26 (0, 0))) ∧ Aside0 (Rows4 w' w.heap.size y q) ∧ Aside0 (Cnt w' gm (catV y i).length (cntF (catV y i))))
          case atStart => exact ⟨0, rfl, ⟨by omega⟩, HB, X1, X2, X3, R4, CM⟩
          case round =>
           clear HB X1 X2 X3 R4 CM
           obtain ⟨i, rfl, HK3, HB, X1, X2, X3, R4, CM⟩ := hrel
           cases gk with
           | zero =>
            have ei : i = 4 := by have := HK3.out; omega
            subst ei
            have e4 : wr.cell? ⟨g2, 4, none⟩ = some (.slice A2 e.added.length c2) := (blk_cell X2.out 4).trans rfl
            go_wp2_with fail
            clear e4
            have CV0 := Aside0.mk (show comeV y (e.added.drop 0) = (u, r) from CV.out)
            have OK5 := Aside0.mk (show okS y (100000 + 0) from OKS.out)
            have CN := Aside0.mk (show (catV y 4).length ≤ 400000 + 0 by have h1 := catV_le (v := y) (i := 4) (n := 100000) (fun j hj => OKS.out.2.2 j hj); omega)
            clear CV OKS
            go_loopg [20, 21, 22, 122] e.added.length (fun kq v20 v21 v22 v122 w' => ∃ (k n : Nat) (y : Ver) (q : Pl), v122 = .int .i64 (k : Int) ∧ Aside0 (kq + k = e.added.length) ∧ Aside0 (Below w.heap.size w w') ∧ Aside0 (w'.heap[w.heap.size]? = some (.cells (vCs y q) 26 (0, 0))) ∧ Aside0 (w'.heap[g2]? = some (.cells (eCs e A1 c1 A2 c2) 70 (0, 0))) ∧ Aside0 (w'.heap[g3]? = some (.cells #[.int .u64 0, .int .u64 0, .int .u64 0, .slice none 0 0, .slice none 0 0, .slice none 0 0, .slice none 0 0] 26 (0, 0))) ∧ Aside0 (Rows4 w' w.heap.size y q) ∧ Aside0 (comeV y (e.added.drop k) = (u, r)) ∧ Aside0 (okS y (100000 + k)) ∧ Aside0 (Cnt w' gm n (cntF (catV y 4))) ∧ Aside0 (n ≤ 400000 + k))
            case atStart => exact ⟨0, (catV y 4).length, y, q, rfl, ⟨by omega⟩, HB, X1, X2, X3, R4, CV0, OK5, CM, CN⟩
            case round =>
             clear HB X1 X2 X3 R4 CV0 OK5 CM CN
             obtain ⟨k, n, y, q, rfl, HK5, HB, X1, X2, X3, R4, CV, OKS, CM, CN⟩ := hrel
             cases gk with
             | zero =>
              have ek : k = e.added.length := by have := HK5.out; omega
              have LV := Aside0.mk (show lastV y = (u, r) by have h := CV.out; rw [ek, List.drop_length] at h; exact h)
              have d6 : decide ((k : Int) < (e.added.length : Int)) = false := decide_eq_false (by omega)
              have d7 : decide (k < e.added.length) = false := decide_eq_false (by omega)
              clear ek CV
              have b0 : wr.cell? ⟨w.heap.size, 0, none⟩ = some (.int .u64 y.log) := (blk_cell X1.out 0).trans rfl
              have b1 : wr.cell? ⟨w.heap.size, 1, none⟩ = some (.int .u64 y.next) := (blk_cell X1.out 1).trans rfl
              have b2 : wr.cell? ⟨w.heap.size, 2, none⟩ = some (.int .u64 y.seq) := (blk_cell X1.out 2).trans rfl
              have b3 : wr.cell? ⟨w.heap.size, 3, none⟩ = some (.slice q.a0 y.l0.length q.c0) := (blk_cell X1.out 3).trans rfl
              have b4 : wr.cell? ⟨w.heap.size, 4, none⟩ = some (.slice q.a1 y.l1.length q.c1) := (blk_cell X1.out 4).trans rfl
              have b5 : wr.cell? ⟨w.heap.size, 5, none⟩ = some (.slice q.a2 y.l2.length q.c2) := (blk_cell X1.out 5).trans rfl
              have b6 : wr.cell? ⟨w.heap.size, 6, none⟩ = some (.slice q.a3 y.l3.length q.c3) := (blk_cell X1.out 6).trans rfl
              go_wp2_with fail
              refine (right_calls _ y q R4.out.vc OKS.out.2.1).mono ?_
              rintro x w6 ⟨rfl, hb⟩
              have HB6 := Aside0.mk (below_step HB.out hb)
              have X16 := Aside0.mk (blk_below X1.out hb)
              have X36 := Aside0.mk (blk_below X3.out hb)
              have R46 := Aside0.mk (R4.out.below hb)
              clear hb b0 b1 b2 b3 b4 b5 b6
              by_cases hr : rightP y
              ·rw [decide_eq_true hr]
               have AV2 : (u, r) = (y, 0) := LV.out.symm.trans (if_pos hr)
               injection AV2 with e1_ e2_
               have E1 := Aside0.mk e1_
               have E2 := Aside0.mk e2_
               clear hr e1_ e2_
               have b0 : w6.cell? ⟨w.heap.size, 0, none⟩ = some (.int .u64 y.log) := (blk_cell X16.out 0).trans rfl
               have b1 : w6.cell? ⟨w.heap.size, 1, none⟩ = some (.int .u64 y.next) := (blk_cell X16.out 1).trans rfl
               have b2 : w6.cell? ⟨w.heap.size, 2, none⟩ = some (.int .u64 y.seq) := (blk_cell X16.out 2).trans rfl
               have b3 : w6.cell? ⟨w.heap.size, 3, none⟩ = some (.slice q.a0 y.l0.length q.c0) := (blk_cell X16.out 3).trans rfl
               have b4 : w6.cell? ⟨w.heap.size, 4, none⟩ = some (.slice q.a1 y.l1.length q.c1) := (blk_cell X16.out 4).trans rfl
               have b5 : w6.cell? ⟨w.heap.size, 5, none⟩ = some (.slice q.a2 y.l2.length q.c2) := (blk_cell X16.out 5).trans rfl
               have b6 : w6.cell? ⟨w.heap.size, 6, none⟩ = some (.slice q.a3 y.l3.length q.c3) := (blk_cell X16.out 6).trans rfl
               go_wp2_with (first | (refine st_arr rfl 26 _ _ rfl g3 26 ?hx (vCs y q) ?hy _ X36.out (by rw [size26]; rfl) rfl (by simp [Value.oneCell']) ?_; (case hx => rfl); (case hy => rfl); intro w7 hb7 hbb hk7 hs7; have HB7 := Aside0.mk (hbb _ _ HB6.out (show w.heap.size ≤ g3 by have := N2.out; have := N3.out; omega)); have X7 := Aside0.mk hb7; have R47 := Aside0.mk (RowsK.all (RowsK.other (n := 4) R46.out X36.out (by decide) hk7)); clear hb7 hbb hk7 hs7) | fail)
               have r0 : w7.cell? ⟨g3, 0, none⟩ = some (.int .u64 y.log) := (blk_cell X7.out 0).trans rfl
               have r1 : w7.cell? ⟨g3, 1, none⟩ = some (.int .u64 y.next) := (blk_cell X7.out 1).trans rfl
               have r2 : w7.cell? ⟨g3, 2, none⟩ = some (.int .u64 y.seq) := (blk_cell X7.out 2).trans rfl
               have r3 : w7.cell? ⟨g3, 3, none⟩ = some (.slice q.a0 y.l0.length q.c0) := (blk_cell X7.out 3).trans rfl
               have r4 : w7.cell? ⟨g3, 4, none⟩ = some (.slice q.a1 y.l1.length q.c1) := (blk_cell X7.out 4).trans rfl
               have r5 : w7.cell? ⟨g3, 5, none⟩ = some (.slice q.a2 y.l2.length q.c2) := (blk_cell X7.out 5).trans rfl
               have r6 : w7.cell? ⟨g3, 6, none⟩ = some (.slice q.a3 y.l3.length q.c3) := (blk_cell X7.out 6).trans rfl
               have e1_ := E1.out
               have e2_ := E2.out
               subst e1_
               subst e2_
               exact bodyPost_ret (v := .tuple #[.agg (vCs u q), .int .i64 0]) (by simp [results, Try.results54, go_sem, r0, r1, r2, r3, r4, r5, r6]) rfl ⟨q, rfl, R47.out, HB7.out⟩
              ·rw [decide_eq_false hr]
               have NR := Aside0.mk hr
               clear hr
               have AV2 : (u, r) = (zeroV, 11) := LV.out.symm.trans (if_neg NR.out)
               injection AV2 with e1_ e2_
               have E1 := Aside0.mk e1_
               have E2 := Aside0.mk e2_
               clear e1_ e2_
               go_wp2_with (first | (refine st_arr rfl 26 _ _ rfl g3 26 ?hx #[.int .u64 0, .int .u64 0, .int .u64 0, .slice none 0 0, .slice none 0 0, .slice none 0 0, .slice none 0 0] ?hy _ X36.out (by rw [size26]; rfl) rfl (by simp [Value.oneCell']) ?_; (case hx => rfl); (case hy => rfl); intro w7 hb7 hbb hk7 hs7; have HB7 := Aside0.mk (hbb _ _ HB6.out (show w.heap.size ≤ g3 by have := N2.out; have := N3.out; omega)); have X7 := Aside0.mk hb7; clear hb7 hbb hk7 hs7) | fail)
               have r0 : w7.cell? ⟨g3, 0, none⟩ = some (.int .u64 0) := (blk_cell X7.out 0).trans rfl
               have r1 : w7.cell? ⟨g3, 1, none⟩ = some (.int .u64 0) := (blk_cell X7.out 1).trans rfl
               have r2 : w7.cell? ⟨g3, 2, none⟩ = some (.int .u64 0) := (blk_cell X7.out 2).trans rfl
               have r3 : w7.cell? ⟨g3, 3, none⟩ = some (.slice none 0 0) := (blk_cell X7.out 3).trans rfl
               have r4 : w7.cell? ⟨g3, 4, none⟩ = some (.slice none 0 0) := (blk_cell X7.out 4).trans rfl
               have r5 : w7.cell? ⟨g3, 5, none⟩ = some (.slice none 0 0) := (blk_cell X7.out 5).trans rfl
               have r6 : w7.cell? ⟨g3, 6, none⟩ = some (.slice none 0 0) := (blk_cell X7.out 6).trans rfl
               have e1_ := E1.out
               have e2_ := E2.out
               subst e1_
               subst e2_
               exact bodyPost_ret (v := .tuple #[.agg #[.int .u64 0, .int .u64 0, .int .u64 0, .slice none 0 0, .slice none 0 0, .slice none 0 0, .slice none 0 0], .int .i64 11]) (by simp [results, Try.results54, go_sem, r0, r1, r2, r3, r4, r5, r6]) rfl ⟨firstP, rfl, Rows4.zero _ _, HB7.out⟩
             | succ z5 =>
              have KL := Aside0.mk (show k < e.added.length by have := HK5.out; omega)
              have d4 : decide ((k : Int) < (e.added.length : Int)) = true := decide_eq_true (by have := HK5.out; omega)
              have d5 : decide (k < e.added.length) = true := decide_eq_true (by have := HK5.out; omega)
              have p0 : 0 ≤ (k : Int) := Int.natCast_nonneg _
              have p1 : (k : Int) < (e.added.length : Int) := by have := HK5.out; omega
              obtain ⟨ad, ea, ha0, ha1, ha2, ha3, ha4, ha5, ha6, ha7⟩ := at_T82 (Kd.C_below H2.out HB.out) (k : Int) p0 p1
              have hmx := getD_mem e.added z82 (k := k) (by have := HK5.out; omega)
              have EM := Aside0.mk (show rd_T82 e.added (k : Int) = e.added.getD k z82 by unfold rd_T82; rw [Int.toNat_natCast])
              rw [← EM.out] at hmx
              generalize rd_T82 e.added (k : Int) = x at *
              have hlx := LP.out.2 x hmx
              obtain ⟨lv, hlv⟩ : ∃ lv : Nat, x.f0 = (lv : Int) := ⟨x.f0.toNat, by have := hlx.1.1; omega⟩
              have HLV := Aside0.mk (show lv < 4 by have := hlx.1.2; omega)
              have l0_ : 0 ≤ (lv : Int) := Int.natCast_nonneg _
              have l1_ : (lv : Int) < 4 := by have := HLV.out; omega
              obtain ⟨f0, m⟩ := x
              dsimp only at hlv ha0 ha1 ha2 ha3 ha4 ha5 ha6 ha7
              have MP := Aside0.mk (show mayP m from hlx.2)
              have MW := Aside0.mk (show 0 ≤ m.f0 ∧ m.f0 ≤ 18446744073709551615 from ⟨by have := MP.out.1; omega, by have := MP.out.2.1; omega⟩)
              subst hlv
              rw [ea]
              have HAX := Aside0.mk ea
              rw [Int.toNat_natCast] at ha0 ha1 ha2 ha3 ha4 ha5 ha6 ha7
              clear hmx hlx ea
              go_upto_region 31 with (fail)
              have hb1 := Aside0.mk ((Below.refl wr.heap.size wr).alloc (Nat.le_refl _) (.cells #[.int .i64 (lv : Int), .int .u64 m.f0, .int .i64 m.f1, .int .i64 m.f2, .string m.f3, .string m.f4, .int .u64 m.f5, .int .u64 m.f6] 82))
              have HB1 := Aside0.mk (below_step HB.out hb1.out)
              have CM1 := Aside0.mk (CM.out.below hb1.out)
              have BM := Aside0.mk (blk_new wr (.cells #[.int .i64 (lv : Int), .int .u64 m.f0, .int .i64 m.f1, .int .i64 m.f2, .string m.f3, .string m.f4, .int .u64 m.f5, .int .u64 m.f6] 82))
              have X11 := Aside0.mk (blk_below X1.out hb1.out)
              have X21 := Aside0.mk (blk_below X2.out hb1.out)
              have X31 := Aside0.mk (blk_below X3.out hb1.out)
              have R41 := Aside0.mk (R4.out.below hb1.out)
              have NM := Aside0.mk (show some wr.heap.size ≠ some gm from fun e => by injection e with e; have := CM.out.lt; omega)
              have hlk := CM1.out.look (k := m.f0) (wf_u64 MW.out.1 MW.out.2)
              have c0 := (cntF_le (catV y 4) m.f0).1
              have c1 : cntF (catV y 4) m.f0 ≤ 1 := by have h1 := OKS.out.1 m.f0; unfold cntV at h1; unfold cntF; omega
              have CVE := Aside0.mk (show cntF (catV y 4) m.f0 = (cntV y m.f0 : Int) from rfl)
              obtain ⟨cc, hcc⟩ : ∃ c, cntF (catV y 4) m.f0 = c := ⟨_, rfl⟩
              have CCE := Aside0.mk hcc
              rw [hcc] at hlk c0 c1
              obtain ⟨G, hG⟩ : ∃ G : Int → Int, (fun j : Int => if j = m.f0 then cc + 1 else cntF (catV y 4) j) = G := ⟨_, rfl⟩
              have CE := Aside0.mk hG
              have G0 := Aside0.mk (show G m.f0 = cc + 1 by rw [← hG]; exact if_pos rfl)
              have LN := Aside0.mk (show n ≤ 500000 by have h1 := CN.out; have h2 := HLA.out; have h3 := KL.out; omega)
              have ew1 : wrap64 (cc + 1) = cc + 1 := by unfold wrap64; omega
              have ew2 : IntKind.i64.wrap (cc + 1) = cc + 1 := by rw [IntKind.wrap_i64]; omega
              obtain ⟨l, hl⟩ : ∃ l, l = y.lv lv := ⟨_, rfl⟩
              have LE := Aside0.mk hl
              have LL := Aside0.mk (show l.length ≤ 1000000000 by rw [hl]; have h1 := OKS.out.2.2 lv HLV.out; have h2 := HLA.out; have h3 := KL.out; omega)
              have SV := Aside0.mk (show slV y q lv = .slice (q.a lv) l.length (q.c lv) by unfold slV; rw [hl])
              clear hcc hG hl hb1 HB X1 X2 X3 R4 CM ha0 ha1 ha2 ha3 ha4 ha5 ha6 ha7
              generalize wr.heap.size = gt at *
              generalize wr.alloc (.cells #[.int .i64 (lv : Int), .int .u64 m.f0, .int .i64 m.f1, .int .i64 m.f2, .string m.f3, .string m.f4, .int .u64 m.f5, .int .u64 m.f6] 82) = w1 at *
              have y0 : w1.cell? ⟨gt, 0, none⟩ = some (.int .i64 (lv : Int)) := (blk_cell BM.out 0).trans rfl
              have y1 : w1.cell? ⟨gt, 1, none⟩ = some (.int .u64 m.f0) := (blk_cell BM.out 1).trans rfl
              by_cases hin : 1 ≤ cc
              ·have t3 : decide (1 < cc + 1) = true := decide_eq_true (by omega)
               have t4 : decide (0 < cc) = true := decide_eq_true (by omega)
               have CP := Aside0.mk (show 0 < cntV y m.f0 by have h1 := CVE.out; have h2 := CCE.out; omega)
               clear hin
               have AV2 : (u, r) = (zeroV, 5) := CV.out.symm.trans (come_no KL.out EM.out.symm CP.out)
               injection AV2 with e1_ e2_
               have E1 := Aside0.mk e1_
               have E2 := Aside0.mk e2_
               clear e1_ e2_
               go_wp2_with (first | (at_mapUpdate; refine cnt_put _ rfl _ _ _ rfl rfl CM1.out (by have := LN.out; unfold maxLen; omega) m.f0 (cc + 1) rfl rfl (wf_u64 MW.out.1 MW.out.2) (by omega) (by omega) ?_; intro w2 ho hg; rw [CE.out] at ho; have HB2 := Aside0.mk (pw_below_grown HB1.out (some gm) HB1.out.size hg (fun k hk => by cases hk; exact GM.out)); have X12 := Aside0.mk (blk_grown X11.out hg NG1.out); have X22 := Aside0.mk (blk_grown X21.out hg NG2.out); have X32 := Aside0.mk (blk_grown X31.out hg NG3.out); have BM2 := Aside0.mk (blk_grown BM.out hg NM.out); have R42 := Aside0.mk (R41.out.grown CM1.out hg); have CM2 := Aside0.mk ho; clear hg ho hlk CM1 HB1 R41 X11 X21 X31 BM y0 y1; have y0 : w2.cell? ⟨gt, 0, none⟩ = some (.int .i64 (lv : Int)) := (blk_cell BM2.out 0).trans rfl; have y1 : w2.cell? ⟨gt, 1, none⟩ = some (.int .u64 m.f0) := (blk_cell BM2.out 1).trans rfl; have y2 : w2.cell? ⟨gt, 2, none⟩ = some (.int .i64 m.f1) := (blk_cell BM2.out 2).trans rfl; have y3 : w2.cell? ⟨gt, 3, none⟩ = some (.int .i64 m.f2) := (blk_cell BM2.out 3).trans rfl; have y4 : w2.cell? ⟨gt, 4, none⟩ = some (.string m.f3) := (blk_cell BM2.out 4).trans rfl; have y5 : w2.cell? ⟨gt, 5, none⟩ = some (.string m.f4) := (blk_cell BM2.out 5).trans rfl; have y6 : w2.cell? ⟨gt, 6, none⟩ = some (.int .u64 m.f5) := (blk_cell BM2.out 6).trans rfl; have y7 : w2.cell? ⟨gt, 7, none⟩ = some (.int .u64 m.f6) := (blk_cell BM2.out 7).trans rfl; have hlk2 : (Instr.lookup 124 (.map (some gm)) (.int .u64 m.f0) false).run Try.prog w2 = .ok (.int .i64 (cc + 1)) w2 := (by have h1 := CM2.out.look (k := m.f0) (wf_u64 MW.out.1 MW.out.2); rw [G0.out] at h1; exact h1); have hv := vcell X12.out lv HLV.out; rw [← LE.out] at hv) | (refine st_arr rfl 26 _ _ rfl g3 26 ?hx #[.int .u64 0, .int .u64 0, .int .u64 0, .slice none 0 0, .slice none 0 0, .slice none 0 0, .slice none 0 0] ?hy _ X32.out (by rw [size26]; rfl) rfl (by simp [Value.oneCell']) ?_; (case hx => rfl); (case hy => rfl); intro w7 hb7 hbb hk7 hs7; have HB7 := Aside0.mk (hbb _ _ HB2.out (show w.heap.size ≤ g3 by have := N2.out; have := N3.out; omega)); have X7 := Aside0.mk hb7; clear hb7 hbb hk7 hs7) | fail)
               have r0 : w7.cell? ⟨g3, 0, none⟩ = some (.int .u64 0) := (blk_cell X7.out 0).trans rfl
               have r1 : w7.cell? ⟨g3, 1, none⟩ = some (.int .u64 0) := (blk_cell X7.out 1).trans rfl
               have r2 : w7.cell? ⟨g3, 2, none⟩ = some (.int .u64 0) := (blk_cell X7.out 2).trans rfl
               have r3 : w7.cell? ⟨g3, 3, none⟩ = some (.slice none 0 0) := (blk_cell X7.out 3).trans rfl
               have r4 : w7.cell? ⟨g3, 4, none⟩ = some (.slice none 0 0) := (blk_cell X7.out 4).trans rfl
               have r5 : w7.cell? ⟨g3, 5, none⟩ = some (.slice none 0 0) := (blk_cell X7.out 5).trans rfl
               have r6 : w7.cell? ⟨g3, 6, none⟩ = some (.slice none 0 0) := (blk_cell X7.out 6).trans rfl
               have e1_ := E1.out
               have e2_ := E2.out
               subst e1_
               subst e2_
               exact bodyPost_ret (v := .tuple #[.agg #[.int .u64 0, .int .u64 0, .int .u64 0, .slice none 0 0, .slice none 0 0, .slice none 0 0, .slice none 0 0], .int .i64 5]) (by simp [results, Try.results54, go_sem, r0, r1, r2, r3, r4, r5, r6]) rfl ⟨firstP, rfl, Rows4.zero _ _, HB7.out⟩
              ·have t3 : decide (1 < cc + 1) = false := decide_eq_false (by omega)
               have t4 : decide (0 < cc) = false := decide_eq_false (by omega)
               have CZ := Aside0.mk (show cntV y m.f0 = 0 by have h1 := CVE.out; have h2 := CCE.out; omega)
               clear hin
               go_wp2_with (first | (at_mapUpdate; refine cnt_put _ rfl _ _ _ rfl rfl CM1.out (by have := LN.out; unfold maxLen; omega) m.f0 (cc + 1) rfl rfl (wf_u64 MW.out.1 MW.out.2) (by omega) (by omega) ?_; intro w2 ho hg; rw [CE.out] at ho; have HB2 := Aside0.mk (pw_below_grown HB1.out (some gm) HB1.out.size hg (fun k hk => by cases hk; exact GM.out)); have X12 := Aside0.mk (blk_grown X11.out hg NG1.out); have X22 := Aside0.mk (blk_grown X21.out hg NG2.out); have X32 := Aside0.mk (blk_grown X31.out hg NG3.out); have BM2 := Aside0.mk (blk_grown BM.out hg NM.out); have R42 := Aside0.mk (R41.out.grown CM1.out hg); have CM2 := Aside0.mk ho; clear hg ho hlk CM1 HB1 R41 X11 X21 X31 BM y0 y1; have y0 : w2.cell? ⟨gt, 0, none⟩ = some (.int .i64 (lv : Int)) := (blk_cell BM2.out 0).trans rfl; have y1 : w2.cell? ⟨gt, 1, none⟩ = some (.int .u64 m.f0) := (blk_cell BM2.out 1).trans rfl; have y2 : w2.cell? ⟨gt, 2, none⟩ = some (.int .i64 m.f1) := (blk_cell BM2.out 2).trans rfl; have y3 : w2.cell? ⟨gt, 3, none⟩ = some (.int .i64 m.f2) := (blk_cell BM2.out 3).trans rfl; have y4 : w2.cell? ⟨gt, 4, none⟩ = some (.string m.f3) := (blk_cell BM2.out 4).trans rfl; have y5 : w2.cell? ⟨gt, 5, none⟩ = some (.string m.f4) := (blk_cell BM2.out 5).trans rfl; have y6 : w2.cell? ⟨gt, 6, none⟩ = some (.int .u64 m.f5) := (blk_cell BM2.out 6).trans rfl; have y7 : w2.cell? ⟨gt, 7, none⟩ = some (.int .u64 m.f6) := (blk_cell BM2.out 7).trans rfl; have hlk2 : (Instr.lookup 124 (.map (some gm)) (.int .u64 m.f0) false).run Try.prog w2 = .ok (.int .i64 (cc + 1)) w2 := (by have h1 := CM2.out.look (k := m.f0) (wf_u64 MW.out.1 MW.out.2); rw [G0.out] at h1; exact h1); have hv := vcell X12.out lv HLV.out; rw [← LE.out] at hv) | fail)
               have CL := Aside0.mk (show k58.C w2 (q.a lv) l.length l by rw [LE.out]; exact (R42.out.vc lv HLV.out).1)
               clear y0 y1 y2 y3 y4 y5 y6 y7 hlk2 hv t3 t4 ew1 ew2 c0 c1
               go_loopg [22] l.length (fun kq v22 w' => ∃ k5 : Nat, v22 = .int .i64 (k5 : Int) ∧ Aside0 (kq + k5 = l.length) ∧ Aside0 (Below w2.heap.size w2 w') ∧ Aside0 (∀ j, j < k5 → befP (lv : Int) m (l.getD j z58)))
               case atStart => exact ⟨0, rfl, ⟨by omega⟩, ⟨Below.refl _ _⟩, ⟨fun j hj => by omega⟩⟩
               case round =>
                obtain ⟨k5, rfl, HK6, HBW, HJ⟩ := hrel
                have BM3 := Aside0.mk (blk_below BM2.out HBW.out)
                have y0 : wr.cell? ⟨gt, 0, none⟩ = some (.int .i64 (lv : Int)) := (blk_cell BM3.out 0).trans rfl
                have y1 : wr.cell? ⟨gt, 1, none⟩ = some (.int .u64 m.f0) := (blk_cell BM3.out 1).trans rfl
                have y2 : wr.cell? ⟨gt, 2, none⟩ = some (.int .i64 m.f1) := (blk_cell BM3.out 2).trans rfl
                have y3 : wr.cell? ⟨gt, 3, none⟩ = some (.int .i64 m.f2) := (blk_cell BM3.out 3).trans rfl
                have y4 : wr.cell? ⟨gt, 4, none⟩ = some (.string m.f3) := (blk_cell BM3.out 4).trans rfl
                have y5 : wr.cell? ⟨gt, 5, none⟩ = some (.string m.f4) := (blk_cell BM3.out 5).trans rfl
                have y6 : wr.cell? ⟨gt, 6, none⟩ = some (.int .u64 m.f5) := (blk_cell BM3.out 6).trans rfl
                have y7 : wr.cell? ⟨gt, 7, none⟩ = some (.int .u64 m.f6) := (blk_cell BM3.out 7).trans rfl
                have KLE := Aside0.mk (show k5 ≤ l.length by have := HK6.out; omega)
                cases gk with
                | zero =>
                 have ek : k5 = l.length := by have := HK6.out; omega
                 have d0 : decide ((k5 : Int) < (l.length : Int)) = false := decide_eq_false (by omega)
                 have d1 : decide (k5 < l.length) = false := decide_eq_false (by omega)
                 have PL := Aside0.mk (plc_at (lv := (lv : Int)) (m := m) KLE.out HJ.out (.inl ek))
                 clear ek
                 go_wp2_with fail
                 go_quiet (fail)
                 have HB8 := Aside0.mk (pw_below_drewN (below_step HB2.out HBW.out) nq)
                 have X18 := Aside0.mk (blk_below X12.out (pw_below_drewN HBW.out nq))
                 have X28 := Aside0.mk (blk_below X22.out (pw_below_drewN HBW.out nq))
                 have X38 := Aside0.mk (blk_below X32.out (pw_below_drewN HBW.out nq))
                 have BM8 := Aside0.mk (blk_below BM2.out (pw_below_drewN HBW.out nq))
                 have R48 := Aside0.mk (R42.out.below (pw_below_drewN HBW.out nq))
                 have CM8 := Aside0.mk (CM2.out.below (pw_below_drewN HBW.out nq))
                 clear HBW HJ y0 y1 y2 y3 y4 y5 y6 y7 BM3
                 go_upto_region 38 with (fail)
                 generalize wr.drewN nq = w8 at *
                 refine start_ (n := 11) (S := (fun w' => w'.heap[w.heap.size]? = some (.cells (vCs y q) 26 (0, 0)) ∧ w'.heap[gt]? = some (.cells #[.int .i64 (lv : Int), .int .u64 m.f0, .int .i64 m.f1, .int .i64 m.f2, .string m.f3, .string m.f4, .int .u64 m.f5, .int .u64 m.f6] 82 (0, 0)))) (ds := [10]) #[false, false, false, false, false, false, false, false, false, false, false] (by kernel_rfl) rfl rfl ⟨blk_drew X18.out, blk_drew BM8.out⟩ (fun hHeld => ?_)
                 have X2d := Aside0.mk (blk_drew X28.out)
                 have X3d := Aside0.mk (blk_drew X38.out)
                 have HBd := Aside0.mk (below_drew HB8.out)
                 have R4d := Aside0.mk (R48.out.below (below_drew (Below.refl _ _)))
                 have CMd := Aside0.mk (CM8.out.below (below_drew (Below.refl _ _)))
                 clear X28 X38 HB8 R48 CM8 X18 BM8
                 generalize w8.drew = wd at *
                 have RLd := Aside0.mk (show Kd.R k58 58 wd w.heap.size (fun _ => True) (.slice (q.a lv) l.length (q.c lv)) l by rw [LE.out]; exact R4d.out.1 lv HLV.out)
                 refine pure_ (i := 0) (N := (some 182)) (v := ?_) (a' := ?_) #[true, false, false, false, false, false, false, false, false, false, false] rfl rfl (by kernel_rfl) (fun _ _ _ h => h) (Or.inl ⟨by rfl, ?_⟩) ?_ ?_
                 rotate_left
                 ·intro w'
                  go_simp
                  with_reducible rfl
                 rotate_left
                 ·simp only [Act.put, List.setIfInBounds_toArray, List.set_cons_zero, List.set_cons_succ, i64_w, i32_w]
                  rfl
                 refine take_ (i := 1) (N := (some 183)) (v := ?_) (a' := ?_) #[true, true, false, false, false, false, false, false, false, false, false] rfl rfl (by kernel_rfl) (fun _ _ _ h => h) (Or.inl ⟨by rfl, ?_⟩) hHeld ?_ ?_
                 rotate_left
                 ·rintro w' ⟨s0, s1⟩
                  have z0_ : w'.cell? ⟨gt, 0, none⟩ = some (.int .i64 (lv : Int)) := (blk_cell s1 0).trans rfl
                  go_simp
                  with_reducible rfl
                 rotate_left
                 ·simp only [Act.put, List.setIfInBounds_toArray, List.set_cons_zero, List.set_cons_succ, i64_w, i32_w]
                  rfl
                 refine pure_ (i := 2) (N := (some 184)) (v := ?_) (a' := ?_) #[true, true, true, false, false, false, false, false, false, false, false] rfl rfl (by kernel_rfl) (fun _ _ _ h => h) (Or.inl ⟨by rfl, ?_⟩) ?_ ?_
                 rotate_left
                 ·intro w'
                  go_simp
                  with_reducible rfl
                 rotate_left
                 ·simp only [Act.put, List.setIfInBounds_toArray, List.set_cons_zero, List.set_cons_succ, i64_w, i32_w]
                  rfl
                 refine pure_ (i := 3) (N := (some 185)) (v := ?_) (a' := ?_) #[true, true, true, true, false, false, false, false, false, false, false] rfl rfl (by kernel_rfl) (fun _ _ _ h => h) (Or.inl ⟨by rfl, ?_⟩) ?_ ?_
                 rotate_left
                 ·intro w'
                  go_simp
                  with_reducible rfl
                 rotate_left
                 ·simp only [Act.put, List.setIfInBounds_toArray, List.set_cons_zero, List.set_cons_succ, i64_w, i32_w]
                  rfl
                 refine pure_ (i := 4) (N := (some 186)) (v := ?_) (a' := ?_) #[true, true, true, true, true, false, false, false, false, false, false] rfl rfl (by kernel_rfl) (fun _ _ _ h => h) (Or.inl ⟨by rfl, ?_⟩) ?_ ?_
                 rotate_left
                 ·intro w'
                  go_simp
                  with_reducible rfl
                 rotate_left
                 ·simp only [Act.put, List.setIfInBounds_toArray, List.set_cons_zero, List.set_cons_succ, i64_w, i32_w]
                  rfl
                 refine take_ (i := 5) (N := (some 187)) (v := ?_) (a' := ?_) #[true, true, true, true, true, true, false, false, false, false, false] rfl rfl (by kernel_rfl) (fun _ _ _ h => h) (Or.inl ⟨by rfl, ?_⟩) hHeld ?_ ?_
                 rotate_left
                 ·rintro w' ⟨s0, s1⟩
                  have z_0 : w'.cell? ⟨gt, 0, none⟩ = some (.int .i64 (lv : Int)) := (blk_cell s1 0).trans rfl
                  have z_1 : w'.cell? ⟨gt, 1, none⟩ = some (.int .u64 m.f0) := (blk_cell s1 1).trans rfl
                  have z_2 : w'.cell? ⟨gt, 2, none⟩ = some (.int .i64 m.f1) := (blk_cell s1 2).trans rfl
                  have z_3 : w'.cell? ⟨gt, 3, none⟩ = some (.int .i64 m.f2) := (blk_cell s1 3).trans rfl
                  have z_4 : w'.cell? ⟨gt, 4, none⟩ = some (.string m.f3) := (blk_cell s1 4).trans rfl
                  have z_5 : w'.cell? ⟨gt, 5, none⟩ = some (.string m.f4) := (blk_cell s1 5).trans rfl
                  have z_6 : w'.cell? ⟨gt, 6, none⟩ = some (.int .u64 m.f5) := (blk_cell s1 6).trans rfl
                  have z_7 : w'.cell? ⟨gt, 7, none⟩ = some (.int .u64 m.f6) := (blk_cell s1 7).trans rfl
                  go_simp
                  with_reducible rfl
                 rotate_left
                 ·simp only [Act.put, List.setIfInBounds_toArray, List.set_cons_zero, List.set_cons_succ, i64_w, i32_w]
                  rfl
                 refine pure_ (i := 8) (N := (some 190)) (v := ?_) (a' := ?_) #[true, true, true, true, true, true, false, false, true, false, false] rfl rfl (by kernel_rfl) (fun _ _ _ h => h) (Or.inl ⟨by rfl, ?_⟩) ?_ ?_
                 rotate_left
                 ·intro w'
                  go_simp
                  with_reducible rfl
                 rotate_left
                 ·simp only [Act.put, List.setIfInBounds_toArray, List.set_cons_zero, List.set_cons_succ, i64_w, i32_w]
                  rfl
                 refine one_ (i := 6) (N := (some 188)) #[true, true, true, true, true, true, true, false, true, false, false] rfl rfl (by kernel_rfl) (by decide) (fun K hK => ?_)
                 refine value_ (w1 := wd.alloc (.cells (mCs m) 58)) (v := .slice (some ⟨wd.heap.size, 0, none⟩) 1 1) (by rfl) rfl (by go_simp) ?_
                 have hb1 := (Below.refl wd.heap.size wd).alloc (Nat.le_refl _) (.cells (mCs m) 58)
                 have HB1_ := Aside0.mk hb1
                 have XG := Aside0.mk (blk_new wd (.cells (mCs m) 58))
                 have X2e := Aside0.mk (blk_below X2d.out hb1)
                 have X3e := Aside0.mk (blk_below X3d.out hb1)
                 have HBe := Aside0.mk (below_step HBd.out hb1)
                 have R4e := Aside0.mk (R4d.out.below hb1)
                 have CMe := Aside0.mk (CMd.out.below hb1)
                 have RLe := Aside0.mk (Kd.R_below RLd.out hb1)
                 have NGV := Aside0.mk (show (Value.slice (q.a lv) l.length (q.c lv)).ownBlock ≠ some wd.heap.size from fun e => absurd (own_lt (v := .slice none 0 0) RLd.out _ e) (Nat.lt_irrefl _))
                 clear hb1 X2d X3d HBd R4d CMd RLd
                 have hOld := hHeld
                 clear hHeld
                 refine hK.out _ _ (⟨blk_below hOld.1 HB1_.out, blk_below hOld.2 HB1_.out⟩) (fun hHeld => ?_)
                 clear hOld hK K
                 refine norm_ (a' := ?_) ?_ ?_
                 rotate_left
                 ·show Act.put _ (some 188) _ = _
                  simp only [Act.put, List.setIfInBounds_toArray, List.set_cons_zero, List.set_cons_succ, i64_w, i32_w]
                  rfl
                 clear HB1_
                 generalize wd.heap.size = gv at *
                 generalize wd.alloc (.cells (mCs m) 58) = we at *
                 refine one_ (i := 7) (N := (some 189)) #[true, true, true, true, true, true, true, true, true, false, false] rfl rfl (by kernel_rfl) (by decide) (fun K hK => ?_)
                 refine goes_ Try.func107 (by kernel_rfl) rfl #[.slice (q.a lv) l.length (q.c lv), .int .i64 (k5 : Int), .slice (some ⟨gv, 0, none⟩) 1 1] (by rfl) rfl rfl (by (try simp only [List.map_toArray, List.map_cons, List.map_nil]); first | done | rfl) ?_
                 (with_reducible refine (insL_calls _ w.heap.size (q.c lv) gv k5 (q.a lv) l (lv : Int) m RLe.out PL.out XG.out NGV.out LL.out HBe.out.size).mono ?_)
                 rintro e wA ⟨⟨B, cb, rfl, hR, ho⟩, hs, hb⟩
                 refine ⟨_, rfl, ?_⟩
                 have ST := Aside0.mk hs
                 have HA_ := Aside0.mk (HBe.out.trans hb)
                 have X2A := Aside0.mk ((ST.out _ (blk_lt X2e.out) (own_ne RLe.out X2e.out (by decide))).trans X2e.out)
                 have X3A := Aside0.mk ((ST.out _ (blk_lt X3e.out) (own_ne RLe.out X3e.out (by decide))).trans X3e.out)
                 have RSA := Aside0.mk (Rows4.step R4e.out HLV.out (l := wiL (lv : Int) m l) (B := B) (cb := cb) hR (fun b hb2 hne => hs b hb2 (by rw [← SV.out]; exact hne)) (by rw [SV.out]; exact ho))
                 have CMA := Aside0.mk (CMe.out.kept (grown_stay hb hs) (CMe.out.own RLe.out))
                 clear hR ho hb hs
                 have hOld := hHeld
                 clear hHeld
                 refine hK.out _ _ (⟨(ST.out _ (blk_lt hOld.1) (own_ne RLe.out hOld.1 (by decide))).trans hOld.1, (ST.out _ (blk_lt hOld.2) (own_ne RLe.out hOld.2 (by decide))).trans hOld.2⟩) (fun hHeld => ?_)
                 clear hOld hK K
                 refine norm_ (a' := ?_) ?_ ?_
                 rotate_left
                 ·show Act.put _ (some 189) _ = _
                  simp only [Act.put, List.setIfInBounds_toArray, List.set_cons_zero, List.set_cons_succ, i64_w, i32_w]
                  rfl
                 refine pure_ (i := 9) (N := (some 191)) (v := ?_) (a' := ?_) #[true, true, true, true, true, true, true, true, true, true, false] rfl rfl (by kernel_rfl) (fun _ _ _ h => h) (Or.inl ⟨by rfl, ?_⟩) ?_ ?_
                 rotate_left
                 ·intro w'
                  go_simp
                  with_reducible rfl
                 rotate_left
                 ·simp only [Act.put, List.setIfInBounds_toArray, List.set_cons_zero, List.set_cons_succ, i64_w, i32_w]
                  rfl
                 have hfz := blk_frozen hHeld.1 (3 + lv)
                 have hcz := vcell hHeld.1 lv HLV.out
                 have XA1 := Aside0.mk hHeld.1
                 refine last_ (i := 10) (N := none) #[true, true, true, true, true, true, true, true, true, true, true] rfl rfl (by kernel_rfl) (by decide) (fun K hK => ?_)
                 refine skip_ (w1 := wA.setCell ⟨w.heap.size, 3 + lv, none⟩ (.slice B (wiL (lv : Int) m l).length cb)) (by rfl) rfl (by go_simp) ?_
                 try clear hHeld
                 refine hK.out _ _ ?_
                 clear hK K
                 have X1n := Aside0.mk (show (wA.setCell ⟨w.heap.size, 3 + lv, none⟩ (.slice B (wiL (lv : Int) m l).length cb)).heap[w.heap.size]? = some (.cells (vCs (y.set lv (wiL (lv : Int) m l)) (q.set lv B cb)) 26 (0, 0)) from five_set XA1.out _ (vCs_set y q lv HLV.out (wiL (lv : Int) m l) (B) (cb)))
                 have X2n := Aside0.mk (blk_far X2A.out (p := ⟨w.heap.size, 3 + lv, none⟩) (show g2 ≠ w.heap.size by have := N2.out; omega) (.slice B (wiL (lv : Int) m l).length cb))
                 have X3n := Aside0.mk (blk_far X3A.out (p := ⟨w.heap.size, 3 + lv, none⟩) (show g3 ≠ w.heap.size by have := N2.out; have := N3.out; omega) (.slice B (wiL (lv : Int) m l).length cb))
                 have R4n := Aside0.mk (Rows4.set RSA.out XA1.out (by decide) (3 + lv) (.slice B (wiL (lv : Int) m l).length cb))
                 have HBn := Aside0.mk (below_set (j := 3 + lv) (v := .slice B (wiL (lv : Int) m l).length cb) HA_.out (Nat.le_refl _))
                 have CMn := Aside0.mk (CMA.out.kept (grown_cell wA w.heap.size (3 + lv) (.slice B (wiL (lv : Int) m l).length cb)) (fun e => NG1.out e.symm))
                 clear hfz hcz
                 generalize wA.setCell ⟨w.heap.size, 3 + lv, none⟩ (.slice B (wiL (lv : Int) m l).length cb) = wZ at *
                 refine done_ (by kernel_rfl) ?_
                 go_wp2_with fail
                 have GVn := Aside0.mk (show comeV (y.set lv (wiL (lv : Int) m l)) (e.added.drop (k + 1)) = (u, r) by
                  rw [LE.out, ← come_yes KL.out EM.out.symm CZ.out]; exact CV.out)
                 have OKn := Aside0.mk (show okS (y.set lv (wiL (lv : Int) m l)) (100000 + (k + 1)) by rw [LE.out]; exact OKS.out.come HLV.out MP.out CZ.out)
                 have CMx := Aside0.mk (show Cnt wZ gm (n + 1) (cntF (catV (y.set lv (wiL (lv : Int) m l)) 4)) by
                  rw [LE.out, ← cnt_wi y HLV.out (lv : Int) m, CCE.out, CE.out]; exact CMn.out)
                 have ew : wrap64 ((k : Int) + 1) = ((k + 1 : Nat) : Int) := by have h1 := KL.out; have h2 := HLA.out; unfold wrap64; omega
                 try rw [ew]
                 rw [← HAX.out]
                 clear ew
                 go_roundg z5
                 case measure => omega
                 case rel => exact ⟨k + 1, n + 1, _, _, rfl, ⟨by have := HK5.out; omega⟩, HBn, X1n, X2n, X3n, R4n, GVn, OKn, CMx, ⟨by have := CN.out; omega⟩⟩
                | succ q6 =>
                 have hk : k5 < l.length := by have := HK6.out; omega
                 have d0 : decide ((k5 : Int) < (l.length : Int)) = true := decide_eq_true (by omega)
                 have d1 : decide (k5 < l.length) = true := decide_eq_true hk
                 have p0 : 0 ≤ (k5 : Int) := Int.natCast_nonneg _
                 have p1 : (k5 : Int) < (l.length : Int) := by omega
                 have CX := Kd.C_below CL.out HBW.out
                 obtain ⟨ad6, ea, ha0, ha1, ha2, ha3, ha4, ha5, ha6⟩ := at_T58 CX (k5 : Int) p0 p1
                 rw [Int.toNat_natCast] at ha0 ha1 ha2 ha3 ha4 ha5 ha6
                 have EA := Aside0.mk (show rd_T58 l (k5 : Int) = l.getD k5 z58 by unfold rd_T58; rw [Int.toNat_natCast])
                 generalize rd_T58 l (k5 : Int) = x at *
                 rw [ea]
                 have HAX6 := Aside0.mk ea
                 have HKL := Aside0.mk hk
                 have ew6 : wrap64 ((k5 : Int) + 1) = ((k5 + 1 : Nat) : Int) := by have h1 := LL.out; unfold wrap64; omega
                 clear ea hk CX
                 by_cases hz : lv = 0
                 ·have z0 : decide ((lv : Int) = 0) = true := decide_eq_true (by omega)
                  have z0n : decide (lv = 0) = true := decide_eq_true hz
                  have z1 : ((lv : Int) == 0) = true := beq_iff_eq.mpr (by omega)
                  have z2 : decide (0 < (lv : Int)) = false := decide_eq_false (by omega)
                  have z2n : decide (0 < lv) = false := decide_eq_false (by omega)
                  have LZ := Aside0.mk hz
                  clear hz
                  by_cases hn : x.f0 < m.f0
                  ·have t0 : decide (x.f0 < m.f0) = true := decide_eq_true hn
                   have BF := Aside0.mk (show befP (lv : Int) m (l.getD k5 z58) by rw [← EA.out]; exact .inl ⟨by have := LZ.out; omega, hn⟩)
                   clear hn
                   go_wp2_with fail
                   go_quiet (fail)
                   go_wp2_with fail
                   try rw [ew6]
                   rw [← HAX6.out]
                   clear ew6
                   go_roundg q6
                   case measure => omega
                   case rel => exact ⟨k5 + 1, rfl, ⟨by have := HK6.out; omega⟩, ⟨pw_below_drewN HBW.out nq⟩, ⟨fun j hj => by
                    by_cases e : j = k5
                    ·subst e; exact BF.out
                    ·exact HJ.out j (by omega)⟩⟩
                  ·have t0 : decide (x.f0 < m.f0) = false := decide_eq_false hn
                   have PL := Aside0.mk (plc_at (lv := (lv : Int)) (m := m) (Nat.le_of_lt HKL.out) HJ.out (.inr (show ¬ befP (lv : Int) m (l.getD k5 z58) by
                    rw [← EA.out]
                    rintro (h | h)
                    ·exact hn h.2
                    ·have := h.1; have := LZ.out; omega)))
                   clear hn
                   go_wp2_with fail
                   go_quiet (fail)
                   rw [← HAX6.out]
                   have HB8 := Aside0.mk (pw_below_drewN (below_step HB2.out HBW.out) nq)
                   have X18 := Aside0.mk (blk_below X12.out (pw_below_drewN HBW.out nq))
                   have X28 := Aside0.mk (blk_below X22.out (pw_below_drewN HBW.out nq))
                   have X38 := Aside0.mk (blk_below X32.out (pw_below_drewN HBW.out nq))
                   have BM8 := Aside0.mk (blk_below BM2.out (pw_below_drewN HBW.out nq))
                   have R48 := Aside0.mk (R42.out.below (pw_below_drewN HBW.out nq))
                   have CM8 := Aside0.mk (CM2.out.below (pw_below_drewN HBW.out nq))
                   clear HBW HJ y0 y1 y2 y3 y4 y5 y6 y7 BM3
                   go_upto_region 38 with (fail)
                   generalize wr.drewN nq = w8 at *
                   refine start_ (n := 11) (S := (fun w' => w'.heap[w.heap.size]? = some (.cells (vCs y q) 26 (0, 0)) ∧ w'.heap[gt]? = some (.cells #[.int .i64 (lv : Int), .int .u64 m.f0, .int .i64 m.f1, .int .i64 m.f2, .string m.f3, .string m.f4, .int .u64 m.f5, .int .u64 m.f6] 82 (0, 0)))) (ds := [10]) #[false, false, false, false, false, false, false, false, false, false, false] (by kernel_rfl) rfl rfl ⟨blk_drew X18.out, blk_drew BM8.out⟩ (fun hHeld => ?_)
                   have X2d := Aside0.mk (blk_drew X28.out)
                   have X3d := Aside0.mk (blk_drew X38.out)
                   have HBd := Aside0.mk (below_drew HB8.out)
                   have R4d := Aside0.mk (R48.out.below (below_drew (Below.refl _ _)))
                   have CMd := Aside0.mk (CM8.out.below (below_drew (Below.refl _ _)))
                   clear X28 X38 HB8 R48 CM8 X18 BM8
                   generalize w8.drew = wd at *
                   have RLd := Aside0.mk (show Kd.R k58 58 wd w.heap.size (fun _ => True) (.slice (q.a lv) l.length (q.c lv)) l by rw [LE.out]; exact R4d.out.1 lv HLV.out)
                   refine pure_ (i := 0) (N := (some 182)) (v := ?_) (a' := ?_) #[true, false, false, false, false, false, false, false, false, false, false] rfl rfl (by kernel_rfl) (fun _ _ _ h => h) (Or.inl ⟨by rfl, ?_⟩) ?_ ?_
                   rotate_left
                   ·intro w'
                    go_simp
                    with_reducible rfl
                   rotate_left
                   ·simp only [Act.put, List.setIfInBounds_toArray, List.set_cons_zero, List.set_cons_succ, i64_w, i32_w]
                    rfl
                   refine take_ (i := 1) (N := (some 183)) (v := ?_) (a' := ?_) #[true, true, false, false, false, false, false, false, false, false, false] rfl rfl (by kernel_rfl) (fun _ _ _ h => h) (Or.inl ⟨by rfl, ?_⟩) hHeld ?_ ?_
                   rotate_left
                   ·rintro w' ⟨s0, s1⟩
                    have z0_ : w'.cell? ⟨gt, 0, none⟩ = some (.int .i64 (lv : Int)) := (blk_cell s1 0).trans rfl
                    go_simp
                    with_reducible rfl
                   rotate_left
                   ·simp only [Act.put, List.setIfInBounds_toArray, List.set_cons_zero, List.set_cons_succ, i64_w, i32_w]
                    rfl
                   refine pure_ (i := 2) (N := (some 184)) (v := ?_) (a' := ?_) #[true, true, true, false, false, false, false, false, false, false, false] rfl rfl (by kernel_rfl) (fun _ _ _ h => h) (Or.inl ⟨by rfl, ?_⟩) ?_ ?_
                   rotate_left
                   ·intro w'
                    go_simp
                    with_reducible rfl
                   rotate_left
                   ·simp only [Act.put, List.setIfInBounds_toArray, List.set_cons_zero, List.set_cons_succ, i64_w, i32_w]
                    rfl
                   refine pure_ (i := 3) (N := (some 185)) (v := ?_) (a' := ?_) #[true, true, true, true, false, false, false, false, false, false, false] rfl rfl (by kernel_rfl) (fun _ _ _ h => h) (Or.inl ⟨by rfl, ?_⟩) ?_ ?_
                   rotate_left
                   ·intro w'
                    go_simp
                    with_reducible rfl
                   rotate_left
                   ·simp only [Act.put, List.setIfInBounds_toArray, List.set_cons_zero, List.set_cons_succ, i64_w, i32_w]
                    rfl
                   refine pure_ (i := 4) (N := (some 186)) (v := ?_) (a' := ?_) #[true, true, true, true, true, false, false, false, false, false, false] rfl rfl (by kernel_rfl) (fun _ _ _ h => h) (Or.inl ⟨by rfl, ?_⟩) ?_ ?_
                   rotate_left
                   ·intro w'
                    go_simp
                    with_reducible rfl
                   rotate_left
                   ·simp only [Act.put, List.setIfInBounds_toArray, List.set_cons_zero, List.set_cons_succ, i64_w, i32_w]
                    rfl
                   refine take_ (i := 5) (N := (some 187)) (v := ?_) (a' := ?_) #[true, true, true, true, true, true, false, false, false, false, false] rfl rfl (by kernel_rfl) (fun _ _ _ h => h) (Or.inl ⟨by rfl, ?_⟩) hHeld ?_ ?_
                   rotate_left
                   ·rintro w' ⟨s0, s1⟩
                    have z_0 : w'.cell? ⟨gt, 0, none⟩ = some (.int .i64 (lv : Int)) := (blk_cell s1 0).trans rfl
                    have z_1 : w'.cell? ⟨gt, 1, none⟩ = some (.int .u64 m.f0) := (blk_cell s1 1).trans rfl
                    have z_2 : w'.cell? ⟨gt, 2, none⟩ = some (.int .i64 m.f1) := (blk_cell s1 2).trans rfl
                    have z_3 : w'.cell? ⟨gt, 3, none⟩ = some (.int .i64 m.f2) := (blk_cell s1 3).trans rfl
                    have z_4 : w'.cell? ⟨gt, 4, none⟩ = some (.string m.f3) := (blk_cell s1 4).trans rfl
                    have z_5 : w'.cell? ⟨gt, 5, none⟩ = some (.string m.f4) := (blk_cell s1 5).trans rfl
                    have z_6 : w'.cell? ⟨gt, 6, none⟩ = some (.int .u64 m.f5) := (blk_cell s1 6).trans rfl
                    have z_7 : w'.cell? ⟨gt, 7, none⟩ = some (.int .u64 m.f6) := (blk_cell s1 7).trans rfl
                    go_simp
                    with_reducible rfl
                   rotate_left
                   ·simp only [Act.put, List.setIfInBounds_toArray, List.set_cons_zero, List.set_cons_succ, i64_w, i32_w]
                    rfl
                   refine pure_ (i := 8) (N := (some 190)) (v := ?_) (a' := ?_) #[true, true, true, true, true, true, false, false, true, false, false] rfl rfl (by kernel_rfl) (fun _ _ _ h => h) (Or.inl ⟨by rfl, ?_⟩) ?_ ?_
                   rotate_left
                   ·intro w'
                    go_simp
                    with_reducible rfl
                   rotate_left
                   ·simp only [Act.put, List.setIfInBounds_toArray, List.set_cons_zero, List.set_cons_succ, i64_w, i32_w]
                    rfl
                   refine one_ (i := 6) (N := (some 188)) #[true, true, true, true, true, true, true, false, true, false, false] rfl rfl (by kernel_rfl) (by decide) (fun K hK => ?_)
                   refine value_ (w1 := wd.alloc (.cells (mCs m) 58)) (v := .slice (some ⟨wd.heap.size, 0, none⟩) 1 1) (by rfl) rfl (by go_simp) ?_
                   have hb1 := (Below.refl wd.heap.size wd).alloc (Nat.le_refl _) (.cells (mCs m) 58)
                   have HB1_ := Aside0.mk hb1
                   have XG := Aside0.mk (blk_new wd (.cells (mCs m) 58))
                   have X2e := Aside0.mk (blk_below X2d.out hb1)
                   have X3e := Aside0.mk (blk_below X3d.out hb1)
                   have HBe := Aside0.mk (below_step HBd.out hb1)
                   have R4e := Aside0.mk (R4d.out.below hb1)
                   have CMe := Aside0.mk (CMd.out.below hb1)
                   have RLe := Aside0.mk (Kd.R_below RLd.out hb1)
                   have NGV := Aside0.mk (show (Value.slice (q.a lv) l.length (q.c lv)).ownBlock ≠ some wd.heap.size from fun e => absurd (own_lt (v := .slice none 0 0) RLd.out _ e) (Nat.lt_irrefl _))
                   clear hb1 X2d X3d HBd R4d CMd RLd
                   have hOld := hHeld
                   clear hHeld
                   refine hK.out _ _ (⟨blk_below hOld.1 HB1_.out, blk_below hOld.2 HB1_.out⟩) (fun hHeld => ?_)
                   clear hOld hK K
                   refine norm_ (a' := ?_) ?_ ?_
                   rotate_left
                   ·show Act.put _ (some 188) _ = _
                    simp only [Act.put, List.setIfInBounds_toArray, List.set_cons_zero, List.set_cons_succ, i64_w, i32_w]
                    rfl
                   clear HB1_
                   generalize wd.heap.size = gv at *
                   generalize wd.alloc (.cells (mCs m) 58) = we at *
                   refine one_ (i := 7) (N := (some 189)) #[true, true, true, true, true, true, true, true, true, false, false] rfl rfl (by kernel_rfl) (by decide) (fun K hK => ?_)
                   refine goes_ Try.func107 (by kernel_rfl) rfl #[.slice (q.a lv) l.length (q.c lv), .int .i64 (k5 : Int), .slice (some ⟨gv, 0, none⟩) 1 1] (by rfl) rfl rfl (by (try simp only [List.map_toArray, List.map_cons, List.map_nil]); first | done | rfl) ?_
                   (with_reducible refine (insL_calls _ w.heap.size (q.c lv) gv k5 (q.a lv) l (lv : Int) m RLe.out PL.out XG.out NGV.out LL.out HBe.out.size).mono ?_)
                   rintro e wA ⟨⟨B, cb, rfl, hR, ho⟩, hs, hb⟩
                   refine ⟨_, rfl, ?_⟩
                   have ST := Aside0.mk hs
                   have HA_ := Aside0.mk (HBe.out.trans hb)
                   have X2A := Aside0.mk ((ST.out _ (blk_lt X2e.out) (own_ne RLe.out X2e.out (by decide))).trans X2e.out)
                   have X3A := Aside0.mk ((ST.out _ (blk_lt X3e.out) (own_ne RLe.out X3e.out (by decide))).trans X3e.out)
                   have RSA := Aside0.mk (Rows4.step R4e.out HLV.out (l := wiL (lv : Int) m l) (B := B) (cb := cb) hR (fun b hb2 hne => hs b hb2 (by rw [← SV.out]; exact hne)) (by rw [SV.out]; exact ho))
                   have CMA := Aside0.mk (CMe.out.kept (grown_stay hb hs) (CMe.out.own RLe.out))
                   clear hR ho hb hs
                   have hOld := hHeld
                   clear hHeld
                   refine hK.out _ _ (⟨(ST.out _ (blk_lt hOld.1) (own_ne RLe.out hOld.1 (by decide))).trans hOld.1, (ST.out _ (blk_lt hOld.2) (own_ne RLe.out hOld.2 (by decide))).trans hOld.2⟩) (fun hHeld => ?_)
                   clear hOld hK K
                   refine norm_ (a' := ?_) ?_ ?_
                   rotate_left
                   ·show Act.put _ (some 189) _ = _
                    simp only [Act.put, List.setIfInBounds_toArray, List.set_cons_zero, List.set_cons_succ, i64_w, i32_w]
                    rfl
                   refine pure_ (i := 9) (N := (some 191)) (v := ?_) (a' := ?_) #[true, true, true, true, true, true, true, true, true, true, false] rfl rfl (by kernel_rfl) (fun _ _ _ h => h) (Or.inl ⟨by rfl, ?_⟩) ?_ ?_
                   rotate_left
                   ·intro w'
                    go_simp
                    with_reducible rfl
                   rotate_left
                   ·simp only [Act.put, List.setIfInBounds_toArray, List.set_cons_zero, List.set_cons_succ, i64_w, i32_w]
                    rfl
                   have hfz := blk_frozen hHeld.1 (3 + lv)
                   have hcz := vcell hHeld.1 lv HLV.out
                   have XA1 := Aside0.mk hHeld.1
                   refine last_ (i := 10) (N := none) #[true, true, true, true, true, true, true, true, true, true, true] rfl rfl (by kernel_rfl) (by decide) (fun K hK => ?_)
                   refine skip_ (w1 := wA.setCell ⟨w.heap.size, 3 + lv, none⟩ (.slice B (wiL (lv : Int) m l).length cb)) (by rfl) rfl (by go_simp) ?_
                   try clear hHeld
                   refine hK.out _ _ ?_
                   clear hK K
                   have X1n := Aside0.mk (show (wA.setCell ⟨w.heap.size, 3 + lv, none⟩ (.slice B (wiL (lv : Int) m l).length cb)).heap[w.heap.size]? = some (.cells (vCs (y.set lv (wiL (lv : Int) m l)) (q.set lv B cb)) 26 (0, 0)) from five_set XA1.out _ (vCs_set y q lv HLV.out (wiL (lv : Int) m l) (B) (cb)))
                   have X2n := Aside0.mk (blk_far X2A.out (p := ⟨w.heap.size, 3 + lv, none⟩) (show g2 ≠ w.heap.size by have := N2.out; omega) (.slice B (wiL (lv : Int) m l).length cb))
                   have X3n := Aside0.mk (blk_far X3A.out (p := ⟨w.heap.size, 3 + lv, none⟩) (show g3 ≠ w.heap.size by have := N2.out; have := N3.out; omega) (.slice B (wiL (lv : Int) m l).length cb))
                   have R4n := Aside0.mk (Rows4.set RSA.out XA1.out (by decide) (3 + lv) (.slice B (wiL (lv : Int) m l).length cb))
                   have HBn := Aside0.mk (below_set (j := 3 + lv) (v := .slice B (wiL (lv : Int) m l).length cb) HA_.out (Nat.le_refl _))
                   have CMn := Aside0.mk (CMA.out.kept (grown_cell wA w.heap.size (3 + lv) (.slice B (wiL (lv : Int) m l).length cb)) (fun e => NG1.out e.symm))
                   clear hfz hcz
                   generalize wA.setCell ⟨w.heap.size, 3 + lv, none⟩ (.slice B (wiL (lv : Int) m l).length cb) = wZ at *
                   refine done_ (by kernel_rfl) ?_
                   go_wp2_with fail
                   have GVn := Aside0.mk (show comeV (y.set lv (wiL (lv : Int) m l)) (e.added.drop (k + 1)) = (u, r) by
                    rw [LE.out, ← come_yes KL.out EM.out.symm CZ.out]; exact CV.out)
                   have OKn := Aside0.mk (show okS (y.set lv (wiL (lv : Int) m l)) (100000 + (k + 1)) by rw [LE.out]; exact OKS.out.come HLV.out MP.out CZ.out)
                   have CMx := Aside0.mk (show Cnt wZ gm (n + 1) (cntF (catV (y.set lv (wiL (lv : Int) m l)) 4)) by
                    rw [LE.out, ← cnt_wi y HLV.out (lv : Int) m, CCE.out, CE.out]; exact CMn.out)
                   have ew : wrap64 ((k : Int) + 1) = ((k + 1 : Nat) : Int) := by have h1 := KL.out; have h2 := HLA.out; unfold wrap64; omega
                   try rw [ew]
                   rw [← HAX.out]
                   clear ew
                   go_roundg z5
                   case measure => omega
                   case rel => exact ⟨k + 1, n + 1, _, _, rfl, ⟨by have := HK5.out; omega⟩, HBn, X1n, X2n, X3n, R4n, GVn, OKn, CMx, ⟨by have := CN.out; omega⟩⟩
                 ·have z0 : decide ((lv : Int) = 0) = false := decide_eq_false (by omega)
                  have z0n : decide (lv = 0) = false := decide_eq_false hz
                  have z1 : ((lv : Int) == 0) = false := beq_eq_false_iff_ne.mpr (by omega)
                  have z2 : decide (0 < (lv : Int)) = true := decide_eq_true (by omega)
                  have z2n : decide (0 < lv) = true := decide_eq_true (by omega)
                  have LZ := Aside0.mk hz
                  have LV := Aside0.mk (show 0 < (lv : Int) by omega)
                  clear hz
                  cases hg : Op.bytesLess m.f3.toList x.f3.toList with
                  | true =>
                   have p9 : ¬ (Op.bytesLess x.f3.toList m.f3.toList = true ∨ x.f3.toList = m.f3.toList) := fun h_ => by rw [le_less] at h_; rw [h_] at hg; cases hg
                   have s9 : Op.bytesLess x.f3.toList m.f3.toList = false := by cases hq : Op.bytesLess x.f3.toList m.f3.toList with | false => rfl | true => exact absurd (.inl hq) p9
                   have t9 : ¬ x.f3.toList = m.f3.toList := fun h_ => p9 (.inr h_)
                   have u9 : (x.f3.toList == m.f3.toList) = false := beq_eq_false_iff_ne.mpr t9
                   have r9 : (Op.bytesLess x.f3.toList m.f3.toList || x.f3.toList == m.f3.toList) = false := by rw [s9, u9]; rfl
                   have PL := Aside0.mk (plc_at (lv := (lv : Int)) (m := m) (Nat.le_of_lt HKL.out) HJ.out (.inr (show ¬ befP (lv : Int) m (l.getD k5 z58) by
                    rw [← EA.out]
                    rintro (h | h)
                    ·have := h.1; have := LZ.out; omega
                    ·rw [h.2] at hg; cases hg)))
                   go_wp2_with fail
                   go_quiet (fail)
                   rw [← HAX6.out]
                   have HB8 := Aside0.mk (pw_below_drewN (below_step HB2.out HBW.out) nq)
                   have X18 := Aside0.mk (blk_below X12.out (pw_below_drewN HBW.out nq))
                   have X28 := Aside0.mk (blk_below X22.out (pw_below_drewN HBW.out nq))
                   have X38 := Aside0.mk (blk_below X32.out (pw_below_drewN HBW.out nq))
                   have BM8 := Aside0.mk (blk_below BM2.out (pw_below_drewN HBW.out nq))
                   have R48 := Aside0.mk (R42.out.below (pw_below_drewN HBW.out nq))
                   have CM8 := Aside0.mk (CM2.out.below (pw_below_drewN HBW.out nq))
                   clear HBW HJ y0 y1 y2 y3 y4 y5 y6 y7 BM3
                   go_upto_region 38 with (fail)
                   generalize wr.drewN nq = w8 at *
                   refine start_ (n := 11) (S := (fun w' => w'.heap[w.heap.size]? = some (.cells (vCs y q) 26 (0, 0)) ∧ w'.heap[gt]? = some (.cells #[.int .i64 (lv : Int), .int .u64 m.f0, .int .i64 m.f1, .int .i64 m.f2, .string m.f3, .string m.f4, .int .u64 m.f5, .int .u64 m.f6] 82 (0, 0)))) (ds := [10]) #[false, false, false, false, false, false, false, false, false, false, false] (by kernel_rfl) rfl rfl ⟨blk_drew X18.out, blk_drew BM8.out⟩ (fun hHeld => ?_)
                   have X2d := Aside0.mk (blk_drew X28.out)
                   have X3d := Aside0.mk (blk_drew X38.out)
                   have HBd := Aside0.mk (below_drew HB8.out)
                   have R4d := Aside0.mk (R48.out.below (below_drew (Below.refl _ _)))
                   have CMd := Aside0.mk (CM8.out.below (below_drew (Below.refl _ _)))
                   clear X28 X38 HB8 R48 CM8 X18 BM8
                   generalize w8.drew = wd at *
                   have RLd := Aside0.mk (show Kd.R k58 58 wd w.heap.size (fun _ => True) (.slice (q.a lv) l.length (q.c lv)) l by rw [LE.out]; exact R4d.out.1 lv HLV.out)
                   refine pure_ (i := 0) (N := (some 182)) (v := ?_) (a' := ?_) #[true, false, false, false, false, false, false, false, false, false, false] rfl rfl (by kernel_rfl) (fun _ _ _ h => h) (Or.inl ⟨by rfl, ?_⟩) ?_ ?_
                   rotate_left
                   ·intro w'
                    go_simp
                    with_reducible rfl
                   rotate_left
                   ·simp only [Act.put, List.setIfInBounds_toArray, List.set_cons_zero, List.set_cons_succ, i64_w, i32_w]
                    rfl
                   refine take_ (i := 1) (N := (some 183)) (v := ?_) (a' := ?_) #[true, true, false, false, false, false, false, false, false, false, false] rfl rfl (by kernel_rfl) (fun _ _ _ h => h) (Or.inl ⟨by rfl, ?_⟩) hHeld ?_ ?_
                   rotate_left
                   ·rintro w' ⟨s0, s1⟩
                    have z0_ : w'.cell? ⟨gt, 0, none⟩ = some (.int .i64 (lv : Int)) := (blk_cell s1 0).trans rfl
                    go_simp
                    with_reducible rfl
                   rotate_left
                   ·simp only [Act.put, List.setIfInBounds_toArray, List.set_cons_zero, List.set_cons_succ, i64_w, i32_w]
                    rfl
                   refine pure_ (i := 2) (N := (some 184)) (v := ?_) (a' := ?_) #[true, true, true, false, false, false, false, false, false, false, false] rfl rfl (by kernel_rfl) (fun _ _ _ h => h) (Or.inl ⟨by rfl, ?_⟩) ?_ ?_
                   rotate_left
                   ·intro w'
                    go_simp
                    with_reducible rfl
                   rotate_left
                   ·simp only [Act.put, List.setIfInBounds_toArray, List.set_cons_zero, List.set_cons_succ, i64_w, i32_w]
                    rfl
                   refine pure_ (i := 3) (N := (some 185)) (v := ?_) (a' := ?_) #[true, true, true, true, false, false, false, false, false, false, false] rfl rfl (by kernel_rfl) (fun _ _ _ h => h) (Or.inl ⟨by rfl, ?_⟩) ?_ ?_
                   rotate_left
                   ·intro w'
                    go_simp
                    with_reducible rfl
                   rotate_left
                   ·simp only [Act.put, List.setIfInBounds_toArray, List.set_cons_zero, List.set_cons_succ, i64_w, i32_w]
                    rfl
                   refine pure_ (i := 4) (N := (some 186)) (v := ?_) (a' := ?_) #[true, true, true, true, true, false, false, false, false, false, false] rfl rfl (by kernel_rfl) (fun _ _ _ h => h) (Or.inl ⟨by rfl, ?_⟩) ?_ ?_
                   rotate_left
                   ·intro w'
                    go_simp
                    with_reducible rfl
                   rotate_left
                   ·simp only [Act.put, List.setIfInBounds_toArray, List.set_cons_zero, List.set_cons_succ, i64_w, i32_w]
                    rfl
                   refine take_ (i := 5) (N := (some 187)) (v := ?_) (a' := ?_) #[true, true, true, true, true, true, false, false, false, false, false] rfl rfl (by kernel_rfl) (fun _ _ _ h => h) (Or.inl ⟨by rfl, ?_⟩) hHeld ?_ ?_
                   rotate_left
                   ·rintro w' ⟨s0, s1⟩
                    have z_0 : w'.cell? ⟨gt, 0, none⟩ = some (.int .i64 (lv : Int)) := (blk_cell s1 0).trans rfl
                    have z_1 : w'.cell? ⟨gt, 1, none⟩ = some (.int .u64 m.f0) := (blk_cell s1 1).trans rfl
                    have z_2 : w'.cell? ⟨gt, 2, none⟩ = some (.int .i64 m.f1) := (blk_cell s1 2).trans rfl
                    have z_3 : w'.cell? ⟨gt, 3, none⟩ = some (.int .i64 m.f2) := (blk_cell s1 3).trans rfl
                    have z_4 : w'.cell? ⟨gt, 4, none⟩ = some (.string m.f3) := (blk_cell s1 4).trans rfl
                    have z_5 : w'.cell? ⟨gt, 5, none⟩ = some (.string m.f4) := (blk_cell s1 5).trans rfl
                    have z_6 : w'.cell? ⟨gt, 6, none⟩ = some (.int .u64 m.f5) := (blk_cell s1 6).trans rfl
                    have z_7 : w'.cell? ⟨gt, 7, none⟩ = some (.int .u64 m.f6) := (blk_cell s1 7).trans rfl
                    go_simp
                    with_reducible rfl
                   rotate_left
                   ·simp only [Act.put, List.setIfInBounds_toArray, List.set_cons_zero, List.set_cons_succ, i64_w, i32_w]
                    rfl
                   refine pure_ (i := 8) (N := (some 190)) (v := ?_) (a' := ?_) #[true, true, true, true, true, true, false, false, true, false, false] rfl rfl (by kernel_rfl) (fun _ _ _ h => h) (Or.inl ⟨by rfl, ?_⟩) ?_ ?_
                   rotate_left
                   ·intro w'
                    go_simp
                    with_reducible rfl
                   rotate_left
                   ·simp only [Act.put, List.setIfInBounds_toArray, List.set_cons_zero, List.set_cons_succ, i64_w, i32_w]
                    rfl
                   refine one_ (i := 6) (N := (some 188)) #[true, true, true, true, true, true, true, false, true, false, false] rfl rfl (by kernel_rfl) (by decide) (fun K hK => ?_)
                   refine value_ (w1 := wd.alloc (.cells (mCs m) 58)) (v := .slice (some ⟨wd.heap.size, 0, none⟩) 1 1) (by rfl) rfl (by go_simp) ?_
                   have hb1 := (Below.refl wd.heap.size wd).alloc (Nat.le_refl _) (.cells (mCs m) 58)
                   have HB1_ := Aside0.mk hb1
                   have XG := Aside0.mk (blk_new wd (.cells (mCs m) 58))
                   have X2e := Aside0.mk (blk_below X2d.out hb1)
                   have X3e := Aside0.mk (blk_below X3d.out hb1)
                   have HBe := Aside0.mk (below_step HBd.out hb1)
                   have R4e := Aside0.mk (R4d.out.below hb1)
                   have CMe := Aside0.mk (CMd.out.below hb1)
                   have RLe := Aside0.mk (Kd.R_below RLd.out hb1)
                   have NGV := Aside0.mk (show (Value.slice (q.a lv) l.length (q.c lv)).ownBlock ≠ some wd.heap.size from fun e => absurd (own_lt (v := .slice none 0 0) RLd.out _ e) (Nat.lt_irrefl _))
                   clear hb1 X2d X3d HBd R4d CMd RLd
                   have hOld := hHeld
                   clear hHeld
                   refine hK.out _ _ (⟨blk_below hOld.1 HB1_.out, blk_below hOld.2 HB1_.out⟩) (fun hHeld => ?_)
                   clear hOld hK K
                   refine norm_ (a' := ?_) ?_ ?_
                   rotate_left
                   ·show Act.put _ (some 188) _ = _
                    simp only [Act.put, List.setIfInBounds_toArray, List.set_cons_zero, List.set_cons_succ, i64_w, i32_w]
                    rfl
                   clear HB1_
                   generalize wd.heap.size = gv at *
                   generalize wd.alloc (.cells (mCs m) 58) = we at *
                   refine one_ (i := 7) (N := (some 189)) #[true, true, true, true, true, true, true, true, true, false, false] rfl rfl (by kernel_rfl) (by decide) (fun K hK => ?_)
                   refine goes_ Try.func107 (by kernel_rfl) rfl #[.slice (q.a lv) l.length (q.c lv), .int .i64 (k5 : Int), .slice (some ⟨gv, 0, none⟩) 1 1] (by rfl) rfl rfl (by (try simp only [List.map_toArray, List.map_cons, List.map_nil]); first | done | rfl) ?_
                   (with_reducible refine (insL_calls _ w.heap.size (q.c lv) gv k5 (q.a lv) l (lv : Int) m RLe.out PL.out XG.out NGV.out LL.out HBe.out.size).mono ?_)
                   rintro e wA ⟨⟨B, cb, rfl, hR, ho⟩, hs, hb⟩
                   refine ⟨_, rfl, ?_⟩
                   have ST := Aside0.mk hs
                   have HA_ := Aside0.mk (HBe.out.trans hb)
                   have X2A := Aside0.mk ((ST.out _ (blk_lt X2e.out) (own_ne RLe.out X2e.out (by decide))).trans X2e.out)
                   have X3A := Aside0.mk ((ST.out _ (blk_lt X3e.out) (own_ne RLe.out X3e.out (by decide))).trans X3e.out)
                   have RSA := Aside0.mk (Rows4.step R4e.out HLV.out (l := wiL (lv : Int) m l) (B := B) (cb := cb) hR (fun b hb2 hne => hs b hb2 (by rw [← SV.out]; exact hne)) (by rw [SV.out]; exact ho))
                   have CMA := Aside0.mk (CMe.out.kept (grown_stay hb hs) (CMe.out.own RLe.out))
                   clear hR ho hb hs
                   have hOld := hHeld
                   clear hHeld
                   refine hK.out _ _ (⟨(ST.out _ (blk_lt hOld.1) (own_ne RLe.out hOld.1 (by decide))).trans hOld.1, (ST.out _ (blk_lt hOld.2) (own_ne RLe.out hOld.2 (by decide))).trans hOld.2⟩) (fun hHeld => ?_)
                   clear hOld hK K
                   refine norm_ (a' := ?_) ?_ ?_
                   rotate_left
                   ·show Act.put _ (some 189) _ = _
                    simp only [Act.put, List.setIfInBounds_toArray, List.set_cons_zero, List.set_cons_succ, i64_w, i32_w]
                    rfl
                   refine pure_ (i := 9) (N := (some 191)) (v := ?_) (a' := ?_) #[true, true, true, true, true, true, true, true, true, true, false] rfl rfl (by kernel_rfl) (fun _ _ _ h => h) (Or.inl ⟨by rfl, ?_⟩) ?_ ?_
                   rotate_left
                   ·intro w'
                    go_simp
                    with_reducible rfl
                   rotate_left
                   ·simp only [Act.put, List.setIfInBounds_toArray, List.set_cons_zero, List.set_cons_succ, i64_w, i32_w]
                    rfl
                   have hfz := blk_frozen hHeld.1 (3 + lv)
                   have hcz := vcell hHeld.1 lv HLV.out
                   have XA1 := Aside0.mk hHeld.1
                   refine last_ (i := 10) (N := none) #[true, true, true, true, true, true, true, true, true, true, true] rfl rfl (by kernel_rfl) (by decide) (fun K hK => ?_)
                   refine skip_ (w1 := wA.setCell ⟨w.heap.size, 3 + lv, none⟩ (.slice B (wiL (lv : Int) m l).length cb)) (by rfl) rfl (by go_simp) ?_
                   try clear hHeld
                   refine hK.out _ _ ?_
                   clear hK K
                   have X1n := Aside0.mk (show (wA.setCell ⟨w.heap.size, 3 + lv, none⟩ (.slice B (wiL (lv : Int) m l).length cb)).heap[w.heap.size]? = some (.cells (vCs (y.set lv (wiL (lv : Int) m l)) (q.set lv B cb)) 26 (0, 0)) from five_set XA1.out _ (vCs_set y q lv HLV.out (wiL (lv : Int) m l) (B) (cb)))
                   have X2n := Aside0.mk (blk_far X2A.out (p := ⟨w.heap.size, 3 + lv, none⟩) (show g2 ≠ w.heap.size by have := N2.out; omega) (.slice B (wiL (lv : Int) m l).length cb))
                   have X3n := Aside0.mk (blk_far X3A.out (p := ⟨w.heap.size, 3 + lv, none⟩) (show g3 ≠ w.heap.size by have := N2.out; have := N3.out; omega) (.slice B (wiL (lv : Int) m l).length cb))
                   have R4n := Aside0.mk (Rows4.set RSA.out XA1.out (by decide) (3 + lv) (.slice B (wiL (lv : Int) m l).length cb))
                   have HBn := Aside0.mk (below_set (j := 3 + lv) (v := .slice B (wiL (lv : Int) m l).length cb) HA_.out (Nat.le_refl _))
                   have CMn := Aside0.mk (CMA.out.kept (grown_cell wA w.heap.size (3 + lv) (.slice B (wiL (lv : Int) m l).length cb)) (fun e => NG1.out e.symm))
                   clear hfz hcz
                   generalize wA.setCell ⟨w.heap.size, 3 + lv, none⟩ (.slice B (wiL (lv : Int) m l).length cb) = wZ at *
                   refine done_ (by kernel_rfl) ?_
                   go_wp2_with fail
                   have GVn := Aside0.mk (show comeV (y.set lv (wiL (lv : Int) m l)) (e.added.drop (k + 1)) = (u, r) by
                    rw [LE.out, ← come_yes KL.out EM.out.symm CZ.out]; exact CV.out)
                   have OKn := Aside0.mk (show okS (y.set lv (wiL (lv : Int) m l)) (100000 + (k + 1)) by rw [LE.out]; exact OKS.out.come HLV.out MP.out CZ.out)
                   have CMx := Aside0.mk (show Cnt wZ gm (n + 1) (cntF (catV (y.set lv (wiL (lv : Int) m l)) 4)) by
                    rw [LE.out, ← cnt_wi y HLV.out (lv : Int) m, CCE.out, CE.out]; exact CMn.out)
                   have ew : wrap64 ((k : Int) + 1) = ((k + 1 : Nat) : Int) := by have h1 := KL.out; have h2 := HLA.out; unfold wrap64; omega
                   try rw [ew]
                   rw [← HAX.out]
                   clear ew
                   go_roundg z5
                   case measure => omega
                   case rel => exact ⟨k + 1, n + 1, _, _, rfl, ⟨by have := HK5.out; omega⟩, HBn, X1n, X2n, X3n, R4n, GVn, OKn, CMx, ⟨by have := CN.out; omega⟩⟩
                  | false =>
                   have p9 : Op.bytesLess x.f3.toList m.f3.toList = true ∨ x.f3.toList = m.f3.toList := le_less.mpr hg
                   have r9 : (Op.bytesLess x.f3.toList m.f3.toList || x.f3.toList == m.f3.toList) = true := by rw [Bool.or_eq_true, beq_iff_eq]; exact p9
                   have BF := Aside0.mk (show befP (lv : Int) m (l.getD k5 z58) by rw [← EA.out]; exact .inr ⟨LV.out, hg⟩)
                   go_wp2_with fail
                   go_quiet (fail)
                   go_wp2_with fail
                   try rw [ew6]
                   rw [← HAX6.out]
                   clear ew6
                   go_roundg q6
                   case measure => omega
                   case rel => exact ⟨k5 + 1, rfl, ⟨by have := HK6.out; omega⟩, ⟨pw_below_drewN HBW.out nq⟩, ⟨fun j hj => by
                    by_cases e : j = k5
                    ·subst e; exact BF.out
                    ·exact HJ.out j (by omega)⟩⟩
           | succ z =>
            have hi : i < 4 := by have := HK3.out; omega
            have HI := Aside0.mk hi
            have d0 : decide ((i : Int) < 4) = true := decide_eq_true (by omega)
            have hx : ∀ W : World, (Instr.index 24 (.agg #[.slice q.a0 y.l0.length q.c0, .slice q.a1 y.l1.length q.c1, .slice q.a2 y.l2.length q.c2, .slice q.a3 y.l3.length q.c3]) (.int .i64 (i : Int))).run Try.prog W = .ok (.slice (q.a i) (y.lv i).length (q.c i)) W := fun W => idx_lv y q i hi W
            obtain ⟨l, hl⟩ : ∃ l, y.lv i = l := ⟨_, rfl⟩
            rw [hl] at hx
            have LE := Aside0.mk hl
            clear hl hi
            go_wp2_with fail
            go_loopg [18, 108] l.length (fun kq v18 v108 w' => ∃ k : Nat, v108 = .int .i64 (k : Int) ∧ Aside0 (kq + k = l.length) ∧ Aside0 (Below w.heap.size w w') ∧ Aside0 (w'.heap[w.heap.size]? = some (.cells (vCs y q) 26 (0, 0))) ∧ Aside0 (w'.heap[g2]? = some (.cells (eCs e A1 c1 A2 c2) 70 (0, 0))) ∧ Aside0 (w'.heap[g3]? = some (.cells #[.int .u64 0, .int .u64 0, .int .u64 0, .slice none 0 0, .slice none 0 0, .slice none 0 0, .slice none 0 0] 26 (0, 0))) ∧ Aside0 (Rows4 w' w.heap.size y q) ∧ Aside0 (Cnt w' gm (catV y i ++ l.take k).length (cntF (catV y i ++ l.take k))))
            case atStart => exact ⟨0, rfl, ⟨by omega⟩, HB, X1, X2, X3, R4, by rw [List.take_zero, List.append_nil]; exact CM⟩
            case round =>
             clear HB X1 X2 X3 R4 CM
             obtain ⟨k, rfl, HKK, HB, X1, X2, X3, R4, CM⟩ := hrel
             cases gk with
             | zero =>
              have ek : k = l.length := by have := HKK.out; omega
              subst ek
              have d0 : decide ((l.length : Int) < (l.length : Int)) = false := by simp
              rw [List.take_length] at CM
              go_wp2_with fail
              have ew : wrap64 ((i : Int) + 1) = ((i + 1 : Nat) : Int) := by have h1 := HI.out; unfold wrap64; omega
              try rw [ew]
              clear ew
              go_roundg z
              case measure => omega
              case rel => exact ⟨i + 1, rfl, ⟨by have := HK3.out; omega⟩, HB, X1, X2, X3, R4, by rw [catV, LE.out]; exact CM⟩
             | succ g =>
              have hk : k < l.length := by have := HKK.out; omega
              have HKL := Aside0.mk hk
              have d0 : decide ((k : Int) < (l.length : Int)) = true := decide_eq_true (by omega)
              have d1 : decide (k < l.length) = true := decide_eq_true hk
              have p0 : 0 ≤ (k : Int) := Int.natCast_nonneg _
              have p1 : (k : Int) < (l.length : Int) := by omega
              have HC1 := Aside0.mk (R4.out.vc i HI.out).1
              rw [LE.out] at HC1
              obtain ⟨ad, ea, ha0, ha1, ha2, ha3, ha4, ha5, ha6⟩ := at_T58 HC1.out (k : Int) p0 p1
              rw [Int.toNat_natCast] at ha0 ha1 ha2 ha3 ha4 ha5 ha6
              have EM := Aside0.mk (show rd_T58 l (k : Int) = l.getD k z58 by unfold rd_T58; rw [Int.toNat_natCast])
              generalize rd_T58 l (k : Int) = m at *
              have MW := Aside0.mk (show 0 ≤ m.f0 ∧ m.f0 ≤ 18446744073709551615 from OKS.out.2.1 i HI.out m (by rw [LE.out, EM.out]; exact getD_mem l z58 hk))
              have TS := Aside0.mk (show l.take (k + 1) = l.take k ++ [m] by rw [EM.out]; exact take_snoc l z58 hk)
              obtain ⟨L, hL⟩ : ∃ L, L = catV y i ++ l.take k := ⟨_, rfl⟩
              rw [← hL] at CM
              have LLE := Aside0.mk hL
              have LN := Aside0.mk (show L.length ≤ 500000 by
               have h1 := catV_le (v := y) (i := i) (n := 100000) (fun j hj => OKS.out.2.2 j (by have := HI.out; omega)); have h2 := HI.out; have h3 := OKS.out.2.2 i h2; rw [LE.out] at h3; rw [hL, List.length_append, List.length_take]; omega)
              clear hL hk
              rw [ea]
              have HAX := Aside0.mk ea
              clear ea
              have hb1 := Aside0.mk ((Below.refl wr.heap.size wr).alloc (Nat.le_refl _) (.cells (mCs m) 58))
              have HB1 := Aside0.mk (below_step HB.out hb1.out)
              have CM1 := Aside0.mk (CM.out.below hb1.out)
              have BM := Aside0.mk (blk_new wr (.cells (mCs m) 58))
              have X11 := Aside0.mk (blk_below X1.out hb1.out)
              have X21 := Aside0.mk (blk_below X2.out hb1.out)
              have X31 := Aside0.mk (blk_below X3.out hb1.out)
              have R41 := Aside0.mk (R4.out.below hb1.out)
              have NM := Aside0.mk (show some wr.heap.size ≠ some gm from fun e => by injection e with e; have := CM.out.lt; omega)
              have hlk := CM1.out.look (k := m.f0) (wf_u64 MW.out.1 MW.out.2)
              have c0 := (cntF_le L m.f0).1
              have c1 : cntF L m.f0 ≤ 500000 := by have := (cntF_le L m.f0).2; have := LN.out; omega
              have CE := Aside0.mk (cnt_snoc L m)
              obtain ⟨cc, hcc⟩ : ∃ c, cntF L m.f0 = c := ⟨_, rfl⟩
              rw [hcc] at hlk c0 c1 CE
              have ew1 : wrap64 (cc + 1) = cc + 1 := by unfold wrap64; omega
              have ew2 : IntKind.i64.wrap (cc + 1) = cc + 1 := by rw [IntKind.wrap_i64]; omega
              clear hcc hb1 HB X1 X2 X3 R4 CM HC1
              go_wp2_with (first | (at_mapUpdate; refine cnt_put _ rfl _ _ _ rfl rfl CM1.out (by have := LN.out; unfold maxLen; omega) m.f0 (cc + 1) rfl rfl (wf_u64 MW.out.1 MW.out.2) (by omega) (by omega) ?_; intro w2 ho hg; rw [CE.out] at ho; have HB2 := Aside0.mk (pw_below_grown HB1.out (some gm) HB1.out.size hg (fun k hk => by cases hk; exact GM.out)); have X12 := Aside0.mk (blk_grown X11.out hg NG1.out); have X22 := Aside0.mk (blk_grown X21.out hg NG2.out); have X32 := Aside0.mk (blk_grown X31.out hg NG3.out); have BM2 := Aside0.mk (blk_grown BM.out hg NM.out); have R42 := Aside0.mk (R41.out.grown CM1.out hg); have CM2 := Aside0.mk ho; clear hg ho hlk CM1 HB1 R41 X11 X21 X31 BM) | fail)
              have ew : wrap64 ((k : Int) + 1) = ((k + 1 : Nat) : Int) := by have h1 := HKL.out; have h2 := OKS.out.2.2 i HI.out; rw [LE.out] at h2; unfold wrap64; omega
              try rw [ew]
              rw [← HAX.out]
              clear ew
              go_roundg g
              case measure => omega
              case rel => exact ⟨k + 1, rfl, ⟨by have := HKK.out; omega⟩, HB2, X12, X22, X32, R42, by rw [TS.out, ← List.append_assoc, ← LLE.out, List.length_append]; exact CM2⟩
         | succ zq =>
          have KL := Aside0.mk (show k < e.gone.length by have := HK.out; omega)
          have d4 : decide ((k : Int) < (e.gone.length : Int)) = true := decide_eq_true (by have := HK.out; omega)
          have d5 : decide (k < e.gone.length) = true := decide_eq_true (by have := HK.out; omega)
          have p0 : 0 ≤ (k : Int) := Int.natCast_nonneg _
          have p1 : (k : Int) < (e.gone.length : Int) := by have := HK.out; omega
          obtain ⟨ad, ea, ha0, ha1⟩ := at_T84 (Kd.C_below H1.out HB.out) (k : Int) p0 p1
          have hmx := getD_mem e.gone z84 (k := k) (by have := HK.out; omega)
          have EM := Aside0.mk (show rd_T84 e.gone (k : Int) = e.gone.getD k z84 by unfold rd_T84; rw [Int.toNat_natCast])
          rw [← EM.out] at hmx
          generalize rd_T84 e.gone (k : Int) = x at *
          have hlx := LP.out.1 x hmx
          obtain ⟨lv, hlv⟩ : ∃ lv : Nat, x.f0 = (lv : Int) := ⟨x.f0.toNat, by have := hlx.1; omega⟩
          have HLV := Aside0.mk (show lv < 4 by have := hlx.2; omega)
          have l0_ : 0 ≤ (lv : Int) := Int.natCast_nonneg _
          have l1_ : (lv : Int) < 4 := by have := HLV.out; omega
          obtain ⟨f0, f1⟩ := x
          dsimp only at hlv ha0 ha1
          subst hlv
          rw [ea]
          have HAX := Aside0.mk ea
          rw [Int.toNat_natCast] at ha0 ha1
          clear hmx hlx ea
          go_upto_region 13 with (fail)
          have HB5 := Aside0.mk (below_alloc HB.out (.cells (gCs ⟨(lv : Int), f1⟩) 84))
          have X15 := Aside0.mk (blk_alloc X1.out (.cells (gCs ⟨(lv : Int), f1⟩) 84))
          have X25 := Aside0.mk (blk_alloc X2.out (.cells (gCs ⟨(lv : Int), f1⟩) 84))
          have X35 := Aside0.mk (blk_alloc X3.out (.cells (gCs ⟨(lv : Int), f1⟩) 84))
          have X5 := Aside0.mk (blk_new wr (.cells (gCs ⟨(lv : Int), f1⟩) 84))
          have R45 := Aside0.mk (R4.out.below ((Below.refl wr.heap.size wr).alloc (Nat.le_refl _) (.cells (gCs ⟨(lv : Int), f1⟩) 84)))
          generalize wr.heap.size = g5 at *
          generalize wr.alloc (.cells (gCs ⟨(lv : Int), f1⟩) 84) = w5 at *
          have hv := vcell X15.out lv HLV.out
          obtain ⟨l, hl⟩ : ∃ l, l = y.lv lv := ⟨_, rfl⟩
          rw [← hl] at hv
          have LE := Aside0.mk hl
          have RL := Aside0.mk (show Kd.R k58 58 w5 w.heap.size (fun _ => True) (.slice (q.a lv) l.length (q.c lv)) l by rw [hl]; exact R45.out.1 lv HLV.out)
          have ND := Aside0.mk (show (nums l).Nodup by rw [hl]; exact OKS.out.1.lv HLV.out)
          have LL := Aside0.mk (show l.length ≤ 1000000000 by rw [hl]; have := OKS.out.2.2 lv HLV.out; omega)
          clear hl ha0 ha1 HB X1 X2 X3 R4
          have y0_ : w5.cell? ⟨g5, 0, none⟩ = some (.int .i64 (lv : Int)) := (blk_cell X5.out 0).trans rfl
          go_wp2_with fail
          refine (indexF_calls _ (q.a lv) (q.c lv) l ⟨(lv : Int), f1⟩ g5 (Kd.R_reads' RL.out).2.2 X5.out).mono ?_
          rintro x9 w6 ⟨i9, rfl, hi9, hb⟩
          have HB6 := Aside0.mk (below_step HB5.out hb)
          have X16 := Aside0.mk (blk_below X15.out hb)
          have X26 := Aside0.mk (blk_below X25.out hb)
          have X36 := Aside0.mk (blk_below X35.out hb)
          have X56 := Aside0.mk (blk_below X5.out hb)
          have R46 := Aside0.mk (R45.out.below hb)
          have RL6 := Aside0.mk (Kd.R_below RL.out hb)
          clear hb y0_ hv HB5 X15 X25 X35 X5 R45 RL
          rcases hi9 with ⟨rfl, hno⟩ | ⟨k9, rfl, hk9, hf9, _⟩
          ·have NO := Aside0.mk hno
           clear hno
           have AV2 : (u, r) = (zeroV, 4) := GV.out.symm.trans (gone_no KL.out EM.out.symm (by rw [← LE.out]; exact nums_not NO.out))
           injection AV2 with e1_ e2_
           have E1 := Aside0.mk e1_
           have E2 := Aside0.mk e2_
           clear e1_ e2_
           go_wp2_with (first | (refine st_arr rfl 26 _ _ rfl g3 26 ?hx #[.int .u64 0, .int .u64 0, .int .u64 0, .slice none 0 0, .slice none 0 0, .slice none 0 0, .slice none 0 0] ?hy _ X36.out (by rw [size26]; rfl) rfl (by simp [Value.oneCell']) ?_; (case hx => rfl); (case hy => rfl); intro w7 hb7 hbb hk7 hs7; have HB7 := Aside0.mk (hbb _ _ HB6.out (show w.heap.size ≤ g3 by have := N2.out; have := N3.out; omega)); have X7 := Aside0.mk hb7; clear hb7 hbb hk7 hs7) | fail)
           have r0 : w7.cell? ⟨g3, 0, none⟩ = some (.int .u64 0) := (blk_cell X7.out 0).trans rfl
           have r1 : w7.cell? ⟨g3, 1, none⟩ = some (.int .u64 0) := (blk_cell X7.out 1).trans rfl
           have r2 : w7.cell? ⟨g3, 2, none⟩ = some (.int .u64 0) := (blk_cell X7.out 2).trans rfl
           have r3 : w7.cell? ⟨g3, 3, none⟩ = some (.slice none 0 0) := (blk_cell X7.out 3).trans rfl
           have r4 : w7.cell? ⟨g3, 4, none⟩ = some (.slice none 0 0) := (blk_cell X7.out 4).trans rfl
           have r5 : w7.cell? ⟨g3, 5, none⟩ = some (.slice none 0 0) := (blk_cell X7.out 5).trans rfl
           have r6 : w7.cell? ⟨g3, 6, none⟩ = some (.slice none 0 0) := (blk_cell X7.out 6).trans rfl
           have e1_ := E1.out
           have e2_ := E2.out
           subst e1_
           subst e2_
           exact bodyPost_ret (v := .tuple #[.agg #[.int .u64 0, .int .u64 0, .int .u64 0, .slice none 0 0, .slice none 0 0, .slice none 0 0, .slice none 0 0], .int .i64 4]) (by simp [results, Try.results54, go_sem, r0, r1, r2, r3, r4, r5, r6]) rfl ⟨firstP, rfl, Rows4.zero _ _, HB7.out⟩
          ·have HK9 := Aside0.mk hk9
           have HF9 := Aside0.mk (show (l.getD k9 z58).f0 = f1 from hf9)
           obtain ⟨gr, hgr⟩ : ∃ gr, q.a lv = some ⟨gr, 0, none⟩ := by
            rcases R58_open RL6.out with ⟨_, h2, _⟩ | ⟨g, cur, inner, ha, _⟩
            ·omega
            ·exact ⟨g, ha⟩
           rw [hgr] at RL6
           have QA := Aside0.mk hgr
           have SV := Aside0.mk (show slV y q lv = .slice (some ⟨gr, 0, none⟩) l.length (q.c lv) by unfold slV; rw [hgr, ← LE.out])
           have RLC := Aside0.mk (Kd.R_reads' RL6.out).2.1
           have d6 : decide ((k9 : Int) < 0) = false := decide_eq_false (by omega)
           clear hk9 hf9 hgr
           go_upto_region 16 with (fail)
           have ewk : wrap64 ((k9 : Int) + 1) = ((k9 + 1 : Nat) : Int) := by have h1 := HK9.out; have h2 := LL.out; unfold wrap64; omega
           refine start_ (n := 14) (S := (fun w' => w'.heap[w.heap.size]? = some (.cells (vCs y q) 26 (0, 0)) ∧ w'.heap[g5]? = some (.cells (gCs ⟨(lv : Int), f1⟩) 84 (0, 0)))) (ds := [13]) #[false, false, false, false, false, false, false, false, false, false, false, false, false, false] (by kernel_rfl) rfl rfl ⟨blk_drew X16.out, blk_drew X56.out⟩ (fun hHeld => ?_)
           have X2d := Aside0.mk (blk_drew X26.out)
           have X3d := Aside0.mk (blk_drew X36.out)
           have HBd := Aside0.mk (below_drew HB6.out)
           have R4d := Aside0.mk (R46.out.below (below_drew (Below.refl _ _)))
           have RLd := Aside0.mk (Kd.R_below RL6.out (below_drew (Below.refl _ _)))
           clear X26 X36 HB6 R46 RL6 X16 X56
           generalize w6.drew = wd at *
           refine pure_ (i := 0) (N := (some 86)) (v := ?_) (a' := ?_) #[true, false, false, false, false, false, false, false, false, false, false, false, false, false] rfl rfl (by kernel_rfl) (fun _ _ _ h => h) (Or.inl ⟨by rfl, ?_⟩) ?_ ?_
           rotate_left
           ·intro w'
            go_simp
            with_reducible rfl
           rotate_left
           ·simp only [Act.put, List.setIfInBounds_toArray, List.set_cons_zero, List.set_cons_succ, i64_w, i32_w]
            rfl
           refine take_ (i := 1) (N := (some 87)) (v := ?_) (a' := ?_) #[true, true, false, false, false, false, false, false, false, false, false, false, false, false] rfl rfl (by kernel_rfl) (fun _ _ _ h => h) (Or.inl ⟨by rfl, ?_⟩) hHeld ?_ ?_
           rotate_left
           ·rintro w' ⟨s0, s1⟩
            have z0 : w'.cell? ⟨g5, 0, none⟩ = some (.int .i64 (lv : Int)) := (blk_cell s1 0).trans rfl
            go_simp
            with_reducible rfl
           rotate_left
           ·simp only [Act.put, List.setIfInBounds_toArray, List.set_cons_zero, List.set_cons_succ, i64_w, i32_w]
            rfl
           refine pure_ (i := 2) (N := (some 88)) (v := ?_) (a' := ?_) #[true, true, true, false, false, false, false, false, false, false, false, false, false, false] rfl rfl (by kernel_rfl) (fun _ _ _ h => h) (Or.inl ⟨by rfl, ?_⟩) ?_ ?_
           rotate_left
           ·intro w'
            go_simp
            with_reducible rfl
           rotate_left
           ·simp only [Act.put, List.setIfInBounds_toArray, List.set_cons_zero, List.set_cons_succ, i64_w, i32_w]
            rfl
           refine take_ (i := 3) (N := (some 89)) (v := ?_) (a' := ?_) #[true, true, true, true, false, false, false, false, false, false, false, false, false, false] rfl rfl (by kernel_rfl) (fun _ _ _ h => h) (Or.inl ⟨by rfl, ?_⟩) hHeld ?_ ?_
           rotate_left
           ·rintro w' ⟨s0, s1⟩
            have z0 : w'.cell? ⟨g5, 0, none⟩ = some (.int .i64 (lv : Int)) := (blk_cell s1 0).trans rfl
            go_simp
            with_reducible rfl
           rotate_left
           ·simp only [Act.put, List.setIfInBounds_toArray, List.set_cons_zero, List.set_cons_succ, i64_w, i32_w]
            rfl
           refine pure_ (i := 4) (N := (some 90)) (v := ?_) (a' := ?_) #[true, true, true, true, true, false, false, false, false, false, false, false, false, false] rfl rfl (by kernel_rfl) (fun _ _ _ h => h) (Or.inl ⟨by rfl, ?_⟩) ?_ ?_
           rotate_left
           ·intro w'
            go_simp
            with_reducible rfl
           rotate_left
           ·simp only [Act.put, List.setIfInBounds_toArray, List.set_cons_zero, List.set_cons_succ, i64_w, i32_w]
            rfl
           refine pure_ (i := 5) (N := (some 91)) (v := ?_) (a' := ?_) #[true, true, true, true, true, true, false, false, false, false, false, false, false, false] rfl rfl (by kernel_rfl) (fun _ _ _ h => h) (Or.inl ⟨by rfl, ?_⟩) ?_ ?_
           rotate_left
           ·intro w'
            go_simp
            with_reducible rfl
           rotate_left
           ·simp only [Act.put, List.setIfInBounds_toArray, List.set_cons_zero, List.set_cons_succ, i64_w, i32_w]
            rfl
           refine take_ (i := 6) (N := (some 92)) (v := ?_) (a' := ?_) #[true, true, true, true, true, true, true, false, false, false, false, false, false, false] rfl rfl (by kernel_rfl) (fun _ _ _ h => h) (Or.inl ⟨by rfl, ?_⟩) hHeld ?_ ?_
           rotate_left
           ·rintro w' ⟨s0, s1⟩
            have z0 : w'.cell? ⟨w.heap.size, 3 + lv, none⟩ = some (.slice (some ⟨gr, 0, none⟩) l.length (q.c lv)) := by have h := vcell s0 lv HLV.out; rw [QA.out, ← LE.out] at h; exact h
            go_simp
            with_reducible rfl
           rotate_left
           ·simp only [Act.put, List.setIfInBounds_toArray, List.set_cons_zero, List.set_cons_succ, i64_w, i32_w]
            rfl
           refine pure_ (i := 7) (N := (some 93)) (v := ?_) (a' := ?_) #[true, true, true, true, true, true, true, true, false, false, false, false, false, false] rfl rfl (by kernel_rfl) (fun _ _ _ h => h) (Or.inl ⟨by rfl, ?_⟩) ?_ ?_
           rotate_left
           ·intro w'
            go_simp
            with_reducible rfl
           rotate_left
           ·simp only [Act.put, List.setIfInBounds_toArray, List.set_cons_zero, List.set_cons_succ, i64_w, i32_w]
            rfl
           refine pure_ (i := 8) (N := (some 94)) (v := ?_) (a' := ?_) #[true, true, true, true, true, true, true, true, true, false, false, false, false, false] rfl rfl (by kernel_rfl) (fun _ _ _ h => h) (Or.inl ⟨by rfl, ?_⟩) ?_ ?_
           rotate_left
           ·intro w'
            go_simp
            with_reducible rfl
           rotate_left
           ·simp only [Act.put, List.setIfInBounds_toArray, List.set_cons_zero, List.set_cons_succ, i64_w, i32_w]
            rfl
           refine pure_ (i := 9) (N := (some 95)) (v := ?_) (a' := ?_) #[true, true, true, true, true, true, true, true, true, true, false, false, false, false] rfl rfl (by kernel_rfl) (fun _ _ _ h => h) (Or.inl ⟨by rfl, ?_⟩) ?_ ?_
           rotate_left
           ·intro w'
            go_simp
            with_reducible rfl
           rotate_left
           ·simp only [Act.put, List.setIfInBounds_toArray, List.set_cons_zero, List.set_cons_succ, i64_w, i32_w]
            rfl
           refine pure_ (i := 11) (N := (some 97)) (v := ?_) (a' := ?_) #[true, true, true, true, true, true, true, true, true, true, false, true, false, false] rfl rfl (by kernel_rfl) (fun _ _ _ h => h) (Or.inl ⟨by rfl, ?_⟩) ?_ ?_
           rotate_left
           ·intro w'
            go_simp
            with_reducible rfl
           rotate_left
           ·simp only [Act.put, List.setIfInBounds_toArray, List.set_cons_zero, List.set_cons_succ, i64_w, i32_w]
            rfl
           rw [ewk]
           refine one_ (i := 10) (N := (some 96)) #[true, true, true, true, true, true, true, true, true, true, true, true, false, false] rfl rfl (by kernel_rfl) (by decide) (fun K hK => ?_)
           refine goes_ Try.func106 (by kernel_rfl) rfl #[.slice (some ⟨gr, 0, none⟩) l.length (q.c lv), .int .i64 (k9 : Int), .int .i64 ((k9 + 1 : Nat) : Int)] (by rfl) rfl rfl (by (try simp only [List.map_toArray, List.map_cons, List.map_nil]); first | done | rfl) ?_
           (with_reducible refine (delL_calls _ w.heap.size gr (q.c lv) k9 l f1 RLd.out HK9.out RLC.out LL.out HBd.out.size HF9.out ND.out).mono ?_)
           rintro e wA ⟨rfl, hR, hb, hs⟩
           refine ⟨_, rfl, ?_⟩
           have ST := Aside0.mk hs
           have HA_ := Aside0.mk (HBd.out.trans hb)
           have X2A := Aside0.mk ((ST.out _ (blk_lt X2d.out) (own_ne RLd.out X2d.out (by decide))).trans X2d.out)
           have X3A := Aside0.mk ((ST.out _ (blk_lt X3d.out) (own_ne RLd.out X3d.out (by decide))).trans X3d.out)
           have RSA := Aside0.mk (Rows4.step R4d.out HLV.out (l := woL l f1) (B := some ⟨gr, 0, none⟩) (cb := q.c lv) hR (fun b hb2 hne => hs b hb2 (by rw [← SV.out]; exact hne)) (.inl (by rw [SV.out]; rfl)))
           clear hR hb hs
           have hOld := hHeld
           clear hHeld
           refine hK.out _ _ (⟨(ST.out _ (blk_lt hOld.1) (own_ne RLd.out hOld.1 (by decide))).trans hOld.1, (ST.out _ (blk_lt hOld.2) (own_ne RLd.out hOld.2 (by decide))).trans hOld.2⟩) (fun hHeld => ?_)
           clear hOld hK K
           refine norm_ (a' := ?_) ?_ ?_
           rotate_left
           ·show Act.put _ (some 96) _ = _
            simp only [Act.put, List.setIfInBounds_toArray, List.set_cons_zero, List.set_cons_succ, i64_w, i32_w]
            rfl
           refine pure_ (i := 12) (N := (some 98)) (v := ?_) (a' := ?_) #[true, true, true, true, true, true, true, true, true, true, true, true, true, false] rfl rfl (by kernel_rfl) (fun _ _ _ h => h) (Or.inl ⟨by rfl, ?_⟩) ?_ ?_
           rotate_left
           ·intro w'
            go_simp
            with_reducible rfl
           rotate_left
           ·simp only [Act.put, List.setIfInBounds_toArray, List.set_cons_zero, List.set_cons_succ, i64_w, i32_w]
            rfl
           have hfz := blk_frozen hHeld.1 (3 + lv)
           have hcz := vcell hHeld.1 lv HLV.out
           have XA1 := Aside0.mk hHeld.1
           refine last_ (i := 13) (N := none) #[true, true, true, true, true, true, true, true, true, true, true, true, true, true] rfl rfl (by kernel_rfl) (by decide) (fun K hK => ?_)
           refine skip_ (w1 := wA.setCell ⟨w.heap.size, 3 + lv, none⟩ (.slice (some ⟨gr, 0, none⟩) (woL l f1).length (q.c lv))) (by rfl) rfl (by go_simp) ?_
           try clear hHeld
           refine hK.out _ _ ?_
           clear hK K
           have X1n := Aside0.mk (show (wA.setCell ⟨w.heap.size, 3 + lv, none⟩ (.slice (some ⟨gr, 0, none⟩) (woL l f1).length (q.c lv))).heap[w.heap.size]? = some (.cells (vCs (y.set lv (woL l f1)) (q.set lv (some ⟨gr, 0, none⟩) (q.c lv))) 26 (0, 0)) from five_set XA1.out _ (vCs_set y q lv HLV.out (woL l f1) (some ⟨gr, 0, none⟩) (q.c lv)))
           have X2n := Aside0.mk (blk_far X2A.out (p := ⟨w.heap.size, 3 + lv, none⟩) (show g2 ≠ w.heap.size by have := N2.out; omega) (.slice (some ⟨gr, 0, none⟩) (woL l f1).length (q.c lv)))
           have X3n := Aside0.mk (blk_far X3A.out (p := ⟨w.heap.size, 3 + lv, none⟩) (show g3 ≠ w.heap.size by have := N2.out; have := N3.out; omega) (.slice (some ⟨gr, 0, none⟩) (woL l f1).length (q.c lv)))
           have R4n := Aside0.mk (Rows4.set RSA.out XA1.out (by decide) (3 + lv) (.slice (some ⟨gr, 0, none⟩) (woL l f1).length (q.c lv)))
           have HBn := Aside0.mk (below_set (j := 3 + lv) (v := .slice (some ⟨gr, 0, none⟩) (woL l f1).length (q.c lv)) HA_.out (Nat.le_refl _))
           clear hfz hcz
           generalize wA.setCell ⟨w.heap.size, 3 + lv, none⟩ (.slice (some ⟨gr, 0, none⟩) (woL l f1).length (q.c lv)) = wZ at *
           refine done_ (by kernel_rfl) ?_
           go_wp2_with fail
           have GVn := Aside0.mk (show goneV (y.set lv (woL l f1)) (e.gone.drop (k + 1)) e.added = (u, r) by
            rw [LE.out, ← gone_yes KL.out EM.out.symm (by rw [← LE.out]; exact nums_at HK9.out HF9.out)]; exact GV.out)
           have OKn := Aside0.mk (show okS (y.set lv (woL l f1)) 100000 by rw [LE.out]; exact OKS.out.go HLV.out f1)
           have ew : wrap64 ((k : Int) + 1) = ((k + 1 : Nat) : Int) := by have h1 := KL.out; have h2 : e.gone.length ≤ 9223372036854775807 := H1.out.2.1; unfold wrap64; omega
           try rw [ew]
           rw [← HAX.out]
           clear ew
           go_roundg zq
           case measure => omega
           case rel => exact ⟨k + 1, _, _, rfl, ⟨by have := HK.out; omega⟩, HBn, X1n, X2n, X3n, R4n, GVn, OKn⟩
       ·rw [if_neg hl]
        have BAD := Aside0.mk (show ¬ askE v e from fun h => hl h.2)
        clear hl
        have XC3 := X33; have HBx := HB3
        go_wp2_with (first | (refine st_arr rfl 26 _ _ rfl g3 26 ?hx #[.int .u64 0, .int .u64 0, .int .u64 0, .slice none 0 0, .slice none 0 0, .slice none 0 0, .slice none 0 0] ?hy _ XC3.out (by rw [size26]; rfl) rfl (by simp [Value.oneCell']) ?_; (case hx => rfl); (case hy => rfl); intro w7 hb7 hbb hk7 hs7; have HB7 := Aside0.mk (hbb _ _ HBx.out (show w.heap.size ≤ g3 by have := N2.out; have := N3.out; omega)); have X7 := Aside0.mk hb7; clear hb7 hbb hk7 hs7) | fail)
        have r0 : w7.cell? ⟨g3, 0, none⟩ = some (.int .u64 0) := (blk_cell X7.out 0).trans rfl
        have r1 : w7.cell? ⟨g3, 1, none⟩ = some (.int .u64 0) := (blk_cell X7.out 1).trans rfl
        have r2 : w7.cell? ⟨g3, 2, none⟩ = some (.int .u64 0) := (blk_cell X7.out 2).trans rfl
        have r3 : w7.cell? ⟨g3, 3, none⟩ = some (.slice none 0 0) := (blk_cell X7.out 3).trans rfl
        have r4 : w7.cell? ⟨g3, 4, none⟩ = some (.slice none 0 0) := (blk_cell X7.out 4).trans rfl
        have r5 : w7.cell? ⟨g3, 5, none⟩ = some (.slice none 0 0) := (blk_cell X7.out 5).trans rfl
        have r6 : w7.cell? ⟨g3, 6, none⟩ = some (.slice none 0 0) := (blk_cell X7.out 6).trans rfl
        have AV : applyV v e = (zeroV, 2) := by unfold applyV; exact if_neg BAD.out
        have AV2 : (u, r) = (zeroV, 2) := UR.out.symm.trans AV
        injection AV2 with e1_ e2_
        subst e1_
        subst e2_
        exact bodyPost_ret (v := .tuple #[.agg #[.int .u64 0, .int .u64 0, .int .u64 0, .slice none 0 0, .slice none 0 0, .slice none 0 0, .slice none 0 0], .int .i64 2]) (by simp [results, Try.results54, go_sem, r0, r1, r2, r3, r4, r5, r6]) rfl ⟨firstP, rfl, Rows4.zero _ _, HB7.out⟩
  | succ z =>
   have hi : i < 4 := by have := HK.out; omega
   have HI := Aside0.mk hi
   have d0 : decide ((i : Int) < 4) = true := decide_eq_true (by omega)
   have i0 : 0 ≤ (i : Int) := Int.natCast_nonneg _
   have i1 : (i : Int) < 4 := by omega
   have ew : wrap64 ((i : Int) + 1) = ((i + 1 : Nat) : Int) := by unfold wrap64; omega
   have hv := vcell X1.out i hi
   obtain ⟨l, hl⟩ : ∃ l, l = v.lv i := ⟨_, rfl⟩
   have EI := Aside0.mk hl
   have hq := HQ.out i (Nat.le_refl _) hi
   have CV := Aside0.mk (show k58.C wr (q.a i) l.length l by rw [hl, hq.1]; exact ((HC.out.below HB.out) i hi).1)
   have CC := Aside0.mk (show l.length ≤ q.c i by rw [hl, hq.2]; exact (HC.out i hi).2)
   have CL := Aside0.mk (show l.length ≤ 1000000000 by rw [hl]; have := HLN.out i hi; omega)
   rw [← hl] at hv
   clear hi hl hq
   go_wp2_with fail
   refine (clone_calls _ (q.a i) (q.c i) l CV.out CC.out CL.out).mono ?_
   rintro x w5 ⟨v5, rfl, hR, hb⟩
   obtain ⟨B', cb', hv5⟩ := Kd.R_slice hR
   subst hv5
   have RK5 := Aside0.mk (RK.out.snoc (cb := cb') (B := B') HI.out hb (by rw [← EI.out]; exact hR) HB.out.size)
   have HB5 := Aside0.mk (below_step HB.out hb)
   have X15 := Aside0.mk (blk_below X1.out hb)
   have X25 := Aside0.mk (blk_below X2.out hb)
   have X35 := Aside0.mk (blk_below X3.out hb)
   clear hv hR hb
   have hv := vcell X15.out i HI.out
   rw [← EI.out] at hv
   have ff := blk_frozen X15.out (3 + i)
   go_wp2_with fail
   have X1n := Aside0.mk (show (w5.setCell ⟨w.heap.size, 3 + i, none⟩ (.slice B' l.length cb')).heap[w.heap.size]? = some (.cells (vCs v (q.set i B' cb')) 26 (0, 0)) from five_set X15.out _ (by have h1 := vCs_set v q i HI.out l B' cb'; rw [show v.set i l = v by rw [EI.out]; exact Ver.set_self v i HI.out] at h1; exact h1))
   have X2n := Aside0.mk (blk_far X25.out (p := ⟨w.heap.size, 3 + i, none⟩) (show g2 ≠ w.heap.size by have := N2.out; omega) (.slice B' l.length cb'))
   have X3n := Aside0.mk (blk_far X35.out (p := ⟨w.heap.size, 3 + i, none⟩) (show g3 ≠ w.heap.size by have := N2.out; have := N3.out; omega) (.slice B' l.length cb'))
   have RKn := Aside0.mk (RK5.out.set X15.out (by decide) (3 + i) (.slice B' l.length cb'))
   have HBn := Aside0.mk (below_set (j := 3 + i) (v := .slice B' l.length cb') HB5.out (Nat.le_refl _))
   try rw [ew]
   clear ew ff hv
   go_roundg z
   case measure => omega
   case rel => exact ⟨i + 1, q.set i B' cb', rfl, ⟨by have := HK.out; omega⟩, RKn, ⟨fun j h1 h2 => by
    rw [Pl.set_a q i j HI.out h2, Pl.set_c q i j HI.out h2, if_neg (by omega), if_neg (by omega)]
    exact HQ.out j (by omega) h2⟩, HBn, X1n, X2n, X3n⟩
end Go.Proofs.Ytkjepfofiegcdaa.V
