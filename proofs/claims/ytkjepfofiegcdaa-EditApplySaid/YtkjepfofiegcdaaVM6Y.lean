import Derived.Test.YtkjepfofiegcdaaVM2Y
import Derived.Deep.MidRow
import Derived.Test.YtkjepfofiegcdaaVM5Y
import Derived.Test.YtkjepfofiegcdaaVJ2Y
/- The size of a level, whether a compaction is due, whether two are the same (freshetref14, freshetref16), walked. Conditions: options that may be. -/
namespace Go.Proofs.Ytkjepfofiegcdaa.V
set_option linter.unusedVariables false
set_option linter.unusedSimpArgs false
open Go.RowKit Go.Proofs.YtkjepfofiegcdaaW.PrintWords Go.Proofs.YtkjepfofiegcdaaW.PrintLast Go.Proofs.YtkjepfofiegcdaaW.PrintMore Go.Proofs.Ytkjepfofiegcdaa.PB14
end Go.Proofs.Ytkjepfofiegcdaa.V
/- freshetref16.Pick, walked. Conditions: none. -/
namespace Go.Proofs.Ytkjepfofiegcdaa.V
set_option linter.unusedVariables false
set_option linter.unusedSimpArgs false
open Go.RowKit Go.Proofs.YtkjepfofiegcdaaW.PrintWords Go.Proofs.YtkjepfofiegcdaaW.PrintLast Go.Proofs.YtkjepfofiegcdaaW.PrintMore Go.Proofs.Ytkjepfofiegcdaa.PB14
end Go.Proofs.Ytkjepfofiegcdaa.V
/- A table stored into a row of one's own; rows that may be written. Conditions: none. -/
namespace Go.Proofs.Ytkjepfofiegcdaa.V
set_option linter.unusedVariables false
set_option linter.unusedSimpArgs false
open Go.RowKit Go.Proofs.YtkjepfofiegcdaaW.PrintWords Go.Proofs.YtkjepfofiegcdaaW.PrintLast Go.Proofs.YtkjepfofiegcdaaW.PrintMore Go.Proofs.Ytkjepfofiegcdaa.PB14
/-- A row of tables of one's own that may be written, whatever stands in it. -/
def Rm (w : World) (base : Nat) (A : Option Addr) (n : Nat) : Prop := n = 0 ∨ ∃ g cur, A = some ⟨g, 0, none⟩ ∧ base ≤ g ∧ w.heap[g]? = some (.cells cur 58 (0, 0)) ∧ n * 7 ≤ cur.size
theorem Rm.of_R {w : World} {base : Nat} {ok : Nat → Prop} {A : Option Addr} {c : Nat} {xs : List S58} (h : Kd.R k58 58 w base ok (.slice A xs.length c) xs) : Rm w base A xs.length := by
  obtain ⟨_, inner, ⟨_, h2⟩, _⟩ := h
  rcases h2 with ⟨h2, h3⟩ | ⟨g, cap, cur, he, hb, hh, hnc, _, hcs, _⟩
  · exact .inl h3
  · injection he with ha _ _
    refine .inr ⟨g, cur, ha, hb, hh, ?_⟩
    rw [hcs]
    exact Nat.mul_le_mul_right _ hnc
theorem Rm.below {w w' : World} {base : Nat} {A : Option Addr} {n : Nat} (h : Rm w base A n) (hb : Below w.heap.size w w') : Rm w' base A n := by
  rcases h with h | ⟨g, cur, ha, hb', hh, hs⟩
  · exact .inl h
  · exact .inr ⟨g, cur, ha, hb', blk_below hh hb, hs⟩
theorem below_setCells {B g : Nat} {w0 w : World} (h : Below B w0 w) (hg : B ≤ g) (o : Nat) (vs : List Value) : Below B w0 (w.setCells g o vs) := by
  obtain ⟨h1, h2, h3, h4⟩ := setCells_same g vs o w
  exact ⟨h1.trans h.os, h2.trans h.tape, h3.trans h.output, by rw [h4]; exact h.size, fun i hi => (setCells_far vs o i (by omega)).trans (h.block i hi)⟩
theorem Rm.set {w : World} {base : Nat} {A : Option Addr} {n : Nat} (h : Rm w base A n) {g' : Nat} {cur' : Array Value} (hg : w.heap[g']? = some (.cells cur' 58 (0, 0))) (o : Nat) (vs : List Value) (ho : o + vs.length ≤ cur'.size) : Rm (w.setCells g' o vs) base A n := by
  rcases h with h | ⟨g, cur, ha, hb', hh, hs⟩
  · exact .inl h
  · by_cases e : g = g'
    · subst e
      have e2 : cur = cur' := by
        rw [hh] at hg
        injection hg with hg
        injection hg
      subst e2
      obtain ⟨c2, h1, h2, _⟩ := setCells_row vs o w cur hh ho
      exact .inr ⟨g, c2, ha, hb', h1, by omega⟩
    · exact .inr ⟨g, cur, ha, hb', (setCells_far vs o g e).trans hh, hs⟩
theorem there_of {w : World} {g t : Nat} {cur : Array Value} (hg : w.heap[g]? = some (.cells cur t (0, 0))) (o n : Nat) (h : o + n ≤ cur.size) : w.there g o n := fun j hj => by
  refine ⟨?_, blk_frozen hg _⟩
  rw [blk_cell hg, Array.getElem?_eq_getElem (by omega)]
  rfl
section
variable {P : Program} {ops : Array Oper} {rest : List Oper} {o : Oper} {a : Act} {W : World} {Q : Exit → Act → World → Prop}
/-- A table is stored into a row that may be written. -/
theorem st_row (hgd : o.guard = none) (x y : Operand) (ho : o.op = .store 58 x y) (hi : (P.info? 58).map (·.size) = some 7) (base n : Nat) (ad : Addr) (i : Nat) (hin : i < n) (hr : Rm W base (some ad) n) (hx : a.eval x = .pointer (some (ad.add (i * 7)))) (cells : Array Value) (hy : a.eval y = .agg cells) (hc : cells.size = 7) (h1 : cells.all (·.oneCell') = true)
    (h : ∀ w1 : World, (∀ B w0, Below B w0 W → B ≤ base → Below B w0 w1) → (∀ b A m, Rm W b A m → Rm w1 b A m) → (∀ (k t : Nat) (cs : Array Value), W.heap[k]? = some (Obj.cells cs t (0, 0)) → t ≠ 58 → w1.heap[k]? = some (Obj.cells cs t (0, 0))) → wpList P ops Q rest (a.put o.dst undef) w1) : wpList P ops Q (o :: rest) a W := by
  rcases hr with hr | ⟨g, cur, ha, hb, hh, hs⟩
  · omega
  · cases ha
    rw [Addr.add_mid, Nat.zero_add] at hx
    have hs' : i * 7 + 7 ≤ cur.size := by omega
    refine wpList_store_mid hgd 58 x y ho g (i * 7) cells hx hy (there_of hh _ _ (by omega)) (by rw [hi, hc]) h1 (h _ ?_ ?_ ?_)
    · intro B w0 hB hle
      exact below_setCells hB (by omega) _ _
    · intro b A m hR
      exact hR.set hh _ _ (by rw [Array.length_toList]; omega)
    · intro k t cs hk ht
      refine (setCells_far _ _ k (fun e => ?_)).trans hk
      subst e
      rw [hh] at hk
      injection hk with hk
      injection hk with _ hk
      exact ht hk.symm
end
end Go.Proofs.Ytkjepfofiegcdaa.V
/- The law EditApply (12), walked. Conditions: numbers are such as the machine has. -/
namespace Go.Proofs.Ytkjepfofiegcdaa.V
set_option linter.unusedVariables false
set_option linter.unusedSimpArgs false
open Go.RowKit Go.Proofs.YtkjepfofiegcdaaW.PrintWords Go.Proofs.YtkjepfofiegcdaaW.PrintLast Go.Proofs.YtkjepfofiegcdaaW.PrintMore Go.Proofs.Ytkjepfofiegcdaa.PB14
theorem applyR2_calls (w : World) (v : Ver) (p : Pl) (e : Edt) (A1 A2 : Option Addr) (c1 c2 : Nat) {u : Ver} {f : Int} (h : applyV v e = (u, f)) (hC : VC w v p) (hW : VW v) (h1 : k84.C w A1 e.gone.length e.gone) (h2 : k82.C w A2 e.added.length e.added) (hn : ∀ i, i < 4 → (v.lv i).length ≤ 100000) (hga : e.added.length ≤ 100000) (p0 : 0 ≤ v.log) (p1 : 0 ≤ v.next) (p2 : 0 ≤ v.seq) :
    Calls Try.prog 55 #[.agg (vCs v p), .agg (eCs e A1 c1 A2 c2)] w fun x w' => ∃ q : Pl, x = .returned (.tuple #[.agg (vCs u q), .int .i64 f]) ∧ VC w' u q ∧ Below w.heap.size w w' := by
  have h3 := applyR_calls w v p e A1 A2 c1 c2 hC hW h1 h2 hn hga p0 p1 p2
  rw [h] at h3
  exact h3
theorem sameV2_calls (w : World) (v : Ver) (p q : Pl) (h : VC w v p) (h2 : VC w v q) : Calls Try.prog 56 #[.agg (vCs v p), .agg (vCs v q)] w fun e w' => e = .returned (.bool true) ∧ Below w.heap.size w w' := by
  have h2 := sameV_calls w v v p q h h2
  rw [decide_eq_true (sameP_iff.mpr rfl)] at h2
  exact h2
theorem MK.low {w w' : World} {v : Ver} {p : Pl} {B : Nat} {w0 : World} (h : MK w0 v p) (hB : w0.heap.size ≤ B) (h1 : Below w0.heap.size w0 w) (h2 : Below B w w') : MK w' v p := h.below (h1.trans (h2.mono hB))
set_option maxHeartbeats 8000000 in
set_option maxRecDepth 100000 in
theorem editApply_calls (w : World) (v : Ver) (p : Pl) (e : Edt) (A1 A2 : Option Addr) (c1 c2 : Nat) (hC : VC w v p) (hW : VW v) (hz : 0 ≤ v.log ∧ 0 ≤ v.next ∧ 0 ≤ v.seq) (h1 : k84.C w A1 e.gone.length e.gone) (h2 : k82.C w A2 e.added.length e.added) : Calls Try.prog 12 #[.agg (vCs v p), .agg (eCs e A1 c1 A2 c2)] w fun x w' => x = .returned (.bool true) ∧ Below w.heap.size w w' := by
  have HC := Aside0.mk hC
  have HW := Aside0.mk hW
  have HZ := Aside0.mk hz
  have H1 := Aside0.mk h1
  have H2 := Aside0.mk h2
  obtain ⟨u, f, huf⟩ : ∃ u f, applyV v e = (u, f) := ⟨_, _, rfl⟩
  have UF := Aside0.mk huf
  have HB1 := Aside0.mk (below_alloc ((Below.refl w.heap.size w).alloc (Nat.le_refl _) (.cells (vCs v p) 26)) (.cells (eCs e A1 c1 A2 c2) 70))
  have X1 := Aside0.mk (blk_alloc (blk_new w (.cells (vCs v p) 26)) (.cells (eCs e A1 c1 A2 c2) 70))
  have X2 := Aside0.mk (blk_new (w.alloc (.cells (vCs v p) 26)) (.cells (eCs e A1 c1 A2 c2) 70))
  clear hC hW hz h1 h2 huf
  go_enter Try.func12, Try.ntmps12
  go_upto_region 1 with (fail)
  generalize hg2 : (w.alloc (.cells (vCs v p) 26)).heap.size = g2 at *
  have e2_ : w.heap.size + 1 = g2 := by rw [← hg2]; simp
  try rw [e2_]
  have N2 := Aside0.mk (show w.heap.size < g2 by omega)
  clear hg2 e2_
  generalize (w.alloc (.cells (vCs v p) 26)).alloc (.cells (eCs e A1 c1 A2 c2) 70) = w1 at *
  by_cases hm : manyP v
  · have MC := many51_calls w1 v p
    rw [decide_eq_true hm] at MC
    clear hm
    have b0 : w1.cell? ⟨w.heap.size, 0, none⟩ = some (.int .u64 v.log) := (blk_cell X1.out 0).trans rfl
    have b1 : w1.cell? ⟨w.heap.size, 1, none⟩ = some (.int .u64 v.next) := (blk_cell X1.out 1).trans rfl
    have b2 : w1.cell? ⟨w.heap.size, 2, none⟩ = some (.int .u64 v.seq) := (blk_cell X1.out 2).trans rfl
    have b3 : w1.cell? ⟨w.heap.size, 3, none⟩ = some (.slice p.a0 v.l0.length p.c0) := (blk_cell X1.out 3).trans rfl
    have b4 : w1.cell? ⟨w.heap.size, 4, none⟩ = some (.slice p.a1 v.l1.length p.c1) := (blk_cell X1.out 4).trans rfl
    have b5 : w1.cell? ⟨w.heap.size, 5, none⟩ = some (.slice p.a2 v.l2.length p.c2) := (blk_cell X1.out 5).trans rfl
    have b6 : w1.cell? ⟨w.heap.size, 6, none⟩ = some (.slice p.a3 v.l3.length p.c3) := (blk_cell X1.out 6).trans rfl
    go_wp2_with fail
    refine MC.mono ?_
    rintro x w2 ⟨rfl, hb⟩
    have HB2 := Aside0.mk (below_step HB1.out hb)
    clear hb MC b0 b1 b2 b3 b4 b5 b6
    go_wp2_with fail
    refine (awake14_calls _).mono ?_
    rintro x w9 ⟨rfl, hb⟩
    have HB9 := Aside0.mk (below_step HB2.out hb)
    clear hb
    go_wp2_with fail
    go_ret
    exact ⟨rfl, HB9.out⟩
  · have MC := many51_calls w1 v p
    rw [decide_eq_false hm] at MC
    have HL := Aside0.mk (show ∀ i, i < 4 → (v.lv i).length ≤ 80 from fun i hi => Classical.byContradiction fun h => hm ⟨i, hi, by omega⟩)
    have HL6 := Aside0.mk (show ∀ i, i < 4 → (v.lv i).length ≤ 1000000 from fun i hi => Nat.le_trans (HL.out i hi) (by decide))
    clear hm
    have b0 : w1.cell? ⟨w.heap.size, 0, none⟩ = some (.int .u64 v.log) := (blk_cell X1.out 0).trans rfl
    have b1 : w1.cell? ⟨w.heap.size, 1, none⟩ = some (.int .u64 v.next) := (blk_cell X1.out 1).trans rfl
    have b2 : w1.cell? ⟨w.heap.size, 2, none⟩ = some (.int .u64 v.seq) := (blk_cell X1.out 2).trans rfl
    have b3 : w1.cell? ⟨w.heap.size, 3, none⟩ = some (.slice p.a0 v.l0.length p.c0) := (blk_cell X1.out 3).trans rfl
    have b4 : w1.cell? ⟨w.heap.size, 4, none⟩ = some (.slice p.a1 v.l1.length p.c1) := (blk_cell X1.out 4).trans rfl
    have b5 : w1.cell? ⟨w.heap.size, 5, none⟩ = some (.slice p.a2 v.l2.length p.c2) := (blk_cell X1.out 5).trans rfl
    have b6 : w1.cell? ⟨w.heap.size, 6, none⟩ = some (.slice p.a3 v.l3.length p.c3) := (blk_cell X1.out 6).trans rfl
    go_wp2_with fail
    refine MC.mono ?_
    rintro x w2 ⟨rfl, hb⟩
    have HB2 := Aside0.mk (below_step HB1.out hb)
    have X12 := Aside0.mk (blk_below X1.out hb)
    have X22 := Aside0.mk (blk_below X2.out hb)
    clear hb MC b0 b1 b2 b3 b4 b5 b6
    have e0 : w2.cell? ⟨g2, 0, none⟩ = some (.int .u64 e.log) := (blk_cell X22.out 0).trans rfl
    have e1 : w2.cell? ⟨g2, 1, none⟩ = some (.int .u64 e.next) := (blk_cell X22.out 1).trans rfl
    have e2 : w2.cell? ⟨g2, 2, none⟩ = some (.int .u64 e.seq) := (blk_cell X22.out 2).trans rfl
    have e3 : w2.cell? ⟨g2, 3, none⟩ = some (.slice A1 e.gone.length c1) := (blk_cell X22.out 3).trans rfl
    have e4 : w2.cell? ⟨g2, 4, none⟩ = some (.slice A2 e.added.length c2) := (blk_cell X22.out 4).trans rfl
    by_cases hm : longP e
    · have MC := long_calls w2 e A1 A2 c1 c2
      rw [decide_eq_true hm] at MC
      clear hm
      go_wp2_with fail
      refine MC.mono ?_
      rintro x w3 ⟨rfl, hb⟩
      have HB3 := Aside0.mk (below_step HB2.out hb)
      clear hb MC e0 e1 e2 e3 e4
      go_wp2_with fail
      refine (awake14_calls _).mono ?_
      rintro x w9 ⟨rfl, hb⟩
      have HB9 := Aside0.mk (below_step HB3.out hb)
      clear hb
      go_wp2_with fail
      go_ret
      exact ⟨rfl, HB9.out⟩
    · have MC := long_calls w2 e A1 A2 c1 c2
      rw [decide_eq_false hm] at MC
      have HLA := Aside0.mk (show e.added.length ≤ 100000 from Classical.byContradiction fun h => hm (.inr (by omega)))
      clear hm
      go_wp2_with fail
      refine MC.mono ?_
      rintro x w3 ⟨rfl, hb⟩
      have HB3 := Aside0.mk (below_step HB2.out hb)
      have X13 := Aside0.mk (blk_below X12.out hb)
      have X23 := Aside0.mk (blk_below X22.out hb)
      clear hb MC e0 e1 e2 e3 e4
      have b0 : w3.cell? ⟨w.heap.size, 0, none⟩ = some (.int .u64 v.log) := (blk_cell X13.out 0).trans rfl
      have b1 : w3.cell? ⟨w.heap.size, 1, none⟩ = some (.int .u64 v.next) := (blk_cell X13.out 1).trans rfl
      have b2 : w3.cell? ⟨w.heap.size, 2, none⟩ = some (.int .u64 v.seq) := (blk_cell X13.out 2).trans rfl
      have b3 : w3.cell? ⟨w.heap.size, 3, none⟩ = some (.slice p.a0 v.l0.length p.c0) := (blk_cell X13.out 3).trans rfl
      have b4 : w3.cell? ⟨w.heap.size, 4, none⟩ = some (.slice p.a1 v.l1.length p.c1) := (blk_cell X13.out 4).trans rfl
      have b5 : w3.cell? ⟨w.heap.size, 5, none⟩ = some (.slice p.a2 v.l2.length p.c2) := (blk_cell X13.out 5).trans rfl
      have b6 : w3.cell? ⟨w.heap.size, 6, none⟩ = some (.slice p.a3 v.l3.length p.c3) := (blk_cell X13.out 6).trans rfl
      go_wp2_with fail
      refine (copy_calls w3 v p (HC.out.below HB3.out) HL6.out).mono ?_
      rintro x w4 ⟨q, rfl, hmk, hb⟩
      have HB4 := Aside0.mk (below_alloc (below_step HB3.out hb) (.cells (vCs v q) 26))
      have X14 := Aside0.mk (blk_alloc (blk_below X13.out hb) (.cells (vCs v q) 26))
      have X24 := Aside0.mk (blk_alloc (blk_below X23.out hb) (.cells (vCs v q) 26))
      have X54 := Aside0.mk (blk_new w4 (.cells (vCs v q) 26))
      have MK4 := Aside0.mk (hmk.below (below_alloc (Below.refl w4.heap.size w4) (.cells (vCs v q) 26)))
      clear hb hmk b0 b1 b2 b3 b4 b5 b6
      go_upto_region 4 with (fail)
      generalize w4.heap.size = g5 at *
      generalize w4.alloc (.cells (vCs v q) 26) = w5 at *
      have b0 : w5.cell? ⟨g5, 0, none⟩ = some (.int .u64 v.log) := (blk_cell X54.out 0).trans rfl
      have b1 : w5.cell? ⟨g5, 1, none⟩ = some (.int .u64 v.next) := (blk_cell X54.out 1).trans rfl
      have b2 : w5.cell? ⟨g5, 2, none⟩ = some (.int .u64 v.seq) := (blk_cell X54.out 2).trans rfl
      have b3 : w5.cell? ⟨g5, 3, none⟩ = some (.slice q.a0 v.l0.length q.c0) := (blk_cell X54.out 3).trans rfl
      have b4 : w5.cell? ⟨g5, 4, none⟩ = some (.slice q.a1 v.l1.length q.c1) := (blk_cell X54.out 4).trans rfl
      have b5 : w5.cell? ⟨g5, 5, none⟩ = some (.slice q.a2 v.l2.length q.c2) := (blk_cell X54.out 5).trans rfl
      have b6 : w5.cell? ⟨g5, 6, none⟩ = some (.slice q.a3 v.l3.length q.c3) := (blk_cell X54.out 6).trans rfl
      have e0 : w5.cell? ⟨g2, 0, none⟩ = some (.int .u64 e.log) := (blk_cell X24.out 0).trans rfl
      have e1 : w5.cell? ⟨g2, 1, none⟩ = some (.int .u64 e.next) := (blk_cell X24.out 1).trans rfl
      have e2 : w5.cell? ⟨g2, 2, none⟩ = some (.int .u64 e.seq) := (blk_cell X24.out 2).trans rfl
      have e3 : w5.cell? ⟨g2, 3, none⟩ = some (.slice A1 e.gone.length c1) := (blk_cell X24.out 3).trans rfl
      have e4 : w5.cell? ⟨g2, 4, none⟩ = some (.slice A2 e.added.length c2) := (blk_cell X24.out 4).trans rfl
      go_wp2_with fail
      refine (apply2_calls _ v q e A1 A2 c1 c2 UF.out MK4.out.vc HW.out (Kd.C_below H1.out HB4.out) (Kd.C_below H2.out HB4.out) (fun i hi => Nat.le_trans (HL.out i hi) (by decide)) HLA.out).mono ?_
      rintro x w6 ⟨q6, rfl, hR6, hb⟩
      obtain ⟨b9, hb9⟩ : ∃ b9, b9 = w5.heap.size := ⟨_, rfl⟩
      rw [← hb9] at hR6
      have B9E := Aside0.mk hb9
      have HB6 := Aside0.mk (below_alloc (below_step HB4.out hb) (.cells (vCs u q6) 26))
      have X16 := Aside0.mk (blk_alloc (blk_below X14.out hb) (.cells (vCs u q6) 26))
      have X26 := Aside0.mk (blk_alloc (blk_below X24.out hb) (.cells (vCs u q6) 26))
      have X56 := Aside0.mk (blk_alloc (blk_below X54.out hb) (.cells (vCs u q6) 26))
      have X66 := Aside0.mk (blk_new w6 (.cells (vCs u q6) 26))
      have MK6 := Aside0.mk ((MK4.out.below hb).below (below_alloc (Below.refl w6.heap.size w6) (.cells (vCs u q6) 26)))
      have BL6 := Aside0.mk (show Below b9 w5 (w6.alloc (.cells (vCs u q6) 26)) by rw [hb9]; exact below_alloc hb (.cells (vCs u q6) 26))
      have R66 := Aside0.mk (hR6.below (below_alloc (Below.refl w6.heap.size w6) (.cells (vCs u q6) 26)))
      have L1_ := Aside0.mk (show w.heap.size < b9 by rw [hb9]; exact blk_lt X14.out)
      have L5_ := Aside0.mk (show g5 < b9 by rw [hb9]; exact blk_lt X54.out)
      clear hb hR6 hb9 b0 b1 b2 b3 b4 b5 b6 e0 e1 e2 e3 e4
      go_upto_region 5 with (fail)
      generalize w6.heap.size = g6 at *
      generalize w6.alloc (.cells (vCs u q6) 26) = w7 at *
      have b0 : w7.cell? ⟨w.heap.size, 0, none⟩ = some (.int .u64 v.log) := (blk_cell X16.out 0).trans rfl
      have b1 : w7.cell? ⟨w.heap.size, 1, none⟩ = some (.int .u64 v.next) := (blk_cell X16.out 1).trans rfl
      have b2 : w7.cell? ⟨w.heap.size, 2, none⟩ = some (.int .u64 v.seq) := (blk_cell X16.out 2).trans rfl
      have b3 : w7.cell? ⟨w.heap.size, 3, none⟩ = some (.slice p.a0 v.l0.length p.c0) := (blk_cell X16.out 3).trans rfl
      have b4 : w7.cell? ⟨w.heap.size, 4, none⟩ = some (.slice p.a1 v.l1.length p.c1) := (blk_cell X16.out 4).trans rfl
      have b5 : w7.cell? ⟨w.heap.size, 5, none⟩ = some (.slice p.a2 v.l2.length p.c2) := (blk_cell X16.out 5).trans rfl
      have b6 : w7.cell? ⟨w.heap.size, 6, none⟩ = some (.slice p.a3 v.l3.length p.c3) := (blk_cell X16.out 6).trans rfl
      have e0 : w7.cell? ⟨g2, 0, none⟩ = some (.int .u64 e.log) := (blk_cell X26.out 0).trans rfl
      have e1 : w7.cell? ⟨g2, 1, none⟩ = some (.int .u64 e.next) := (blk_cell X26.out 1).trans rfl
      have e2 : w7.cell? ⟨g2, 2, none⟩ = some (.int .u64 e.seq) := (blk_cell X26.out 2).trans rfl
      have e3 : w7.cell? ⟨g2, 3, none⟩ = some (.slice A1 e.gone.length c1) := (blk_cell X26.out 3).trans rfl
      have e4 : w7.cell? ⟨g2, 4, none⟩ = some (.slice A2 e.added.length c2) := (blk_cell X26.out 4).trans rfl
      go_wp2_with fail
      refine (applyR2_calls _ v p e A1 A2 c1 c2 UF.out (HC.out.below HB6.out) HW.out (Kd.C_below H1.out HB6.out) (Kd.C_below H2.out HB6.out) (fun i hi => Nat.le_trans (HL.out i hi) (by decide)) HLA.out HZ.out.1 HZ.out.2.1 HZ.out.2.2).mono ?_
      rintro x w10 ⟨q8, rfl, hV8, hb⟩
      have HB7 := Aside0.mk (below_alloc (below_step HB6.out hb) (.cells (vCs u q8) 26))
      have X17 := Aside0.mk (blk_alloc (blk_below X16.out hb) (.cells (vCs u q8) 26))
      have X57 := Aside0.mk (blk_alloc (blk_below X56.out hb) (.cells (vCs u q8) 26))
      have X67 := Aside0.mk (blk_alloc (blk_below X66.out hb) (.cells (vCs u q8) 26))
      have X87 := Aside0.mk (blk_new w10 (.cells (vCs u q8) 26))
      have MK7 := Aside0.mk ((MK6.out.below hb).below (below_alloc (Below.refl w10.heap.size w10) (.cells (vCs u q8) 26)))
      have BL7 := Aside0.mk (show Below b9 w5 (w10.alloc (.cells (vCs u q8) 26)) from BL6.out.trans ((below_alloc hb (.cells (vCs u q8) 26)).mono (by rw [B9E.out]; exact BL6.out.size)))
      have R67 := Aside0.mk ((R66.out.below hb).below (below_alloc (Below.refl w10.heap.size w10) (.cells (vCs u q8) 26)))
      have V87 := Aside0.mk (hV8.below (below_alloc (Below.refl w10.heap.size w10) (.cells (vCs u q8) 26)))
      clear hb hV8 b0 b1 b2 b3 b4 b5 b6 e0 e1 e2 e3 e4
      go_upto_region 6 with (fail)
      generalize w10.heap.size = g8 at *
      generalize w10.alloc (.cells (vCs u q8) 26) = w11 at *
      have f1 : (f != f) = false := by simp
      have f2 : (f == f) = true := beq_self_eq_true _
      have b0 : w11.cell? ⟨g6, 0, none⟩ = some (.int .u64 u.log) := (blk_cell X67.out 0).trans rfl
      have b1 : w11.cell? ⟨g6, 1, none⟩ = some (.int .u64 u.next) := (blk_cell X67.out 1).trans rfl
      have b2 : w11.cell? ⟨g6, 2, none⟩ = some (.int .u64 u.seq) := (blk_cell X67.out 2).trans rfl
      have b3 : w11.cell? ⟨g6, 3, none⟩ = some (.slice q6.a0 u.l0.length q6.c0) := (blk_cell X67.out 3).trans rfl
      have b4 : w11.cell? ⟨g6, 4, none⟩ = some (.slice q6.a1 u.l1.length q6.c1) := (blk_cell X67.out 4).trans rfl
      have b5 : w11.cell? ⟨g6, 5, none⟩ = some (.slice q6.a2 u.l2.length q6.c2) := (blk_cell X67.out 5).trans rfl
      have b6 : w11.cell? ⟨g6, 6, none⟩ = some (.slice q6.a3 u.l3.length q6.c3) := (blk_cell X67.out 6).trans rfl
      have c0 : w11.cell? ⟨g8, 0, none⟩ = some (.int .u64 u.log) := (blk_cell X87.out 0).trans rfl
      have c1 : w11.cell? ⟨g8, 1, none⟩ = some (.int .u64 u.next) := (blk_cell X87.out 1).trans rfl
      have c2 : w11.cell? ⟨g8, 2, none⟩ = some (.int .u64 u.seq) := (blk_cell X87.out 2).trans rfl
      have c3 : w11.cell? ⟨g8, 3, none⟩ = some (.slice q8.a0 u.l0.length q8.c0) := (blk_cell X87.out 3).trans rfl
      have c4 : w11.cell? ⟨g8, 4, none⟩ = some (.slice q8.a1 u.l1.length q8.c1) := (blk_cell X87.out 4).trans rfl
      have c5 : w11.cell? ⟨g8, 5, none⟩ = some (.slice q8.a2 u.l2.length q8.c2) := (blk_cell X87.out 5).trans rfl
      have c6 : w11.cell? ⟨g8, 6, none⟩ = some (.slice q8.a3 u.l3.length q8.c3) := (blk_cell X87.out 6).trans rfl
      go_wp2_with fail
      refine (sameV2_calls _ u q6 q8 R67.out.vc V87.out).mono ?_
      rintro x w12 ⟨rfl, hb⟩
      have HB12 := Aside0.mk (below_step HB7.out hb)
      have X112 := Aside0.mk (blk_below X17.out hb)
      have X512 := Aside0.mk (blk_below X57.out hb)
      have X612 := Aside0.mk (blk_below X67.out hb)
      have MK12 := Aside0.mk (MK7.out.below hb)
      have BL12 := Aside0.mk (BL7.out.trans (hb.mono (by rw [B9E.out]; exact BL7.out.size)))
      have R612 := Aside0.mk (R67.out.below hb)
      clear hb b0 b1 b2 b3 b4 b5 b6 c0 c1 c2 c3 c4 c5 c6
      have KK := kept_calls w12 v v q p MK12.out (HC.out.below HB12.out) HL6.out
      rw [decide_eq_true (sameP_iff.mpr rfl)] at KK
      have c0 : w12.cell? ⟨g5, 0, none⟩ = some (.int .u64 v.log) := (blk_cell X512.out 0).trans rfl
      have c1 : w12.cell? ⟨g5, 1, none⟩ = some (.int .u64 v.next) := (blk_cell X512.out 1).trans rfl
      have c2 : w12.cell? ⟨g5, 2, none⟩ = some (.int .u64 v.seq) := (blk_cell X512.out 2).trans rfl
      have c3 : w12.cell? ⟨g5, 3, none⟩ = some (.slice q.a0 v.l0.length q.c0) := (blk_cell X512.out 3).trans rfl
      have c4 : w12.cell? ⟨g5, 4, none⟩ = some (.slice q.a1 v.l1.length q.c1) := (blk_cell X512.out 4).trans rfl
      have c5 : w12.cell? ⟨g5, 5, none⟩ = some (.slice q.a2 v.l2.length q.c2) := (blk_cell X512.out 5).trans rfl
      have c6 : w12.cell? ⟨g5, 6, none⟩ = some (.slice q.a3 v.l3.length q.c3) := (blk_cell X512.out 6).trans rfl
      have b0 : w12.cell? ⟨w.heap.size, 0, none⟩ = some (.int .u64 v.log) := (blk_cell X112.out 0).trans rfl
      have b1 : w12.cell? ⟨w.heap.size, 1, none⟩ = some (.int .u64 v.next) := (blk_cell X112.out 1).trans rfl
      have b2 : w12.cell? ⟨w.heap.size, 2, none⟩ = some (.int .u64 v.seq) := (blk_cell X112.out 2).trans rfl
      have b3 : w12.cell? ⟨w.heap.size, 3, none⟩ = some (.slice p.a0 v.l0.length p.c0) := (blk_cell X112.out 3).trans rfl
      have b4 : w12.cell? ⟨w.heap.size, 4, none⟩ = some (.slice p.a1 v.l1.length p.c1) := (blk_cell X112.out 4).trans rfl
      have b5 : w12.cell? ⟨w.heap.size, 5, none⟩ = some (.slice p.a2 v.l2.length p.c2) := (blk_cell X112.out 5).trans rfl
      have b6 : w12.cell? ⟨w.heap.size, 6, none⟩ = some (.slice p.a3 v.l3.length p.c3) := (blk_cell X112.out 6).trans rfl
      go_wp2_with fail
      refine KK.mono ?_
      clear KK
      rintro x w8 ⟨rfl, hb⟩
      have HB8 := Aside0.mk (below_step HB12.out hb)
      have X18 := Aside0.mk (blk_below X112.out hb)
      have X58 := Aside0.mk (blk_below X512.out hb)
      have X68 := Aside0.mk (blk_below X612.out hb)
      have R68 := Aside0.mk (R612.out.below hb)
      have BL8 := Aside0.mk (BL12.out.trans (hb.mono (by rw [B9E.out]; exact BL12.out.size)))
      have RM := Aside0.mk (show ∀ j, j < 4 → Rm w8 b9 (q6.a j) (u.lv j).length from fun j hj => Rm.of_R (R68.out.1 j hj))
      have UC := Aside0.mk R68.out.vc
      have BB4 := Aside0.mk (show w.heap.size ≤ b9 from Nat.le_of_lt L1_.out)
      clear hb b0 b1 b2 b3 b4 b5 b6 c0 c1 c2 c3 c4 c5 c6 MK6 MK7 MK12
      go_wp2_with fail
      go_loopg [10, 11] 4 (fun kq v10 v11 w' => ∃ i : Nat, v10 = .int .i64 (i : Int) ∧ Aside0 (kq + i = 4) ∧ Aside0 (Below b9 w8 w') ∧ Aside0 (∀ j, j < 4 → Rm w' b9 (q6.a j) (u.lv j).length) ∧ Aside0 (w'.heap[g6]? = some (.cells (vCs u q6) 26 (0, 0))))
      case atStart => exact ⟨0, rfl, ⟨by omega⟩, ⟨Below.refl _ _⟩, RM, X68⟩
      case round =>
        clear RM X68
        obtain ⟨i, rfl, HK, HBW, RM, X6⟩ := hrel
        cases gk with
        | zero =>
          have ei : i = 4 := by have := HK.out; omega
          subst ei
          have X1f := Aside0.mk ((HBW.out.block _ L1_.out).trans X18.out)
          have X5f := Aside0.mk ((HBW.out.block _ L5_.out).trans X58.out)
          have MKf := Aside0.mk (MK.low MK4.out (Nat.le_of_eq B9E.out.symm) (by rw [← B9E.out]; exact BL8.out) HBW.out)
          have HBall := Aside0.mk (HB8.out.trans (HBW.out.mono BB4.out))
          have KK := kept_calls wr v v q p MKf.out (HC.out.below HBall.out) HL6.out
          rw [decide_eq_true (sameP_iff.mpr rfl)] at KK
          have c0 : wr.cell? ⟨g5, 0, none⟩ = some (.int .u64 v.log) := (blk_cell X5f.out 0).trans rfl
          have c1 : wr.cell? ⟨g5, 1, none⟩ = some (.int .u64 v.next) := (blk_cell X5f.out 1).trans rfl
          have c2 : wr.cell? ⟨g5, 2, none⟩ = some (.int .u64 v.seq) := (blk_cell X5f.out 2).trans rfl
          have c3 : wr.cell? ⟨g5, 3, none⟩ = some (.slice q.a0 v.l0.length q.c0) := (blk_cell X5f.out 3).trans rfl
          have c4 : wr.cell? ⟨g5, 4, none⟩ = some (.slice q.a1 v.l1.length q.c1) := (blk_cell X5f.out 4).trans rfl
          have c5 : wr.cell? ⟨g5, 5, none⟩ = some (.slice q.a2 v.l2.length q.c2) := (blk_cell X5f.out 5).trans rfl
          have c6 : wr.cell? ⟨g5, 6, none⟩ = some (.slice q.a3 v.l3.length q.c3) := (blk_cell X5f.out 6).trans rfl
          have b0 : wr.cell? ⟨w.heap.size, 0, none⟩ = some (.int .u64 v.log) := (blk_cell X1f.out 0).trans rfl
          have b1 : wr.cell? ⟨w.heap.size, 1, none⟩ = some (.int .u64 v.next) := (blk_cell X1f.out 1).trans rfl
          have b2 : wr.cell? ⟨w.heap.size, 2, none⟩ = some (.int .u64 v.seq) := (blk_cell X1f.out 2).trans rfl
          have b3 : wr.cell? ⟨w.heap.size, 3, none⟩ = some (.slice p.a0 v.l0.length p.c0) := (blk_cell X1f.out 3).trans rfl
          have b4 : wr.cell? ⟨w.heap.size, 4, none⟩ = some (.slice p.a1 v.l1.length p.c1) := (blk_cell X1f.out 4).trans rfl
          have b5 : wr.cell? ⟨w.heap.size, 5, none⟩ = some (.slice p.a2 v.l2.length p.c2) := (blk_cell X1f.out 5).trans rfl
          have b6 : wr.cell? ⟨w.heap.size, 6, none⟩ = some (.slice p.a3 v.l3.length p.c3) := (blk_cell X1f.out 6).trans rfl
          go_wp2_with fail
          refine KK.mono ?_
          clear KK
          rintro x w14 ⟨rfl, hb⟩
          have HB14 := Aside0.mk (below_step HBall.out hb)
          clear hb b0 b1 b2 b3 b4 b5 b6 c0 c1 c2 c3 c4 c5 c6
          go_wp2_with fail
          refine (awake14_calls _).mono ?_
          rintro x w9 ⟨rfl, hb⟩
          have HB9 := Aside0.mk (below_step HB14.out hb)
          clear hb
          go_wp2_with fail
          go_ret
          exact ⟨rfl, HB9.out⟩
        | succ z =>
          have hi : i < 4 := by have := HK.out; omega
          have HI := Aside0.mk hi
          have d0 : decide ((i : Int) < 4) = true := decide_eq_true (by omega)
          have i0 : 0 ≤ (i : Int) := Int.natCast_nonneg _
          have i1 : (i : Int) < 4 := by omega
          obtain ⟨l, hl⟩ : ∃ l, l = u.lv i := ⟨_, rfl⟩
          have LE := Aside0.mk hl
          have LL := Aside0.mk (show l.length ≤ 9223372036854775807 by rw [hl]; exact (UC.out i hi).1.2.1)
          clear hl hi
          go_wp2_with fail
          go_loopg [11] l.length (fun kq v11 w' => ∃ k : Nat, v11 = .int .i64 (k : Int) ∧ Aside0 (kq + k = l.length) ∧ Aside0 (Below b9 w8 w') ∧ Aside0 (∀ j, j < 4 → Rm w' b9 (q6.a j) (u.lv j).length) ∧ Aside0 (w'.heap[g6]? = some (.cells (vCs u q6) 26 (0, 0))))
          case atStart => exact ⟨0, rfl, ⟨by omega⟩, HBW, RM, X6⟩
          case round =>
            clear HBW RM X6
            obtain ⟨k, rfl, HKK, HBW, RM, X6⟩ := hrel
            have hv := vcell X6.out i HI.out
            rw [← LE.out] at hv
            cases gk with
            | zero =>
              have ek : k = l.length := by have := HKK.out; omega
              subst ek
              have d1 : decide ((l.length : Int) < (l.length : Int)) = false := by simp
              go_wp2_with fail
              have ew : wrap64 ((i : Int) + 1) = ((i + 1 : Nat) : Int) := by have h1 := HI.out; unfold wrap64; omega
              try rw [ew]
              clear ew hv
              go_roundg z
              case measure => omega
              case rel => exact ⟨i + 1, rfl, ⟨by have := HK.out; omega⟩, HBW, RM, X6⟩
            | succ y =>
              have hk : k < l.length := by have := HKK.out; omega
              have HKL := Aside0.mk hk
              have d1 : decide ((k : Int) < (l.length : Int)) = true := decide_eq_true (by omega)
              have d2 : decide (k < l.length) = true := decide_eq_true hk
              have p0 : 0 ≤ (k : Int) := Int.natCast_nonneg _
              have p1 : (k : Int) < (l.length : Int) := by omega
              have RX := Aside0.mk (RM.out i HI.out)
              rw [← LE.out] at RX
              obtain ⟨ax, ea⟩ : ∃ ax, q6.a i = some ax := by
                rcases RX.out with h | ⟨g, cur, ha, _⟩
                · omega
                · exact ⟨_, ha⟩
              rw [ea] at RX hv
              have ew : wrap64 ((k : Int) + 1) = ((k + 1 : Nat) : Int) := by have h1 := LL.out; unfold wrap64; omega
              clear ea hk
              go_wp2_with (first | (refine st_row rfl _ _ rfl size58 b9 l.length ax k HKL.out RX.out ?hx #[.int .u64 0, .int .i64 0, .int .i64 0, .string ⟨#[]⟩, .string ⟨#[]⟩, .int .u64 0, .int .u64 0] ?hy rfl (by simp [Value.oneCell']) ?_; (case hx => rfl); (case hy => rfl); intro w13 hbb hrr hkk; have HB13 := Aside0.mk (hbb _ _ HBW.out (Nat.le_refl _)); have RM13 := Aside0.mk (fun j hj => hrr _ _ _ (RM.out j hj)); have X613 := Aside0.mk (hkk _ _ _ X6.out (by decide)); clear hbb hrr hkk) | fail)
              try rw [ew]
              clear ew hv
              go_roundg y
              case measure => omega
              case rel => exact ⟨k + 1, rfl, ⟨by have := HKK.out; omega⟩, HB13, RM13, X613⟩
end Go.Proofs.Ytkjepfofiegcdaa.V
