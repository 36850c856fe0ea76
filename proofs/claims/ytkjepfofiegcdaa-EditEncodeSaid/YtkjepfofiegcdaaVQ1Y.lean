import Derived.Test.YtkjepfofiegcdaaVA2Y
import Derived.Test.YtkjepfofiegcdaaVP4Y
/- The law EditEncode (13), walked. Conditions: the numbers are such as the machine has. -/
namespace Go.Proofs.Ytkjepfofiegcdaa.V
set_option linter.unusedVariables false
set_option linter.unusedSimpArgs false
open Go.RowKit Go.Proofs.YtkjepfofiegcdaaW.PrintWords Go.Proofs.YtkjepfofiegcdaaW.PrintLast Go.Proofs.YtkjepfofiegcdaaW.PrintMore Go.Proofs.Ytkjepfofiegcdaa.PB14
set_option maxHeartbeats 8000000 in
set_option maxRecDepth 100000 in
theorem editEncode_calls (w : World) (e : Edt) (A1 A2 : Option Addr) (c1 c2 : Nat) (h1 : k84.C w A1 e.gone.length e.gone) (h2 : k82.C w A2 e.added.length e.added) (hc1 : e.gone.length ≤ c1) (hc2 : e.added.length ≤ c2) (hu : EU e) :
    Calls Try.prog 13 #[.agg (eCs e A1 c1 A2 c2)] w fun x w' => x = .returned (.bool true) ∧ Below w.heap.size w w' := by
  have H1 := Aside0.mk h1
  have H2 := Aside0.mk h2
  have HC1 := Aside0.mk hc1
  have HC2 := Aside0.mk hc2
  have HU := Aside0.mk hu
  have HB := Aside0.mk ((Below.refl w.heap.size w).alloc (Nat.le_refl _) (.cells (eCs e A1 c1 A2 c2) 70))
  have X1 := Aside0.mk (blk_new w (.cells (eCs e A1 c1 A2 c2) 70))
  clear h1 h2 hc1 hc2 hu
  go_enter Try.func13, Try.ntmps13
  go_upto_region 1 with (fail)
  generalize w.alloc (.cells (eCs e A1 c1 A2 c2) 70) = w1 at *
  have b0 : w1.cell? ⟨w.heap.size, 0, none⟩ = some (.int .u64 e.log) := (blk_cell X1.out 0).trans rfl
  have b1 : w1.cell? ⟨w.heap.size, 1, none⟩ = some (.int .u64 e.next) := (blk_cell X1.out 1).trans rfl
  have b2 : w1.cell? ⟨w.heap.size, 2, none⟩ = some (.int .u64 e.seq) := (blk_cell X1.out 2).trans rfl
  have b3 : w1.cell? ⟨w.heap.size, 3, none⟩ = some (.slice A1 e.gone.length c1) := (blk_cell X1.out 3).trans rfl
  have b4 : w1.cell? ⟨w.heap.size, 4, none⟩ = some (.slice A2 e.added.length c2) := (blk_cell X1.out 4).trans rfl
  go_wp2_with fail
  refine (long_calls w1 e A1 A2 c1 c2).mono ?_
  rintro x w2 ⟨rfl, hb⟩
  have HB2 := Aside0.mk (below_step HB.out hb)
  have X2 := Aside0.mk (blk_below X1.out hb)
  clear hb b0 b1 b2 b3 b4
  by_cases hl : longP e
  · rw [decide_eq_true hl]
    clear hl
    go_wp2_with fail
    refine (awake14_calls w2).mono ?_
    rintro x w3 ⟨rfl, hb⟩
    have HB3 := Aside0.mk (below_step HB2.out hb)
    clear hb
    go_wp2_with fail
    go_ret
    exact ⟨rfl, HB3.out⟩
  · rw [decide_eq_false hl]
    clear hl
    have b0 : w2.cell? ⟨w.heap.size, 0, none⟩ = some (.int .u64 e.log) := (blk_cell X2.out 0).trans rfl
    have b1 : w2.cell? ⟨w.heap.size, 1, none⟩ = some (.int .u64 e.next) := (blk_cell X2.out 1).trans rfl
    have b2 : w2.cell? ⟨w.heap.size, 2, none⟩ = some (.int .u64 e.seq) := (blk_cell X2.out 2).trans rfl
    have b3 : w2.cell? ⟨w.heap.size, 3, none⟩ = some (.slice A1 e.gone.length c1) := (blk_cell X2.out 3).trans rfl
    have b4 : w2.cell? ⟨w.heap.size, 4, none⟩ = some (.slice A2 e.added.length c2) := (blk_cell X2.out 4).trans rfl
    have C1 := encode_calls w2 e A1 A2 c1 c2 (Kd.C_below H1.out HB2.out) (Kd.C_below H2.out HB2.out) HU.out
    have C2 := Aside0.mk (fun (w3 : World) (h : Below w.heap.size w w3) => encodeR_calls w3 e A1 A2 c1 c2 (Kd.C_below H1.out h) (Kd.C_below H2.out h) HC1.out HC2.out HU.out)
    generalize (encV e).1 = r1 at *
    generalize (encV e).2 = r2 at *
    go_wp2_with fail
    refine C1.mono ?_
    rintro x w3 ⟨rfl, hb⟩
    have HB3 := Aside0.mk (below_step HB2.out hb)
    have X3 := Aside0.mk (blk_below X2.out hb)
    clear hb b0 b1 b2 b3 b4 C1
    have b0 : w3.cell? ⟨w.heap.size, 0, none⟩ = some (.int .u64 e.log) := (blk_cell X3.out 0).trans rfl
    have b1 : w3.cell? ⟨w.heap.size, 1, none⟩ = some (.int .u64 e.next) := (blk_cell X3.out 1).trans rfl
    have b2 : w3.cell? ⟨w.heap.size, 2, none⟩ = some (.int .u64 e.seq) := (blk_cell X3.out 2).trans rfl
    have b3 : w3.cell? ⟨w.heap.size, 3, none⟩ = some (.slice A1 e.gone.length c1) := (blk_cell X3.out 3).trans rfl
    have b4 : w3.cell? ⟨w.heap.size, 4, none⟩ = some (.slice A2 e.added.length c2) := (blk_cell X3.out 4).trans rfl
    go_wp2_with fail
    refine (C2.out w3 HB3.out).mono ?_
    rintro x w4 ⟨rfl, hb⟩
    have HB4 := Aside0.mk (below_step HB3.out hb)
    clear hb b0 b1 b2 b3 b4 C2
    have q1 : (r1.toList == r1.toList) = true := beq_self_eq_true _
    have q2 : (r2 == r2) = true := beq_self_eq_true _
    go_wp2_with fail
    refine (awake14_calls _).mono ?_
    rintro x w5 ⟨rfl, hb⟩
    have HB5 := Aside0.mk (below_step HB4.out hb)
    clear hb
    go_wp2_with fail
    go_ret
    exact ⟨rfl, HB5.out⟩
end Go.Proofs.Ytkjepfofiegcdaa.V
