import Derived.Test.YtkjepfofiegcdaaVA2Y
import Derived.Test.YtkjepfofiegcdaaVR3Y
import Derived.Test.YtkjepfofiegcdaaVR4Y
/- The law EditDecode (18), walked. Conditions: the bytes are within reach. -/
namespace Go.Proofs.Ytkjepfofiegcdaa.V
set_option linter.unusedVariables false
set_option linter.unusedSimpArgs false
open Go.RowKit Go.Proofs.YtkjepfofiegcdaaW.PrintWords Go.Proofs.YtkjepfofiegcdaaW.PrintLast Go.Proofs.YtkjepfofiegcdaaW.PrintMore Go.Proofs.Ytkjepfofiegcdaa.PB14
set_option maxHeartbeats 8000000 in
set_option maxRecDepth 100000 in
theorem editDecode_calls (w : World) (s : ByteArray) (hs : s.size ≤ 4611686018427387904) : Calls Try.prog 18 #[.string s] w fun x w' => x = .returned (.bool true) ∧ Below w.heap.size w w' := by
  have HS := Aside0.mk hs
  have D1 := decode_calls w s hs
  have D2 := Aside0.mk (fun w' => decodeR_calls w' s hs)
  generalize (decV s).1 = e at *
  generalize (decV s).2 = er at *
  clear hs
  go_enter Try.func18, Try.ntmps18
  go_wp2_with fail
  refine D1.mono ?_
  clear D1
  rintro x w1 ⟨A1, A2, c1, c2, rfl, h1, h2, hb⟩
  have HB1 := Aside0.mk (below_alloc hb (.cells (eCs e A1 c1 A2 c2) 70))
  have X1 := Aside0.mk (blk_new w1 (.cells (eCs e A1 c1 A2 c2) 70))
  have R1 := Aside0.mk (Kd.C_below h1.2 (below_alloc (Below.refl w1.heap.size w1) (.cells (eCs e A1 c1 A2 c2) 70)))
  have R2 := Aside0.mk (Kd.C_below h2.2 (below_alloc (Below.refl w1.heap.size w1) (.cells (eCs e A1 c1 A2 c2) 70)))
  clear h1 h2 hb
  go_upto_region 2 with (fail)
  generalize w1.heap.size = g1 at *
  generalize w1.alloc (.cells (eCs e A1 c1 A2 c2) 70) = w2 at *
  go_wp2_with fail
  refine (D2.out w2).mono ?_
  clear D2
  rintro x w3 ⟨B1, B2, d1, d2, rfl, h1, h2, hb⟩
  have b3 := below_alloc hb (.cells (eCs e B1 d1 B2 d2) 70)
  have HB4 := Aside0.mk (below_step HB1.out b3)
  have X14 := Aside0.mk (blk_below X1.out b3)
  have X24 := Aside0.mk (blk_new w3 (.cells (eCs e B1 d1 B2 d2) 70))
  have R14 := Aside0.mk (Kd.C_below R1.out b3)
  have R24 := Aside0.mk (Kd.C_below R2.out b3)
  have S14 := Aside0.mk (Kd.C_below h1.2 (below_alloc (Below.refl w3.heap.size w3) (.cells (eCs e B1 d1 B2 d2) 70)))
  have S24 := Aside0.mk (Kd.C_below h2.2 (below_alloc (Below.refl w3.heap.size w3) (.cells (eCs e B1 d1 B2 d2) 70)))
  clear h1 h2 hb b3 X1 R1 R2 HB1
  go_upto_region 3 with (fail)
  generalize w3.heap.size = g3 at *
  generalize w3.alloc (.cells (eCs e B1 d1 B2 d2) 70) = w4 at *
  have a0 : w4.cell? ⟨g1, 0, none⟩ = some (.int .u64 e.log) := (blk_cell X14.out 0).trans rfl
  have a1 : w4.cell? ⟨g1, 1, none⟩ = some (.int .u64 e.next) := (blk_cell X14.out 1).trans rfl
  have a2 : w4.cell? ⟨g1, 2, none⟩ = some (.int .u64 e.seq) := (blk_cell X14.out 2).trans rfl
  have a3 : w4.cell? ⟨g1, 3, none⟩ = some (.slice A1 e.gone.length c1) := (blk_cell X14.out 3).trans rfl
  have a4 : w4.cell? ⟨g1, 4, none⟩ = some (.slice A2 e.added.length c2) := (blk_cell X14.out 4).trans rfl
  have b0 : w4.cell? ⟨g3, 0, none⟩ = some (.int .u64 e.log) := (blk_cell X24.out 0).trans rfl
  have b1 : w4.cell? ⟨g3, 1, none⟩ = some (.int .u64 e.next) := (blk_cell X24.out 1).trans rfl
  have b2 : w4.cell? ⟨g3, 2, none⟩ = some (.int .u64 e.seq) := (blk_cell X24.out 2).trans rfl
  have b3 : w4.cell? ⟨g3, 3, none⟩ = some (.slice B1 e.gone.length d1) := (blk_cell X24.out 3).trans rfl
  have b4 : w4.cell? ⟨g3, 4, none⟩ = some (.slice B2 e.added.length d2) := (blk_cell X24.out 4).trans rfl
  have SE := sameE_calls w4 e e A1 A2 B1 B2 c1 c2 d1 d2 R14.out R24.out S14.out S24.out
  rw [decide_eq_true (rfl : e = e)] at SE
  have q2 : (er == er) = true := beq_self_eq_true _
  go_wp2_with fail
  refine SE.mono ?_
  clear SE
  rintro x w5 ⟨rfl, hb⟩
  have HB5 := Aside0.mk (below_step HB4.out hb)
  clear hb a0 a1 a2 a3 a4 b0 b1 b2 b3 b4
  go_wp2_with fail
  refine (awake14_calls _).mono ?_
  rintro x w6 ⟨rfl, hb⟩
  have HB6 := Aside0.mk (below_step HB5.out hb)
  clear hb
  go_wp2_with fail
  go_ret
  exact ⟨rfl, HB6.out⟩
end Go.Proofs.Ytkjepfofiegcdaa.V
