import Derived.Test.YtkjepfofiegcdaaVB9
import Derived.Deep.MidRow
import Derived.Laws.CopyOwn
import Derived.StillTailTactics
/- Whole structs loaded and stored; slices.MinFunc at tables, walked. Conditions: at least one row. -/
namespace Go.Proofs.Ytkjepfofiegcdaa.V
set_option linter.unusedVariables false
set_option linter.unusedSimpArgs false
open Go.RowKit Go.Proofs.YtkjepfofiegcdaaW.PrintWords Go.Proofs.YtkjepfofiegcdaaW.PrintLast Go.Proofs.YtkjepfofiegcdaaW.PrintMore Go.Proofs.Ytkjepfofiegcdaa.PB14
section
variable {P : Program} {ops : Array Oper} {rest : List Oper} {o : Oper} {a : Act} {Q : Exit → Act → World → Prop} {W : World}
/-- A whole array (or struct) read out of its block. -/
theorem ld_arr (hgd : o.guard = none) (ty : TypeId) (x : Operand) (ho : o.op = .load ty x) (g t : Nat) (hx : a.eval x = .pointer (some ⟨g, 0, none⟩)) (cs : Array Value) (fr : Nat × Nat) (d : TypeDesc) (hg : W.heap[g]? = some (.cells cs t fr))
    (hu : P.underlying ty = some d) (hd : (match d with | .struct _ | .array _ _ => true | _ => false) = true) (hi : (P.info? ty).map (·.size) = some cs.size) (h : wpList P ops Q rest (a.put o.dst (.agg cs)) W) : wpList P ops Q (o :: rest) a W :=
  wpList_plain hgd fun _ hK => by
    unfold Oper.wp execOp
    simp only [ho, hx, Instr.loadAt, Instr.sureAddr, Sem.run_bind, Sem.run_pure, Result.andThen_ok, run_loadVar_row W g t ty cs fr d hg hu hd hi]
    exact hK _ _ h
/-- A whole array stored into its block. -/
theorem st_arr (hgd : o.guard = none) (ty : TypeId) (x y : Operand) (ho : o.op = .store ty x y) (g t : Nat) (hx : a.eval x = .pointer (some ⟨g, 0, none⟩)) (cells : Array Value) (hy : a.eval y = .agg cells) (old : Array Value) (hg : W.heap[g]? = some (.cells old t (0, 0)))
    (hi : (P.info? ty).map (·.size) = some cells.size) (hs : old.size = cells.size) (h1 : cells.all (·.oneCell') = true)
    (h : ∀ w1 : World, w1.heap[g]? = some (.cells cells t (0, 0)) → (∀ B w0, Below B w0 W → B ≤ g → Below B w0 w1) → (∀ k, k ≠ g → w1.heap[k]? = W.heap[k]?) → w1.heap.size = W.heap.size → wpList P ops Q rest (a.put o.dst undef) w1) : wpList P ops Q (o :: rest) a W :=
  wpList_plain hgd fun _ hK => by
    unfold Oper.wp execOp
    simp only [ho, hx, hy, Instr.storeAt, Instr.sureAddr, Sem.run_bind, Sem.run_pure, Result.andThen_ok, run_storeVar_row W g t ty old cells hg hi hs h1]
    exact hK _ _ (h _ (setRow_heap W g old cells t (0, 0) hg) (fun B w0 hb hle => below_setRow hb hle cells) (fun k hk => setRow_other W g k cells hk) (setRow_size W g cells))
/-- One cell stored into a block. -/
theorem st_one (hgd : o.guard = none) (ty : TypeId) (x y : Operand) (ho : o.op = .store ty x y) (g t j : Nat) (hx : a.eval x = .pointer (some ⟨g, j, none⟩)) (v : Value) (hy : a.eval y = v) (old : Array Value) (hg : W.heap[g]? = some (.cells old t (0, 0))) (hj : j < old.size)
    (hrun : (Instr.storeAt ty (.pointer (some ⟨g, j, none⟩)) v).run P W = .ok () (W.setCell ⟨g, j, none⟩ v))
    (h : ∀ w1 : World, w1.heap[g]? = some (.cells (old.setIfInBounds j v) t (0, 0)) → (∀ B w0, Below B w0 W → B ≤ g → Below B w0 w1) → (∀ k, k ≠ g → w1.heap[k]? = W.heap[k]?) → w1.heap.size = W.heap.size → wpList P ops Q rest (a.put o.dst undef) w1) : wpList P ops Q (o :: rest) a W :=
  wpList_plain hgd fun _ hK => by
    unfold Oper.wp execOp
    simp only [ho, hx, hy, hrun, Sem.run_bind, Sem.run_pure, Result.andThen_ok]
    exact hK _ _ (h _ (blk_put hg j v rfl) (fun B w0 hb hle => hb.setCell hle _) (fun k hk => Below.heap_setCell W ⟨g, j, none⟩ v k hk) (by simp [World.setCell]))
end
theorem size58 : (Try.prog.info? 58).map (·.size) = some 7 := by kernel_rfl
theorem mCs_one (m : S58) : (mCs m).all (·.oneCell') = true := by simp [Value.oneCell']
/-- The first of the least numbers among the first k. -/
def minK (xs : List S58) : Nat → S58
  | 0 => xs.getD 0 z58
  | k + 1 => if (xs.getD k z58).f0 < (minK xs k).f0 then xs.getD k z58 else minK xs k
set_option maxRecDepth 100000 in
theorem cmp_calls (w : World) (a b : S58) : Calls Try.prog 136 #[.agg (mCs a), .agg (mCs b)] w fun e w' => e = .returned (.int .i64 (if a.f0 < b.f0 then -1 else 1)) ∧ Below w.heap.size w w' := by
  have HB := Aside0.mk (below_alloc ((Below.refl w.heap.size w).alloc (Nat.le_refl _) (.cells (mCs a) 58)) (.cells (mCs b) 58))
  by_cases h : a.f0 < b.f0
  · rw [if_pos h]
    have h1 : decide (a.f0 < b.f0) = true := decide_eq_true h
    go_enter Try.func136, Try.ntmps136
    go_wp2_with fail
    go_ret
    exact ⟨rfl, HB.out⟩
  · rw [if_neg h]
    have h1 : decide (a.f0 < b.f0) = false := decide_eq_false h
    clear h
    go_enter Try.func136, Try.ntmps136
    go_wp2_with fail
    go_ret
    exact ⟨rfl, HB.out⟩
set_option maxHeartbeats 4000000 in
set_option maxRecDepth 100000 in
theorem min_calls (w : World) (A : Option Addr) (c : Nat) (xs : List S58) (hC : k58.C w A xs.length xs) (h0 : 0 < xs.length) : Calls Try.prog 135 #[.slice A xs.length c, .func (.func 136) #[] #[]] w fun e w' => e = .returned (.agg (mCs (minK xs xs.length))) ∧ Below w.heap.size w w' := by
  have HC := Aside0.mk hC
  have H0 := Aside0.mk h0
  have HM := Aside0.mk (show xs.length ≤ 9223372036854775807 from hC.2.1)
  have d1 : decide ((xs.length : Int) < 1) = false := decide_eq_false (by omega)
  have d2 : decide (xs.length < 1) = false := decide_eq_false (by omega)
  obtain ⟨ad, ea, ha0, ha1, ha2, ha3, ha4, ha5, ha6⟩ := at_T58 hC 0 (by omega) (by omega)
  have hb1 := (Below.refl w.heap.size w).alloc (Nat.le_refl _) (.cells #[.int .u64 0, .int .i64 0, .int .i64 0, .string ⟨#[]⟩, .string ⟨#[]⟩, .int .u64 0, .int .u64 0] 58)
  have HB := Aside0.mk hb1
  have E0 := Aside0.mk (show rd_T58 xs 0 = minK xs 1 by
    show xs.getD 0 z58 = if (xs.getD 0 z58).f0 < (xs.getD 0 z58).f0 then xs.getD 0 z58 else xs.getD 0 z58
    split <;> rfl)
  generalize rd_T58 xs 0 = m at *
  subst ea
  have q0 : decide ((0 : Int) < (xs.length : Int)) = true := decide_eq_true (by omega)
  have q1 : (0 : Int) < (xs.length : Int) := by omega
  have az : ad.add (Int.toNat 0 * 7) = ad := by show ad.add 0 = ad; unfold Addr.add; rw [if_pos rfl]
  rw [az] at ha0 ha1 ha2 ha3 ha4 ha5 ha6
  have hz0 := (hb1.cell (World.block_lt_of_cell? w _ ha0)).trans ha0
  have hz1 := (hb1.cell (World.block_lt_of_cell? w _ ha1)).trans ha1
  have hz2 := (hb1.cell (World.block_lt_of_cell? w _ ha2)).trans ha2
  have hz3 := (hb1.cell (World.block_lt_of_cell? w _ ha3)).trans ha3
  have hz4 := (hb1.cell (World.block_lt_of_cell? w _ ha4)).trans ha4
  have hz5 := (hb1.cell (World.block_lt_of_cell? w _ ha5)).trans ha5
  have hz6 := (hb1.cell (World.block_lt_of_cell? w _ ha6)).trans ha6
  clear hC az ha0 ha1 ha2 ha3 ha4 ha5 ha6 h0
  go_enter Try.func135, Try.ntmps135
  go_wp2_with fail
  have X5 := Aside0.mk (blk_new (w.alloc (.cells #[.int .u64 0, .int .i64 0, .int .i64 0, .string ⟨#[]⟩, .string ⟨#[]⟩, .int .u64 0, .int .u64 0] 58)) (.cells (mCs m) 58))
  have X4 := Aside0.mk (blk_alloc (blk_new w (.cells #[.int .u64 0, .int .i64 0, .int .i64 0, .string ⟨#[]⟩, .string ⟨#[]⟩, .int .u64 0, .int .u64 0] 58)) (.cells (mCs m) 58))
  have HB2 := Aside0.mk (below_alloc HB.out (.cells (mCs m) 58))
  have G5 := Aside0.mk HB.out.size
  clear hz0 hz1 hz2 hz3 hz4 hz5 hz6 hb1 HB
  generalize hg5 : (w.alloc (.cells #[.int .u64 0, .int .i64 0, .int .i64 0, .string ⟨#[]⟩, .string ⟨#[]⟩, .int .u64 0, .int .u64 0] 58)).heap.size = g5 at *
  have e7 : w.heap.size + 1 = g5 := by rw [← hg5]; simp
  have N45 := Aside0.mk (show w.heap.size ≠ g5 by omega)
  try rw [e7]
  clear hg5 e7
  generalize (w.alloc (.cells #[.int .u64 0, .int .i64 0, .int .i64 0, .string ⟨#[]⟩, .string ⟨#[]⟩, .int .u64 0, .int .u64 0] 58)).alloc (.cells (mCs m) 58) = w1 at *
  go_loopg [6] (xs.length - 1) (fun kq v6 w' => ∃ k : Nat, v6 = .int .i64 (k : Int) ∧ 1 ≤ k ∧ Aside0 (kq + k = xs.length) ∧ Aside0 (Below w.heap.size w w') ∧ Aside0 (w'.heap[g5]? = some (.cells (mCs (minK xs k)) 58 (0, 0))) ∧ Aside0 (w'.heap[w.heap.size]? = some (.cells #[.int .u64 0, .int .i64 0, .int .i64 0, .string ⟨#[]⟩, .string ⟨#[]⟩, .int .u64 0, .int .u64 0] 58 (0, 0))))
  case atStart => exact ⟨1, rfl, by omega, ⟨by have := H0.out; omega⟩, HB2, by rw [← E0.out]; exact X5, X4⟩
  case round =>
    clear HB2 X5 X4
    obtain ⟨k, rfl, hk1, HK, HB, X5, X4⟩ := hrel
    cases gk with
    | zero =>
      have ek : k = xs.length := by have := HK.out; omega
      subst ek
      have d0 : decide ((xs.length : Int) < (xs.length : Int)) = false := by simp
      have y0 : wr.cell? ⟨g5, 0, none⟩ = some (.int .u64 (minK xs xs.length).f0) := (blk_cell X5.out 0).trans rfl
      have y1 : wr.cell? ⟨g5, 1, none⟩ = some (.int .i64 (minK xs xs.length).f1) := (blk_cell X5.out 1).trans rfl
      have y2 : wr.cell? ⟨g5, 2, none⟩ = some (.int .i64 (minK xs xs.length).f2) := (blk_cell X5.out 2).trans rfl
      have y3 : wr.cell? ⟨g5, 3, none⟩ = some (.string (minK xs xs.length).f3) := (blk_cell X5.out 3).trans rfl
      have y4 : wr.cell? ⟨g5, 4, none⟩ = some (.string (minK xs xs.length).f4) := (blk_cell X5.out 4).trans rfl
      have y5 : wr.cell? ⟨g5, 5, none⟩ = some (.int .u64 (minK xs xs.length).f5) := (blk_cell X5.out 5).trans rfl
      have y6 : wr.cell? ⟨g5, 6, none⟩ = some (.int .u64 (minK xs xs.length).f6) := (blk_cell X5.out 6).trans rfl
      go_wp2_with (first | (refine st_arr rfl 58 _ _ rfl w.heap.size 58 ?hx (mCs (minK xs xs.length)) ?hy _ X4.out (by rw [size58]; rfl) rfl (mCs_one _) ?_; (case hx => rfl); (case hy => rfl); intro w5 hb5 hbb hk5 hs5; have n0_ := Aside0.mk (hbb _ _ HB.out (Nat.le_refl _)); have X6 := Aside0.mk hb5; clear hb5 hbb hk5 hs5; have HB5 := n0_) | fail)
      have r0 : w5.cell? ⟨w.heap.size, 0, none⟩ = some (.int .u64 (minK xs xs.length).f0) := (blk_cell X6.out 0).trans rfl
      have r1 : w5.cell? ⟨w.heap.size, 1, none⟩ = some (.int .i64 (minK xs xs.length).f1) := (blk_cell X6.out 1).trans rfl
      have r2 : w5.cell? ⟨w.heap.size, 2, none⟩ = some (.int .i64 (minK xs xs.length).f2) := (blk_cell X6.out 2).trans rfl
      have r3 : w5.cell? ⟨w.heap.size, 3, none⟩ = some (.string (minK xs xs.length).f3) := (blk_cell X6.out 3).trans rfl
      have r4 : w5.cell? ⟨w.heap.size, 4, none⟩ = some (.string (minK xs xs.length).f4) := (blk_cell X6.out 4).trans rfl
      have r5 : w5.cell? ⟨w.heap.size, 5, none⟩ = some (.int .u64 (minK xs xs.length).f5) := (blk_cell X6.out 5).trans rfl
      have r6 : w5.cell? ⟨w.heap.size, 6, none⟩ = some (.int .u64 (minK xs xs.length).f6) := (blk_cell X6.out 6).trans rfl
      exact bodyPost_ret (v := .agg (mCs (minK xs xs.length))) (by simp [results, Try.results135, go_sem, r0, r1, r2, r3, r4, r5, r6]) rfl ⟨rfl, HB5.out⟩
    | succ q =>
      have hk : k < xs.length := by have := HK.out; omega
      have d0 : decide ((k : Int) < (xs.length : Int)) = true := decide_eq_true (by omega)
      have d3 : decide (k < xs.length) = true := decide_eq_true hk
      have p0 : 0 ≤ (k : Int) := Int.natCast_nonneg _
      have p1 : (k : Int) < (xs.length : Int) := by omega
      obtain ⟨ad', eb, ha0, ha1, ha2, ha3, ha4, ha5, ha6⟩ := at_T58 HC.out (k : Int) p0 p1
      cases eb
      rw [Int.toNat_natCast] at ha0 ha1 ha2 ha3 ha4 ha5 ha6
      have EM := Aside0.mk (show rd_T58 xs (k : Int) = xs.getD k z58 by unfold rd_T58; rw [Int.toNat_natCast])
      generalize rd_T58 xs (k : Int) = a at *
      obtain ⟨b, hb⟩ : ∃ b, b = minK xs k := ⟨_, rfl⟩
      rw [← hb] at X5
      have BE := Aside0.mk (show minK xs (k + 1) = if a.f0 < b.f0 then a else b by rw [hb, EM.out]; rfl)
      clear hb hk
      have c0 := (HB.out.cell (World.block_lt_of_cell? w _ ha0)).trans ha0
      have c1 := (HB.out.cell (World.block_lt_of_cell? w _ ha1)).trans ha1
      have c2 := (HB.out.cell (World.block_lt_of_cell? w _ ha2)).trans ha2
      have c3 := (HB.out.cell (World.block_lt_of_cell? w _ ha3)).trans ha3
      have c4 := (HB.out.cell (World.block_lt_of_cell? w _ ha4)).trans ha4
      have c5 := (HB.out.cell (World.block_lt_of_cell? w _ ha5)).trans ha5
      have c6 := (HB.out.cell (World.block_lt_of_cell? w _ ha6)).trans ha6
      clear ha0 ha1 ha2 ha3 ha4 ha5 ha6
      have y0 : wr.cell? ⟨g5, 0, none⟩ = some (.int .u64 b.f0) := (blk_cell X5.out 0).trans rfl
      have y1 : wr.cell? ⟨g5, 1, none⟩ = some (.int .i64 b.f1) := (blk_cell X5.out 1).trans rfl
      have y2 : wr.cell? ⟨g5, 2, none⟩ = some (.int .i64 b.f2) := (blk_cell X5.out 2).trans rfl
      have y3 : wr.cell? ⟨g5, 3, none⟩ = some (.string b.f3) := (blk_cell X5.out 3).trans rfl
      have y4 : wr.cell? ⟨g5, 4, none⟩ = some (.string b.f4) := (blk_cell X5.out 4).trans rfl
      have y5 : wr.cell? ⟨g5, 5, none⟩ = some (.int .u64 b.f5) := (blk_cell X5.out 5).trans rfl
      have y6 : wr.cell? ⟨g5, 6, none⟩ = some (.int .u64 b.f6) := (blk_cell X5.out 6).trans rfl
      go_wp2_with fail
      go_still_tail 6, (by kernel_rfl)
      go_wp2_with fail
      refine (cmp_calls _ a b).mono ?_
      rintro e w3 ⟨rfl, hb⟩
      replace hb : Below wr.heap.size wr w3 := (below_drew (Below.refl wr.heap.size wr)).trans hb
      have HB3 := Aside0.mk (below_step HB.out hb)
      have X53 := Aside0.mk (blk_below X5.out hb)
      have X43 := Aside0.mk (blk_below X4.out hb)
      have e0_ := (hb.cell (World.block_lt_of_cell? _ _ c0)).trans c0
      have e1_ := (hb.cell (World.block_lt_of_cell? _ _ c1)).trans c1
      have e2_ := (hb.cell (World.block_lt_of_cell? _ _ c2)).trans c2
      have e3_ := (hb.cell (World.block_lt_of_cell? _ _ c3)).trans c3
      have e4_ := (hb.cell (World.block_lt_of_cell? _ _ c4)).trans c4
      have e5_ := (hb.cell (World.block_lt_of_cell? _ _ c5)).trans c5
      have e6_ := (hb.cell (World.block_lt_of_cell? _ _ c6)).trans c6
      clear hb HB X5 X4 c0 c1 c2 c3 c4 c5 c6 y0 y1 y2 y3 y4 y5 y6
      have ew : wrap64 ((k : Int) + 1) = ((k + 1 : Nat) : Int) := by have h1 := HM.out; unfold wrap64; omega
      by_cases hlt : a.f0 < b.f0
      · rw [if_pos hlt]
        have BE2 := Aside0.mk (show minK xs (k + 1) = a by rw [BE.out, if_pos hlt])
        clear hlt
        go_wp2_with (first | (refine st_arr rfl 58 _ _ rfl g5 58 ?hx (mCs a) ?hy _ X53.out (by rw [size58]; rfl) rfl (mCs_one a) ?_; (case hx => rfl); (case hy => rfl); intro w5 hb5 hbb hk5 hs5; have HB5 := Aside0.mk (hbb _ _ HB3.out G5.out); have X55 := Aside0.mk hb5; have X45 := Aside0.mk ((hk5 _ N45.out).trans X43.out); clear hb5 hbb hk5 hs5) | fail)
        try rw [ew]
        go_roundg q
        case measure => omega
        case rel => exact ⟨k + 1, rfl, by omega, ⟨by have := HK.out; omega⟩, HB5, by rw [BE2.out]; exact X55, X45⟩
      · rw [if_neg hlt]
        have BE2 := Aside0.mk (show minK xs (k + 1) = b by rw [BE.out, if_neg hlt])
        clear hlt
        go_wp2_with fail
        try rw [ew]
        go_roundg q
        case measure => omega
        case rel => exact ⟨k + 1, rfl, by omega, ⟨by have := HK.out; omega⟩, HB3, by rw [BE2.out]; exact X53, X43⟩
end Go.Proofs.Ytkjepfofiegcdaa.V
