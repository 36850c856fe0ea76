import Derived.Test.YtfemebenkbobnaaSKB
/- The law SkipNone, walked. Conditions: none. -/
namespace Go.Proofs.Ytfemebenkbobnaa.SK
set_option linter.unusedVariables false
set_option linter.unusedSimpArgs false
open Go.RowKit Go.Shelf Go.Proofs.YtfemebenkbobnaaW.PrintWords Go.Proofs.YtfemebenkbobnaaW.PrintLast Go.Proofs.YtfemebenkbobnaaW.PrintMore Go.Proofs.Ytfemebenkbobnaa.PB06
attribute [local go_sem high] eqA28
set_option maxHeartbeats 8000000 in
set_option maxRecDepth 100000 in
theorem skipNone_calls (w : World) (r : S28) (hgt : Int) : Calls Try.prog 5 #[.agg #[.string r.f0, .int .u64 r.f1, .int .i64 r.f2, .string r.f3], .int .i64 hgt] w fun e w' => e = .returned (.bool true) ∧ Below w.heap.size w w' := by
  have HB := Aside0.mk (Below.refl w.heap.size w)
  go_enter Try.func5, Try.ntmps5
  go_wp2_with (first | ((with_reducible refine gate_dst (N := 2) rfl ?_); refine box_event ?hg (N := 2) ?hd (cs := #[.string r.f0, .int .u64 r.f1, .int .i64 r.f2, .string r.f3]) (t := 28) ?hr ?_; (case hd => rfl); (case hg => rfl); (case hr => first | (go_simp; done) | (go_simp; rfl)); intro gr hg w2 hbox hb; have n0_ := Aside0.mk (below_step HB.out hb); have n1_ := Aside0.mk hbox; clear HB; have HB := n0_; have BR := n1_; clear n0_ n1_; clear hb hbox hg; have hcr0 : w2.cell? ⟨gr, 0, none⟩ = some (.string r.f0) := (blk_cell BR.out 0).trans rfl; have hcr1 : w2.cell? ⟨gr, 1, none⟩ = some (.int .u64 r.f1) := (blk_cell BR.out 1).trans rfl) | fail)
  refine (seek_nil_calls w2 r.f0 r.f1).mono ?_
  rw [show rowV zrow = .agg #[.string ⟨#[]⟩, .int .u64 0, .int .i64 0, .string ⟨#[]⟩] from rfl]
  rintro e w3 ⟨rfl, hb3⟩
  have n0_ := Aside0.mk (below_step HB.out hb3)
  have n1_ := Aside0.mk (blk_below BR.out hb3)
  clear HB BR hb3 hcr0 hcr1
  have HB := n0_
  have BR := n1_
  clear n0_ n1_
  have hcr0 : w3.cell? ⟨gr, 0, none⟩ = some (.string r.f0) := (blk_cell BR.out 0).trans rfl
  have hcr1 : w3.cell? ⟨gr, 1, none⟩ = some (.int .u64 r.f1) := (blk_cell BR.out 1).trans rfl
  have hcr2 : w3.cell? ⟨gr, 2, none⟩ = some (.int .i64 r.f2) := (blk_cell BR.out 2).trans rfl
  have hcr3 : w3.cell? ⟨gr, 3, none⟩ = some (.string r.f3) := (blk_cell BR.out 3).trans rfl
  have al0 : (w3.alloc (.cells #[.string ⟨#[]⟩, .int .u64 0, .int .i64 0, .string ⟨#[]⟩] 28)).cell? ⟨gr, 0, none⟩ = some (.string r.f0) := (blk_cell (blk_alloc BR.out _) 0).trans rfl
  have al1 : (w3.alloc (.cells #[.string ⟨#[]⟩, .int .u64 0, .int .i64 0, .string ⟨#[]⟩] 28)).cell? ⟨gr, 1, none⟩ = some (.int .u64 r.f1) := (blk_cell (blk_alloc BR.out _) 1).trans rfl
  have al2 : (w3.alloc (.cells #[.string ⟨#[]⟩, .int .u64 0, .int .i64 0, .string ⟨#[]⟩] 28)).cell? ⟨gr, 2, none⟩ = some (.int .i64 r.f2) := (blk_cell (blk_alloc BR.out _) 2).trans rfl
  have al3 : (w3.alloc (.cells #[.string ⟨#[]⟩, .int .u64 0, .int .i64 0, .string ⟨#[]⟩] 28)).cell? ⟨gr, 3, none⟩ = some (.string r.f3) := (blk_cell (blk_alloc BR.out _) 3).trans rfl
  go_wp2_with fail
  have n0_ := Aside0.mk (HB.out.alloc HB.out.size (.cells #[.string ⟨#[]⟩, .int .u64 0, .int .i64 0, .string ⟨#[]⟩] 28))
  have n1_ := Aside0.mk (blk_alloc BR.out (.cells #[.string ⟨#[]⟩, .int .u64 0, .int .i64 0, .string ⟨#[]⟩] 28))
  have n2_ := Aside0.mk (blk_new w3 (.cells #[.string ⟨#[]⟩, .int .u64 0, .int .i64 0, .string ⟨#[]⟩] 28))
  clear HB BR al0 al1 al2 al3 hcr0 hcr1 hcr2 hcr3
  have HB := n0_
  have BR := n1_
  have BX := n2_
  clear n0_ n1_ n2_
  generalize hgx : w3.heap.size = gx at BX ⊢
  clear hgx
  refine (put_nil _ r hgt).mono ?_
  rintro e w5 ⟨rfl, hb5⟩
  have n0_ := Aside0.mk (below_step HB.out hb5)
  have n1_ := Aside0.mk (blk_below BR.out hb5)
  have n2_ := Aside0.mk (blk_below BX.out hb5)
  clear HB BR BX hb5
  have HB := n0_
  have BR := n1_
  have BX := n2_
  clear n0_ n1_ n2_
  have a0 : w5.cell? ⟨gr, 0, none⟩ = some (.string r.f0) := (blk_cell BR.out 0).trans rfl
  have a1 : w5.cell? ⟨gr, 1, none⟩ = some (.int .u64 r.f1) := (blk_cell BR.out 1).trans rfl
  have b0 : w5.cell? ⟨gx, 0, none⟩ = some (.string ⟨#[]⟩) := (blk_cell BX.out 0).trans rfl
  have b1 : w5.cell? ⟨gx, 1, none⟩ = some (.int .u64 0) := (blk_cell BX.out 1).trans rfl
  have b2 : w5.cell? ⟨gx, 2, none⟩ = some (.int .i64 0) := (blk_cell BX.out 2).trans rfl
  have b3 : w5.cell? ⟨gx, 3, none⟩ = some (.string ⟨#[]⟩) := (blk_cell BX.out 3).trans rfl
  go_wp2_with fail
  refine (whole_nil_calls _).mono ?_
  rintro e w6 ⟨v, rfl, hv, hb6⟩
  obtain ⟨A6, c6, rfl⟩ := Kd.R_slice hv
  clear hv a0 a1 b0 b1 b2 b3
  have n0_ := Aside0.mk (below_step HB.out hb6)
  have n1_ := Aside0.mk (blk_below BR.out hb6)
  have n2_ := Aside0.mk (blk_below BX.out hb6)
  clear HB BR BX hb6
  have HB := n0_
  have BR := n1_
  have BX := n2_
  clear n0_ n1_ n2_
  have a0 : w6.cell? ⟨gr, 0, none⟩ = some (.string r.f0) := (blk_cell BR.out 0).trans rfl
  have a1 : w6.cell? ⟨gr, 1, none⟩ = some (.int .u64 r.f1) := (blk_cell BR.out 1).trans rfl
  have b0 : w6.cell? ⟨gx, 0, none⟩ = some (.string ⟨#[]⟩) := (blk_cell BX.out 0).trans rfl
  have b1 : w6.cell? ⟨gx, 1, none⟩ = some (.int .u64 0) := (blk_cell BX.out 1).trans rfl
  have b2 : w6.cell? ⟨gx, 2, none⟩ = some (.int .i64 0) := (blk_cell BX.out 2).trans rfl
  have b3 : w6.cell? ⟨gx, 3, none⟩ = some (.string ⟨#[]⟩) := (blk_cell BX.out 3).trans rfl
  go_wp2_with fail
  refine (all_nil_calls _ r.f0 r.f1 9).mono ?_
  rintro e w7 ⟨v, rfl, hv, hb7⟩
  obtain ⟨A7, c7, rfl⟩ := Kd.R_slice hv
  clear hv a0 a1 b0 b1 b2 b3
  have n0_ := Aside0.mk (below_step HB.out hb7)
  have n1_ := Aside0.mk (blk_below BR.out hb7)
  have n2_ := Aside0.mk (blk_below BX.out hb7)
  clear HB BR BX hb7
  have HB := n0_
  have BR := n1_
  have BX := n2_
  clear n0_ n1_ n2_
  have a0 : w7.cell? ⟨gr, 0, none⟩ = some (.string r.f0) := (blk_cell BR.out 0).trans rfl
  have a1 : w7.cell? ⟨gr, 1, none⟩ = some (.int .u64 r.f1) := (blk_cell BR.out 1).trans rfl
  have b0 : w7.cell? ⟨gx, 0, none⟩ = some (.string ⟨#[]⟩) := (blk_cell BX.out 0).trans rfl
  have b1 : w7.cell? ⟨gx, 1, none⟩ = some (.int .u64 0) := (blk_cell BX.out 1).trans rfl
  have b2 : w7.cell? ⟨gx, 2, none⟩ = some (.int .i64 0) := (blk_cell BX.out 2).trans rfl
  have b3 : w7.cell? ⟨gx, 3, none⟩ = some (.string ⟨#[]⟩) := (blk_cell BX.out 3).trans rfl
  go_wp2_with fail
  refine (len_nil _).mono ?_
  rintro e w8 ⟨rfl, hb8⟩
  clear a0 a1 b0 b1 b2 b3
  have n0_ := Aside0.mk (below_step HB.out hb8)
  have n1_ := Aside0.mk (blk_below BR.out hb8)
  have n2_ := Aside0.mk (blk_below BX.out hb8)
  clear HB BR BX hb8
  have HB := n0_
  have BR := n1_
  have BX := n2_
  clear n0_ n1_ n2_
  have a0 : w8.cell? ⟨gr, 0, none⟩ = some (.string r.f0) := (blk_cell BR.out 0).trans rfl
  have a1 : w8.cell? ⟨gr, 1, none⟩ = some (.int .u64 r.f1) := (blk_cell BR.out 1).trans rfl
  have b0 : w8.cell? ⟨gx, 0, none⟩ = some (.string ⟨#[]⟩) := (blk_cell BX.out 0).trans rfl
  have b1 : w8.cell? ⟨gx, 1, none⟩ = some (.int .u64 0) := (blk_cell BX.out 1).trans rfl
  have b2 : w8.cell? ⟨gx, 2, none⟩ = some (.int .i64 0) := (blk_cell BX.out 2).trans rfl
  have b3 : w8.cell? ⟨gx, 3, none⟩ = some (.string ⟨#[]⟩) := (blk_cell BX.out 3).trans rfl
  go_wp2_with fail
  refine (height_nil _).mono ?_
  rintro e w9 ⟨rfl, hb9⟩
  clear a0 a1 b0 b1 b2 b3
  have n0_ := Aside0.mk (below_step HB.out hb9)
  have n1_ := Aside0.mk (blk_below BR.out hb9)
  have n2_ := Aside0.mk (blk_below BX.out hb9)
  clear HB BR BX hb9
  have HB := n0_
  have BR := n1_
  have BX := n2_
  clear n0_ n1_ n2_
  have a0 : w9.cell? ⟨gr, 0, none⟩ = some (.string r.f0) := (blk_cell BR.out 0).trans rfl
  have a1 : w9.cell? ⟨gr, 1, none⟩ = some (.int .u64 r.f1) := (blk_cell BR.out 1).trans rfl
  have b0 : w9.cell? ⟨gx, 0, none⟩ = some (.string ⟨#[]⟩) := (blk_cell BX.out 0).trans rfl
  have b1 : w9.cell? ⟨gx, 1, none⟩ = some (.int .u64 0) := (blk_cell BX.out 1).trans rfl
  have b2 : w9.cell? ⟨gx, 2, none⟩ = some (.int .i64 0) := (blk_cell BX.out 2).trans rfl
  have b3 : w9.cell? ⟨gx, 3, none⟩ = some (.string ⟨#[]⟩) := (blk_cell BX.out 3).trans rfl
  go_wp2_with fail
  refine (steps_nil _ r.f0 r.f1).mono ?_
  rintro e w10 ⟨rfl, hb10⟩
  clear a0 a1 b0 b1 b2 b3
  have n0_ := Aside0.mk (below_step HB.out hb10)
  have n1_ := Aside0.mk (blk_below BR.out hb10)
  have n2_ := Aside0.mk (blk_below BX.out hb10)
  clear HB BR BX hb10
  have HB := n0_
  have BR := n1_
  have BX := n2_
  clear n0_ n1_ n2_
  have a0 : w10.cell? ⟨gr, 0, none⟩ = some (.string r.f0) := (blk_cell BR.out 0).trans rfl
  have a1 : w10.cell? ⟨gr, 1, none⟩ = some (.int .u64 r.f1) := (blk_cell BR.out 1).trans rfl
  have b0 : w10.cell? ⟨gx, 0, none⟩ = some (.string ⟨#[]⟩) := (blk_cell BX.out 0).trans rfl
  have b1 : w10.cell? ⟨gx, 1, none⟩ = some (.int .u64 0) := (blk_cell BX.out 1).trans rfl
  have b2 : w10.cell? ⟨gx, 2, none⟩ = some (.int .i64 0) := (blk_cell BX.out 2).trans rfl
  have b3 : w10.cell? ⟨gx, 3, none⟩ = some (.string ⟨#[]⟩) := (blk_cell BX.out 3).trans rfl
  go_wp2_with fail
  refine (awake08_calls _).mono ?_
  rintro e w11 ⟨rfl, hb11⟩
  have HB2 := Aside0.mk (below_step HB.out hb11)
  clear a0 a1 b0 b1 b2 b3 hb11 HB
  go_wp2_with fail
  go_ret
  exact ⟨rfl, HB2.out⟩
end Go.Proofs.Ytfemebenkbobnaa.SK
