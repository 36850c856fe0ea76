import Derived.Test.YtfemebenkbobnaaME4
/- The law MemNone, walked. Conditions: none. -/
namespace Go.Proofs.Ytfemebenkbobnaa.SM
set_option linter.unusedVariables false
set_option linter.unusedSimpArgs false
open Go.RowKit Go.Shelf Go.Proofs.YtfemebenkbobnaaW.PrintWords Go.Proofs.YtfemebenkbobnaaW.PrintLast Go.Proofs.YtfemebenkbobnaaW.PrintMore Go.Proofs.Ytfemebenkbobnaa.PB06
attribute [local go_sem high] eqA28
set_option maxHeartbeats 8000000 in
set_option maxRecDepth 100000 in
theorem memNone_calls (w : World) (n0 : Int) (A0 : Option Addr) (c0 : Nat) (l0 : List S72) (key : ByteArray) (at_ : Int) :
    Calls Try.prog 17 #[.agg #[.int .u64 n0, .slice A0 l0.length c0], .string key, .int .u64 at_] w fun e w' => e = .returned (.bool true) ∧ Below w.heap.size w w' := by
  have HB := Aside0.mk (Below.refl w.heap.size w)
  go_enter Try.func17, Try.ntmps17
  go_wp2_with (first | ((with_reducible refine gate_dst (N := 3) rfl ?_); refine box_event ?hg (N := 3) ?hd (cs := #[.int .u64 n0, .slice A0 l0.length c0]) (t := 58) ?hr ?_; (case hd => rfl); (case hg => rfl); (case hr => first | (go_simp; done) | (go_simp; rfl)); intro gb hg w2 hbox hb; have n0_ := Aside0.mk (below_step HB.out hb); have n1_ := Aside0.mk hbox; clear HB; have HB := n0_; have BR := n1_; clear n0_ n1_; clear hb hbox hg) | fail)
  have n0_ := Aside0.mk (HB.out.alloc HB.out.size (.cells #[.string ⟨#[]⟩, .int .u64 0, .int .i64 0, .string ⟨#[]⟩, .pointer none, .pointer none, .pointer none, .pointer none, .pointer none, .pointer none, .pointer none, .pointer none, .pointer none, .pointer none, .pointer none, .pointer none, .int .i64 0, .int .i64 0, .bool false, .int .i64 0, .int .u64 0, .int .u64 0] 94))
  have n1_ := Aside0.mk (blk_alloc BR.out (.cells #[.string ⟨#[]⟩, .int .u64 0, .int .i64 0, .string ⟨#[]⟩, .pointer none, .pointer none, .pointer none, .pointer none, .pointer none, .pointer none, .pointer none, .pointer none, .pointer none, .pointer none, .pointer none, .pointer none, .int .i64 0, .int .i64 0, .bool false, .int .i64 0, .int .u64 0, .int .u64 0] 94))
  have n2_ := Aside0.mk (blk_new w2 (.cells #[.string ⟨#[]⟩, .int .u64 0, .int .i64 0, .string ⟨#[]⟩, .pointer none, .pointer none, .pointer none, .pointer none, .pointer none, .pointer none, .pointer none, .pointer none, .pointer none, .pointer none, .pointer none, .pointer none, .int .i64 0, .int .i64 0, .bool false, .int .i64 0, .int .u64 0, .int .u64 0] 94))
  clear HB BR
  have HB := n0_
  have BR := n1_
  have BZ := n2_
  clear n0_ n1_ n2_
  generalize w2.heap.size = go at *
  generalize w2.alloc (.cells #[.string ⟨#[]⟩, .int .u64 0, .int .i64 0, .string ⟨#[]⟩, .pointer none, .pointer none, .pointer none, .pointer none, .pointer none, .pointer none, .pointer none, .pointer none, .pointer none, .pointer none, .pointer none, .pointer none, .int .i64 0, .int .i64 0, .bool false, .int .i64 0, .int .u64 0, .int .u64 0] 94) = w3 at *
  go_loopg [7, 9, 10, 11] 2 (fun kq v7 v9 v10 v11 w' => ∃ (i : Nat) (p : Option Addr), v7 = .pointer p ∧ v9 = .int .i64 (i : Int) ∧ Aside0 (kq + i = 2) ∧ Aside0 (Un w' p) ∧ Aside0 (w'.heap[gb]? = some (.cells #[.int .u64 n0, .slice A0 l0.length c0] 58 (0, 0))) ∧ Aside0 (w'.heap[go]? = some (.cells #[.string ⟨#[]⟩, .int .u64 0, .int .i64 0, .string ⟨#[]⟩, .pointer none, .pointer none, .pointer none, .pointer none, .pointer none, .pointer none, .pointer none, .pointer none, .pointer none, .pointer none, .pointer none, .pointer none, .int .i64 0, .int .i64 0, .bool false, .int .i64 0, .int .u64 0, .int .u64 0] 94 (0, 0))) ∧ Aside0 (Below w.heap.size w w'))
  case atStart => exact ⟨0, none, rfl, rfl, ⟨rfl⟩, ⟨.inl rfl⟩, BR, BZ, HB⟩
  case round =>
    clear BR BZ HB
    obtain ⟨i, p, rfl, rfl, HK, HU, BR, BZ, HB⟩ := hrel
    cases gk with
    | zero =>
      have ei : i = 2 := by have := HK.out; omega
      subst ei
      go_wp2_with fail
      refine (awake09_calls _).mono ?_
      rintro e w4 ⟨rfl, hb⟩
      have HB2 := Aside0.mk (below_step HB.out hb)
      clear hb HB
      go_wp2_with fail
      go_ret
      exact ⟨rfl, HB2.out⟩
    | succ q =>
      have hi : i = 0 ∨ i = 1 := by have := HK.out; omega
      rcases hi with rfl | rfl
      · have HUP := HU
        clear HU
        go_wp2_with fail
        refine (get_un HUP.out key at_).mono ?_
        rw [show rowV zrow = .agg #[.string ⟨#[]⟩, .int .u64 0, .int .i64 0, .string ⟨#[]⟩] from rfl]
        rintro e w4 ⟨rfl, hb⟩
        have hal := (Below.refl w4.heap.size w4).alloc (Nat.le_refl _) (.cells #[.string ⟨#[]⟩, .int .u64 0, .int .i64 0, .string ⟨#[]⟩] 28)
        have n0_ := Aside0.mk ((HUP.out.below hb).below hal)
        have n1_ := Aside0.mk (blk_below (blk_below BR.out hb) hal)
        have n2_ := Aside0.mk (blk_below (blk_below BZ.out hb) hal)
        have n3_ := Aside0.mk (below_step (below_step HB.out hb) hal)
        have BX := Aside0.mk (blk_new w4 (.cells #[.string ⟨#[]⟩, .int .u64 0, .int .i64 0, .string ⟨#[]⟩] 28))
        have b0 : (w4.alloc (.cells #[.string ⟨#[]⟩, .int .u64 0, .int .i64 0, .string ⟨#[]⟩] 28)).cell? ⟨gb, 0, none⟩ = some (.int .u64 n0) := (blk_cell n1_.out 0).trans rfl
        have b1 : (w4.alloc (.cells #[.string ⟨#[]⟩, .int .u64 0, .int .i64 0, .string ⟨#[]⟩] 28)).cell? ⟨gb, 1, none⟩ = some (.slice A0 l0.length c0) := (blk_cell n1_.out 1).trans rfl
        clear HUP BR BZ HB hb hal
        have HU := n0_
        have BR := n1_
        have BZ := n2_
        have HB := n3_
        clear n0_ n1_ n2_ n3_
        go_wp2_with fail
        generalize w4.heap.size = gx at *
        generalize w4.alloc (.cells #[.string ⟨#[]⟩, .int .u64 0, .int .i64 0, .string ⟨#[]⟩] 28) = w5 at *
        refine (add_un HU.out n0 A0 c0 l0.length (.slice none 0 0)).mono ?_
        rintro e w6 ⟨rfl, hb⟩
        have n0_ := Aside0.mk (HU.out.below hb)
        have n1_ := Aside0.mk (blk_below BR.out hb)
        have n2_ := Aside0.mk (blk_below BZ.out hb)
        have n3_ := Aside0.mk (below_step HB.out hb)
        have n4_ := Aside0.mk (blk_below BX.out hb)
        clear HU BR BZ HB BX hb
        try clear x0 x1 x2 x3
        try clear b0 b1
        have HU := n0_
        have BR := n1_
        have BZ := n2_
        have HB := n3_
        have BX := n4_
        clear n0_ n1_ n2_ n3_ n4_
        have x0 : w6.cell? ⟨gx, 0, none⟩ = some (.string ⟨#[]⟩) := (blk_cell BX.out 0).trans rfl
        have x1 : w6.cell? ⟨gx, 1, none⟩ = some (.int .u64 0) := (blk_cell BX.out 1).trans rfl
        have x2 : w6.cell? ⟨gx, 2, none⟩ = some (.int .i64 0) := (blk_cell BX.out 2).trans rfl
        have x3 : w6.cell? ⟨gx, 3, none⟩ = some (.string ⟨#[]⟩) := (blk_cell BX.out 3).trans rfl
        go_wp2_with fail
        refine (rows_un HU.out).mono ?_
        rintro e w7 ⟨rfl, hb⟩
        have n0_ := Aside0.mk (HU.out.below hb)
        have n1_ := Aside0.mk (blk_below BR.out hb)
        have n2_ := Aside0.mk (blk_below BZ.out hb)
        have n3_ := Aside0.mk (below_step HB.out hb)
        have n4_ := Aside0.mk (blk_below BX.out hb)
        clear HU BR BZ HB BX hb
        try clear x0 x1 x2 x3
        try clear b0 b1
        have HU := n0_
        have BR := n1_
        have BZ := n2_
        have HB := n3_
        have BX := n4_
        clear n0_ n1_ n2_ n3_ n4_
        have x0 : w7.cell? ⟨gx, 0, none⟩ = some (.string ⟨#[]⟩) := (blk_cell BX.out 0).trans rfl
        have x1 : w7.cell? ⟨gx, 1, none⟩ = some (.int .u64 0) := (blk_cell BX.out 1).trans rfl
        have x2 : w7.cell? ⟨gx, 2, none⟩ = some (.int .i64 0) := (blk_cell BX.out 2).trans rfl
        have x3 : w7.cell? ⟨gx, 3, none⟩ = some (.string ⟨#[]⟩) := (blk_cell BX.out 3).trans rfl
        go_wp2_with fail
        refine (range_un HU.out key ⟨#[]⟩).mono ?_
        rintro e w8 ⟨rfl, hb⟩
        have n0_ := Aside0.mk (HU.out.below hb)
        have n1_ := Aside0.mk (blk_below BR.out hb)
        have n2_ := Aside0.mk (blk_below BZ.out hb)
        have n3_ := Aside0.mk (below_step HB.out hb)
        have n4_ := Aside0.mk (blk_below BX.out hb)
        clear HU BR BZ HB BX hb
        try clear x0 x1 x2 x3
        try clear b0 b1
        have HU := n0_
        have BR := n1_
        have BZ := n2_
        have HB := n3_
        have BX := n4_
        clear n0_ n1_ n2_ n3_ n4_
        have x0 : w8.cell? ⟨gx, 0, none⟩ = some (.string ⟨#[]⟩) := (blk_cell BX.out 0).trans rfl
        have x1 : w8.cell? ⟨gx, 1, none⟩ = some (.int .u64 0) := (blk_cell BX.out 1).trans rfl
        have x2 : w8.cell? ⟨gx, 2, none⟩ = some (.int .i64 0) := (blk_cell BX.out 2).trans rfl
        have x3 : w8.cell? ⟨gx, 3, none⟩ = some (.string ⟨#[]⟩) := (blk_cell BX.out 3).trans rfl
        go_wp2_with fail
        refine (tells_un HU.out).mono ?_
        rintro e w9 ⟨rfl, hb⟩
        have n0_ := Aside0.mk (HU.out.below hb)
        have n1_ := Aside0.mk (blk_below BR.out hb)
        have n2_ := Aside0.mk (blk_below BZ.out hb)
        have n3_ := Aside0.mk (below_step HB.out hb)
        have n4_ := Aside0.mk (blk_below BX.out hb)
        clear HU BR BZ HB BX hb
        try clear x0 x1 x2 x3
        try clear b0 b1
        have HU := n0_
        have BR := n1_
        have BZ := n2_
        have HB := n3_
        have BX := n4_
        clear n0_ n1_ n2_ n3_ n4_
        have x0 : w9.cell? ⟨gx, 0, none⟩ = some (.string ⟨#[]⟩) := (blk_cell BX.out 0).trans rfl
        have x1 : w9.cell? ⟨gx, 1, none⟩ = some (.int .u64 0) := (blk_cell BX.out 1).trans rfl
        have x2 : w9.cell? ⟨gx, 2, none⟩ = some (.int .i64 0) := (blk_cell BX.out 2).trans rfl
        have x3 : w9.cell? ⟨gx, 3, none⟩ = some (.string ⟨#[]⟩) := (blk_cell BX.out 3).trans rfl
        go_wp2_with fail
        go_roundg q
        case measure => omega
        case rel => exact ⟨1, p, rfl, rfl, ⟨by have := HK.out; omega⟩, HU, BR, BZ, HB⟩
      · have HUP := Aside0.mk (show Un wr (some ⟨go, 0, none⟩) from .inr ⟨go, rfl, (blk_cell BZ.out 18).trans rfl⟩)
        clear HU
        go_wp2_with fail
        refine (get_un HUP.out key at_).mono ?_
        rw [show rowV zrow = .agg #[.string ⟨#[]⟩, .int .u64 0, .int .i64 0, .string ⟨#[]⟩] from rfl]
        rintro e w4 ⟨rfl, hb⟩
        have hal := (Below.refl w4.heap.size w4).alloc (Nat.le_refl _) (.cells #[.string ⟨#[]⟩, .int .u64 0, .int .i64 0, .string ⟨#[]⟩] 28)
        have n0_ := Aside0.mk ((HUP.out.below hb).below hal)
        have n1_ := Aside0.mk (blk_below (blk_below BR.out hb) hal)
        have n2_ := Aside0.mk (blk_below (blk_below BZ.out hb) hal)
        have n3_ := Aside0.mk (below_step (below_step HB.out hb) hal)
        have BX := Aside0.mk (blk_new w4 (.cells #[.string ⟨#[]⟩, .int .u64 0, .int .i64 0, .string ⟨#[]⟩] 28))
        have b0 : (w4.alloc (.cells #[.string ⟨#[]⟩, .int .u64 0, .int .i64 0, .string ⟨#[]⟩] 28)).cell? ⟨gb, 0, none⟩ = some (.int .u64 n0) := (blk_cell n1_.out 0).trans rfl
        have b1 : (w4.alloc (.cells #[.string ⟨#[]⟩, .int .u64 0, .int .i64 0, .string ⟨#[]⟩] 28)).cell? ⟨gb, 1, none⟩ = some (.slice A0 l0.length c0) := (blk_cell n1_.out 1).trans rfl
        clear HUP BR BZ HB hb hal
        have HU := n0_
        have BR := n1_
        have BZ := n2_
        have HB := n3_
        clear n0_ n1_ n2_ n3_
        go_wp2_with fail
        generalize w4.heap.size = gx at *
        generalize w4.alloc (.cells #[.string ⟨#[]⟩, .int .u64 0, .int .i64 0, .string ⟨#[]⟩] 28) = w5 at *
        refine (add_un HU.out n0 A0 c0 l0.length (.slice none 0 0)).mono ?_
        rintro e w6 ⟨rfl, hb⟩
        have n0_ := Aside0.mk (HU.out.below hb)
        have n1_ := Aside0.mk (blk_below BR.out hb)
        have n2_ := Aside0.mk (blk_below BZ.out hb)
        have n3_ := Aside0.mk (below_step HB.out hb)
        have n4_ := Aside0.mk (blk_below BX.out hb)
        clear HU BR BZ HB BX hb
        try clear x0 x1 x2 x3
        try clear b0 b1
        have HU := n0_
        have BR := n1_
        have BZ := n2_
        have HB := n3_
        have BX := n4_
        clear n0_ n1_ n2_ n3_ n4_
        have x0 : w6.cell? ⟨gx, 0, none⟩ = some (.string ⟨#[]⟩) := (blk_cell BX.out 0).trans rfl
        have x1 : w6.cell? ⟨gx, 1, none⟩ = some (.int .u64 0) := (blk_cell BX.out 1).trans rfl
        have x2 : w6.cell? ⟨gx, 2, none⟩ = some (.int .i64 0) := (blk_cell BX.out 2).trans rfl
        have x3 : w6.cell? ⟨gx, 3, none⟩ = some (.string ⟨#[]⟩) := (blk_cell BX.out 3).trans rfl
        go_wp2_with fail
        refine (rows_un HU.out).mono ?_
        rintro e w7 ⟨rfl, hb⟩
        have n0_ := Aside0.mk (HU.out.below hb)
        have n1_ := Aside0.mk (blk_below BR.out hb)
        have n2_ := Aside0.mk (blk_below BZ.out hb)
        have n3_ := Aside0.mk (below_step HB.out hb)
        have n4_ := Aside0.mk (blk_below BX.out hb)
        clear HU BR BZ HB BX hb
        try clear x0 x1 x2 x3
        try clear b0 b1
        have HU := n0_
        have BR := n1_
        have BZ := n2_
        have HB := n3_
        have BX := n4_
        clear n0_ n1_ n2_ n3_ n4_
        have x0 : w7.cell? ⟨gx, 0, none⟩ = some (.string ⟨#[]⟩) := (blk_cell BX.out 0).trans rfl
        have x1 : w7.cell? ⟨gx, 1, none⟩ = some (.int .u64 0) := (blk_cell BX.out 1).trans rfl
        have x2 : w7.cell? ⟨gx, 2, none⟩ = some (.int .i64 0) := (blk_cell BX.out 2).trans rfl
        have x3 : w7.cell? ⟨gx, 3, none⟩ = some (.string ⟨#[]⟩) := (blk_cell BX.out 3).trans rfl
        go_wp2_with fail
        refine (range_un HU.out key ⟨#[]⟩).mono ?_
        rintro e w8 ⟨rfl, hb⟩
        have n0_ := Aside0.mk (HU.out.below hb)
        have n1_ := Aside0.mk (blk_below BR.out hb)
        have n2_ := Aside0.mk (blk_below BZ.out hb)
        have n3_ := Aside0.mk (below_step HB.out hb)
        have n4_ := Aside0.mk (blk_below BX.out hb)
        clear HU BR BZ HB BX hb
        try clear x0 x1 x2 x3
        try clear b0 b1
        have HU := n0_
        have BR := n1_
        have BZ := n2_
        have HB := n3_
        have BX := n4_
        clear n0_ n1_ n2_ n3_ n4_
        have x0 : w8.cell? ⟨gx, 0, none⟩ = some (.string ⟨#[]⟩) := (blk_cell BX.out 0).trans rfl
        have x1 : w8.cell? ⟨gx, 1, none⟩ = some (.int .u64 0) := (blk_cell BX.out 1).trans rfl
        have x2 : w8.cell? ⟨gx, 2, none⟩ = some (.int .i64 0) := (blk_cell BX.out 2).trans rfl
        have x3 : w8.cell? ⟨gx, 3, none⟩ = some (.string ⟨#[]⟩) := (blk_cell BX.out 3).trans rfl
        go_wp2_with fail
        refine (tells_un HU.out).mono ?_
        rintro e w9 ⟨rfl, hb⟩
        have n0_ := Aside0.mk (HU.out.below hb)
        have n1_ := Aside0.mk (blk_below BR.out hb)
        have n2_ := Aside0.mk (blk_below BZ.out hb)
        have n3_ := Aside0.mk (below_step HB.out hb)
        have n4_ := Aside0.mk (blk_below BX.out hb)
        clear HU BR BZ HB BX hb
        try clear x0 x1 x2 x3
        try clear b0 b1
        have HU := n0_
        have BR := n1_
        have BZ := n2_
        have HB := n3_
        have BX := n4_
        clear n0_ n1_ n2_ n3_ n4_
        have x0 : w9.cell? ⟨gx, 0, none⟩ = some (.string ⟨#[]⟩) := (blk_cell BX.out 0).trans rfl
        have x1 : w9.cell? ⟨gx, 1, none⟩ = some (.int .u64 0) := (blk_cell BX.out 1).trans rfl
        have x2 : w9.cell? ⟨gx, 2, none⟩ = some (.int .i64 0) := (blk_cell BX.out 2).trans rfl
        have x3 : w9.cell? ⟨gx, 3, none⟩ = some (.string ⟨#[]⟩) := (blk_cell BX.out 3).trans rfl
        go_wp2_with fail
        go_roundg q
        case measure => omega
        case rel => exact ⟨2, some ⟨go, 0, none⟩, rfl, rfl, ⟨by have := HK.out; omega⟩, HU, BR, BZ, HB⟩
end Go.Proofs.Ytfemebenkbobnaa.SM
