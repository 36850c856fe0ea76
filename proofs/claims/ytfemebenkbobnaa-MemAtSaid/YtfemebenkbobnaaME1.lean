import Derived.Test.YtfemebenkbobnaaME0
/- The table of rows in memory: Get, walked. Conditions: at most 2 to the 61st rows. -/
namespace Go.Proofs.Ytfemebenkbobnaa.SM
set_option linter.unusedVariables false
set_option linter.unusedSimpArgs false
open Go.RowKit Go.Shelf Go.Proofs.YtfemebenkbobnaaW.PrintWords Go.Proofs.YtfemebenkbobnaaW.PrintLast Go.Proofs.YtfemebenkbobnaaW.PrintMore Go.Proofs.Ytfemebenkbobnaa.PB06
/-- What a key has at a number. -/
def getIs (key : ByteArray) (seq : Int) (rs : List Nd) : Bool := seekOk key seq rs && decide ((seekRow key seq rs).f0 = key)
def getRow (key : ByteArray) (seq : Int) (rs : List Nd) : S28 := if getIs key seq rs = true then seekRow key seq rs else zrow
theorem get_un {w : World} {p : Option Addr} (h : Un w p) (key : ByteArray) (seq : Int) : Calls Try.prog 50 #[.pointer p, .string key, .int .u64 seq] w fun e w' => e = .returned (.tuple #[rowV zrow, .bool false]) ∧ Below w.heap.size w w' := by
  have HU := Aside0.mk (h.below ((Below.refl w.heap.size w).alloc (Nat.le_refl _) (.cells #[.string ⟨#[]⟩, .int .u64 0, .int .i64 0, .string ⟨#[]⟩] 28)))
  have n0_ := Aside0.mk ((Below.refl w.heap.size w).alloc (Nat.le_refl _) (.cells #[.string ⟨#[]⟩, .int .u64 0, .int .i64 0, .string ⟨#[]⟩] 28))
  have BX := Aside0.mk (blk_new w (.cells #[.string ⟨#[]⟩, .int .u64 0, .int .i64 0, .string ⟨#[]⟩] 28))
  obtain ⟨gx, hgx⟩ : ∃ gx, gx = w.heap.size := ⟨_, rfl⟩
  have GX := Aside0.mk (show w.heap.size ≤ gx by omega)
  rw [← hgx] at BX
  clear h
  go_enter Try.func50, Try.ntmps50
  go_wp2_with fail
  rw [← hgx]
  generalize w.alloc (.cells #[.string ⟨#[]⟩, .int .u64 0, .int .i64 0, .string ⟨#[]⟩] 28) = w1 at *
  clear hgx
  refine (none_un HU.out).mono ?_
  rintro e w2 ⟨rfl, hb⟩
  have HB := Aside0.mk (below_step n0_.out hb)
  have n1_ := Aside0.mk (blk_below BX.out hb)
  clear BX n0_ hb HU
  have BX := n1_
  clear n1_
  go_wp2_with (first | (refine st_arr rfl 28 _ _ rfl gx 28 ?hx #[.string ⟨#[]⟩, .int .u64 0, .int .i64 0, .string ⟨#[]⟩] ?hy #[.string ⟨#[]⟩, .int .u64 0, .int .i64 0, .string ⟨#[]⟩] BX.out size28 rfl (by first | rfl | kernel_rfl | decide) ?_; (case hx => rfl); (case hy => rfl); intro w4 hb5 hbb hk5 hs5; have n0_ := Aside0.mk hb5; have n1_ := Aside0.mk (hbb _ _ HB.out GX.out); clear BX HB; have BX := n0_; have HB := n1_; clear n0_ n1_ hb5 hbb hk5 hs5) | fail)
  exact bodyPost_ret (results_ct rfl _ _ gx 28 #[.string ⟨#[]⟩, .int .u64 0, .int .i64 0, .string ⟨#[]⟩] (0, 0) _ rfl BX.out Try.underlying28 rfl size28) rfl ⟨rfl, HB.out⟩
theorem get_tab {w : World} {g : Nat} {rs : List Nd} {room least greatest : Int} (h : Sk (tabT room least greatest) w g rs) (hlen : rs.length ≤ 2305843009213693952) (key : ByteArray) (seq : Int) :
    Calls Try.prog 50 #[.pointer (some ⟨g, 0, none⟩), .string key, .int .u64 seq] w fun e w' => e = .returned (.tuple #[rowV (getRow key seq rs), .bool (getIs key seq rs)]) ∧ Below w.heap.size w w' := by
  have HU := Aside0.mk (h.below ((Below.refl w.heap.size w).alloc (Nat.le_refl _) (.cells #[.string ⟨#[]⟩, .int .u64 0, .int .i64 0, .string ⟨#[]⟩] 28)))
  have HL := Aside0.mk hlen
  have HG := Aside0.mk (show getIs key seq rs = (seekOk key seq rs && decide ((seekRow key seq rs).f0 = key)) from rfl)
  have HR := Aside0.mk (show getRow key seq rs = if getIs key seq rs = true then seekRow key seq rs else zrow from rfl)
  generalize getRow key seq rs = gr at *
  generalize getIs key seq rs = gi at *
  have n0_ := Aside0.mk ((Below.refl w.heap.size w).alloc (Nat.le_refl _) (.cells #[.string ⟨#[]⟩, .int .u64 0, .int .i64 0, .string ⟨#[]⟩] 28))
  have BX := Aside0.mk (blk_new w (.cells #[.string ⟨#[]⟩, .int .u64 0, .int .i64 0, .string ⟨#[]⟩] 28))
  obtain ⟨gx, hgx⟩ : ∃ gx, gx = w.heap.size := ⟨_, rfl⟩
  have GX := Aside0.mk (show w.heap.size ≤ gx by omega)
  rw [← hgx] at BX
  clear h hlen
  go_enter Try.func50, Try.ntmps50
  go_wp2_with fail
  rw [← hgx]
  generalize w.alloc (.cells #[.string ⟨#[]⟩, .int .u64 0, .int .i64 0, .string ⟨#[]⟩] 28) = w1 at *
  clear hgx
  refine (none_tab HU.out).mono ?_
  rintro e w2 ⟨rfl, hb⟩
  have HB := Aside0.mk (below_step n0_.out hb)
  have n1_ := Aside0.mk (blk_below BX.out hb)
  have n2_ := Aside0.mk (HU.out.below hb)
  clear BX n0_ hb HU
  have BX := n1_
  have HU := n2_
  clear n1_ n2_
  go_wp2_with fail
  refine (seek_calls w2 g rs key seq HU.out HL.out).mono ?_
  obtain ⟨y, hy⟩ : ∃ y, y = seekRow key seq rs := ⟨_, rfl⟩
  obtain ⟨b, hbk⟩ : ∃ b, b = seekOk key seq rs := ⟨_, rfl⟩
  rw [← hy, ← hbk] at HG
  rw [← hy] at HR
  rw [← hy, ← hbk, show rowV y = .agg #[.string y.f0, .int .u64 y.f1, .int .i64 y.f2, .string y.f3] from rfl]
  clear hy hbk
  rintro e w3 ⟨rfl, hb⟩
  have n0_ := Aside0.mk (below_step HB.out hb)
  have n1_ := Aside0.mk (blk_below BX.out hb)
  clear BX HB hb HU
  have BX := n1_
  have HB := n0_
  clear n0_ n1_
  cases b with
  | false =>
    go_wp2_with (first | (refine st_arr rfl 28 _ _ rfl gx 28 ?hx #[.string y.f0, .int .u64 y.f1, .int .i64 y.f2, .string y.f3] ?hy #[.string ⟨#[]⟩, .int .u64 0, .int .i64 0, .string ⟨#[]⟩] BX.out size28 rfl (by first | rfl | kernel_rfl | decide) ?_; (case hx => rfl); (case hy => rfl); intro w4 hb5 hbb hk5 hs5; have n0_ := Aside0.mk hb5; have n1_ := Aside0.mk (hbb _ _ HB.out GX.out); clear BX HB; have BX := n0_; have HB := n1_; clear n0_ n1_ hb5 hbb hk5 hs5; have c0 : w4.cell? ⟨gx, 0, none⟩ = some (.string y.f0) := (blk_cell BX.out 0).trans rfl; have c1 : w4.cell? ⟨gx, 1, none⟩ = some (.int .u64 y.f1) := (blk_cell BX.out 1).trans rfl; have c2 : w4.cell? ⟨gx, 2, none⟩ = some (.int .i64 y.f2) := (blk_cell BX.out 2).trans rfl; have c3 : w4.cell? ⟨gx, 3, none⟩ = some (.string y.f3) := (blk_cell BX.out 3).trans rfl) | (refine st_arr rfl 28 _ _ rfl gx 28 ?hx #[.string ⟨#[]⟩, .int .u64 0, .int .i64 0, .string ⟨#[]⟩] ?hy #[.string y.f0, .int .u64 y.f1, .int .i64 y.f2, .string y.f3] BX.out size28 rfl (by first | rfl | kernel_rfl | decide) ?_; (case hx => rfl); (case hy => rfl); intro w5 hb5 hbb hk5 hs5; have n0_ := Aside0.mk hb5; have n1_ := Aside0.mk (hbb _ _ HB.out GX.out); clear BX HB; have BX := n0_; have HB := n1_; clear n0_ n1_ hb5 hbb hk5 hs5) | fail)
    have e1 : gi = false := by rw [HG.out]; rfl
    have e2 : gr = zrow := by rw [HR.out, if_neg (by rw [e1]; decide)]
    rw [e1, e2]
    exact bodyPost_ret (results_ct rfl _ _ gx 28 #[.string ⟨#[]⟩, .int .u64 0, .int .i64 0, .string ⟨#[]⟩] (0, 0) _ rfl BX.out Try.underlying28 rfl size28) rfl ⟨rfl, HB.out⟩
  | true =>
    by_cases hk : y.f0 = key
    · have k0_ := True.intro
      have k3 : (y.f0.toList == key.toList) = true := beq_iff_eq.mpr (by rw [hk])
      have k4 : (y.f0.toList != key.toList) = false := by rw [hk]; exact bne_self_eq_false _
      have k5 : decide (y.f0 = key) = true := decide_eq_true hk
      have k6 : decide (y.f0.toList = key.toList) = true := decide_eq_true (by rw [hk])
      have HK := Aside0.mk hk
      clear hk
      go_wp2_with (first | (refine st_arr rfl 28 _ _ rfl gx 28 ?hx #[.string y.f0, .int .u64 y.f1, .int .i64 y.f2, .string y.f3] ?hy #[.string ⟨#[]⟩, .int .u64 0, .int .i64 0, .string ⟨#[]⟩] BX.out size28 rfl (by first | rfl | kernel_rfl | decide) ?_; (case hx => rfl); (case hy => rfl); intro w4 hb5 hbb hk5 hs5; have n0_ := Aside0.mk hb5; have n1_ := Aside0.mk (hbb _ _ HB.out GX.out); clear BX HB; have BX := n0_; have HB := n1_; clear n0_ n1_ hb5 hbb hk5 hs5; have c0 : w4.cell? ⟨gx, 0, none⟩ = some (.string y.f0) := (blk_cell BX.out 0).trans rfl; have c1 : w4.cell? ⟨gx, 1, none⟩ = some (.int .u64 y.f1) := (blk_cell BX.out 1).trans rfl; have c2 : w4.cell? ⟨gx, 2, none⟩ = some (.int .i64 y.f2) := (blk_cell BX.out 2).trans rfl; have c3 : w4.cell? ⟨gx, 3, none⟩ = some (.string y.f3) := (blk_cell BX.out 3).trans rfl) | (refine st_arr rfl 28 _ _ rfl gx 28 ?hx #[.string y.f0, .int .u64 y.f1, .int .i64 y.f2, .string y.f3] ?hy #[.string y.f0, .int .u64 y.f1, .int .i64 y.f2, .string y.f3] BX.out size28 rfl (by first | rfl | kernel_rfl | decide) ?_; (case hx => rfl); (case hy => rfl); intro w5 hb5 hbb hk5 hs5; have n0_ := Aside0.mk hb5; have n1_ := Aside0.mk (hbb _ _ HB.out GX.out); clear BX HB; have BX := n0_; have HB := n1_; clear n0_ n1_ hb5 hbb hk5 hs5) | fail)
      have e1 : gi = true := by rw [HG.out, decide_eq_true HK.out]; rfl
      have e2 : gr = y := by rw [HR.out, if_pos e1]
      rw [e1, e2]
      exact bodyPost_ret (results_ct rfl _ _ gx 28 #[.string y.f0, .int .u64 y.f1, .int .i64 y.f2, .string y.f3] (0, 0) _ rfl BX.out Try.underlying28 rfl size28) rfl ⟨rfl, HB.out⟩
    · have hk2 : ¬ y.f0.toList = key.toList := fun e => hk (Go.WideShapes.bytes_inj (by rw [ByteArray.toList_eq, ByteArray.toList_eq] at e; exact e))
      have k3 : (y.f0.toList == key.toList) = false := beq_eq_false_iff_ne.mpr hk2
      have k4 : (y.f0.toList != key.toList) = true := bne_iff_ne.mpr hk2
      have k5 : decide (y.f0 = key) = false := decide_eq_false hk
      have k6 : decide (y.f0.toList = key.toList) = false := decide_eq_false hk2
      have HK := Aside0.mk hk
      clear hk hk2
      go_wp2_with (first | (refine st_arr rfl 28 _ _ rfl gx 28 ?hx #[.string y.f0, .int .u64 y.f1, .int .i64 y.f2, .string y.f3] ?hy #[.string ⟨#[]⟩, .int .u64 0, .int .i64 0, .string ⟨#[]⟩] BX.out size28 rfl (by first | rfl | kernel_rfl | decide) ?_; (case hx => rfl); (case hy => rfl); intro w4 hb5 hbb hk5 hs5; have n0_ := Aside0.mk hb5; have n1_ := Aside0.mk (hbb _ _ HB.out GX.out); clear BX HB; have BX := n0_; have HB := n1_; clear n0_ n1_ hb5 hbb hk5 hs5; have c0 : w4.cell? ⟨gx, 0, none⟩ = some (.string y.f0) := (blk_cell BX.out 0).trans rfl; have c1 : w4.cell? ⟨gx, 1, none⟩ = some (.int .u64 y.f1) := (blk_cell BX.out 1).trans rfl; have c2 : w4.cell? ⟨gx, 2, none⟩ = some (.int .i64 y.f2) := (blk_cell BX.out 2).trans rfl; have c3 : w4.cell? ⟨gx, 3, none⟩ = some (.string y.f3) := (blk_cell BX.out 3).trans rfl) | (refine st_arr rfl 28 _ _ rfl gx 28 ?hx #[.string ⟨#[]⟩, .int .u64 0, .int .i64 0, .string ⟨#[]⟩] ?hy #[.string y.f0, .int .u64 y.f1, .int .i64 y.f2, .string y.f3] BX.out size28 rfl (by first | rfl | kernel_rfl | decide) ?_; (case hx => rfl); (case hy => rfl); intro w5 hb5 hbb hk5 hs5; have n0_ := Aside0.mk hb5; have n1_ := Aside0.mk (hbb _ _ HB.out GX.out); clear BX HB; have BX := n0_; have HB := n1_; clear n0_ n1_ hb5 hbb hk5 hs5) | fail)
      have e1 : gi = false := by rw [HG.out, decide_eq_false HK.out]; rfl
      have e2 : gr = zrow := by rw [HR.out, if_neg (by rw [e1]; decide)]
      rw [e1, e2]
      exact bodyPost_ret (results_ct rfl _ _ gx 28 #[.string ⟨#[]⟩, .int .u64 0, .int .i64 0, .string ⟨#[]⟩] (0, 0) _ rfl BX.out Try.underlying28 rfl size28) rfl ⟨rfl, HB.out⟩
end Go.Proofs.Ytfemebenkbobnaa.SM
