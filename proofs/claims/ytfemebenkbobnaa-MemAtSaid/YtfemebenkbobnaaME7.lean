import Derived.Test.YtfemebenkbobnaaME6
import Derived.Test.YtfemebenkbobnaaR06
import Derived.Laws.Cover1
/- The law MemHeights, walked. Conditions: none. -/
namespace Go.Proofs.Ytfemebenkbobnaa.SM
set_option linter.unusedVariables false
set_option linter.unusedSimpArgs false
open Go.RowKit Go.Shelf Go.Proofs.YtfemebenkbobnaaW.PrintWords Go.Proofs.YtfemebenkbobnaaW.PrintLast Go.Proofs.YtfemebenkbobnaaW.PrintMore Go.Proofs.Ytfemebenkbobnaa.PB06
theorem same_refl (a : List S28) (ha : a.length ≤ 4611686018427387904) : ∃ k, freshetref06_SameRows.f k a a = some true := by
  have hl : ∀ c i, i + c = a.length → freshetref06_SameRows.l0 (c + 1) a a (i : Int) = some true := by
    intro c
    induction c with
    | zero =>
      intro i hi
      rw [freshetref06_SameRows.l0, if_neg (by omega)]
    | succ c ih =>
      intro i hi
      rw [freshetref06_SameRows.l0, if_pos (by omega), if_pos (by omega), if_pos (by omega), if_neg (by simp), show wrap64 ((i : Int) + 1) = ((i + 1 : Nat) : Int) by unfold wrap64; omega]
      exact ih (i + 1) (by omega)
  refine ⟨a.length + 1, ?_⟩
  rw [freshetref06_SameRows.f, if_pos rfl]
  exact hl a.length 0 (by omega)
theorem same_true (w : World) (A0 : Option Addr) (c0 : Nat) (A1 : Option Addr) (c1 : Nat) (a : List S28) (h0 : Kd.C k28 w A0 a.length a) (hc0 : a.length ≤ c0) (h1 : Kd.C k28 w A1 a.length a) (hc1 : a.length ≤ c1) (ha : a.length ≤ 4611686018427387904) :
    Calls Try.prog 28 #[.slice A0 a.length c0, .slice A1 a.length c1] w fun e w' => e = .returned (.bool true) ∧ Below w.heap.size w w' := by
  obtain ⟨k, hk⟩ := same_refl a ha
  exact (freshetref06_SameRows.calls k A0 c0 a A1 c1 a true w h0 hc0 h1 hc1 hk).mono fun e w' ⟨h1, ⟨n, h2⟩⟩ => ⟨h1, by rw [h2]; exact pw_below_drewN (Below.refl _ _) n⟩
/-- Two tables that tell the same. -/
structure Alike (t t' : Ts) : Prop where
  rows : t.l.map (·.1) = t'.l.map (·.1)
  room : t.room = t'.room
  least : t.least = t'.least
  greatest : t.greatest = t'.greatest
theorem runT_alike (R : List S28) (hs hs' : List Int) {t t' : Ts} (h : Alike t t') : ∀ i, Alike (runT R hs t i) (runT R hs' t' i)
  | 0 => h
  | i + 1 => by
    have ih := runT_alike R hs hs' h i
    rw [runT, runT, stepT, stepT]
    exact ⟨by show (putV _ _ _).map _ = (putV _ _ _).map _; rw [rows_put, rows_put, ih.rows], by show _ + _ = _ + _; rw [ih.room], by show mn _ _ = mn _ _; rw [ih.least], by show mx _ _ = mx _ _; rw [ih.greatest]⟩
theorem addT_alike (hs hs' : List Int) (n : Int) (l : List S72) {t t' : Ts} (h : Alike t t') : Alike (addT hs n l t) (addT hs' n l t') := by
  have e : (∀ r, r ∈ rowsL n 0 l → takenV r t.l = false) ↔ (∀ r, r ∈ rowsL n 0 l → takenV r t'.l = false) := by
    simp only [rows_taken, h.rows]
  unfold addT
  by_cases c : checkS n l = 0 ∧ (∀ r, r ∈ rowsL n 0 l → takenV r t.l = false)
  · rw [if_pos c, if_pos ⟨c.1, e.mp c.2⟩]
    exact runT_alike _ hs hs' h _
  · rw [if_neg c, if_neg (fun c' => c ⟨c'.1, e.mpr c'.2⟩)]
    exact h
theorem laid_alike (L : List S58) (hs hs' : List Int) : ∀ i, Alike (laidT L hs i) (laidT L hs' i)
  | 0 => ⟨rfl, rfl, rfl, rfl⟩
  | i + 1 => addT_alike hs hs' _ _ (laid_alike L hs hs' i)
theorem beh_rows (key : ByteArray) (seq : Int) (rs : List Nd) : (beh key seq rs).map (·.row) = behR key seq (rowsN rs) := by
  unfold beh behR rowsN
  rw [List.dropWhile_map]
  rfl
theorem seek_rows (key : ByteArray) (seq : Int) (rs : List Nd) : seekRow key seq rs = (behR key seq (rowsN rs)).headD zrow ∧ seekOk key seq rs = !(behR key seq (rowsN rs)).isEmpty := by
  rw [← beh_rows]
  unfold seekRow seekOk
  cases beh key seq rs with
  | nil => exact ⟨rfl, rfl⟩
  | cons y T => exact ⟨rfl, rfl⟩
theorem get_rows {key : ByteArray} {seq : Int} {rs rs' : List Nd} (h : rowsN rs = rowsN rs') : getRow key seq rs = getRow key seq rs' ∧ getIs key seq rs = getIs key seq rs' := by
  have h1 := seek_rows key seq rs
  have h2 := seek_rows key seq rs'
  rw [h] at h1
  have e1 : seekRow key seq rs = seekRow key seq rs' := h1.1.trans h2.1.symm
  have e2 : seekOk key seq rs = seekOk key seq rs' := h1.2.trans h2.2.symm
  unfold getRow getIs
  rw [e1, e2]
  exact ⟨rfl, rfl⟩
attribute [local go_sem high] eqA28
set_option maxHeartbeats 8000000 in
set_option maxRecDepth 100000 in
theorem memHeights_calls (w : World) (A0 : Option Addr) (c0 : Nat) (L : List S58) (hr0 : k58.C w A0 L.length L) (hc0 : L.length ≤ c0) (A1 : Option Addr) (c1 : Nat) (hs : List Int) (hr1 : (Kd.int .i64).C w A1 hs.length hs) (key : ByteArray) (at_ : Int) :
    Calls Try.prog 18 #[.slice A0 L.length c0, .slice A1 hs.length c1, .string key, .int .u64 at_] w fun e w' => e = .returned (.bool true) ∧ Below w.heap.size w w' := by
  have HR0 := Aside0.mk hr0
  have HR1 := Aside0.mk hr1
  have HC0 := Aside0.mk hc0
  clear hr0 hr1 hc0
  have AL := Aside0.mk (laid_alike L hs [] L.length)
  by_cases hok : L.length ≤ 30 ∧ ∀ b, b ∈ L → b.f1.length ≤ 70
  · have OK := Aside0.mk hok
    clear hok
    go_enter Try.func18, Try.ntmps18
    go_wp2_with fail
    have hla := laid_calls w A0 c0 L HR0.out HC0.out A1 c1 hs HR1.out
    rw [decide_eq_true OK.out] at hla
    refine hla.mono ?_
    clear hla
    rintro e w1 ⟨ga, rsa, rfl, hb, hA⟩
    obtain ⟨hsa, hva, hma⟩ := hA OK.out
    have HA := Aside0.mk hsa
    have VA := Aside0.mk hva
    have MA := Aside0.mk hma
    have HB := Aside0.mk hb
    clear hsa hva hma hA hb
    go_wp2_with fail
    have hlb := laid_calls w1 A0 c0 L (Kd.C_below HR0.out HB.out) HC0.out none 0 [] (Kd.C_nil _ _)
    rw [decide_eq_true OK.out] at hlb
    refine hlb.mono ?_
    clear hlb
    rintro e w2 ⟨gb, rsb, rfl, hb, hB⟩
    obtain ⟨hsb, hvb, hmb⟩ := hB OK.out
    have HS := Aside0.mk hsb
    have VB := Aside0.mk hvb
    have MB := Aside0.mk hmb
    have n0_ := Aside0.mk (HA.out.below hb)
    have n1_ := Aside0.mk (below_step HB.out hb)
    clear hsb hvb hmb hB hb HA HB
    have HA := n0_
    have HB := n1_
    clear n0_ n1_
    have ER := Aside0.mk (show rowsN rsb = rowsN rsa by rw [rowsN_vals, rowsN_vals, VA.out, VB.out]; exact AL.out.rows.symm)
    have EL := Aside0.mk (show rsb.length = rsa.length by have h1 := congrArg List.length ER.out; simpa [rowsN] using h1)
    have LA := Aside0.mk (show rsa.length ≤ 2100 by have h1 := MA.out.len; have h2 := congrArg List.length VA.out; rw [vals_len] at h2; have h3 := OK.out.1; omega)
    have UA := Aside0.mk (show ∀ x, x ∈ rsa → x.row.f1 ≤ 18446744073709551615 from fun x hx => MA.out.u64 (x.row, x.h) (by rw [← VA.out]; exact List.mem_map.mpr ⟨x, hx, rfl⟩))
    have UB := Aside0.mk (show ∀ x, x ∈ rsb → x.row.f1 ≤ 18446744073709551615 from fun x hx => MB.out.u64 (x.row, x.h) (by rw [← VB.out]; exact List.mem_map.mpr ⟨x, hx, rfl⟩))
    have E1 := Aside0.mk AL.out.room
    have E2 := Aside0.mk AL.out.least
    have E3 := Aside0.mk AL.out.greatest
    clear VA VB MA MB AL
    generalize laidT L hs L.length = ta at *
    generalize laidT L [] L.length = tb at *
    obtain ⟨y, hy⟩ : ∃ y, y = getRow key at_ rsa := ⟨_, rfl⟩
    obtain ⟨b, hbk⟩ : ∃ b, b = getIs key at_ rsa := ⟨_, rfl⟩
    have YE := Aside0.mk (show getRow key at_ rsa = y ∧ getIs key at_ rsa = b from ⟨hy.symm, hbk.symm⟩)
    have YF := Aside0.mk (show getRow key at_ rsb = y ∧ getIs key at_ rsb = b from ⟨(get_rows ER.out).1.trans hy.symm, (get_rows ER.out).2.trans hbk.symm⟩)
    clear hy hbk
    go_wp2_with fail
    have hga := get_tab HA.out (by have := LA.out; omega) key at_
    rw [YE.out.1, YE.out.2, show rowV y = .agg #[.string y.f0, .int .u64 y.f1, .int .i64 y.f2, .string y.f3] from rfl] at hga
    refine hga.mono ?_
    clear hga
    rintro e w3 ⟨rfl, hb⟩
    have hal := (Below.refl w3.heap.size w3).alloc (Nat.le_refl _) (.cells #[.string y.f0, .int .u64 y.f1, .int .i64 y.f2, .string y.f3] 28)
    have n0_ := Aside0.mk ((HA.out.below hb).below hal)
    have n1_ := Aside0.mk ((HS.out.below hb).below hal)
    have n2_ := Aside0.mk (below_step (below_step HB.out hb) hal)
    have X1 := Aside0.mk (blk_new w3 (.cells #[.string y.f0, .int .u64 y.f1, .int .i64 y.f2, .string y.f3] 28))
    clear HA HS HB hb hal
    have HA := n0_
    have HS := n1_
    have HB := n2_
    clear n0_ n1_ n2_
    go_wp2_with fail
    generalize w3.heap.size = gx at *
    generalize w3.alloc (.cells #[.string y.f0, .int .u64 y.f1, .int .i64 y.f2, .string y.f3] 28) = w4 at *
    have hgb := get_tab HS.out (by have := LA.out; have := EL.out; omega) key at_
    rw [YF.out.1, YF.out.2, show rowV y = .agg #[.string y.f0, .int .u64 y.f1, .int .i64 y.f2, .string y.f3] from rfl] at hgb
    refine hgb.mono ?_
    clear hgb
    rintro e w5 ⟨rfl, hb⟩
    have hal := (Below.refl w5.heap.size w5).alloc (Nat.le_refl _) (.cells #[.string y.f0, .int .u64 y.f1, .int .i64 y.f2, .string y.f3] 28)
    have n0_ := Aside0.mk ((HA.out.below hb).below hal)
    have n1_ := Aside0.mk ((HS.out.below hb).below hal)
    have n2_ := Aside0.mk (below_step (below_step HB.out hb) hal)
    have n3_ := Aside0.mk (blk_below (blk_below X1.out hb) hal)
    have X2 := Aside0.mk (blk_new w5 (.cells #[.string y.f0, .int .u64 y.f1, .int .i64 y.f2, .string y.f3] 28))
    clear HA HS HB X1 hb hal YE YF
    have HA := n0_
    have HS := n1_
    have HB := n2_
    have X1 := n3_
    clear n0_ n1_ n2_ n3_
    go_wp2_with fail
    generalize w5.heap.size = gz at *
    generalize w5.alloc (.cells #[.string y.f0, .int .u64 y.f1, .int .i64 y.f2, .string y.f3] 28) = w6 at *
    refine (rows_tab HA.out (by have := LA.out; omega) UA.out).mono ?_
    rintro e w7 ⟨v, rfl, hR, hb⟩
    obtain ⟨AR, cR, hv⟩ := Kd.R_slice hR
    subst hv
    have CA := Aside0.mk (Kd.R_reads' hR).2.2
    have CAc := Aside0.mk (Kd.R_reads' hR).2.1
    clear hR
    have n0_ := Aside0.mk (HA.out.below hb)
    have n1_ := Aside0.mk (HS.out.below hb)
    have n2_ := Aside0.mk (below_step HB.out hb)
    have n3_ := Aside0.mk (blk_below X1.out hb)
    have n4_ := Aside0.mk (blk_below X2.out hb)
    clear HA HS HB X1 X2 hb
    try clear x0 x1 x2 x3
    try clear z0 z1 z2 z3
    have HA := n0_
    have HS := n1_
    have HB := n2_
    have X1 := n3_
    have X2 := n4_
    clear n0_ n1_ n2_ n3_ n4_
    have x0 : w7.cell? ⟨gx, 0, none⟩ = some (.string y.f0) := (blk_cell X1.out 0).trans rfl
    have x1 : w7.cell? ⟨gx, 1, none⟩ = some (.int .u64 y.f1) := (blk_cell X1.out 1).trans rfl
    have x2 : w7.cell? ⟨gx, 2, none⟩ = some (.int .i64 y.f2) := (blk_cell X1.out 2).trans rfl
    have x3 : w7.cell? ⟨gx, 3, none⟩ = some (.string y.f3) := (blk_cell X1.out 3).trans rfl
    have z0 : w7.cell? ⟨gz, 0, none⟩ = some (.string y.f0) := (blk_cell X2.out 0).trans rfl
    have z1 : w7.cell? ⟨gz, 1, none⟩ = some (.int .u64 y.f1) := (blk_cell X2.out 1).trans rfl
    have z2 : w7.cell? ⟨gz, 2, none⟩ = some (.int .i64 y.f2) := (blk_cell X2.out 2).trans rfl
    have z3 : w7.cell? ⟨gz, 3, none⟩ = some (.string y.f3) := (blk_cell X2.out 3).trans rfl
    go_wp2_with fail
    refine (rows_tab HS.out (by have := LA.out; have := EL.out; omega) UB.out).mono ?_
    rw [ER.out]
    rintro e w8 ⟨v, rfl, hR, hb⟩
    obtain ⟨AS, cS, hv⟩ := Kd.R_slice hR
    subst hv
    have CB := Aside0.mk (Kd.R_reads' hR).2.2
    have CBc := Aside0.mk (Kd.R_reads' hR).2.1
    have n9_ := Aside0.mk (Kd.C_below CA.out hb)
    clear hR CA
    have CA := n9_
    clear n9_
    have n0_ := Aside0.mk (HA.out.below hb)
    have n1_ := Aside0.mk (HS.out.below hb)
    have n2_ := Aside0.mk (below_step HB.out hb)
    have n3_ := Aside0.mk (blk_below X1.out hb)
    have n4_ := Aside0.mk (blk_below X2.out hb)
    clear HA HS HB X1 X2 hb
    try clear x0 x1 x2 x3
    try clear z0 z1 z2 z3
    have HA := n0_
    have HS := n1_
    have HB := n2_
    have X1 := n3_
    have X2 := n4_
    clear n0_ n1_ n2_ n3_ n4_
    have x0 : w8.cell? ⟨gx, 0, none⟩ = some (.string y.f0) := (blk_cell X1.out 0).trans rfl
    have x1 : w8.cell? ⟨gx, 1, none⟩ = some (.int .u64 y.f1) := (blk_cell X1.out 1).trans rfl
    have x2 : w8.cell? ⟨gx, 2, none⟩ = some (.int .i64 y.f2) := (blk_cell X1.out 2).trans rfl
    have x3 : w8.cell? ⟨gx, 3, none⟩ = some (.string y.f3) := (blk_cell X1.out 3).trans rfl
    have z0 : w8.cell? ⟨gz, 0, none⟩ = some (.string y.f0) := (blk_cell X2.out 0).trans rfl
    have z1 : w8.cell? ⟨gz, 1, none⟩ = some (.int .u64 y.f1) := (blk_cell X2.out 1).trans rfl
    have z2 : w8.cell? ⟨gz, 2, none⟩ = some (.int .i64 y.f2) := (blk_cell X2.out 2).trans rfl
    have z3 : w8.cell? ⟨gz, 3, none⟩ = some (.string y.f3) := (blk_cell X2.out 3).trans rfl
    go_wp2_with fail
    refine (same_true w8 AR cR AS cS (rowsN rsa) CA.out CAc.out CB.out CBc.out (by rw [rowsN, List.length_map]; have := LA.out; omega)).mono ?_
    rintro e w9 ⟨rfl, hb⟩
    clear CA CB CAc CBc
    have n0_ := Aside0.mk (HA.out.below hb)
    have n1_ := Aside0.mk (HS.out.below hb)
    have n2_ := Aside0.mk (below_step HB.out hb)
    have n3_ := Aside0.mk (blk_below X1.out hb)
    have n4_ := Aside0.mk (blk_below X2.out hb)
    clear HA HS HB X1 X2 hb
    try clear x0 x1 x2 x3
    try clear z0 z1 z2 z3
    have HA := n0_
    have HS := n1_
    have HB := n2_
    have X1 := n3_
    have X2 := n4_
    clear n0_ n1_ n2_ n3_ n4_
    have x0 : w9.cell? ⟨gx, 0, none⟩ = some (.string y.f0) := (blk_cell X1.out 0).trans rfl
    have x1 : w9.cell? ⟨gx, 1, none⟩ = some (.int .u64 y.f1) := (blk_cell X1.out 1).trans rfl
    have x2 : w9.cell? ⟨gx, 2, none⟩ = some (.int .i64 y.f2) := (blk_cell X1.out 2).trans rfl
    have x3 : w9.cell? ⟨gx, 3, none⟩ = some (.string y.f3) := (blk_cell X1.out 3).trans rfl
    have z0 : w9.cell? ⟨gz, 0, none⟩ = some (.string y.f0) := (blk_cell X2.out 0).trans rfl
    have z1 : w9.cell? ⟨gz, 1, none⟩ = some (.int .u64 y.f1) := (blk_cell X2.out 1).trans rfl
    have z2 : w9.cell? ⟨gz, 2, none⟩ = some (.int .i64 y.f2) := (blk_cell X2.out 2).trans rfl
    have z3 : w9.cell? ⟨gz, 3, none⟩ = some (.string y.f3) := (blk_cell X2.out 3).trans rfl
    go_wp2_with fail
    refine (room_tab HA.out).mono ?_
    rintro e w10 ⟨rfl, hb⟩
    have n0_ := Aside0.mk (HA.out.below hb)
    have n1_ := Aside0.mk (HS.out.below hb)
    have n2_ := Aside0.mk (below_step HB.out hb)
    have n3_ := Aside0.mk (blk_below X1.out hb)
    have n4_ := Aside0.mk (blk_below X2.out hb)
    clear HA HS HB X1 X2 hb
    try clear x0 x1 x2 x3
    try clear z0 z1 z2 z3
    have HA := n0_
    have HS := n1_
    have HB := n2_
    have X1 := n3_
    have X2 := n4_
    clear n0_ n1_ n2_ n3_ n4_
    have x0 : w10.cell? ⟨gx, 0, none⟩ = some (.string y.f0) := (blk_cell X1.out 0).trans rfl
    have x1 : w10.cell? ⟨gx, 1, none⟩ = some (.int .u64 y.f1) := (blk_cell X1.out 1).trans rfl
    have x2 : w10.cell? ⟨gx, 2, none⟩ = some (.int .i64 y.f2) := (blk_cell X1.out 2).trans rfl
    have x3 : w10.cell? ⟨gx, 3, none⟩ = some (.string y.f3) := (blk_cell X1.out 3).trans rfl
    have z0 : w10.cell? ⟨gz, 0, none⟩ = some (.string y.f0) := (blk_cell X2.out 0).trans rfl
    have z1 : w10.cell? ⟨gz, 1, none⟩ = some (.int .u64 y.f1) := (blk_cell X2.out 1).trans rfl
    have z2 : w10.cell? ⟨gz, 2, none⟩ = some (.int .i64 y.f2) := (blk_cell X2.out 2).trans rfl
    have z3 : w10.cell? ⟨gz, 3, none⟩ = some (.string y.f3) := (blk_cell X2.out 3).trans rfl
    go_wp2_with fail
    have h60 := room_tab HS.out
    rw [← E1.out] at h60
    refine h60.mono ?_
    clear h60
    rintro e w11 ⟨rfl, hb⟩
    have n0_ := Aside0.mk (HA.out.below hb)
    have n1_ := Aside0.mk (HS.out.below hb)
    have n2_ := Aside0.mk (below_step HB.out hb)
    have n3_ := Aside0.mk (blk_below X1.out hb)
    have n4_ := Aside0.mk (blk_below X2.out hb)
    clear HA HS HB X1 X2 hb
    try clear x0 x1 x2 x3
    try clear z0 z1 z2 z3
    have HA := n0_
    have HS := n1_
    have HB := n2_
    have X1 := n3_
    have X2 := n4_
    clear n0_ n1_ n2_ n3_ n4_
    have x0 : w11.cell? ⟨gx, 0, none⟩ = some (.string y.f0) := (blk_cell X1.out 0).trans rfl
    have x1 : w11.cell? ⟨gx, 1, none⟩ = some (.int .u64 y.f1) := (blk_cell X1.out 1).trans rfl
    have x2 : w11.cell? ⟨gx, 2, none⟩ = some (.int .i64 y.f2) := (blk_cell X1.out 2).trans rfl
    have x3 : w11.cell? ⟨gx, 3, none⟩ = some (.string y.f3) := (blk_cell X1.out 3).trans rfl
    have z0 : w11.cell? ⟨gz, 0, none⟩ = some (.string y.f0) := (blk_cell X2.out 0).trans rfl
    have z1 : w11.cell? ⟨gz, 1, none⟩ = some (.int .u64 y.f1) := (blk_cell X2.out 1).trans rfl
    have z2 : w11.cell? ⟨gz, 2, none⟩ = some (.int .i64 y.f2) := (blk_cell X2.out 2).trans rfl
    have z3 : w11.cell? ⟨gz, 3, none⟩ = some (.string y.f3) := (blk_cell X2.out 3).trans rfl
    go_wp2_with fail
    refine (tlen_tab HA.out).mono ?_
    rintro e w12 ⟨rfl, hb⟩
    have n0_ := Aside0.mk (HA.out.below hb)
    have n1_ := Aside0.mk (HS.out.below hb)
    have n2_ := Aside0.mk (below_step HB.out hb)
    have n3_ := Aside0.mk (blk_below X1.out hb)
    have n4_ := Aside0.mk (blk_below X2.out hb)
    clear HA HS HB X1 X2 hb
    try clear x0 x1 x2 x3
    try clear z0 z1 z2 z3
    have HA := n0_
    have HS := n1_
    have HB := n2_
    have X1 := n3_
    have X2 := n4_
    clear n0_ n1_ n2_ n3_ n4_
    have x0 : w12.cell? ⟨gx, 0, none⟩ = some (.string y.f0) := (blk_cell X1.out 0).trans rfl
    have x1 : w12.cell? ⟨gx, 1, none⟩ = some (.int .u64 y.f1) := (blk_cell X1.out 1).trans rfl
    have x2 : w12.cell? ⟨gx, 2, none⟩ = some (.int .i64 y.f2) := (blk_cell X1.out 2).trans rfl
    have x3 : w12.cell? ⟨gx, 3, none⟩ = some (.string y.f3) := (blk_cell X1.out 3).trans rfl
    have z0 : w12.cell? ⟨gz, 0, none⟩ = some (.string y.f0) := (blk_cell X2.out 0).trans rfl
    have z1 : w12.cell? ⟨gz, 1, none⟩ = some (.int .u64 y.f1) := (blk_cell X2.out 1).trans rfl
    have z2 : w12.cell? ⟨gz, 2, none⟩ = some (.int .i64 y.f2) := (blk_cell X2.out 2).trans rfl
    have z3 : w12.cell? ⟨gz, 3, none⟩ = some (.string y.f3) := (blk_cell X2.out 3).trans rfl
    go_wp2_with fail
    have h61 := tlen_tab HS.out
    rw [EL.out] at h61
    refine h61.mono ?_
    clear h61
    rintro e w13 ⟨rfl, hb⟩
    have n0_ := Aside0.mk (HA.out.below hb)
    have n1_ := Aside0.mk (HS.out.below hb)
    have n2_ := Aside0.mk (below_step HB.out hb)
    have n3_ := Aside0.mk (blk_below X1.out hb)
    have n4_ := Aside0.mk (blk_below X2.out hb)
    clear HA HS HB X1 X2 hb
    try clear x0 x1 x2 x3
    try clear z0 z1 z2 z3
    have HA := n0_
    have HS := n1_
    have HB := n2_
    have X1 := n3_
    have X2 := n4_
    clear n0_ n1_ n2_ n3_ n4_
    have x0 : w13.cell? ⟨gx, 0, none⟩ = some (.string y.f0) := (blk_cell X1.out 0).trans rfl
    have x1 : w13.cell? ⟨gx, 1, none⟩ = some (.int .u64 y.f1) := (blk_cell X1.out 1).trans rfl
    have x2 : w13.cell? ⟨gx, 2, none⟩ = some (.int .i64 y.f2) := (blk_cell X1.out 2).trans rfl
    have x3 : w13.cell? ⟨gx, 3, none⟩ = some (.string y.f3) := (blk_cell X1.out 3).trans rfl
    have z0 : w13.cell? ⟨gz, 0, none⟩ = some (.string y.f0) := (blk_cell X2.out 0).trans rfl
    have z1 : w13.cell? ⟨gz, 1, none⟩ = some (.int .u64 y.f1) := (blk_cell X2.out 1).trans rfl
    have z2 : w13.cell? ⟨gz, 2, none⟩ = some (.int .i64 y.f2) := (blk_cell X2.out 2).trans rfl
    have z3 : w13.cell? ⟨gz, 3, none⟩ = some (.string y.f3) := (blk_cell X2.out 3).trans rfl
    go_wp2_with fail
    refine (least_tab HA.out).mono ?_
    rintro e w14 ⟨rfl, hb⟩
    have n0_ := Aside0.mk (HA.out.below hb)
    have n1_ := Aside0.mk (HS.out.below hb)
    have n2_ := Aside0.mk (below_step HB.out hb)
    have n3_ := Aside0.mk (blk_below X1.out hb)
    have n4_ := Aside0.mk (blk_below X2.out hb)
    clear HA HS HB X1 X2 hb
    try clear x0 x1 x2 x3
    try clear z0 z1 z2 z3
    have HA := n0_
    have HS := n1_
    have HB := n2_
    have X1 := n3_
    have X2 := n4_
    clear n0_ n1_ n2_ n3_ n4_
    have x0 : w14.cell? ⟨gx, 0, none⟩ = some (.string y.f0) := (blk_cell X1.out 0).trans rfl
    have x1 : w14.cell? ⟨gx, 1, none⟩ = some (.int .u64 y.f1) := (blk_cell X1.out 1).trans rfl
    have x2 : w14.cell? ⟨gx, 2, none⟩ = some (.int .i64 y.f2) := (blk_cell X1.out 2).trans rfl
    have x3 : w14.cell? ⟨gx, 3, none⟩ = some (.string y.f3) := (blk_cell X1.out 3).trans rfl
    have z0 : w14.cell? ⟨gz, 0, none⟩ = some (.string y.f0) := (blk_cell X2.out 0).trans rfl
    have z1 : w14.cell? ⟨gz, 1, none⟩ = some (.int .u64 y.f1) := (blk_cell X2.out 1).trans rfl
    have z2 : w14.cell? ⟨gz, 2, none⟩ = some (.int .i64 y.f2) := (blk_cell X2.out 2).trans rfl
    have z3 : w14.cell? ⟨gz, 3, none⟩ = some (.string y.f3) := (blk_cell X2.out 3).trans rfl
    go_wp2_with fail
    have h62 := least_tab HS.out
    rw [← E2.out] at h62
    refine h62.mono ?_
    clear h62
    rintro e w15 ⟨rfl, hb⟩
    have n0_ := Aside0.mk (HA.out.below hb)
    have n1_ := Aside0.mk (HS.out.below hb)
    have n2_ := Aside0.mk (below_step HB.out hb)
    have n3_ := Aside0.mk (blk_below X1.out hb)
    have n4_ := Aside0.mk (blk_below X2.out hb)
    clear HA HS HB X1 X2 hb
    try clear x0 x1 x2 x3
    try clear z0 z1 z2 z3
    have HA := n0_
    have HS := n1_
    have HB := n2_
    have X1 := n3_
    have X2 := n4_
    clear n0_ n1_ n2_ n3_ n4_
    have x0 : w15.cell? ⟨gx, 0, none⟩ = some (.string y.f0) := (blk_cell X1.out 0).trans rfl
    have x1 : w15.cell? ⟨gx, 1, none⟩ = some (.int .u64 y.f1) := (blk_cell X1.out 1).trans rfl
    have x2 : w15.cell? ⟨gx, 2, none⟩ = some (.int .i64 y.f2) := (blk_cell X1.out 2).trans rfl
    have x3 : w15.cell? ⟨gx, 3, none⟩ = some (.string y.f3) := (blk_cell X1.out 3).trans rfl
    have z0 : w15.cell? ⟨gz, 0, none⟩ = some (.string y.f0) := (blk_cell X2.out 0).trans rfl
    have z1 : w15.cell? ⟨gz, 1, none⟩ = some (.int .u64 y.f1) := (blk_cell X2.out 1).trans rfl
    have z2 : w15.cell? ⟨gz, 2, none⟩ = some (.int .i64 y.f2) := (blk_cell X2.out 2).trans rfl
    have z3 : w15.cell? ⟨gz, 3, none⟩ = some (.string y.f3) := (blk_cell X2.out 3).trans rfl
    go_wp2_with fail
    refine (greatest_tab HA.out).mono ?_
    rintro e w16 ⟨rfl, hb⟩
    have n0_ := Aside0.mk (HA.out.below hb)
    have n1_ := Aside0.mk (HS.out.below hb)
    have n2_ := Aside0.mk (below_step HB.out hb)
    have n3_ := Aside0.mk (blk_below X1.out hb)
    have n4_ := Aside0.mk (blk_below X2.out hb)
    clear HA HS HB X1 X2 hb
    try clear x0 x1 x2 x3
    try clear z0 z1 z2 z3
    have HA := n0_
    have HS := n1_
    have HB := n2_
    have X1 := n3_
    have X2 := n4_
    clear n0_ n1_ n2_ n3_ n4_
    have x0 : w16.cell? ⟨gx, 0, none⟩ = some (.string y.f0) := (blk_cell X1.out 0).trans rfl
    have x1 : w16.cell? ⟨gx, 1, none⟩ = some (.int .u64 y.f1) := (blk_cell X1.out 1).trans rfl
    have x2 : w16.cell? ⟨gx, 2, none⟩ = some (.int .i64 y.f2) := (blk_cell X1.out 2).trans rfl
    have x3 : w16.cell? ⟨gx, 3, none⟩ = some (.string y.f3) := (blk_cell X1.out 3).trans rfl
    have z0 : w16.cell? ⟨gz, 0, none⟩ = some (.string y.f0) := (blk_cell X2.out 0).trans rfl
    have z1 : w16.cell? ⟨gz, 1, none⟩ = some (.int .u64 y.f1) := (blk_cell X2.out 1).trans rfl
    have z2 : w16.cell? ⟨gz, 2, none⟩ = some (.int .i64 y.f2) := (blk_cell X2.out 2).trans rfl
    have z3 : w16.cell? ⟨gz, 3, none⟩ = some (.string y.f3) := (blk_cell X2.out 3).trans rfl
    go_wp2_with fail
    have h63 := greatest_tab HS.out
    rw [← E3.out] at h63
    refine h63.mono ?_
    clear h63
    rintro e w17 ⟨rfl, hb⟩
    have n0_ := Aside0.mk (HA.out.below hb)
    have n1_ := Aside0.mk (HS.out.below hb)
    have n2_ := Aside0.mk (below_step HB.out hb)
    have n3_ := Aside0.mk (blk_below X1.out hb)
    have n4_ := Aside0.mk (blk_below X2.out hb)
    clear HA HS HB X1 X2 hb
    try clear x0 x1 x2 x3
    try clear z0 z1 z2 z3
    have HA := n0_
    have HS := n1_
    have HB := n2_
    have X1 := n3_
    have X2 := n4_
    clear n0_ n1_ n2_ n3_ n4_
    have x0 : w17.cell? ⟨gx, 0, none⟩ = some (.string y.f0) := (blk_cell X1.out 0).trans rfl
    have x1 : w17.cell? ⟨gx, 1, none⟩ = some (.int .u64 y.f1) := (blk_cell X1.out 1).trans rfl
    have x2 : w17.cell? ⟨gx, 2, none⟩ = some (.int .i64 y.f2) := (blk_cell X1.out 2).trans rfl
    have x3 : w17.cell? ⟨gx, 3, none⟩ = some (.string y.f3) := (blk_cell X1.out 3).trans rfl
    have z0 : w17.cell? ⟨gz, 0, none⟩ = some (.string y.f0) := (blk_cell X2.out 0).trans rfl
    have z1 : w17.cell? ⟨gz, 1, none⟩ = some (.int .u64 y.f1) := (blk_cell X2.out 1).trans rfl
    have z2 : w17.cell? ⟨gz, 2, none⟩ = some (.int .i64 y.f2) := (blk_cell X2.out 2).trans rfl
    have z3 : w17.cell? ⟨gz, 3, none⟩ = some (.string y.f3) := (blk_cell X2.out 3).trans rfl
    go_wp2_with fail
    refine (awake09_calls _).mono ?_
    rintro e w18 ⟨rfl, hb⟩
    have HB2 := Aside0.mk (below_step HB.out hb)
    clear hb HB
    go_wp2_with fail
    go_ret
    exact ⟨rfl, HB2.out⟩
  · have OK := Aside0.mk hok
    clear hok AL
    go_enter Try.func18, Try.ntmps18
    go_wp2_with fail
    have hla := laid_calls w A0 c0 L HR0.out HC0.out A1 c1 hs HR1.out
    rw [decide_eq_false OK.out] at hla
    refine hla.mono ?_
    clear hla
    rintro e w1 ⟨ga, rsa, rfl, hb, _⟩
    have HB := Aside0.mk hb
    clear hb
    go_wp2_with fail
    have hlb := laid_calls w1 A0 c0 L (Kd.C_below HR0.out HB.out) HC0.out none 0 [] (Kd.C_nil _ _)
    rw [decide_eq_false OK.out] at hlb
    refine hlb.mono ?_
    clear hlb
    rintro e w2 ⟨gb, rsb, rfl, hb, _⟩
    have n1_ := Aside0.mk (below_step HB.out hb)
    clear hb HB
    go_wp2_with fail
    refine (awake09_calls _).mono ?_
    rintro e w3 ⟨rfl, hb⟩
    have HB2 := Aside0.mk (below_step n1_.out hb)
    clear hb n1_
    go_wp2_with fail
    go_ret
    exact ⟨rfl, HB2.out⟩
end Go.Proofs.Ytfemebenkbobnaa.SM
