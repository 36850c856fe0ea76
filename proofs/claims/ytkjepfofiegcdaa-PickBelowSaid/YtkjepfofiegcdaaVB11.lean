import Derived.Test.YtkjepfofiegcdaaVB10
/- The tables of a list that overlap a span (pick.chosen with pick's functions), walked. Conditions: at most 10 to the 9th rows. -/
namespace Go.Proofs.Ytkjepfofiegcdaa.V
set_option linter.unusedVariables false
set_option linter.unusedSimpArgs false
open Go.RowKit Go.Proofs.YtkjepfofiegcdaaW.PrintWords Go.Proofs.YtkjepfofiegcdaaW.PrintLast Go.Proofs.YtkjepfofiegcdaaW.PrintMore Go.Proofs.Ytkjepfofiegcdaa.PB14
/-- A table stands in a block. -/
def Tb (w : World) (g : Nat) (m : S58) : Prop := w.heap[g]? = some (.cells (mCs m) 58 (0, 0))
theorem Tb.below {w w' : World} {g : Nat} {m : S58} (h : Tb w g m) (hb : Below w.heap.size w w') : Tb w' g m := blk_below h hb
set_option maxRecDepth 100000 in
theorem pred93_calls (w : World) (m s : S58) (gs : Nat) (hs : Tb w gs s) : Calls Try.prog 93 #[.agg (mCs m), .pointer (some ⟨gs, 0, none⟩)] w fun e w' => e = .returned (.bool (overB m s)) ∧ Below w.heap.size w w' := by
  have hb1 := (Below.refl w.heap.size w).alloc (Nat.le_refl _) (.cells (mCs m) 58)
  have HB := Aside0.mk hb1
  have HS := Aside0.mk (hs.below hb1)
  have z0 : (w.alloc (.cells (mCs m) 58)).cell? ⟨gs, 0, none⟩ = some (.int .u64 s.f0) := (blk_cell HS.out 0).trans rfl
  have z1 : (w.alloc (.cells (mCs m) 58)).cell? ⟨gs, 1, none⟩ = some (.int .i64 s.f1) := (blk_cell HS.out 1).trans rfl
  have z2 : (w.alloc (.cells (mCs m) 58)).cell? ⟨gs, 2, none⟩ = some (.int .i64 s.f2) := (blk_cell HS.out 2).trans rfl
  have z3 : (w.alloc (.cells (mCs m) 58)).cell? ⟨gs, 3, none⟩ = some (.string s.f3) := (blk_cell HS.out 3).trans rfl
  have z4 : (w.alloc (.cells (mCs m) 58)).cell? ⟨gs, 4, none⟩ = some (.string s.f4) := (blk_cell HS.out 4).trans rfl
  have z5 : (w.alloc (.cells (mCs m) 58)).cell? ⟨gs, 5, none⟩ = some (.int .u64 s.f5) := (blk_cell HS.out 5).trans rfl
  have z6 : (w.alloc (.cells (mCs m) 58)).cell? ⟨gs, 6, none⟩ = some (.int .u64 s.f6) := (blk_cell HS.out 6).trans rfl
  clear hs hb1
  go_enter Try.func93, Try.ntmps93
  go_wp2_with fail
  refine (over_calls _ m s).mono ?_
  rintro e w3 ⟨rfl, hb⟩
  have HB3 := Aside0.mk (below_step HB.out hb)
  clear hb HB
  go_wp2_with fail
  go_ret
  exact ⟨rfl, HB3.out⟩
set_option maxRecDepth 100000 in
theorem pred97_calls (w : World) (m s : S58) (gs : Nat) (hs : Tb w gs s) : Calls Try.prog 97 #[.agg (mCs m), .pointer (some ⟨gs, 0, none⟩)] w fun e w' => e = .returned (.bool (overB m s)) ∧ Below w.heap.size w w' := by
  have hb1 := (Below.refl w.heap.size w).alloc (Nat.le_refl _) (.cells (mCs m) 58)
  have HB := Aside0.mk hb1
  have HS := Aside0.mk (hs.below hb1)
  have z0 : (w.alloc (.cells (mCs m) 58)).cell? ⟨gs, 0, none⟩ = some (.int .u64 s.f0) := (blk_cell HS.out 0).trans rfl
  have z1 : (w.alloc (.cells (mCs m) 58)).cell? ⟨gs, 1, none⟩ = some (.int .i64 s.f1) := (blk_cell HS.out 1).trans rfl
  have z2 : (w.alloc (.cells (mCs m) 58)).cell? ⟨gs, 2, none⟩ = some (.int .i64 s.f2) := (blk_cell HS.out 2).trans rfl
  have z3 : (w.alloc (.cells (mCs m) 58)).cell? ⟨gs, 3, none⟩ = some (.string s.f3) := (blk_cell HS.out 3).trans rfl
  have z4 : (w.alloc (.cells (mCs m) 58)).cell? ⟨gs, 4, none⟩ = some (.string s.f4) := (blk_cell HS.out 4).trans rfl
  have z5 : (w.alloc (.cells (mCs m) 58)).cell? ⟨gs, 5, none⟩ = some (.int .u64 s.f5) := (blk_cell HS.out 5).trans rfl
  have z6 : (w.alloc (.cells (mCs m) 58)).cell? ⟨gs, 6, none⟩ = some (.int .u64 s.f6) := (blk_cell HS.out 6).trans rfl
  clear hs hb1
  go_enter Try.func97, Try.ntmps97
  go_wp2_with fail
  refine (over_calls _ m s).mono ?_
  rintro e w3 ⟨rfl, hb⟩
  have HB3 := Aside0.mk (below_step HB.out hb)
  clear hb HB
  go_wp2_with fail
  go_ret
  exact ⟨rfl, HB3.out⟩
def flt (xs : List S58) (s : S58) (k : Nat) : List S58 := (xs.take k).filter fun m => overB m s
theorem flt_snoc (xs : List S58) (s : S58) {k : Nat} (hk : k < xs.length) : flt xs s (k + 1) = if overB (xs.getD k z58) s = true then flt xs s k ++ [xs.getD k z58] else flt xs s k := by
  unfold flt
  rw [take_snoc xs z58 hk, List.filter_append]
  by_cases h : overB (xs.getD k z58) s = true
  · rw [if_pos h, List.filter_cons_of_pos (p := fun m => overB m s) h, List.filter_nil]
  · rw [if_neg h, List.filter_cons_of_neg (p := fun m => overB m s) h, List.filter_nil, List.append_nil]
theorem flt_len (xs : List S58) (s : S58) (k : Nat) : (flt xs s k).length ≤ xs.length := Nat.le_trans (List.length_filter_le _ _) (by rw [List.length_take]; omega)
theorem flt_all (xs : List S58) (s : S58) : flt xs s xs.length = xs.filter fun m => overB m s := by unfold flt; rw [List.take_length]
set_option maxHeartbeats 8000000 in
set_option maxRecDepth 100000 in
theorem chosen93_calls (w : World) (A : Option Addr) (c : Nat) (xs : List S58) (hC : k58.C w A xs.length xs) (hl : xs.length ≤ 1000000000) (s : S58) (gs : Nat) (hs : Tb w gs s) :
    Calls Try.prog 92 #[.slice A xs.length c, .func (.func 93) #[] #[.pointer (some ⟨gs, 0, none⟩)]] w fun e w' => ∃ v, e = .returned v ∧ Kd.R k58 58 w' w.heap.size (fun _ => True) v (xs.filter fun m => overB m s) ∧ Below w.heap.size w w' := by
  have HC := Aside0.mk hC
  have HL := Aside0.mk hl
  have HS0 := Aside0.mk hs
  have GS := Aside0.mk (show gs < w.heap.size from blk_lt hs)
  have HX := Aside0.mk (flt_all xs s)
  have HR0 := Aside0.mk (show Kd.R k58 58 w w.heap.size (fun _ => True) (.slice none (flt xs s 0).length 0) (flt xs s 0) from Kd.R_nil _ _ _ _ _)
  rw [← HX.out]
  clear hC hl hs HX
  go_enter Try.func92, Try.ntmps92
  go_wp2_with fail
  go_loopg [5, 7, 10] xs.length (fun kq v5 v7 v10 w' => ∃ (k : Nat) (B : Option Addr) (cb : Nat), v5 = .slice B (flt xs s k).length cb ∧ v10 = .int .i64 (k : Int) ∧ Aside0 (kq + k = xs.length) ∧ Aside0 (Below w.heap.size w w') ∧ Aside0 (Kd.R k58 58 w' w.heap.size (fun _ => True) (.slice B (flt xs s k).length cb) (flt xs s k)))
  case atStart => exact ⟨0, none, 0, rfl, rfl, ⟨by omega⟩, ⟨Below.refl _ _⟩, HR0⟩
  case round =>
    clear HR0
    obtain ⟨k, B, cb, rfl, rfl, HK, HB, HR⟩ := hrel
    cases gk with
    | zero =>
      have ek : k = xs.length := by have := HK.out; omega
      subst ek
      have d0 : decide ((xs.length : Int) < (xs.length : Int)) = false := by simp
      go_wp2_with fail
      go_ret
      exact ⟨_, rfl, HR.out, HB.out⟩
    | succ q =>
      have hk : k < xs.length := by have := HK.out; omega
      have d0 : decide ((k : Int) < (xs.length : Int)) = true := decide_eq_true (by omega)
      have d1 : decide (k < xs.length) = true := decide_eq_true hk
      have p0 : 0 ≤ (k : Int) := Int.natCast_nonneg _
      have p1 : (k : Int) < (xs.length : Int) := by omega
      have HC1 := Aside0.mk (Kd.C_below HC.out HB.out)
      obtain ⟨ad, ea, ha0, ha1, ha2, ha3, ha4, ha5, ha6⟩ := at_T58 HC1.out (k : Int) p0 p1
      rw [Int.toNat_natCast] at ha0 ha1 ha2 ha3 ha4 ha5 ha6
      have FS := Aside0.mk (flt_snoc xs s hk)
      have EM := Aside0.mk (show rd_T58 xs (k : Int) = xs.getD k z58 by unfold rd_T58; rw [Int.toNat_natCast])
      rw [← EM.out] at FS
      generalize rd_T58 xs (k : Int) = m at *
      have FL := Aside0.mk (show (flt xs s k).length ≤ 1000000000 from Nat.le_trans (flt_len xs s k) HL.out)
      have ew : wrap64 ((k : Int) + 1) = ((k + 1 : Nat) : Int) := by have h1 := HL.out; unfold wrap64; omega
      have KL := Aside0.mk hk
      have hb1 := (Below.refl wr.heap.size wr).alloc (Nat.le_refl _) (.cells (mCs m) 58)
      have HB1 := Aside0.mk (below_step HB.out hb1)
      have HR1 := Aside0.mk (Kd.R_below HR.out hb1)
      have HS1 := Aside0.mk ((HS0.out.below HB.out).below hb1)
      have X1 := Aside0.mk (blk_new wr (.cells (mCs m) 58))
      rw [ea]
      have HAX := Aside0.mk ea
      clear ea hk hb1 HB HR
      go_wp2_with fail
      refine (pred93_calls _ m s gs HS1.out).mono ?_
      rintro e w3 ⟨rfl, hb⟩
      have HB3 := Aside0.mk (below_step HB1.out hb)
      have HR3 := Aside0.mk (Kd.R_below HR1.out hb)
      have X3 := Aside0.mk (blk_below X1.out hb)
      have y0 : w3.cell? ⟨wr.heap.size, 0, none⟩ = some (.int .u64 m.f0) := (blk_cell X3.out 0).trans rfl
      have y1 : w3.cell? ⟨wr.heap.size, 1, none⟩ = some (.int .i64 m.f1) := (blk_cell X3.out 1).trans rfl
      have y2 : w3.cell? ⟨wr.heap.size, 2, none⟩ = some (.int .i64 m.f2) := (blk_cell X3.out 2).trans rfl
      have y3 : w3.cell? ⟨wr.heap.size, 3, none⟩ = some (.string m.f3) := (blk_cell X3.out 3).trans rfl
      have y4 : w3.cell? ⟨wr.heap.size, 4, none⟩ = some (.string m.f4) := (blk_cell X3.out 4).trans rfl
      have y5 : w3.cell? ⟨wr.heap.size, 5, none⟩ = some (.int .u64 m.f5) := (blk_cell X3.out 5).trans rfl
      have y6 : w3.cell? ⟨wr.heap.size, 6, none⟩ = some (.int .u64 m.f6) := (blk_cell X3.out 6).trans rfl
      clear hb HB1 HR1 HS1 X1
      by_cases hov : overB m s = true
      · rw [hov]
        have FS2 := Aside0.mk (show flt xs s (k + 1) = flt xs s k ++ [m] by rw [FS.out, if_pos hov])
        clear hov
        go_wp2_with (first | ((with_reducible refine gate_builtin (b := .append) (xs := #[.tmp 17, .tmp 19]) rfl ?_); at_builtin; refine Kd.R_append k58 (w0 := w) w.heap.size rfl (.tmp 17) (.tmp 19) 23 58 (.agg #[(.int .u64 0), (.int .i64 0), (.int .i64 0), (.string ⟨#[]⟩), (.string ⟨#[]⟩), (.int .u64 0), (.int .u64 0)]) 72 rfl Try.underlying23 info58 rfl (show 0 < 7 by decide) (show 0 < 72 by decide) (.slice B (flt xs s k).length cb) (flt xs s k) m [.int .u64 m.f0, .int .i64 m.f1, .int .i64 m.f2, .string m.f3, .string m.f4, .int .u64 m.f5, .int .u64 m.f6] (fun _ => True) (fun _ => False) rfl rfl ?aP (fun _ hk => hk.elim) ?aF ?aO ?aB ?aS ?aL ?_; (case aP => exact k58_mkM _ _ _ m); (case aB => exact HB3.out); (case aF => exact (fun _ _ => trivial)); (case aO => exact HR3.out); (case aS => exact HB3.out.size); (case aL => (have h1 := FL.out; omega)); intro va wa ho hb hg hat; have HBa := Aside0.mk hb; obtain ⟨B', cb', hv⟩ := Kd.R_slice ho; subst hv; have HRa := Aside0.mk ho; clear ho hb hg hat) | fail)
        try rw [ew]
        rw [← HAX.out]
        rw [← FS2.out] at HRa
        go_roundg q
        case measure => omega
        case rel => exact ⟨k + 1, B', cb', by rw [FS2.out, List.length_append]; rfl, rfl, ⟨by have := HK.out; omega⟩, HBa, HRa⟩
      · rw [eq_false_of_ne_true hov]
        have FS2 := Aside0.mk (show flt xs s (k + 1) = flt xs s k by rw [FS.out, if_neg hov])
        clear hov
        go_wp2_with fail
        try rw [ew]
        rw [← HAX.out]
        go_roundg q
        case measure => omega
        case rel => exact ⟨k + 1, B, cb, by (show Value.slice B (flt xs s k).length cb = _; rw [FS2.out]), rfl, ⟨by have := HK.out; omega⟩, HB3, by rw [FS2.out]; exact HR3⟩
set_option maxHeartbeats 8000000 in
set_option maxRecDepth 100000 in
theorem chosen97_calls (w : World) (A : Option Addr) (c : Nat) (xs : List S58) (hC : k58.C w A xs.length xs) (hl : xs.length ≤ 1000000000) (s : S58) (gs : Nat) (hs : Tb w gs s) :
    Calls Try.prog 92 #[.slice A xs.length c, .func (.func 97) #[] #[.pointer (some ⟨gs, 0, none⟩)]] w fun e w' => ∃ v, e = .returned v ∧ Kd.R k58 58 w' w.heap.size (fun _ => True) v (xs.filter fun m => overB m s) ∧ Below w.heap.size w w' := by
  have HC := Aside0.mk hC
  have HL := Aside0.mk hl
  have HS0 := Aside0.mk hs
  have GS := Aside0.mk (show gs < w.heap.size from blk_lt hs)
  have HX := Aside0.mk (flt_all xs s)
  have HR0 := Aside0.mk (show Kd.R k58 58 w w.heap.size (fun _ => True) (.slice none (flt xs s 0).length 0) (flt xs s 0) from Kd.R_nil _ _ _ _ _)
  rw [← HX.out]
  clear hC hl hs HX
  go_enter Try.func92, Try.ntmps92
  go_wp2_with fail
  go_loopg [5, 7, 10] xs.length (fun kq v5 v7 v10 w' => ∃ (k : Nat) (B : Option Addr) (cb : Nat), v5 = .slice B (flt xs s k).length cb ∧ v10 = .int .i64 (k : Int) ∧ Aside0 (kq + k = xs.length) ∧ Aside0 (Below w.heap.size w w') ∧ Aside0 (Kd.R k58 58 w' w.heap.size (fun _ => True) (.slice B (flt xs s k).length cb) (flt xs s k)))
  case atStart => exact ⟨0, none, 0, rfl, rfl, ⟨by omega⟩, ⟨Below.refl _ _⟩, HR0⟩
  case round =>
    clear HR0
    obtain ⟨k, B, cb, rfl, rfl, HK, HB, HR⟩ := hrel
    cases gk with
    | zero =>
      have ek : k = xs.length := by have := HK.out; omega
      subst ek
      have d0 : decide ((xs.length : Int) < (xs.length : Int)) = false := by simp
      go_wp2_with fail
      go_ret
      exact ⟨_, rfl, HR.out, HB.out⟩
    | succ q =>
      have hk : k < xs.length := by have := HK.out; omega
      have d0 : decide ((k : Int) < (xs.length : Int)) = true := decide_eq_true (by omega)
      have d1 : decide (k < xs.length) = true := decide_eq_true hk
      have p0 : 0 ≤ (k : Int) := Int.natCast_nonneg _
      have p1 : (k : Int) < (xs.length : Int) := by omega
      have HC1 := Aside0.mk (Kd.C_below HC.out HB.out)
      obtain ⟨ad, ea, ha0, ha1, ha2, ha3, ha4, ha5, ha6⟩ := at_T58 HC1.out (k : Int) p0 p1
      rw [Int.toNat_natCast] at ha0 ha1 ha2 ha3 ha4 ha5 ha6
      have FS := Aside0.mk (flt_snoc xs s hk)
      have EM := Aside0.mk (show rd_T58 xs (k : Int) = xs.getD k z58 by unfold rd_T58; rw [Int.toNat_natCast])
      rw [← EM.out] at FS
      generalize rd_T58 xs (k : Int) = m at *
      have FL := Aside0.mk (show (flt xs s k).length ≤ 1000000000 from Nat.le_trans (flt_len xs s k) HL.out)
      have ew : wrap64 ((k : Int) + 1) = ((k + 1 : Nat) : Int) := by have h1 := HL.out; unfold wrap64; omega
      have KL := Aside0.mk hk
      have hb1 := (Below.refl wr.heap.size wr).alloc (Nat.le_refl _) (.cells (mCs m) 58)
      have HB1 := Aside0.mk (below_step HB.out hb1)
      have HR1 := Aside0.mk (Kd.R_below HR.out hb1)
      have HS1 := Aside0.mk ((HS0.out.below HB.out).below hb1)
      have X1 := Aside0.mk (blk_new wr (.cells (mCs m) 58))
      rw [ea]
      have HAX := Aside0.mk ea
      clear ea hk hb1 HB HR
      go_wp2_with fail
      refine (pred97_calls _ m s gs HS1.out).mono ?_
      rintro e w3 ⟨rfl, hb⟩
      have HB3 := Aside0.mk (below_step HB1.out hb)
      have HR3 := Aside0.mk (Kd.R_below HR1.out hb)
      have X3 := Aside0.mk (blk_below X1.out hb)
      have y0 : w3.cell? ⟨wr.heap.size, 0, none⟩ = some (.int .u64 m.f0) := (blk_cell X3.out 0).trans rfl
      have y1 : w3.cell? ⟨wr.heap.size, 1, none⟩ = some (.int .i64 m.f1) := (blk_cell X3.out 1).trans rfl
      have y2 : w3.cell? ⟨wr.heap.size, 2, none⟩ = some (.int .i64 m.f2) := (blk_cell X3.out 2).trans rfl
      have y3 : w3.cell? ⟨wr.heap.size, 3, none⟩ = some (.string m.f3) := (blk_cell X3.out 3).trans rfl
      have y4 : w3.cell? ⟨wr.heap.size, 4, none⟩ = some (.string m.f4) := (blk_cell X3.out 4).trans rfl
      have y5 : w3.cell? ⟨wr.heap.size, 5, none⟩ = some (.int .u64 m.f5) := (blk_cell X3.out 5).trans rfl
      have y6 : w3.cell? ⟨wr.heap.size, 6, none⟩ = some (.int .u64 m.f6) := (blk_cell X3.out 6).trans rfl
      clear hb HB1 HR1 HS1 X1
      by_cases hov : overB m s = true
      · rw [hov]
        have FS2 := Aside0.mk (show flt xs s (k + 1) = flt xs s k ++ [m] by rw [FS.out, if_pos hov])
        clear hov
        go_wp2_with (first | ((with_reducible refine gate_builtin (b := .append) (xs := #[.tmp 17, .tmp 19]) rfl ?_); at_builtin; refine Kd.R_append k58 (w0 := w) w.heap.size rfl (.tmp 17) (.tmp 19) 23 58 (.agg #[(.int .u64 0), (.int .i64 0), (.int .i64 0), (.string ⟨#[]⟩), (.string ⟨#[]⟩), (.int .u64 0), (.int .u64 0)]) 72 rfl Try.underlying23 info58 rfl (show 0 < 7 by decide) (show 0 < 72 by decide) (.slice B (flt xs s k).length cb) (flt xs s k) m [.int .u64 m.f0, .int .i64 m.f1, .int .i64 m.f2, .string m.f3, .string m.f4, .int .u64 m.f5, .int .u64 m.f6] (fun _ => True) (fun _ => False) rfl rfl ?aP (fun _ hk => hk.elim) ?aF ?aO ?aB ?aS ?aL ?_; (case aP => exact k58_mkM _ _ _ m); (case aB => exact HB3.out); (case aF => exact (fun _ _ => trivial)); (case aO => exact HR3.out); (case aS => exact HB3.out.size); (case aL => (have h1 := FL.out; omega)); intro va wa ho hb hg hat; have HBa := Aside0.mk hb; obtain ⟨B', cb', hv⟩ := Kd.R_slice ho; subst hv; have HRa := Aside0.mk ho; clear ho hb hg hat) | fail)
        try rw [ew]
        rw [← HAX.out]
        rw [← FS2.out] at HRa
        go_roundg q
        case measure => omega
        case rel => exact ⟨k + 1, B', cb', by rw [FS2.out, List.length_append]; rfl, rfl, ⟨by have := HK.out; omega⟩, HBa, HRa⟩
      · rw [eq_false_of_ne_true hov]
        have FS2 := Aside0.mk (show flt xs s (k + 1) = flt xs s k by rw [FS.out, if_neg hov])
        clear hov
        go_wp2_with fail
        try rw [ew]
        rw [← HAX.out]
        go_roundg q
        case measure => omega
        case rel => exact ⟨k + 1, B, cb, by (show Value.slice B (flt xs s k).length cb = _; rw [FS2.out]), rfl, ⟨by have := HK.out; omega⟩, HB3, by rw [FS2.out]; exact HR3⟩
end Go.Proofs.Ytkjepfofiegcdaa.V
