import Derived.Test.YtfemebenkbobnaaSK9
/- A list that is not there: it has no rows and takes none. Conditions: none. -/
namespace Go.Proofs.Ytfemebenkbobnaa.SK
set_option linter.unusedVariables false
set_option linter.unusedSimpArgs false
open Go.RowKit Go.Shelf Go.Proofs.YtfemebenkbobnaaW.PrintWords Go.Proofs.YtfemebenkbobnaaW.PrintLast Go.Proofs.YtfemebenkbobnaaW.PrintMore Go.Proofs.Ytfemebenkbobnaa.PB06
attribute [local go_sem] Oper.semAt_some fn_eq_nil
theorem put_nil (w : World) (r : S28) (hgt : Int) : Calls Try.prog 21 #[.pointer none, .agg #[.string r.f0, .int .u64 r.f1, .int .i64 r.f2, .string r.f3], .int .i64 hgt] w fun e w' => e = .returned (.bool false) ∧ Below w.heap.size w w' := by
  go_enter Try.func21, Try.ntmps21
  go_wp2
  go_ret
  exact ⟨rfl, (Below.refl _ _).alloc (Nat.le_refl _) _⟩
set_option maxHeartbeats 8000000 in
set_option maxRecDepth 100000 in
theorem seek_nil_in (n : Nat) (hn : 4 ≤ n) (w : World) (key : ByteArray) (seq : Int) :
    CallsIn Fence.wide n Try.prog 27 #[.pointer none, .string key, .int .u64 seq] w fun e W' => e = .returned (.tuple #[rowV zrow, .bool false]) ∧ Below w.heap.size w W' := by
  have h1 : 1 ≤ n := by omega
  refine callsIn_of_wp_marks Try.func27 rfl trivial ?_ rfl
  simp only [Try.ntmps27, List.size_toArray, List.length_cons, List.length_nil, Nat.reduceAdd, Nat.reduceSub, Array.replicate_succ, Array.replicate_zero, List.push_toArray, List.append_toArray, List.nil_append, List.cons_append]
  gi_wp2
  refine ⟨trivial, ?_⟩
  refine (callsIn_wide.2 (from_calls _ _ _ _)).mono ?_
  rintro e w' ⟨rfl, rfl⟩
  obtain ⟨wa, hwa⟩ : ∃ wa, (w.alloc (Obj.cells #[Value.string ⟨#[]⟩, Value.int .u64 0, Value.int .i64 0, Value.string ⟨#[]⟩] 28)).alloc (Obj.cells #[Value.bool false] 4) = wa := ⟨_, rfl⟩
  have k6 : wa.heap[w.heap.size]? = some (.cells #[Value.string ⟨#[]⟩, Value.int .u64 0, Value.int .i64 0, Value.string ⟨#[]⟩] 28 (0, 0)) := by rw [← hwa]; exact blk_alloc (blk_new w _) _
  have k7 : wa.heap[w.heap.size + 1]? = some (.cells #[Value.bool false] 4 (0, 0)) := by rw [← hwa]; have := blk_new (w.alloc (Obj.cells #[Value.string ⟨#[]⟩, Value.int .u64 0, Value.int .i64 0, Value.string ⟨#[]⟩] 28)) (Obj.cells #[Value.bool false] 4); rwa [World.size_alloc] at this
  have hBa : Below w.heap.size w wa := by rw [← hwa]; exact ((Below.refl _ w).alloc (Nat.le_refl _) _).alloc (by simp) _
  have hsa : wa.heap.size = w.heap.size + 2 := by rw [← hwa]; simp
  rw [hwa]
  clear hwa
  obtain ⟨W0, hW0⟩ : ∃ W0, ((wa.alloc (.cells #[.pointer none] 26)).alloc (.cells #[.string key] 9)).alloc (.cells #[.int .u64 seq] 24) = W0 := ⟨_, rfl⟩
  have m1 : W0.heap[wa.heap.size]? = some (.cells #[.pointer none] 26 (0, 0)) := by rw [← hW0]; exact blk_alloc (blk_alloc (blk_new wa _) _) _
  have m2 : W0.heap[wa.heap.size + 1]? = some (.cells #[.string key] 9 (0, 0)) := by rw [← hW0]; have := blk_new (wa.alloc (.cells #[.pointer none] 26)) (.cells #[.string key] 9); rw [World.size_alloc] at this; exact blk_alloc this _
  have m3 : W0.heap[wa.heap.size + 1 + 1]? = some (.cells #[.int .u64 seq] 24 (0, 0)) := by rw [← hW0]; have := blk_new ((wa.alloc (.cells #[.pointer none] 26)).alloc (.cells #[.string key] 9)) (.cells #[.int .u64 seq] 24); rwa [World.size_alloc, World.size_alloc] at this
  have m6 : W0.heap[w.heap.size]? = some (.cells #[Value.string ⟨#[]⟩, Value.int .u64 0, Value.int .i64 0, Value.string ⟨#[]⟩] 28 (0, 0)) := by rw [← hW0]; exact blk_alloc (blk_alloc (blk_alloc k6 _) _) _
  have m7 : W0.heap[w.heap.size + 1]? = some (.cells #[Value.bool false] 4 (0, 0)) := by rw [← hW0]; exact blk_alloc (blk_alloc (blk_alloc k7 _) _) _
  have hB0 : Below w.heap.size w W0 := by rw [← hW0]; exact ((hBa.alloc hBa.size _).alloc (by simp; omega) _).alloc (by simp; omega) _
  have hs0 : W0.heap.size = w.heap.size + 5 := by rw [← hW0]; simp; omega
  rw [hW0]
  rw [hsa] at m1 m2 m3 ⊢
  clear hW0 k6 k7 hBa hsa
  have HM6 := Aside0.mk m6
  have HM7 := Aside0.mk m7
  have HB0 := Aside0.mk hB0
  have HS0 := Aside0.mk hs0
  have HM1 := Aside0.mk m1
  have HM2 := Aside0.mk m2
  have HM3 := Aside0.mk m3
  clear m6 m7 hB0 hs0 m1 m2 m3
  gi_wp2
  refine wpIn_rangeFunc_ownH rfl h1 (gf := 84) (lb := #[.pointer (some ⟨w.heap.size + 2, 0, none⟩), .pointer (some ⟨w.heap.size + 2 + 1, 0, none⟩), .pointer (some ⟨w.heap.size + 2 + 1 + 1, 0, none⟩)]) rfl trivial (enters_of Try.func84 (by kernel_rfl) rfl)
    (nil_stops (n - 1) _ _ _ w.heap.size W0 (by rw [HS0.out]; omega) ((blk_cell HM1.out 0).trans rfl)) belowK_t (belowK_b (by rw [HS0.out]; omega)) (Below.refl _ _) (fun _ => rfl)
    (fun pre W => pre = [] ∧ W.heap[w.heap.size]? = some (.cells #[Value.string ⟨#[]⟩, Value.int .u64 0, Value.int .i64 0, Value.string ⟨#[]⟩] 28 (0, 0)) ∧ W.heap[w.heap.size + 1]? = some (.cells #[Value.bool false] 4 (0, 0)) ∧ Below w.heap.size w W)
    (fun c pre W => c = .ret ∧ ∃ x : S28, pre = [x] ∧ W.heap[w.heap.size]? = some (.cells #[Value.string x.f0, Value.int .u64 x.f1, Value.int .i64 x.f2, Value.string x.f3] 28 (0, 0)) ∧ W.heap[w.heap.size + 1]? = some (.cells #[Value.bool true] 4 (0, 0)) ∧ Below w.heap.size w W)
    (fun s W W' row hs hg hr => ⟨hs.1, blk_grown_own hs.2.1 hg (fun r e => (hr r e).2), blk_grown_own hs.2.2.1 hg (fun r e => (hr r e).2), hs.2.2.2.grown hg hs.2.2.2.size (fun k e => by have := (hr k e).1; rw [HS0.out] at this; omega)⟩)
    (fun c s W W' row hs hg hr => by
      obtain ⟨h0, x, h2, h3, h4, h5⟩ := hs
      exact ⟨h0, x, h2, blk_grown_own h3 hg (fun r e => (hr r e).2), blk_grown_own h4 hg (fun r e => (hr r e).2), h5.grown hg h5.size (fun k e => by have := (hr k e).1; rw [HS0.out] at this; omega)⟩)
    ⟨rfl, HM6.out, HM7.out, HB0.out⟩
    (fun x a' W => ∃ Bx : Nat, W.heap[Bx]? = some (.cells #[Value.string x.f0, Value.int .u64 x.f1, Value.int .i64 x.f2, Value.string x.f3] 28 (0, 0)) ∧ a' = { tmps := #[Value.pointer none, Value.string key, Value.int IntKind.u64 seq, undef, undef, undef, Value.pointer (some { block := w.heap.size, off := 0 }), Value.pointer (some { block := w.heap.size + 1, off := 0 }), Value.pointer (some { block := Bx, off := 0 }), Value.pointer none, Value.string key, Value.int IntKind.u64 seq, Value.func (Fn.func 84) #[] #[Value.pointer (some { block := w.heap.size + 2, off := 0 }), Value.pointer (some { block := w.heap.size + 2 + 1, off := 0 }), Value.pointer (some { block := w.heap.size + 2 + 1 + 1, off := 0 })], rowV x, undef, undef], defers := [] })
    (fun x a' u W W' row hs hg hr => by
      obtain ⟨Bx, h3, h4⟩ := hs
      exact ⟨Bx, blk_grown_own h3 hg (fun r e => (hr r e).2), h4⟩) ?assign ?body ?done ?stop
  case assign =>
    intro l pre x W K hi hK
    dsimp only [rowV]
    gi_wp2
    exact hK _ _ ((KeepsOthers.alloc _ _).from _) ((Below.refl _ W).alloc hi.2.2.2.size _) ⟨hi.1, blk_alloc hi.2.1 _, blk_alloc hi.2.2.1 _, hi.2.2.2.alloc hi.2.2.2.size _⟩ ⟨W.heap.size, blk_new W _, rfl⟩
  case body =>
    intro l pre x a' W hl hrec hI hA hlt
    exact absurd hlt (Nat.not_lt_zero _)
  case done =>
    rintro D ys W hD hys ⟨rfl, hm6, hm7, hbb⟩ hK
    have hbe : True := trivial
    have hd0 : W.cell? ⟨w.heap.size, 0, none⟩ = some (.string ⟨#[]⟩) := (blk_cell hm6 0).trans rfl
    have hd1 : W.cell? ⟨w.heap.size, 1, none⟩ = some (.int .u64 0) := (blk_cell hm6 1).trans rfl
    have hd2 : W.cell? ⟨w.heap.size, 2, none⟩ = some (.int .i64 0) := (blk_cell hm6 2).trans rfl
    have hd3 : W.cell? ⟨w.heap.size, 3, none⟩ = some (.string ⟨#[]⟩) := (blk_cell hm6 3).trans rfl
    have hf0 := blk_frozen hm6 0
    have hf1 := blk_frozen hm6 1
    have hf2 := blk_frozen hm6 2
    have hf3 := blk_frozen hm6 3
    have hd7 : W.cell? ⟨w.heap.size + 1, 0, none⟩ = some (.bool false) := (blk_cell hm7 0).trans rfl
    have hf7 := blk_frozen hm7 0
    have M6 := Aside0.mk hm6
    have M7 := Aside0.mk hm7
    have MB := Aside0.mk hbb
    have MK := Aside0.mk hK
    have ME := Aside0.mk hbe
    have MD := Aside0.mk hD
    clear hm6 hm7 hbb hK hbe hys hD
    gi_wp2
    have hK5 := (((((KeepsOthers.setCell W ⟨w.heap.size, 0, none⟩ (.string ⟨#[]⟩)).trans (.setCell _ ⟨w.heap.size, 1, none⟩ (.int .u64 0))).trans (.setCell _ ⟨w.heap.size, 2, none⟩ (.int .i64 0))).trans (.setCell _ ⟨w.heap.size, 3, none⟩ (.string ⟨#[]⟩))).trans (.setCell _ ⟨w.heap.size + 1, 0, none⟩ (.bool false))).same D _ MK.out rfl
    have k6 : _ := blk_setOther (b := w.heap.size + 1) (j := 0) (v := .bool false) (blk_put (blk_put (blk_put (blk_put M6.out 0 (.string ⟨#[]⟩) rfl) 1 (.int .u64 0) rfl) 2 (.int .i64 0) rfl) 3 (.string ⟨#[]⟩) rfl) (by omega)
    have k7 : _ := blk_put (blk_setOther (b := w.heap.size) (j := 3) (v := .string ⟨#[]⟩) (blk_setOther (b := w.heap.size) (j := 2) (v := .int .i64 0) (blk_setOther (b := w.heap.size) (j := 1) (v := .int .u64 0) (blk_setOther (b := w.heap.size) (j := 0) (v := .string ⟨#[]⟩) M7.out (by omega)) (by omega)) (by omega)) (by omega)) 0 (.bool false) rfl
    refine ⟨by simp, .inl ⟨_, _, rfl, run_takeDeferred hK5, ?_⟩⟩
    refine ⟨_, results_cb rfl _ _ w.heap.size (w.heap.size + 1) #[.string ⟨#[]⟩, .int .u64 0, .int .i64 0, .string ⟨#[]⟩] false rfl (blk_grown_own k6 (grownBy_putObj' _ D _) (fun r e => by cases e; exact ⟨_, hK5, rfl⟩)) size28 rfl (blk_grown_own k7 (grownBy_putObj' _ D _) (fun r e => by cases e; exact ⟨_, hK5, rfl⟩)), rfl, ?_⟩
    have hb5 := ((((MB.out.setCell (p := ⟨w.heap.size, 0, none⟩) (Nat.le_refl _) (.string ⟨#[]⟩)).setCell (p := ⟨w.heap.size, 1, none⟩) (Nat.le_refl _) (.int .u64 0)).setCell (p := ⟨w.heap.size, 2, none⟩) (Nat.le_refl _) (.int .i64 0)).setCell (p := ⟨w.heap.size, 3, none⟩) (Nat.le_refl _) (.string ⟨#[]⟩)).setCell (p := ⟨w.heap.size + 1, 0, none⟩) (Nat.le_succ _) (.bool false)
    exact hb5.trans (belowK_b (w := w) (Nat.le_refl _) _ D _ _ (by have := MD.out; rw [HS0.out] at this; omega) hK5 rfl rfl)
  case stop =>
    rintro D c pre W hD hsp ⟨rfl, x, rfl, hm6, hm7, hbb⟩ hK
    obtain ⟨t, ht⟩ := hsp
    simp at ht

set_option maxHeartbeats 8000000 in
set_option maxRecDepth 100000 in
theorem whole_nil_in (n : Nat) (hn : 4 ≤ n) (w : World) :
    CallsIn Fence.wide n Try.prog 32 #[.pointer none] w fun e W' => ∃ v, e = .returned v ∧ Kd.R k28 28 W' w.heap.size (fun _ => True) v ([] : List S28) ∧ Below w.heap.size w W' := by
  have h1 : 1 ≤ n := by omega
  refine callsIn_of_wp_marks Try.func32 rfl trivial ?_ rfl
  simp only [Try.ntmps32, List.size_toArray, List.length_cons, List.length_nil, Nat.reduceAdd, Nat.reduceSub, Array.replicate_succ, Array.replicate_zero, List.push_toArray, List.append_toArray, List.nil_append, List.cons_append]
  gi_wp2
  refine ⟨trivial, ?_⟩
  refine (callsIn_wide.2 (all_from _ _)).mono ?_
  rintro e w' ⟨rfl, rfl⟩
  obtain ⟨wa, hwa⟩ : ∃ wa, w.alloc (Obj.cells #[Value.slice none 0 0] 22) = wa := ⟨_, rfl⟩
  have k3 : wa.heap[w.heap.size]? = some (.cells #[Value.slice none 0 0] 22 (0, 0)) := by rw [← hwa]; exact blk_new w _
  have hBa : Below w.heap.size w wa := by rw [← hwa]; exact (Below.refl _ w).alloc (Nat.le_refl _) _
  have hsa : wa.heap.size = w.heap.size + 1 := by rw [← hwa]; simp
  rw [hwa]
  clear hwa
  obtain ⟨W0, hW0⟩ : ∃ W0, ((wa.alloc (.cells #[.pointer none] 26)).alloc (.cells #[.string ⟨#[]⟩] 9)).alloc (.cells #[.int .u64 18446744073709551615] 24) = W0 := ⟨_, rfl⟩
  have m1 : W0.heap[wa.heap.size]? = some (.cells #[.pointer none] 26 (0, 0)) := by rw [← hW0]; exact blk_alloc (blk_alloc (blk_new wa _) _) _
  have m2 : W0.heap[wa.heap.size + 1]? = some (.cells #[.string ⟨#[]⟩] 9 (0, 0)) := by rw [← hW0]; have := blk_new (wa.alloc (.cells #[.pointer none] 26)) (.cells #[.string ⟨#[]⟩] 9); rw [World.size_alloc] at this; exact blk_alloc this _
  have m3 : W0.heap[wa.heap.size + 1 + 1]? = some (.cells #[.int .u64 18446744073709551615] 24 (0, 0)) := by rw [← hW0]; have := blk_new ((wa.alloc (.cells #[.pointer none] 26)).alloc (.cells #[.string ⟨#[]⟩] 9)) (.cells #[.int .u64 18446744073709551615] 24); rwa [World.size_alloc, World.size_alloc] at this
  have mo : W0.heap[w.heap.size]? = some (.cells #[Value.slice none 0 0] 22 (0, 0)) := by rw [← hW0]; exact blk_alloc (blk_alloc (blk_alloc k3 _) _) _
  have hB0 : Below w.heap.size w W0 := by rw [← hW0]; exact ((hBa.alloc hBa.size _).alloc (by simp; omega) _).alloc (by simp; omega) _
  have hs0 : W0.heap.size = w.heap.size + 4 := by rw [← hW0]; simp; omega
  rw [hW0]
  rw [hsa] at m1 m2 m3 ⊢
  clear hW0 k3 hBa hsa
  have HMO := Aside0.mk mo
  have HB0 := Aside0.mk hB0
  have HS0 := Aside0.mk hs0
  have HM1 := Aside0.mk m1
  have HM2 := Aside0.mk m2
  have HM3 := Aside0.mk m3
  clear mo hB0 hs0 m1 m2 m3
  gi_wp2
  refine wpIn_rangeFunc_ownH rfl h1 (gf := 84) (lb := #[.pointer (some ⟨w.heap.size + 1, 0, none⟩), .pointer (some ⟨w.heap.size + 1 + 1, 0, none⟩), .pointer (some ⟨w.heap.size + 1 + 1 + 1, 0, none⟩)]) rfl trivial (enters_of Try.func84 (by kernel_rfl) rfl)
    (nil_stops (n - 1) _ _ _ w.heap.size W0 (by rw [HS0.out]; omega) ((blk_cell HM1.out 0).trans rfl)) belowK_t (belowK_b (by rw [HS0.out]; omega)) (Below.refl _ _) (fun _ => rfl)
    (fun pre W => Coll w.heap.size w.heap.size pre W ∧ Below w.heap.size w W)
    (fun _ _ _ => False)
    (fun s W W' row hs hg hr => ⟨coll_own _ _ s W W' row hs.1 hg (fun r e => (hr r e).2), hs.2.grown hg hs.2.size (fun k e => by have := (hr k e).1; rw [HS0.out] at this; omega)⟩)
    (fun c s W W' row hs hg hr => hs.elim)
    ⟨⟨_, HMO.out, World.ownsRow_nil _ _ _ _, by simp⟩, HB0.out⟩
    (fun x a' W => ∃ Bx : Nat, W.heap[Bx]? = some (.cells #[Value.string x.f0, Value.int .u64 x.f1, Value.int .i64 x.f2, Value.string x.f3] 28 (0, 0)) ∧ a' = { tmps := #[Value.pointer none, undef, Value.slice none 0 0, Value.pointer (some { block := w.heap.size, off := 0 }), Value.func (Fn.func 84) #[] #[Value.pointer (some { block := w.heap.size + 1, off := 0 }), Value.pointer (some { block := w.heap.size + 1 + 1, off := 0 }), Value.pointer (some { block := w.heap.size + 1 + 1 + 1, off := 0 })], Value.pointer (some { block := Bx, off := 0 }), Value.pointer none, Value.func (Fn.func 84) #[] #[Value.pointer (some { block := w.heap.size + 1, off := 0 }), Value.pointer (some { block := w.heap.size + 1 + 1, off := 0 }), Value.pointer (some { block := w.heap.size + 1 + 1 + 1, off := 0 })], Value.func (Fn.func 84) #[] #[Value.pointer (some { block := w.heap.size + 1, off := 0 }), Value.pointer (some { block := w.heap.size + 1 + 1, off := 0 }), Value.pointer (some { block := w.heap.size + 1 + 1 + 1, off := 0 })], Value.bool false, Value.func (Fn.func 84) #[] #[Value.pointer (some { block := w.heap.size + 1, off := 0 }), Value.pointer (some { block := w.heap.size + 1 + 1, off := 0 }), Value.pointer (some { block := w.heap.size + 1 + 1 + 1, off := 0 })], rowV x, undef, undef, undef, undef, undef], defers := [] })
    (fun x a' u W W' row hs hg hr => by
      obtain ⟨Bx, h3, h4⟩ := hs
      exact ⟨Bx, blk_grown_own h3 hg (fun r e => (hr r e).2), h4⟩) ?assign ?body ?done ?stop
  case assign =>
    intro l pre x W K hi hK
    dsimp only [rowV]
    gi_wp2
    exact hK _ _ ((KeepsOthers.alloc _ _).from _) ((Below.refl _ W).alloc hi.2.size _) ⟨(coll_own _ _).from w.heap.size |>.alloc _ hi.1, hi.2.alloc hi.2.size _⟩ ⟨W.heap.size, blk_new W _, rfl⟩
  case body =>
    intro l pre x a' W hl hrec hI hA hlt
    exact absurd hlt (Nat.not_lt_zero _)
  case done =>
    rintro D ys W hD hys ⟨⟨v, hv, hrow, hnil⟩, hbb⟩ hK
    subst hys
    have hvc := hv.cell
    have MK := Aside0.mk hK
    have MR := Aside0.mk hrow
    have MB := Aside0.mk hbb
    have MD := Aside0.mk hD
    clear hK hrow hbb hD hnil
    gi_wp2
    refine ⟨by simp, .inl ⟨_, _, rfl, run_takeDeferred MK.out, ?_⟩⟩
    exact ⟨_, results_tmp rfl _ _ _, _, rfl, own_rows (by have := ownsRow_putObj MR.out (Obj.deferred none) MK.out rfl; simpa using this), MB.out.trans (belowK_b (w := w) (Nat.le_refl _) _ D _ _ (by have := MD.out; rw [HS0.out] at this; omega) MK.out rfl rfl)⟩
  case stop =>
    rintro D c pre W hD hsp h hK
    exact h.elim
set_option maxHeartbeats 8000000 in
set_option maxRecDepth 100000 in
theorem all_nil_in (n : Nat) (hn : 4 ≤ n) (w : World) (key : ByteArray) (seq most : Int) :
    CallsIn Fence.wide n Try.prog 23 #[.pointer none, .string key, .int .u64 seq, .int .i64 most] w fun e W' => ∃ v, e = .returned v ∧ Kd.R k28 28 W' w.heap.size (fun _ => True) v ([] : List S28) ∧ Below w.heap.size w W' := by
  have h1 : 1 ≤ n := by omega
  refine callsIn_of_wp_marks Try.func23 rfl trivial ?_ rfl
  simp only [Try.ntmps23, List.size_toArray, List.length_cons, List.length_nil, Nat.reduceAdd, Nat.reduceSub, Array.replicate_succ, Array.replicate_zero, List.push_toArray, List.append_toArray, List.nil_append, List.cons_append]
  gi_wp2
  refine ⟨trivial, ?_⟩
  refine (callsIn_wide.2 (from_calls _ _ _ _)).mono ?_
  rintro e w' ⟨rfl, rfl⟩
  obtain ⟨wa, hwa⟩ : ∃ wa, (w.alloc (Obj.cells #[Value.int .i64 most] 3)).alloc (Obj.cells #[Value.slice none 0 0] 22) = wa := ⟨_, rfl⟩
  have k2 : wa.heap[w.heap.size]? = some (.cells #[Value.int .i64 most] 3 (0, 0)) := by rw [← hwa]; exact blk_alloc (blk_new w _) _
  have k3 : wa.heap[w.heap.size + 1]? = some (.cells #[Value.slice none 0 0] 22 (0, 0)) := by rw [← hwa]; have := blk_new (w.alloc (Obj.cells #[Value.int .i64 most] 3)) (Obj.cells #[Value.slice none 0 0] 22); rwa [World.size_alloc] at this
  have hBa : Below w.heap.size w wa := by rw [← hwa]; exact ((Below.refl _ w).alloc (Nat.le_refl _) _).alloc (by simp) _
  have hsa : wa.heap.size = w.heap.size + 2 := by rw [← hwa]; simp
  rw [hwa]
  clear hwa
  obtain ⟨W0, hW0⟩ : ∃ W0, ((wa.alloc (.cells #[.pointer none] 26)).alloc (.cells #[.string key] 9)).alloc (.cells #[.int .u64 seq] 24) = W0 := ⟨_, rfl⟩
  have m1 : W0.heap[wa.heap.size]? = some (.cells #[.pointer none] 26 (0, 0)) := by rw [← hW0]; exact blk_alloc (blk_alloc (blk_new wa _) _) _
  have m2 : W0.heap[wa.heap.size + 1]? = some (.cells #[.string key] 9 (0, 0)) := by rw [← hW0]; have := blk_new (wa.alloc (.cells #[.pointer none] 26)) (.cells #[.string key] 9); rw [World.size_alloc] at this; exact blk_alloc this _
  have m3 : W0.heap[wa.heap.size + 1 + 1]? = some (.cells #[.int .u64 seq] 24 (0, 0)) := by rw [← hW0]; have := blk_new ((wa.alloc (.cells #[.pointer none] 26)).alloc (.cells #[.string key] 9)) (.cells #[.int .u64 seq] 24); rwa [World.size_alloc, World.size_alloc] at this
  have mm : W0.heap[w.heap.size]? = some (.cells #[Value.int .i64 most] 3 (0, 0)) := by rw [← hW0]; exact blk_alloc (blk_alloc (blk_alloc k2 _) _) _
  have mo : W0.heap[w.heap.size + 1]? = some (.cells #[Value.slice none 0 0] 22 (0, 0)) := by rw [← hW0]; exact blk_alloc (blk_alloc (blk_alloc k3 _) _) _
  have hB0 : Below w.heap.size w W0 := by rw [← hW0]; exact ((hBa.alloc hBa.size _).alloc (by simp; omega) _).alloc (by simp; omega) _
  have hs0 : W0.heap.size = w.heap.size + 5 := by rw [← hW0]; simp; omega
  rw [hW0]
  rw [hsa] at m1 m2 m3 ⊢
  clear hW0 k2 k3 hBa hsa
  have HMO := Aside0.mk mo
  have HMM := Aside0.mk mm
  have HB0 := Aside0.mk hB0
  have HS0 := Aside0.mk hs0
  have HM1 := Aside0.mk m1
  have HM2 := Aside0.mk m2
  have HM3 := Aside0.mk m3
  clear mo mm hB0 hs0 m1 m2 m3
  gi_wp2
  refine wpIn_rangeFunc_ownH rfl h1 (gf := 84) (lb := #[.pointer (some ⟨w.heap.size + 2, 0, none⟩), .pointer (some ⟨w.heap.size + 2 + 1, 0, none⟩), .pointer (some ⟨w.heap.size + 2 + 1 + 1, 0, none⟩)]) rfl trivial (enters_of Try.func84 (by kernel_rfl) rfl)
    (nil_stops (n - 1) _ _ _ w.heap.size W0 (by rw [HS0.out]; omega) ((blk_cell HM1.out 0).trans rfl)) belowK_t (belowK_b (by rw [HS0.out]; omega)) (Below.refl _ _) (fun _ => rfl)
    (fun pre W => Coll w.heap.size (w.heap.size + 1) pre W ∧ W.heap[w.heap.size]? = some (.cells #[Value.int .i64 most] 3 (0, 0)) ∧ Below w.heap.size w W ∧ ¬ (0 ≤ most ∧ most < (pre.length : Int)))
    (fun c pre W => c = .exit 0 ∧ ∃ p x, pre = p ++ [x] ∧ Coll w.heap.size (w.heap.size + 1) p W ∧ Below w.heap.size w W ∧ (p.length : Int) = most)
    (fun s W W' row hs hg hr => ⟨coll_own _ _ s W W' row hs.1 hg (fun r e => (hr r e).2), blk_grown_own hs.2.1 hg (fun r e => (hr r e).2), hs.2.2.1.grown hg hs.2.2.1.size (fun k e => by have := (hr k e).1; rw [HS0.out] at this; omega), hs.2.2.2⟩)
    (fun c s W W' row hs hg hr => by
      obtain ⟨h0, p, x, h2, h3, h4, h5⟩ := hs
      exact ⟨h0, p, x, h2, coll_own _ _ p W W' row h3 hg (fun r e => (hr r e).2), h4.grown hg h4.size (fun k e => by have := (hr k e).1; rw [HS0.out] at this; omega), h5⟩)
    ⟨⟨_, HMO.out, World.ownsRow_nil _ _ _ _, by simp⟩, HMM.out, HB0.out, by simp⟩
    (fun x a' W => ∃ Bx : Nat, W.heap[Bx]? = some (.cells #[Value.string x.f0, Value.int .u64 x.f1, Value.int .i64 x.f2, Value.string x.f3] 28 (0, 0)) ∧ a' = { tmps := #[Value.pointer none, Value.string key, Value.int IntKind.u64 seq, Value.int IntKind.i64 most, undef, undef, undef, Value.pointer (some { block := w.heap.size, off := 0 }), Value.slice none 0 0, Value.pointer (some { block := w.heap.size + 1, off := 0 }), Value.func (Fn.func 84) #[] #[Value.pointer (some { block := w.heap.size + 2, off := 0 }), Value.pointer (some { block := w.heap.size + 2 + 1, off := 0 }), Value.pointer (some { block := w.heap.size + 2 + 1 + 1, off := 0 })], Value.pointer (some { block := Bx, off := 0 }), Value.pointer none, Value.string key, Value.int IntKind.u64 seq, Value.func (Fn.func 84) #[] #[Value.pointer (some { block := w.heap.size + 2, off := 0 }), Value.pointer (some { block := w.heap.size + 2 + 1, off := 0 }), Value.pointer (some { block := w.heap.size + 2 + 1 + 1, off := 0 })], Value.func (Fn.func 84) #[] #[Value.pointer (some { block := w.heap.size + 2, off := 0 }), Value.pointer (some { block := w.heap.size + 2 + 1, off := 0 }), Value.pointer (some { block := w.heap.size + 2 + 1 + 1, off := 0 })], Value.bool false, Value.func (Fn.func 84) #[] #[Value.pointer (some { block := w.heap.size + 2, off := 0 }), Value.pointer (some { block := w.heap.size + 2 + 1, off := 0 }), Value.pointer (some { block := w.heap.size + 2 + 1 + 1, off := 0 })], rowV x, undef, undef, undef, undef, undef, undef, undef, undef, undef], defers := [] })
    (fun x a' u W W' row hs hg hr => by
      obtain ⟨Bx, h3, h4⟩ := hs
      exact ⟨Bx, blk_grown_own h3 hg (fun r e => (hr r e).2), h4⟩) ?assign ?body ?done ?stop
  case assign =>
    intro l pre x W K hi hK
    dsimp only [rowV]
    gi_wp2
    exact hK _ _ ((KeepsOthers.alloc _ _).from _) ((Below.refl _ W).alloc hi.2.2.1.size _) ⟨(coll_own _ _).from w.heap.size |>.alloc _ hi.1, blk_alloc hi.2.1 _, hi.2.2.1.alloc hi.2.2.1.size _, hi.2.2.2⟩ ⟨W.heap.size, blk_new W _, rfl⟩
  case body =>
    intro l pre x a' W hl hrec hI hA hlt
    exact absurd hlt (Nat.not_lt_zero _)
  case done =>
    rintro D ys W hD hys ⟨⟨v, hv, hrow, hnil⟩, hmm, hbb, hnm⟩ hK
    subst hys
    have hvc := hv.cell
    have MK := Aside0.mk hK
    have MR := Aside0.mk hrow
    have MB := Aside0.mk hbb
    have MD := Aside0.mk hD
    have MN := Aside0.mk hnm
    clear hK hrow hbb hD hnil hnm hmm
    gi_wp2
    refine ⟨by simp, .inl ⟨_, _, rfl, run_takeDeferred MK.out, ?_⟩⟩
    exact ⟨_, results_tmp rfl _ _ _, _, rfl, own_rows (by have := ownsRow_putObj MR.out (Obj.deferred none) MK.out rfl; simpa using this), MB.out.trans (belowK_b (w := w) (Nat.le_refl _) _ D _ _ (by have := MD.out; rw [HS0.out] at this; omega) MK.out rfl rfl)⟩
  case stop =>
    rintro D c pre W hD hsp ⟨rfl, p, x, rfl, _⟩ hK
    obtain ⟨t, ht⟩ := hsp
    simp at ht

end Go.Proofs.Ytfemebenkbobnaa.SK
