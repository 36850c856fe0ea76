import Derived.Test.YtfemebenkbobnaaME1
/- The table of rows in memory: Range, Rows, walked. Conditions: at most a million rows. -/
namespace Go.Proofs.Ytfemebenkbobnaa.SM
set_option linter.unusedVariables false
set_option linter.unusedSimpArgs false
open Go.RowKit Go.Shelf Go.Proofs.YtfemebenkbobnaaW.PrintWords Go.Proofs.YtfemebenkbobnaaW.PrintLast Go.Proofs.YtfemebenkbobnaaW.PrintMore Go.Proofs.Ytfemebenkbobnaa.PB06
attribute [local go_sem] Oper.semAt_some fn_eq_nil
/-- Is a row within a range's end? -/
def within (to_ : ByteArray) (x : S28) : Bool := to_.toList.isEmpty || Op.bytesLess x.f0.toList to_.toList
def rangeR (to_ : ByteArray) (R : List S28) : List S28 := R.takeWhile fun x => within to_ x
theorem within_no {to_ : ByteArray} {x : S28} (h : within to_ x = false) : to_.toList.isEmpty = false ∧ (to_.toList != []) = true ∧ Op.bytesLess x.f0.toList to_.toList = false ∧ (to_.toList == []) = false := by
  unfold within at h
  rw [Bool.or_eq_false_iff] at h
  refine ⟨h.1, ?_, h.2, ?_⟩
  · cases hq : to_.toList with
    | nil => rw [hq] at h; simp at h
    | cons a l => rfl
  · cases hq : to_.toList with
    | nil => rw [hq] at h; simp at h
    | cons a l => rfl
theorem within_yes {to_ : ByteArray} {x : S28} (h : within to_ x = true) : (to_.toList.isEmpty = true ∧ to_.toList = []) ∨ (to_.toList.isEmpty = false ∧ (to_.toList != []) = true ∧ Op.bytesLess x.f0.toList to_.toList = true) := by
  unfold within at h
  cases hq : to_.toList with
  | nil => exact .inl ⟨rfl, rfl⟩
  | cons a l =>
    rw [hq] at h
    exact .inr ⟨rfl, rfl, by simpa using h⟩
theorem within_nil (y : S28) : within ⟨#[]⟩ y = true := by
  unfold within
  rw [show (⟨#[]⟩ : ByteArray).toList = [] from by decide +kernel]
  rfl
theorem range_all {to_ : ByteArray} {p : List S28} (h1 : ∀ y, y ∈ p → within to_ y = true) : rangeR to_ p = p := by
  unfold rangeR
  induction p with
  | nil => rfl
  | cons y r ih => rw [List.takeWhile_cons, if_pos (h1 y List.mem_cons_self), ih (fun z hz => h1 z (List.mem_cons_of_mem _ hz))]
theorem range_stop {to_ : ByteArray} {p t : List S28} {x : S28} (h1 : ∀ y, y ∈ p → within to_ y = true) (h2 : within to_ x = false) : rangeR to_ (p ++ [x] ++ t) = p := by
  unfold rangeR
  induction p with
  | nil => simp [h2]
  | cons y r ih =>
    rw [List.cons_append, List.cons_append, List.takeWhile_cons, if_pos (h1 y List.mem_cons_self), ih (fun z hz => h1 z (List.mem_cons_of_mem _ hz))]
theorem none_eq (w : World) (g : Nat) (b : Bool) (h : w.cell? ⟨g, 18, none⟩ = some (.bool b)) : Calls Try.prog 79 #[.pointer (some ⟨g, 0, none⟩)] w fun e w' => e = .returned (.bool (!b)) ∧ w' = w := by
  go_enter Try.func79, Try.ntmps79
  go_wp2
  go_ret
  exact ⟨rfl, rfl⟩
theorem none_eq0 (w : World) : Calls Try.prog 79 #[.pointer none] w fun e w' => e = .returned (.bool true) ∧ w' = w := by
  go_enter Try.func79, Try.ntmps79
  go_wp2
  go_ret
  exact ⟨rfl, rfl⟩
set_option maxHeartbeats 8000000 in
set_option maxRecDepth 100000 in
theorem range_in (n : Nat) (hn : 4 ≤ n) (w : World) (g : Nat) (rs : List Nd) (key to_ : ByteArray) {room least greatest : Int} (h : Sk (tabT room least greatest) w g rs) (hlen : rs.length ≤ 1000000) :
    CallsIn Fence.wide n Try.prog 56 #[.pointer (some ⟨g, 0, none⟩), .string key, .string to_] w fun e W' => ∃ v, e = .returned v ∧ Kd.R k28 28 W' w.heap.size (fun _ => True) v (rangeR to_ ((beh key 18446744073709551615 rs).map (·.row))) ∧ Below w.heap.size w W' := by
  have h1 : 1 ≤ n := by omega
  have HS := Aside0.mk h
  have HL := Aside0.mk hlen
  clear h hlen
  refine callsIn_of_wp_marks Try.func56 rfl trivial ?_ rfl
  simp only [Try.ntmps56, List.size_toArray, List.length_cons, List.length_nil, Nat.reduceAdd, Nat.reduceSub, Array.replicate_succ, Array.replicate_zero, List.push_toArray, List.append_toArray, List.nil_append, List.cons_append]
  gi_wp2
  refine ⟨trivial, ?_⟩
  obtain ⟨wa, hwa⟩ : ∃ wa, (w.alloc (Obj.cells #[Value.string to_] 9)).alloc (Obj.cells #[Value.slice none 0 0] 22) = wa := ⟨_, rfl⟩
  have k2 : wa.heap[w.heap.size]? = some (.cells #[Value.string to_] 9 (0, 0)) := by rw [← hwa]; exact blk_alloc (blk_new w _) _
  have k3 : wa.heap[w.heap.size + 1]? = some (.cells #[Value.slice none 0 0] 22 (0, 0)) := by rw [← hwa]; have := blk_new (w.alloc (Obj.cells #[Value.string to_] 9)) (Obj.cells #[Value.slice none 0 0] 22); rwa [World.size_alloc] at this
  have hBa : Below w.heap.size w wa := by rw [← hwa]; exact ((Below.refl _ w).alloc (Nat.le_refl _) _).alloc (by simp) _
  have hsa : wa.heap.size = w.heap.size + 2 := by rw [← hwa]; simp
  rw [hwa]
  clear hwa
  refine (callsIn_wide.2 (none_eq wa g true (tab_cells (HS.out.below hBa)).1)).mono ?_
  rintro e w' ⟨rfl, hw⟩
  replace hw := hw.symm
  subst hw
  gi_wp2
  refine ⟨trivial, ?_⟩
  refine (callsIn_wide.2 (from_calls _ _ _ _)).mono ?_
  rintro e w' ⟨rfl, rfl⟩
  obtain ⟨W0, hW0⟩ : ∃ W0, ((wa.alloc (.cells #[.pointer (some ⟨g, 0, none⟩)] 26)).alloc (.cells #[.string key] 9)).alloc (.cells #[.int .u64 18446744073709551615] 24) = W0 := ⟨_, rfl⟩
  have m1 : W0.heap[wa.heap.size]? = some (.cells #[.pointer (some ⟨g, 0, none⟩)] 26 (0, 0)) := by rw [← hW0]; exact blk_alloc (blk_alloc (blk_new wa _) _) _
  have m2 : W0.heap[wa.heap.size + 1]? = some (.cells #[.string key] 9 (0, 0)) := by rw [← hW0]; have := blk_new (wa.alloc (.cells #[.pointer (some ⟨g, 0, none⟩)] 26)) (.cells #[.string key] 9); rw [World.size_alloc] at this; exact blk_alloc this _
  have m3 : W0.heap[wa.heap.size + 1 + 1]? = some (.cells #[.int .u64 18446744073709551615] 24 (0, 0)) := by rw [← hW0]; have := blk_new ((wa.alloc (.cells #[.pointer (some ⟨g, 0, none⟩)] 26)).alloc (.cells #[.string key] 9)) (.cells #[.int .u64 18446744073709551615] 24); rwa [World.size_alloc, World.size_alloc] at this
  have mm : W0.heap[w.heap.size]? = some (.cells #[Value.string to_] 9 (0, 0)) := by rw [← hW0]; exact blk_alloc (blk_alloc (blk_alloc k2 _) _) _
  have mo : W0.heap[w.heap.size + 1]? = some (.cells #[Value.slice none 0 0] 22 (0, 0)) := by rw [← hW0]; exact blk_alloc (blk_alloc (blk_alloc k3 _) _) _
  have hB0 : Below w.heap.size w W0 := by rw [← hW0]; exact ((hBa.alloc hBa.size _).alloc (by simp; omega) _).alloc (by simp; omega) _
  have hs0 : W0.heap.size = w.heap.size + 5 := by rw [← hW0]; simp; omega
  rw [hW0]
  rw [hsa] at m1 m2 m3 ⊢
  clear hW0 k2 k3 hBa hsa
  have HMO := Aside0.mk mo
  have HMM := Aside0.mk mm
  have HB0 := Aside0.mk hB0
  have HS0 := Aside0.mk hs0
  have HM1 := Aside0.mk m1
  have HM2 := Aside0.mk m2
  have HM3 := Aside0.mk m3
  clear mo mm hB0 hs0 m1 m2 m3
  gi_wp2
  refine wpIn_rangeFunc_ownH rfl h1 (gf := 84) (lb := #[.pointer (some ⟨w.heap.size + 2, 0, none⟩), .pointer (some ⟨w.heap.size + 2 + 1, 0, none⟩), .pointer (some ⟨w.heap.size + 2 + 1 + 1, 0, none⟩)]) rfl trivial (enters_of Try.func84 (by kernel_rfl) rfl)
    (from_stops (n - 1) _ _ _ w.heap.size g (by omega) key 18446744073709551615 rs W0 (by rw [HS0.out]; omega) (by rw [HS0.out]; omega) (by rw [HS0.out]; omega) ((blk_cell HM1.out 0).trans rfl) ((blk_cell HM2.out 0).trans rfl) ((blk_cell HM3.out 0).trans rfl) (HS.out.below HB0.out) (HS.out.sl.lt) (by rw [HS0.out]; omega) (by have := HL.out; omega)) belowK_t (belowK_b (by rw [HS0.out]; omega)) (Below.refl _ _) (fun _ => rfl)
    (fun pre W => Coll w.heap.size (w.heap.size + 1) pre W ∧ W.heap[w.heap.size]? = some (.cells #[Value.string to_] 9 (0, 0)) ∧ Below w.heap.size w W ∧ ∀ y, y ∈ pre → within to_ y = true)
    (fun c pre W => c = .exit 0 ∧ ∃ p x, pre = p ++ [x] ∧ Coll w.heap.size (w.heap.size + 1) p W ∧ Below w.heap.size w W ∧ (∀ y, y ∈ p → within to_ y = true) ∧ within to_ x = false)
    (fun s W W' row hs hg hr => ⟨coll_own _ _ s W W' row hs.1 hg (fun r e => (hr r e).2), blk_grown_own hs.2.1 hg (fun r e => (hr r e).2), hs.2.2.1.grown hg hs.2.2.1.size (fun k e => by have := (hr k e).1; rw [HS0.out] at this; omega), hs.2.2.2⟩)
    (fun c s W W' row hs hg hr => by
      obtain ⟨h0, p, x, h2, h3, h4, h5⟩ := hs
      exact ⟨h0, p, x, h2, coll_own _ _ p W W' row h3 hg (fun r e => (hr r e).2), h4.grown hg h4.size (fun k e => by have := (hr k e).1; rw [HS0.out] at this; omega), h5⟩)
    ⟨⟨_, HMO.out, World.ownsRow_nil _ _ _ _, by simp⟩, HMM.out, HB0.out, fun y hy => by simp at hy⟩
    (fun x a' W => ∃ Bx : Nat, W.heap[Bx]? = some (.cells #[Value.string x.f0, Value.int .u64 x.f1, Value.int .i64 x.f2, Value.string x.f3] 28 (0, 0)) ∧ a' = { tmps := #[Value.pointer (some { block := g, off := 0 }), Value.string key, Value.string to_, undef, undef, Value.pointer (some { block := w.heap.size, off := 0 }), Value.slice none 0 0, Value.pointer (some { block := w.heap.size + 1, off := 0 }), Value.pointer (some { block := Bx, off := 0 }), Value.pointer (some { block := g, off := 0 }), Value.bool false, undef, Value.pointer (some { block := g, off := 0 }), Value.pointer (some { block := g, off := 0 }), Value.pointer (some { block := g, off := 0 }), Value.pointer (some { block := g, off := 0 }), Value.string key, Value.func (Fn.func 84) #[] #[Value.pointer (some { block := w.heap.size + 2, off := 0 }), Value.pointer (some { block := w.heap.size + 2 + 1, off := 0 }), Value.pointer (some { block := w.heap.size + 2 + 1 + 1, off := 0 })], rowV x, undef, undef, undef, undef, undef, undef, undef, undef, undef, undef, undef, undef, undef], defers := [] })
    (fun x a' u W W' row hs hg hr => by
      obtain ⟨Bx, h3, h4⟩ := hs
      exact ⟨Bx, blk_grown_own h3 hg (fun r e => (hr r e).2), h4⟩) ?assign ?body ?done ?stop
  case assign =>
    intro l pre x W K hi hK
    dsimp only [rowV]
    gi_wp2
    exact hK _ _ ((KeepsOthers.alloc _ _).from _) ((Below.refl _ W).alloc hi.2.2.1.size _) ⟨(coll_own _ _).from w.heap.size |>.alloc _ hi.1, blk_alloc hi.2.1 _, hi.2.2.1.alloc hi.2.2.1.size _, hi.2.2.2⟩ ⟨W.heap.size, blk_new W _, rfl⟩
  case body =>
    rintro l pre x a' W hl hrec ⟨⟨v, hv, hrow, hnil⟩, hmm, hbb, hnm⟩ ⟨Bx, hbx, rfl⟩ hlt
    obtain ⟨Ao, co, rfl⟩ := ownsRow_slice hrow
    have hc0 : W.cell? ⟨Bx, 0, none⟩ = some (.string x.f0) := (blk_cell hbx 0).trans rfl
    have hc1 : W.cell? ⟨Bx, 1, none⟩ = some (.int .u64 x.f1) := (blk_cell hbx 1).trans rfl
    have hc2 : W.cell? ⟨Bx, 2, none⟩ = some (.int .i64 x.f2) := (blk_cell hbx 2).trans rfl
    have hc3 : W.cell? ⟨Bx, 3, none⟩ = some (.string x.f3) := (blk_cell hbx 3).trans rfl
    have hvc := hv.cell
    have hvf := hv.frozen
    have hmc : W.cell? ⟨w.heap.size, 0, none⟩ = some (.string to_) := (blk_cell hmm 0).trans rfl
    cases cm : within to_ x with
    | false =>
      have C1 := Aside0.mk (⟨_, hv, hrow, hnil⟩ : Coll w.heap.size (w.heap.size + 1) pre W)
      have C2 := Aside0.mk hbb
      have C3 := Aside0.mk hnm
      have C4 := Aside0.mk cm
      obtain ⟨q1, q2, q3, q4⟩ := within_no cm
      clear hrec hv hrow hnil hbb hnm hmm hbx cm
      gi_wp2
      exact ⟨(KeepsOthers.refl W).from _, rfl, pre, x, rfl, C1.out, C2.out, C3.out, C4.out⟩
    | true =>
      have NM := Aside0.mk (show ∀ y, y ∈ pre ++ [x] → within to_ y = true from fun y hy => (List.mem_append.mp hy).elim (hnm y) (fun h => by rw [List.mem_singleton] at h; rw [h]; exact cm))
      have MM := Aside0.mk hmm
      have CM := Aside0.mk cm
      clear cm hnm hmm
      rcases within_yes CM.out with ⟨q1, q2⟩ | ⟨q1, q2, q3⟩
      · have hvv : ∃ vv, vv = Value.slice Ao pre.length co := ⟨_, rfl⟩
        have hle : pre.length + 1 ≤ 1000000 := by
          have h2 : (beh key 18446744073709551615 rs).length ≤ rs.length := (List.dropWhile_suffix _).length_le
          have := HL.out
          omega
        have hrowx : ∀ j u, (rowC x)[j]? = some u → (W.alloc (.cells #[Value.string x.f0, Value.int .u64 x.f1, Value.int .i64 x.f2, Value.string x.f3] 28)).cell? ((⟨W.heap.size, 0, none⟩ : Addr).add j) = some u := fun j u hj => by
          rw [Addr.add_mid, Nat.zero_add, blk_cell (blk_new W _)]
          simpa [rowC] using hj
        have hrow1 : ∀ u, u ∈ rowC x → u.oneCell' = true := fun u hu => by
          simp only [rowC, List.mem_cons, List.not_mem_nil, or_false] at hu
          rcases hu with rfl | rfl | rfl | rfl <;> rfl
        obtain ⟨i0, hi, hz0, hz1, hz2⟩ := info_parts info28
        have hbs : w.heap.size ≤ (W.alloc (.cells #[Value.string x.f0, Value.int .u64 x.f1, Value.int .i64 x.f2, Value.string x.f3] 28)).heap.size := by rw [World.size_alloc]; exact Nat.le_succ_of_le hbb.size
        have V := Aside0.mk hv
        have RW := Aside0.mk hrow
        have RX := Aside0.mk hrowx
        have R1 := Aside0.mk hrow1
        have MB := Aside0.mk hbb
        have LE := Aside0.mk hle
        have BS := Aside0.mk hbs
        have IF := Aside0.mk (⟨hi, hz0, hz1, hz2⟩ : _ ∧ _ ∧ _ ∧ _)
        clear hrec hv hrow hrowx hrow1 hbb hle hbs hi hz0 hz1 hz2 hbx hnil hlt
        gi_wp2_with (gi_at_builtin; refine wpListIn_append_own _ rfl _ _ 22 rfl w.heap.size 28 i0 _ 4 48 Try.underlying22 IF.out.1 IF.out.2.1 IF.out.2.2.1 IF.out.2.2.2 rfl (by decide) (.slice Ao pre.length co) pre.length (cellsOf pre) rfl (RW.out.alloc _) ⟨W.heap.size, 0, none⟩ 1 1 (rowC x) rfl rfl RX.out R1.out (by have := LE.out; unfold maxLen; omega) (by have := LE.out; omega) BS.out ?_; intro v' w1 hown' hgrow _; obtain ⟨g', cap', rfl⟩ := ownsRow_succ hown'; obtain ⟨hv1, hv2, hr2, hk2, hb2⟩ := V.out.appended (by decide) RW.out MB.out.size (Nat.le_succ _) hown' hgrow; have hvc1 := hv1.cell; have hvf1 := hv1.frozen; have V2 := Aside0.mk hv2; have R2 := Aside0.mk hr2; have K2 := Aside0.mk hk2; have B2 := Aside0.mk hb2; have M2 := Aside0.mk (show (w1.setCell ⟨w.heap.size + 1, 0, none⟩ (.slice (some ⟨g', 0, none⟩) (pre.length + 1) cap')).heap[w.heap.size]? = some (.cells #[Value.string to_] 9 (0, 0)) from by rw [Below.heap_setCell _ _ _ _ (by simp)]; exact (hgrow.block w.heap.size (by rw [World.size_alloc]; exact Nat.lt_succ_of_lt (blk_lt MM.out)) (row_other RW.out MM.out (by decide))).trans (blk_alloc MM.out _)); clear hv1 hv2 hr2 hk2 hb2 hown' hgrow hc0 hc1 hc2 hc3)
        exact ⟨K2.out.from _, B2.out, ⟨_, V2.out, by rw [List.length_append, cellsOf_snoc]; exact R2.out, by simp⟩, M2.out, MB.out.trans B2.out, NM.out⟩
      · have hvv : ∃ vv, vv = Value.slice Ao pre.length co := ⟨_, rfl⟩
        have hle : pre.length + 1 ≤ 1000000 := by
          have h2 : (beh key 18446744073709551615 rs).length ≤ rs.length := (List.dropWhile_suffix _).length_le
          have := HL.out
          omega
        have hrowx : ∀ j u, (rowC x)[j]? = some u → (W.alloc (.cells #[Value.string x.f0, Value.int .u64 x.f1, Value.int .i64 x.f2, Value.string x.f3] 28)).cell? ((⟨W.heap.size, 0, none⟩ : Addr).add j) = some u := fun j u hj => by
          rw [Addr.add_mid, Nat.zero_add, blk_cell (blk_new W _)]
          simpa [rowC] using hj
        have hrow1 : ∀ u, u ∈ rowC x → u.oneCell' = true := fun u hu => by
          simp only [rowC, List.mem_cons, List.not_mem_nil, or_false] at hu
          rcases hu with rfl | rfl | rfl | rfl <;> rfl
        obtain ⟨i0, hi, hz0, hz1, hz2⟩ := info_parts info28
        have hbs : w.heap.size ≤ (W.alloc (.cells #[Value.string x.f0, Value.int .u64 x.f1, Value.int .i64 x.f2, Value.string x.f3] 28)).heap.size := by rw [World.size_alloc]; exact Nat.le_succ_of_le hbb.size
        have V := Aside0.mk hv
        have RW := Aside0.mk hrow
        have RX := Aside0.mk hrowx
        have R1 := Aside0.mk hrow1
        have MB := Aside0.mk hbb
        have LE := Aside0.mk hle
        have BS := Aside0.mk hbs
        have IF := Aside0.mk (⟨hi, hz0, hz1, hz2⟩ : _ ∧ _ ∧ _ ∧ _)
        clear hrec hv hrow hrowx hrow1 hbb hle hbs hi hz0 hz1 hz2 hbx hnil hlt
        gi_wp2_with (gi_at_builtin; refine wpListIn_append_own _ rfl _ _ 22 rfl w.heap.size 28 i0 _ 4 48 Try.underlying22 IF.out.1 IF.out.2.1 IF.out.2.2.1 IF.out.2.2.2 rfl (by decide) (.slice Ao pre.length co) pre.length (cellsOf pre) rfl (RW.out.alloc _) ⟨W.heap.size, 0, none⟩ 1 1 (rowC x) rfl rfl RX.out R1.out (by have := LE.out; unfold maxLen; omega) (by have := LE.out; omega) BS.out ?_; intro v' w1 hown' hgrow _; obtain ⟨g', cap', rfl⟩ := ownsRow_succ hown'; obtain ⟨hv1, hv2, hr2, hk2, hb2⟩ := V.out.appended (by decide) RW.out MB.out.size (Nat.le_succ _) hown' hgrow; have hvc1 := hv1.cell; have hvf1 := hv1.frozen; have V2 := Aside0.mk hv2; have R2 := Aside0.mk hr2; have K2 := Aside0.mk hk2; have B2 := Aside0.mk hb2; have M2 := Aside0.mk (show (w1.setCell ⟨w.heap.size + 1, 0, none⟩ (.slice (some ⟨g', 0, none⟩) (pre.length + 1) cap')).heap[w.heap.size]? = some (.cells #[Value.string to_] 9 (0, 0)) from by rw [Below.heap_setCell _ _ _ _ (by simp)]; exact (hgrow.block w.heap.size (by rw [World.size_alloc]; exact Nat.lt_succ_of_lt (blk_lt MM.out)) (row_other RW.out MM.out (by decide))).trans (blk_alloc MM.out _)); clear hv1 hv2 hr2 hk2 hb2 hown' hgrow hc0 hc1 hc2 hc3)
        exact ⟨K2.out.from _, B2.out, ⟨_, V2.out, by rw [List.length_append, cellsOf_snoc]; exact R2.out, by simp⟩, M2.out, MB.out.trans B2.out, NM.out⟩
  case done =>
    rintro D ys W hD hys ⟨⟨v, hv, hrow, hnil⟩, hmm, hbb, hnm⟩ hK
    subst hys
    have hvc := hv.cell
    have MK := Aside0.mk hK
    have MR := Aside0.mk hrow
    have MB := Aside0.mk hbb
    have MD := Aside0.mk hD
    have MN := Aside0.mk hnm
    clear hK hrow hbb hD hnil hnm hmm
    gi_wp2
    refine ⟨by simp, .inl ⟨_, _, rfl, run_takeDeferred MK.out, ?_⟩⟩
    have et : rangeR to_ ((beh key 18446744073709551615 rs).map (·.row)) = (beh key 18446744073709551615 rs).map (·.row) := range_all MN.out
    rw [et]
    exact ⟨_, results_tmp rfl _ _ _, _, rfl, own_rows (by have := ownsRow_putObj MR.out (Obj.deferred none) MK.out rfl; simpa using this), MB.out.trans (belowK_b (w := w) (Nat.le_refl _) _ D _ _ (by have := MD.out; rw [HS0.out] at this; omega) MK.out rfl rfl)⟩
  case stop =>
    rintro D c pre W hD hsp ⟨rfl, p, x, rfl, ⟨v, hv, hrow, hnil⟩, hbb, hpm⟩ hK
    have hvc := hv.cell
    have MK := Aside0.mk hK
    have MR := Aside0.mk hrow
    have MB := Aside0.mk hbb
    have MD := Aside0.mk hD
    have MP := Aside0.mk hsp
    have MM := Aside0.mk hpm
    clear hK hrow hbb hD hnil hsp hpm
    gi_wp2
    refine ⟨by simp, .inl ⟨_, _, rfl, run_takeDeferred MK.out, ?_⟩⟩
    have et : rangeR to_ ((beh key 18446744073709551615 rs).map (·.row)) = p := by
      obtain ⟨t, ht⟩ := MP.out
      rw [← ht]
      exact range_stop MM.out.1 MM.out.2
    rw [et]
    exact ⟨_, results_tmp rfl _ _ _, _, rfl, own_rows (by have := ownsRow_putObj MR.out (Obj.deferred none) MK.out rfl; simpa using this), MB.out.trans (belowK_b (w := w) (Nat.le_refl _) _ D _ _ (by have := MD.out; rw [HS0.out] at this; omega) MK.out rfl rfl)⟩
theorem range_tab {w : World} {g : Nat} {rs : List Nd} {room least greatest : Int} (h : Sk (tabT room least greatest) w g rs) (hlen : rs.length ≤ 1000000) (key to_ : ByteArray) :
    Calls Try.prog 56 #[.pointer (some ⟨g, 0, none⟩), .string key, .string to_] w fun e W' => ∃ v, e = .returned v ∧ Kd.R k28 28 W' w.heap.size (fun _ => True) v (rangeR to_ ((beh key 18446744073709551615 rs).map (·.row))) ∧ Below w.heap.size w W' := (callsIn_wide (n := 4)).1 (range_in 4 (Nat.le_refl _) w g rs key to_ h hlen)
theorem range_un {w : World} {p : Option Addr} (h : Un w p) (key to_ : ByteArray) : Calls Try.prog 56 #[.pointer p, .string key, .string to_] w fun e w' => e = .returned (.slice none 0 0) ∧ Below w.heap.size w w' := by
  have HB := Aside0.mk (((Below.refl w.heap.size w).alloc (Nat.le_refl _) (.cells #[.string to_] 9)).alloc (by simp) (.cells #[.slice none 0 0] 22))
  have hsz : (w.alloc (.cells #[.string to_] 9)).heap.size = w.heap.size + 1 := by simp
  have hc := blk_new (w.alloc (.cells #[.string to_] 9)) (.cells #[.slice none 0 0] 22)
  rw [hsz] at hc
  have BX := Aside0.mk hc
  have HU := Aside0.mk (h.below HB.out)
  clear hc hsz h
  go_enter Try.func56, Try.ntmps56
  go_wp2_with fail
  generalize (w.alloc (.cells #[.string to_] 9)).alloc (.cells #[.slice none 0 0] 22) = w1 at *
  refine (none_un HU.out).mono ?_
  rintro e w2 ⟨rfl, hb⟩
  have hc0 : w2.cell? ⟨w.heap.size + 1, 0, none⟩ = some (.slice none 0 0) := (blk_cell (blk_below BX.out hb) 0).trans rfl
  go_wp2_with fail
  go_ret
  exact ⟨rfl, below_step HB.out hb⟩
theorem rows_un {w : World} {p : Option Addr} (h : Un w p) : Calls Try.prog 51 #[.pointer p] w fun e w' => e = .returned (.slice none 0 0) ∧ Below w.heap.size w w' := by
  go_enter Try.func51, Try.ntmps51
  go_wp2_with fail
  refine (range_un h ⟨#[]⟩ ⟨#[]⟩).mono ?_
  rintro e w1 ⟨rfl, hb⟩
  go_wp2_with fail
  go_ret
  exact ⟨rfl, hb⟩
theorem rows_tab {w : World} {g : Nat} {rs : List Nd} {room least greatest : Int} (h : Sk (tabT room least greatest) w g rs) (hlen : rs.length ≤ 1000000) (hu : ∀ x, x ∈ rs → x.row.f1 ≤ 18446744073709551615) :
    Calls Try.prog 51 #[.pointer (some ⟨g, 0, none⟩)] w fun e W' => ∃ v, e = .returned v ∧ Kd.R k28 28 W' w.heap.size (fun _ => True) v (rowsN rs) ∧ Below w.heap.size w W' := by
  have h1 := range_tab h hlen ⟨#[]⟩ ⟨#[]⟩
  rw [whole_all hu, range_all (fun y _ => within_nil y)] at h1
  go_enter Try.func51, Try.ntmps51
  go_wp2_with fail
  refine h1.mono ?_
  rintro e w1 ⟨v, rfl, hR, hb⟩
  go_wp2_with fail
  go_ret
  exact ⟨v, rfl, hR, hb⟩
end Go.Proofs.Ytfemebenkbobnaa.SM
