import Derived.Test.YtfemebenkbobnaaSM8
/- The rows that a list hands on, up to so many (all). Conditions: at most a million rows. -/
namespace Go.Proofs.Ytfemebenkbobnaa.SM
set_option linter.unusedVariables false
set_option linter.unusedSimpArgs false
open Go.RowKit Go.Shelf Go.Proofs.YtfemebenkbobnaaW.PrintWords Go.Proofs.YtfemebenkbobnaaW.PrintLast Go.Proofs.YtfemebenkbobnaaW.PrintMore Go.Proofs.Ytfemebenkbobnaa.PB06
variable {TL : Tl}
attribute [local go_sem] Oper.semAt_some fn_eq_nil
/-- The first m rows; all, where there are no more than that (or m is below 0). -/
def takeM (m : Int) (R : List S28) : List S28 := if 0 ≤ m ∧ m < (R.length : Int) then R.take m.toNat else R
theorem row_other {w : World} {base : Nat} {e t : TypeId} {size : Nat} {v : Value} {n k : Nat} {xs : List Value} {cs : Array Value} {fr : Nat × Nat} (h : w.ownsRow base e size v n xs) (hk : w.heap[k]? = some (.cells cs t fr)) (ht : t ≠ e) : some k ≠ v.ownBlock := by
  intro e'
  rcases h.2 with ⟨rfl, _⟩ | ⟨g, cap, cur, rfl, _, hgb, _⟩
  · simp [Value.ownBlock] at e'
  · simp only [Value.ownBlock, Option.some.injEq] at e'
    subst e'
    rw [hk] at hgb
    cases hgb
    exact ht rfl
theorem ownsRow_slice {w : World} {base : Nat} {e : TypeId} {size : Nat} {v : Value} {n : Nat} {xs : List Value} (h : w.ownsRow base e size v n xs) : ∃ A c, v = .slice A n c := by
  rcases h.2 with ⟨rfl, rfl⟩ | ⟨g, cap, cur, rfl, _⟩
  · exact ⟨none, 0, rfl⟩
  · exact ⟨_, _, rfl⟩
set_option maxHeartbeats 8000000 in
set_option maxRecDepth 100000 in
theorem all_in (n : Nat) (hn : 4 ≤ n) (w : World) (g : Nat) (rs : List Nd) (key : ByteArray) (seq most : Int) (h : Sk TL w g rs) (hlen : rs.length ≤ 1000000) :
    CallsIn Fence.wide n Try.prog 23 #[.pointer (some ⟨g, 0, none⟩), .string key, .int .u64 seq, .int .i64 most] w fun e W' => ∃ v, e = .returned v ∧ Kd.R k28 28 W' w.heap.size (fun _ => True) v (takeM most ((beh key seq rs).map (·.row))) ∧ Below w.heap.size w W' := by
  have h1 : 1 ≤ n := by omega
  have HS := Aside0.mk h
  have HL := Aside0.mk hlen
  clear h hlen
  refine callsIn_of_wp_marks Try.func23 rfl trivial ?_ rfl
  simp only [Try.ntmps23, List.size_toArray, List.length_cons, List.length_nil, Nat.reduceAdd, Nat.reduceSub, Array.replicate_succ, Array.replicate_zero, List.push_toArray, List.append_toArray, List.nil_append, List.cons_append]
  gi_wp2
  refine ⟨trivial, ?_⟩
  refine (callsIn_wide.2 (from_calls _ _ _ _)).mono ?_
  rintro e w' ⟨rfl, rfl⟩
  obtain ⟨wa, hwa⟩ : ∃ wa, (w.alloc (Obj.cells #[Value.int .i64 most] 3)).alloc (Obj.cells #[Value.slice none 0 0] 22) = wa := ⟨_, rfl⟩
  have k2 : wa.heap[w.heap.size]? = some (.cells #[Value.int .i64 most] 3 (0, 0)) := by rw [← hwa]; exact blk_alloc (blk_new w _) _
  have k3 : wa.heap[w.heap.size + 1]? = some (.cells #[Value.slice none 0 0] 22 (0, 0)) := by rw [← hwa]; have := blk_new (w.alloc (Obj.cells #[Value.int .i64 most] 3)) (Obj.cells #[Value.slice none 0 0] 22); rwa [World.size_alloc] at this
  have hBa : Below w.heap.size w wa := by rw [← hwa]; exact ((Below.refl _ w).alloc (Nat.le_refl _) _).alloc (by simp) _
  have hsa : wa.heap.size = w.heap.size + 2 := by rw [← hwa]; simp
  rw [hwa]
  clear hwa
  obtain ⟨W0, hW0⟩ : ∃ W0, ((wa.alloc (.cells #[.pointer (some ⟨g, 0, none⟩)] 26)).alloc (.cells #[.string key] 9)).alloc (.cells #[.int .u64 seq] 24) = W0 := ⟨_, rfl⟩
  have m1 : W0.heap[wa.heap.size]? = some (.cells #[.pointer (some ⟨g, 0, none⟩)] 26 (0, 0)) := by rw [← hW0]; exact blk_alloc (blk_alloc (blk_new wa _) _) _
  have m2 : W0.heap[wa.heap.size + 1]? = some (.cells #[.string key] 9 (0, 0)) := by rw [← hW0]; have := blk_new (wa.alloc (.cells #[.pointer (some ⟨g, 0, none⟩)] 26)) (.cells #[.string key] 9); rw [World.size_alloc] at this; exact blk_alloc this _
  have m3 : W0.heap[wa.heap.size + 1 + 1]? = some (.cells #[.int .u64 seq] 24 (0, 0)) := by rw [← hW0]; have := blk_new ((wa.alloc (.cells #[.pointer (some ⟨g, 0, none⟩)] 26)).alloc (.cells #[.string key] 9)) (.cells #[.int .u64 seq] 24); rwa [World.size_alloc, World.size_alloc] at this
  have mm : W0.heap[w.heap.size]? = some (.cells #[Value.int .i64 most] 3 (0, 0)) := by rw [← hW0]; exact blk_alloc (blk_alloc (blk_alloc k2 _) _) _
  have mo : W0.heap[w.heap.size + 1]? = some (.cells #[Value.slice none 0 0] 22 (0, 0)) := by rw [← hW0]; exact blk_alloc (blk_alloc (blk_alloc k3 _) _) _
  have hB0 : Below w.heap.size w W0 := by rw [← hW0]; exact ((hBa.alloc hBa.size _).alloc (by simp; omega) _).alloc (by simp; omega) _
  have hs0 : W0.heap.size = w.heap.size + 5 := by rw [← hW0]; simp; omega
  rw [hW0]
  rw [hsa] at m1 m2 m3 ⊢
  clear hW0 k2 k3 hBa hsa
  have HMO := Aside0.mk mo
  have HMM := Aside0.mk mm
  have HB0 := Aside0.mk hB0
  have HS0 := Aside0.mk hs0
  have HM1 := Aside0.mk m1
  have HM2 := Aside0.mk m2
  have HM3 := Aside0.mk m3
  clear mo mm hB0 hs0 m1 m2 m3
  gi_wp2
  refine wpIn_rangeFunc_ownH rfl h1 (gf := 84) (lb := #[.pointer (some ⟨w.heap.size + 2, 0, none⟩), .pointer (some ⟨w.heap.size + 2 + 1, 0, none⟩), .pointer (some ⟨w.heap.size + 2 + 1 + 1, 0, none⟩)]) rfl trivial (enters_of Try.func84 (by kernel_rfl) rfl)
    (from_stops (n - 1) _ _ _ w.heap.size g (by omega) key seq rs W0 (by rw [HS0.out]; omega) (by rw [HS0.out]; omega) (by rw [HS0.out]; omega) ((blk_cell HM1.out 0).trans rfl) ((blk_cell HM2.out 0).trans rfl) ((blk_cell HM3.out 0).trans rfl) (HS.out.below HB0.out) (HS.out.sl.lt) (by rw [HS0.out]; omega) (by have := HL.out; omega)) belowK_t (belowK_b (by rw [HS0.out]; omega)) (Below.refl _ _) (fun _ => rfl)
    (fun pre W => Coll w.heap.size (w.heap.size + 1) pre W ∧ W.heap[w.heap.size]? = some (.cells #[Value.int .i64 most] 3 (0, 0)) ∧ Below w.heap.size w W ∧ ¬ (0 ≤ most ∧ most < (pre.length : Int)))
    (fun c pre W => c = .exit 0 ∧ ∃ p x, pre = p ++ [x] ∧ Coll w.heap.size (w.heap.size + 1) p W ∧ Below w.heap.size w W ∧ (p.length : Int) = most)
    (fun s W W' row hs hg hr => ⟨coll_own _ _ s W W' row hs.1 hg (fun r e => (hr r e).2), blk_grown_own hs.2.1 hg (fun r e => (hr r e).2), hs.2.2.1.grown hg hs.2.2.1.size (fun k e => by have := (hr k e).1; rw [HS0.out] at this; omega), hs.2.2.2⟩)
    (fun c s W W' row hs hg hr => by
      obtain ⟨h0, p, x, h2, h3, h4, h5⟩ := hs
      exact ⟨h0, p, x, h2, coll_own _ _ p W W' row h3 hg (fun r e => (hr r e).2), h4.grown hg h4.size (fun k e => by have := (hr k e).1; rw [HS0.out] at this; omega), h5⟩)
    ⟨⟨_, HMO.out, World.ownsRow_nil _ _ _ _, by simp⟩, HMM.out, HB0.out, by simp⟩
    (fun x a' W => ∃ Bx : Nat, W.heap[Bx]? = some (.cells #[Value.string x.f0, Value.int .u64 x.f1, Value.int .i64 x.f2, Value.string x.f3] 28 (0, 0)) ∧ a' = { tmps := #[Value.pointer (some { block := g, off := 0 }), Value.string key, Value.int IntKind.u64 seq, Value.int IntKind.i64 most, undef, undef, undef, Value.pointer (some { block := w.heap.size, off := 0 }), Value.slice none 0 0, Value.pointer (some { block := w.heap.size + 1, off := 0 }), Value.func (Fn.func 84) #[] #[Value.pointer (some { block := w.heap.size + 2, off := 0 }), Value.pointer (some { block := w.heap.size + 2 + 1, off := 0 }), Value.pointer (some { block := w.heap.size + 2 + 1 + 1, off := 0 })], Value.pointer (some { block := Bx, off := 0 }), Value.pointer (some { block := g, off := 0 }), Value.string key, Value.int IntKind.u64 seq, Value.func (Fn.func 84) #[] #[Value.pointer (some { block := w.heap.size + 2, off := 0 }), Value.pointer (some { block := w.heap.size + 2 + 1, off := 0 }), Value.pointer (some { block := w.heap.size + 2 + 1 + 1, off := 0 })], Value.func (Fn.func 84) #[] #[Value.pointer (some { block := w.heap.size + 2, off := 0 }), Value.pointer (some { block := w.heap.size + 2 + 1, off := 0 }), Value.pointer (some { block := w.heap.size + 2 + 1 + 1, off := 0 })], Value.bool false, Value.func (Fn.func 84) #[] #[Value.pointer (some { block := w.heap.size + 2, off := 0 }), Value.pointer (some { block := w.heap.size + 2 + 1, off := 0 }), Value.pointer (some { block := w.heap.size + 2 + 1 + 1, off := 0 })], rowV x, undef, undef, undef, undef, undef, undef, undef, undef, undef], defers := [] })
    (fun x a' u W W' row hs hg hr => by
      obtain ⟨Bx, h3, h4⟩ := hs
      exact ⟨Bx, blk_grown_own h3 hg (fun r e => (hr r e).2), h4⟩) ?assign ?body ?done ?stop
  case assign =>
    intro l pre x W K hi hK
    dsimp only [rowV]
    gi_wp2
    exact hK _ _ ((KeepsOthers.alloc _ _).from _) ((Below.refl _ W).alloc hi.2.2.1.size _) ⟨(coll_own _ _).from w.heap.size |>.alloc _ hi.1, blk_alloc hi.2.1 _, hi.2.2.1.alloc hi.2.2.1.size _, hi.2.2.2⟩ ⟨W.heap.size, blk_new W _, rfl⟩
  case body =>
    rintro l pre x a' W hl hrec ⟨⟨v, hv, hrow, hnil⟩, hmm, hbb, hnm⟩ ⟨Bx, hbx, rfl⟩ hlt
    obtain ⟨Ao, co, rfl⟩ := ownsRow_slice hrow
    have hc0 : W.cell? ⟨Bx, 0, none⟩ = some (.string x.f0) := (blk_cell hbx 0).trans rfl
    have hc1 : W.cell? ⟨Bx, 1, none⟩ = some (.int .u64 x.f1) := (blk_cell hbx 1).trans rfl
    have hc2 : W.cell? ⟨Bx, 2, none⟩ = some (.int .i64 x.f2) := (blk_cell hbx 2).trans rfl
    have hc3 : W.cell? ⟨Bx, 3, none⟩ = some (.string x.f3) := (blk_cell hbx 3).trans rfl
    have hvc := hv.cell
    have hvf := hv.frozen
    have hmc : W.cell? ⟨w.heap.size, 0, none⟩ = some (.int .i64 most) := (blk_cell hmm 0).trans rfl
    by_cases cm : (pre.length : Int) = most
    · have cb : ((pre.length : Int) == most) = true := beq_iff_eq.mpr cm
      have C1 := Aside0.mk (⟨_, hv, hrow, hnil⟩ : Coll w.heap.size (w.heap.size + 1) pre W)
      have C2 := Aside0.mk hbb
      have C3 := Aside0.mk cm
      clear hrec hv hrow hnil hbb hnm hmm hbx cm
      gi_wp2
      exact ⟨(KeepsOthers.refl W).from _, rfl, pre, x, rfl, C1.out, C2.out, C3.out⟩
    · have cb : ((pre.length : Int) == most) = false := beq_eq_false_iff_ne.mpr cm
      have NM := Aside0.mk (show ¬ (0 ≤ most ∧ most < ((pre ++ [x]).length : Int)) by rw [List.length_append, List.length_singleton]; omega)
      have MM := Aside0.mk hmm
      clear cm hnm hmm
      have hvv : ∃ vv, vv = Value.slice Ao pre.length co := ⟨_, rfl⟩
      have hle : pre.length + 1 ≤ 1000000 := by
        have h2 : (beh key seq rs).length ≤ rs.length := (List.dropWhile_suffix _).length_le
        have := HL.out
        omega
      have hrowx : ∀ j u, (rowC x)[j]? = some u → (W.alloc (.cells #[Value.string x.f0, Value.int .u64 x.f1, Value.int .i64 x.f2, Value.string x.f3] 28)).cell? ((⟨W.heap.size, 0, none⟩ : Addr).add j) = some u := fun j u hj => by
        rw [Addr.add_mid, Nat.zero_add, blk_cell (blk_new W _)]
        simpa [rowC] using hj
      have hrow1 : ∀ u, u ∈ rowC x → u.oneCell' = true := fun u hu => by
        simp only [rowC, List.mem_cons, List.not_mem_nil, or_false] at hu
        rcases hu with rfl | rfl | rfl | rfl <;> rfl
      obtain ⟨i0, hi, hz0, hz1, hz2⟩ := info_parts info28
      have hbs : w.heap.size ≤ (W.alloc (.cells #[Value.string x.f0, Value.int .u64 x.f1, Value.int .i64 x.f2, Value.string x.f3] 28)).heap.size := by rw [World.size_alloc]; exact Nat.le_succ_of_le hbb.size
      have V := Aside0.mk hv
      have RW := Aside0.mk hrow
      have RX := Aside0.mk hrowx
      have R1 := Aside0.mk hrow1
      have MB := Aside0.mk hbb
      have LE := Aside0.mk hle
      have BS := Aside0.mk hbs
      have IF := Aside0.mk (⟨hi, hz0, hz1, hz2⟩ : _ ∧ _ ∧ _ ∧ _)
      clear hrec hv hrow hrowx hrow1 hbb hle hbs hi hz0 hz1 hz2 hbx hnil hlt
      gi_wp2_with (gi_at_builtin; refine wpListIn_append_own _ rfl _ _ 22 rfl w.heap.size 28 i0 _ 4 48 Try.underlying22 IF.out.1 IF.out.2.1 IF.out.2.2.1 IF.out.2.2.2 rfl (by decide) (.slice Ao pre.length co) pre.length (cellsOf pre) rfl (RW.out.alloc _) ⟨W.heap.size, 0, none⟩ 1 1 (rowC x) rfl rfl RX.out R1.out (by have := LE.out; unfold maxLen; omega) (by have := LE.out; omega) BS.out ?_; intro v' w1 hown' hgrow _; obtain ⟨g', cap', rfl⟩ := ownsRow_succ hown'; obtain ⟨hv1, hv2, hr2, hk2, hb2⟩ := V.out.appended (by decide) RW.out MB.out.size (Nat.le_succ _) hown' hgrow; have hvc1 := hv1.cell; have hvf1 := hv1.frozen; have V2 := Aside0.mk hv2; have R2 := Aside0.mk hr2; have K2 := Aside0.mk hk2; have B2 := Aside0.mk hb2; have M2 := Aside0.mk (show (w1.setCell ⟨w.heap.size + 1, 0, none⟩ (.slice (some ⟨g', 0, none⟩) (pre.length + 1) cap')).heap[w.heap.size]? = some (.cells #[Value.int .i64 most] 3 (0, 0)) from by rw [Below.heap_setCell _ _ _ _ (by simp)]; exact (hgrow.block w.heap.size (by rw [World.size_alloc]; exact Nat.lt_succ_of_lt (blk_lt MM.out)) (row_other RW.out MM.out (by decide))).trans (blk_alloc MM.out _)); clear hv1 hv2 hr2 hk2 hb2 hown' hgrow hc0 hc1 hc2 hc3)
      exact ⟨K2.out.from _, B2.out, ⟨_, V2.out, by rw [List.length_append, cellsOf_snoc]; exact R2.out, by simp⟩, M2.out, MB.out.trans B2.out, NM.out⟩
  case done =>
    rintro D ys W hD hys ⟨⟨v, hv, hrow, hnil⟩, hmm, hbb, hnm⟩ hK
    subst hys
    have hvc := hv.cell
    have MK := Aside0.mk hK
    have MR := Aside0.mk hrow
    have MB := Aside0.mk hbb
    have MD := Aside0.mk hD
    have MN := Aside0.mk hnm
    clear hK hrow hbb hD hnil hnm hmm
    gi_wp2
    refine ⟨by simp, .inl ⟨_, _, rfl, run_takeDeferred MK.out, ?_⟩⟩
    have et : takeM most ((beh key seq rs).map (·.row)) = (beh key seq rs).map (·.row) := by unfold takeM; rw [if_neg MN.out]
    rw [et]
    exact ⟨_, results_tmp rfl _ _ _, _, rfl, own_rows (by have := ownsRow_putObj MR.out (Obj.deferred none) MK.out rfl; simpa using this), MB.out.trans (belowK_b (w := w) (Nat.le_refl _) _ D _ _ (by have := MD.out; rw [HS0.out] at this; omega) MK.out rfl rfl)⟩
  case stop =>
    rintro D c pre W hD hsp ⟨rfl, p, x, rfl, ⟨v, hv, hrow, hnil⟩, hbb, hpm⟩ hK
    have hvc := hv.cell
    have MK := Aside0.mk hK
    have MR := Aside0.mk hrow
    have MB := Aside0.mk hbb
    have MD := Aside0.mk hD
    have MP := Aside0.mk hsp
    have MM := Aside0.mk hpm
    clear hK hrow hbb hD hnil hsp hpm
    gi_wp2
    refine ⟨by simp, .inl ⟨_, _, rfl, run_takeDeferred MK.out, ?_⟩⟩
    have et : takeM most ((beh key seq rs).map (·.row)) = p := by
      obtain ⟨t, ht⟩ := MP.out
      rw [← ht]
      have hm := MM.out
      unfold takeM
      rw [if_pos (by rw [← hm]; simp; omega), ← hm, Int.toNat_natCast, List.append_assoc, List.take_left' rfl]
    rw [et]
    exact ⟨_, results_tmp rfl _ _ _, _, rfl, own_rows (by have := ownsRow_putObj MR.out (Obj.deferred none) MK.out rfl; simpa using this), MB.out.trans (belowK_b (w := w) (Nat.le_refl _) _ D _ _ (by have := MD.out; rw [HS0.out] at this; omega) MK.out rfl rfl)⟩
end Go.Proofs.Ytfemebenkbobnaa.SM
