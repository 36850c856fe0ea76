import Derived.Test.YtfemebenkbobnaaSM7
/- The rows that a list hands on (whole, all). Conditions: at most 2 to the 30th rows. -/
namespace Go.Proofs.Ytfemebenkbobnaa.SM
set_option linter.unusedVariables false
set_option linter.unusedSimpArgs false
open Go.RowKit Go.Shelf Go.Proofs.YtfemebenkbobnaaW.PrintWords Go.Proofs.YtfemebenkbobnaaW.PrintLast Go.Proofs.YtfemebenkbobnaaW.PrintMore Go.Proofs.Ytfemebenkbobnaa.PB06
variable {TL : Tl}
attribute [local go_sem] Oper.semAt_some
theorem fn_eq_nil (W : World) (f : Fn) (a b : Array Value) : (binOp .eql 104 (.func f a b) .nilFunc).run Try.prog W = .ok (.bool false) W := by
  have h := Try.underlying104
  have h2 : (Op.equalIn Op.maxDepth 104 (.func f a b) .nilFunc).run Try.prog W = .ok false W := by
    obtain ⟨d, hd⟩ : ∃ d, Op.maxDepth = d + 1 := ⟨_, rfl⟩
    rw [hd, Op.equalIn, Sem.run_bind, run_underlying h W]
    rfl
  simp only [binOp, Op.equal, Sem.run_bind, h2]
  rfl
attribute [local go_sem] fn_eq_nil
def cellsOf (xs : List S28) : List Value := xs.flatMap rowC
theorem cellsOf_snoc (xs : List S28) (x : S28) : cellsOf (xs ++ [x]) = cellsOf xs ++ rowC x := by simp [cellsOf]
theorem reps_rows_aux {w : World} {base : Nat} {ok : Nat → Prop} : ∀ (ys xs : List S28), Reps (k28.M w base ok) 4 xs (cellsOf xs) → Reps (k28.M w base ok) 4 (xs ++ ys) (cellsOf (xs ++ ys))
  | [], xs, h => by rw [List.append_nil]; exact h
  | y :: r, xs, h => by
    have h2 : Reps (k28.M w base ok) 4 (xs ++ [y]) (cellsOf (xs ++ [y])) := by rw [cellsOf_snoc]; exact h.snoc (k28_mkM w base ok y) rfl
    have h3 := reps_rows_aux r (xs ++ [y]) h2
    rw [List.append_assoc] at h3
    exact h3
theorem reps_rows (w : World) (base : Nat) (ok : Nat → Prop) (xs : List S28) : Reps (k28.M w base ok) 4 xs (cellsOf xs) := reps_rows_aux xs [] (Reps.none _ _)
theorem own_rows {w : World} {base : Nat} {v : Value} {xs : List S28} (h : w.ownsRow base 28 4 v xs.length (cellsOf xs)) : Kd.R k28 28 w base (fun _ => True) v xs :=
  ⟨fun _ _ => trivial, cellsOf xs, h, reps_rows w base _ xs⟩
theorem all_from (w : World) (p : Option Addr) : Calls Try.prog 68 #[.pointer p] w fun e w' =>
    e = .returned (.func (.func 84) #[] #[.pointer (some ⟨w.heap.size, 0, none⟩), .pointer (some ⟨w.heap.size + 1, 0, none⟩), .pointer (some ⟨w.heap.size + 1 + 1, 0, none⟩)]) ∧ w' = ((w.alloc (.cells #[.pointer p] 26)).alloc (.cells #[.string ⟨#[]⟩] 9)).alloc (.cells #[.int .u64 18446744073709551615] 24) := by
  go_enter Try.func68, Try.ntmps68
  go_wp2_with (go_at_call 65; refine (from_calls _ p ⟨#[]⟩ 18446744073709551615).mono ?_; rintro e w1 ⟨rfl, rfl⟩)
  go_ret
  exact ⟨rfl, rfl⟩
/-- What the loops over a list's rows hold: the box of what was collected. -/
def Coll (n₀ Bo : Nat) (pre : List S28) (W : World) : Prop := ∃ v, Boxed W Bo 22 v ∧ W.ownsRow n₀ 28 4 v pre.length (cellsOf pre) ∧ (v = .slice none 0 0 ↔ pre = [])
theorem coll_own (n₀ Bo : Nat) : Own (Coll n₀ Bo) := holdsRow_own n₀ Bo 22 28 4 (fun pre : List S28 => pre.length) cellsOf (fun pre v => v = .slice none 0 0 ↔ pre = [])
set_option maxHeartbeats 8000000 in
set_option maxRecDepth 100000 in
theorem whole_in (n : Nat) (hn : 4 ≤ n) (w : World) (g : Nat) (rs : List Nd) (h : Sk TL w g rs) (hlen : rs.length ≤ 1000000) :
    CallsIn Fence.wide n Try.prog 32 #[.pointer (some ⟨g, 0, none⟩)] w fun e W' => ∃ v, e = .returned v ∧ Kd.R k28 28 W' w.heap.size (fun _ => True) v ((beh ⟨#[]⟩ 18446744073709551615 rs).map (·.row)) ∧ Below w.heap.size w W' := by
  have h1 : 1 ≤ n := by omega
  have HS := Aside0.mk h
  have HL := Aside0.mk hlen
  clear h hlen
  refine callsIn_of_wp_marks Try.func32 rfl trivial ?_ rfl
  simp only [Try.ntmps32, List.size_toArray, List.length_cons, List.length_nil, Nat.reduceAdd, Nat.reduceSub, Array.replicate_succ, Array.replicate_zero, List.push_toArray, List.append_toArray, List.nil_append, List.cons_append]
  gi_wp2
  refine ⟨trivial, ?_⟩
  refine (callsIn_wide.2 (all_from _ _)).mono ?_
  rintro e w' ⟨rfl, rfl⟩
  obtain ⟨wa, hwa⟩ : ∃ wa, w.alloc (Obj.cells #[Value.slice none 0 0] 22) = wa := ⟨_, rfl⟩
  have k3 : wa.heap[w.heap.size]? = some (.cells #[Value.slice none 0 0] 22 (0, 0)) := by rw [← hwa]; exact blk_new w _
  have hBa : Below w.heap.size w wa := by rw [← hwa]; exact (Below.refl _ w).alloc (Nat.le_refl _) _
  have hsa : wa.heap.size = w.heap.size + 1 := by rw [← hwa]; simp
  rw [hwa]
  clear hwa
  obtain ⟨W0, hW0⟩ : ∃ W0, ((wa.alloc (.cells #[.pointer (some ⟨g, 0, none⟩)] 26)).alloc (.cells #[.string ⟨#[]⟩] 9)).alloc (.cells #[.int .u64 18446744073709551615] 24) = W0 := ⟨_, rfl⟩
  have m1 : W0.heap[wa.heap.size]? = some (.cells #[.pointer (some ⟨g, 0, none⟩)] 26 (0, 0)) := by rw [← hW0]; exact blk_alloc (blk_alloc (blk_new wa _) _) _
  have m2 : W0.heap[wa.heap.size + 1]? = some (.cells #[.string ⟨#[]⟩] 9 (0, 0)) := by rw [← hW0]; have := blk_new (wa.alloc (.cells #[.pointer (some ⟨g, 0, none⟩)] 26)) (.cells #[.string ⟨#[]⟩] 9); rw [World.size_alloc] at this; exact blk_alloc this _
  have m3 : W0.heap[wa.heap.size + 1 + 1]? = some (.cells #[.int .u64 18446744073709551615] 24 (0, 0)) := by rw [← hW0]; have := blk_new ((wa.alloc (.cells #[.pointer (some ⟨g, 0, none⟩)] 26)).alloc (.cells #[.string ⟨#[]⟩] 9)) (.cells #[.int .u64 18446744073709551615] 24); rwa [World.size_alloc, World.size_alloc] at this
  have mo : W0.heap[w.heap.size]? = some (.cells #[Value.slice none 0 0] 22 (0, 0)) := by rw [← hW0]; exact blk_alloc (blk_alloc (blk_alloc k3 _) _) _
  have hB0 : Below w.heap.size w W0 := by rw [← hW0]; exact ((hBa.alloc hBa.size _).alloc (by simp; omega) _).alloc (by simp; omega) _
  have hs0 : W0.heap.size = w.heap.size + 4 := by rw [← hW0]; simp; omega
  rw [hW0]
  rw [hsa] at m1 m2 m3 ⊢
  clear hW0 k3 hBa hsa
  have HMO := Aside0.mk mo
  have HB0 := Aside0.mk hB0
  have HS0 := Aside0.mk hs0
  have HM1 := Aside0.mk m1
  have HM2 := Aside0.mk m2
  have HM3 := Aside0.mk m3
  clear mo hB0 hs0 m1 m2 m3
  gi_wp2
  refine wpIn_rangeFunc_ownH rfl h1 (gf := 84) (lb := #[.pointer (some ⟨w.heap.size + 1, 0, none⟩), .pointer (some ⟨w.heap.size + 1 + 1, 0, none⟩), .pointer (some ⟨w.heap.size + 1 + 1 + 1, 0, none⟩)]) rfl trivial (enters_of Try.func84 (by kernel_rfl) rfl)
    (from_stops (n - 1) _ _ _ w.heap.size g (by omega) ⟨#[]⟩ 18446744073709551615 rs W0 (by rw [HS0.out]; omega) (by rw [HS0.out]; omega) (by rw [HS0.out]; omega) ((blk_cell HM1.out 0).trans rfl) ((blk_cell HM2.out 0).trans rfl) ((blk_cell HM3.out 0).trans rfl) (HS.out.below HB0.out) (HS.out.sl.lt) (by rw [HS0.out]; omega) (by have := HL.out; omega)) belowK_t (belowK_b (by rw [HS0.out]; omega)) (Below.refl _ _) (fun _ => rfl)
    (fun pre W => Coll w.heap.size w.heap.size pre W ∧ Below w.heap.size w W)
    (fun _ _ _ => False)
    (fun s W W' row hs hg hr => ⟨coll_own _ _ s W W' row hs.1 hg (fun r e => (hr r e).2), hs.2.grown hg hs.2.size (fun k e => by have := (hr k e).1; rw [HS0.out] at this; omega)⟩)
    (fun c s W W' row hs hg hr => hs.elim)
    ⟨⟨_, HMO.out, World.ownsRow_nil _ _ _ _, by simp⟩, HB0.out⟩
    (fun x a' W => ∃ Bx : Nat, W.heap[Bx]? = some (.cells #[Value.string x.f0, Value.int .u64 x.f1, Value.int .i64 x.f2, Value.string x.f3] 28 (0, 0)) ∧ a' = { tmps := #[Value.pointer (some { block := g, off := 0 }), undef, Value.slice none 0 0, Value.pointer (some { block := w.heap.size, off := 0 }), Value.func (Fn.func 84) #[] #[Value.pointer (some { block := w.heap.size + 1, off := 0 }), Value.pointer (some { block := w.heap.size + 1 + 1, off := 0 }), Value.pointer (some { block := w.heap.size + 1 + 1 + 1, off := 0 })], Value.pointer (some { block := Bx, off := 0 }), Value.pointer (some { block := g, off := 0 }), Value.func (Fn.func 84) #[] #[Value.pointer (some { block := w.heap.size + 1, off := 0 }), Value.pointer (some { block := w.heap.size + 1 + 1, off := 0 }), Value.pointer (some { block := w.heap.size + 1 + 1 + 1, off := 0 })], Value.func (Fn.func 84) #[] #[Value.pointer (some { block := w.heap.size + 1, off := 0 }), Value.pointer (some { block := w.heap.size + 1 + 1, off := 0 }), Value.pointer (some { block := w.heap.size + 1 + 1 + 1, off := 0 })], Value.bool false, Value.func (Fn.func 84) #[] #[Value.pointer (some { block := w.heap.size + 1, off := 0 }), Value.pointer (some { block := w.heap.size + 1 + 1, off := 0 }), Value.pointer (some { block := w.heap.size + 1 + 1 + 1, off := 0 })], rowV x, undef, undef, undef, undef, undef], defers := [] })
    (fun x a' u W W' row hs hg hr => by
      obtain ⟨Bx, h3, h4⟩ := hs
      exact ⟨Bx, blk_grown_own h3 hg (fun r e => (hr r e).2), h4⟩) ?assign ?body ?done ?stop
  case assign =>
    intro l pre x W K hi hK
    dsimp only [rowV]
    gi_wp2
    exact hK _ _ ((KeepsOthers.alloc _ _).from _) ((Below.refl _ W).alloc hi.2.size _) ⟨(coll_own _ _).from w.heap.size |>.alloc _ hi.1, hi.2.alloc hi.2.size _⟩ ⟨W.heap.size, blk_new W _, rfl⟩
  case body =>
    rintro l pre x a' W hl hrec ⟨⟨v, hv, hrow, hnil⟩, hbb⟩ ⟨Bx, hbx, rfl⟩ hlt
    have hc0 : W.cell? ⟨Bx, 0, none⟩ = some (.string x.f0) := (blk_cell hbx 0).trans rfl
    have hc1 : W.cell? ⟨Bx, 1, none⟩ = some (.int .u64 x.f1) := (blk_cell hbx 1).trans rfl
    have hc2 : W.cell? ⟨Bx, 2, none⟩ = some (.int .i64 x.f2) := (blk_cell hbx 2).trans rfl
    have hc3 : W.cell? ⟨Bx, 3, none⟩ = some (.string x.f3) := (blk_cell hbx 3).trans rfl
    have hvc := hv.cell
    have hvf := hv.frozen
    have hle : pre.length + 1 ≤ 1000000 := by
      have h2 : (beh ⟨#[]⟩ 18446744073709551615 rs).length ≤ rs.length := (List.dropWhile_suffix _).length_le
      have := HL.out
      omega
    have hrowx : ∀ j u, (rowC x)[j]? = some u → (W.alloc (.cells #[Value.string x.f0, Value.int .u64 x.f1, Value.int .i64 x.f2, Value.string x.f3] 28)).cell? ((⟨W.heap.size, 0, none⟩ : Addr).add j) = some u := fun j u hj => by
      rw [Addr.add_mid, Nat.zero_add, blk_cell (blk_new W _)]
      simpa [rowC] using hj
    have hrow1 : ∀ u, u ∈ rowC x → u.oneCell' = true := fun u hu => by
      simp only [rowC, List.mem_cons, List.not_mem_nil, or_false] at hu
      rcases hu with rfl | rfl | rfl | rfl <;> rfl
    obtain ⟨i0, hi, hz0, hz1, hz2⟩ := info_parts info28
    have hbs : w.heap.size ≤ (W.alloc (.cells #[Value.string x.f0, Value.int .u64 x.f1, Value.int .i64 x.f2, Value.string x.f3] 28)).heap.size := by rw [World.size_alloc]; exact Nat.le_succ_of_le hbb.size
    have V := Aside0.mk hv
    have RW := Aside0.mk hrow
    have RX := Aside0.mk hrowx
    have R1 := Aside0.mk hrow1
    have MB := Aside0.mk hbb
    have LE := Aside0.mk hle
    have BS := Aside0.mk hbs
    have IF := Aside0.mk (⟨hi, hz0, hz1, hz2⟩ : _ ∧ _ ∧ _ ∧ _)
    clear hrec hv hrow hrowx hrow1 hbb hle hbs hi hz0 hz1 hz2 hbx hnil hlt
    gi_wp2_with (gi_at_builtin; refine wpListIn_append_own _ rfl _ _ 22 rfl w.heap.size 28 i0 _ 4 48 Try.underlying22 IF.out.1 IF.out.2.1 IF.out.2.2.1 IF.out.2.2.2 rfl (by decide) v pre.length (cellsOf pre) rfl (RW.out.alloc _) ⟨W.heap.size, 0, none⟩ 1 1 (rowC x) rfl rfl RX.out R1.out (by have := LE.out; unfold maxLen; omega) (by have := LE.out; omega) BS.out ?_; intro v' w1 hown' hgrow _; obtain ⟨g', cap', rfl⟩ := ownsRow_succ hown'; obtain ⟨hv1, hv2, hr2, hk2, hb2⟩ := V.out.appended (by decide) RW.out MB.out.size (Nat.le_refl _) hown' hgrow; have hvc1 := hv1.cell; have hvf1 := hv1.frozen; have V2 := Aside0.mk hv2; have R2 := Aside0.mk hr2; have K2 := Aside0.mk hk2; have B2 := Aside0.mk hb2; clear hv1 hv2 hr2 hk2 hb2 hown' hgrow hc0 hc1 hc2 hc3)
    exact ⟨K2.out.from _, B2.out, ⟨_, V2.out, by rw [List.length_append, cellsOf_snoc]; exact R2.out, by simp⟩, MB.out.trans B2.out⟩
  case done =>
    rintro D ys W hD hys ⟨⟨v, hv, hrow, hnil⟩, hbb⟩ hK
    subst hys
    have hvc := hv.cell
    have MK := Aside0.mk hK
    have MR := Aside0.mk hrow
    have MB := Aside0.mk hbb
    have MD := Aside0.mk hD
    clear hK hrow hbb hD hnil
    gi_wp2
    refine ⟨by simp, .inl ⟨_, _, rfl, run_takeDeferred MK.out, ?_⟩⟩
    exact ⟨_, results_tmp rfl _ _ _, _, rfl, own_rows (by have := ownsRow_putObj MR.out (Obj.deferred none) MK.out rfl; simpa using this), MB.out.trans (belowK_b (w := w) (Nat.le_refl _) _ D _ _ (by have := MD.out; rw [HS0.out] at this; omega) MK.out rfl rfl)⟩
  case stop =>
    rintro D c pre W hD hsp h hK
    exact h.elim
end Go.Proofs.Ytfemebenkbobnaa.SM
