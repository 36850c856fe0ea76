import Derived.Test.YtfemebenkbobnaaSM6
/- Seek, and the rows that a list hands on (all, whole). Conditions: at most 2 to the 61st rows. -/
namespace Go.Proofs.Ytfemebenkbobnaa.SM
set_option linter.unusedVariables false
set_option linter.unusedSimpArgs false
open Go.RowKit Go.Shelf Go.Proofs.YtfemebenkbobnaaW.PrintWords Go.Proofs.YtfemebenkbobnaaW.PrintLast Go.Proofs.YtfemebenkbobnaaW.PrintMore Go.Proofs.Ytfemebenkbobnaa.PB06
variable {TL : Tl}
attribute [local go_sem] Oper.semAt_some
theorem load_bool (w : World) (g : Nat) (b : Bool) (h : w.cell? ⟨g, 0, none⟩ = some (.bool b)) : (loadVar 4 ⟨g, 0, none⟩).run Try.prog w = .ok (.bool b) w := by
  have hu := Try.underlying4
  unfold loadVar
  have hagg : (isAgg 4).run Try.prog w = .ok false w := by
    unfold isAgg
    rw [Sem.run_bind, run_underlying hu w]
    rfl
  simp [Sem.run_bind, hagg, h]
theorem results_cb {fn : Func} {p u : Tmp} (h : fn.results = #[.cell p 28, .cell u 4]) (tmps : Array Value) (w : World) (g g' : Nat) (cs : Array Value) (b : Bool)
    (hp : tmps.getD p undef = .pointer (some ⟨g, 0, none⟩)) (hg : w.heap[g]? = some (.cells cs 28 (0, 0))) (hi : (Try.prog.info? 28).map (·.size) = some cs.size)
    (hq : tmps.getD u undef = .pointer (some ⟨g', 0, none⟩)) (hg' : w.heap[g']? = some (.cells #[.bool b] 4 (0, 0))) :
    (results fn tmps).run Try.prog w = .ok (.tuple #[.agg cs, .bool b]) w := by
  have h1 : tmps[p]?.getD undef = .pointer (some ⟨g, 0, none⟩) := by simpa using hp
  have h2 : tmps[u]?.getD undef = .pointer (some ⟨g', 0, none⟩) := by simpa using hq
  have h3 := load_bool w g' b ((blk_cell hg' 0).trans rfl)
  simp [results, h, h1, h2, asAddr, run_loadVar_row w g 28 28 cs (0, 0) _ hg Try.underlying28 rfl hi, h3]
theorem size28 : (Try.prog.info? 28).map (·.size) = some 4 := by kernel_rfl
/-- What Seek tells: the first row that is not ahead of a place. -/
def seekRow (key : ByteArray) (seq : Int) (rs : List Nd) : S28 := match beh key seq rs with
  | [] => zrow
  | x :: _ => x.row
def seekOk (key : ByteArray) (seq : Int) (rs : List Nd) : Bool := match beh key seq rs with
  | [] => false
  | _ :: _ => true
set_option maxHeartbeats 8000000 in
set_option maxRecDepth 100000 in
theorem seek_in (n : Nat) (hn : 4 ≤ n) (w : World) (g : Nat) (rs : List Nd) (key : ByteArray) (seq : Int) (h : Sk TL w g rs) (hlen : rs.length ≤ 2305843009213693952) :
    CallsIn Fence.wide n Try.prog 27 #[.pointer (some ⟨g, 0, none⟩), .string key, .int .u64 seq] w fun e W' => e = .returned (.tuple #[rowV (seekRow key seq rs), .bool (seekOk key seq rs)]) ∧ Below w.heap.size w W' := by
  have h1 : 1 ≤ n := by omega
  have HS := Aside0.mk h
  have HL := Aside0.mk hlen
  clear h hlen
  refine callsIn_of_wp_marks Try.func27 rfl trivial ?_ rfl
  simp only [Try.ntmps27, List.size_toArray, List.length_cons, List.length_nil, Nat.reduceAdd, Nat.reduceSub, Array.replicate_succ, Array.replicate_zero, List.push_toArray, List.append_toArray, List.nil_append, List.cons_append]
  gi_wp2
  refine ⟨trivial, ?_⟩
  refine (callsIn_wide.2 (from_calls _ _ _ _)).mono ?_
  rintro e w' ⟨rfl, rfl⟩
  obtain ⟨wa, hwa⟩ : ∃ wa, (w.alloc (Obj.cells #[Value.string ⟨#[]⟩, Value.int .u64 0, Value.int .i64 0, Value.string ⟨#[]⟩] 28)).alloc (Obj.cells #[Value.bool false] 4) = wa := ⟨_, rfl⟩
  have k6 : wa.heap[w.heap.size]? = some (.cells #[Value.string ⟨#[]⟩, Value.int .u64 0, Value.int .i64 0, Value.string ⟨#[]⟩] 28 (0, 0)) := by rw [← hwa]; exact blk_alloc (blk_new w _) _
  have k7 : wa.heap[w.heap.size + 1]? = some (.cells #[Value.bool false] 4 (0, 0)) := by rw [← hwa]; have := blk_new (w.alloc (Obj.cells #[Value.string ⟨#[]⟩, Value.int .u64 0, Value.int .i64 0, Value.string ⟨#[]⟩] 28)) (Obj.cells #[Value.bool false] 4); rwa [World.size_alloc] at this
  have hBa : Below w.heap.size w wa := by rw [← hwa]; exact ((Below.refl _ w).alloc (Nat.le_refl _) _).alloc (by simp) _
  have hsa : wa.heap.size = w.heap.size + 2 := by rw [← hwa]; simp
  rw [hwa]
  clear hwa
  obtain ⟨W0, hW0⟩ : ∃ W0, ((wa.alloc (.cells #[.pointer (some ⟨g, 0, none⟩)] 26)).alloc (.cells #[.string key] 9)).alloc (.cells #[.int .u64 seq] 24) = W0 := ⟨_, rfl⟩
  have m1 : W0.heap[wa.heap.size]? = some (.cells #[.pointer (some ⟨g, 0, none⟩)] 26 (0, 0)) := by rw [← hW0]; exact blk_alloc (blk_alloc (blk_new wa _) _) _
  have m2 : W0.heap[wa.heap.size + 1]? = some (.cells #[.string key] 9 (0, 0)) := by rw [← hW0]; have := blk_new (wa.alloc (.cells #[.pointer (some ⟨g, 0, none⟩)] 26)) (.cells #[.string key] 9); rw [World.size_alloc] at this; exact blk_alloc this _
  have m3 : W0.heap[wa.heap.size + 1 + 1]? = some (.cells #[.int .u64 seq] 24 (0, 0)) := by rw [← hW0]; have := blk_new ((wa.alloc (.cells #[.pointer (some ⟨g, 0, none⟩)] 26)).alloc (.cells #[.string key] 9)) (.cells #[.int .u64 seq] 24); rwa [World.size_alloc, World.size_alloc] at this
  have m6 : W0.heap[w.heap.size]? = some (.cells #[Value.string ⟨#[]⟩, Value.int .u64 0, Value.int .i64 0, Value.string ⟨#[]⟩] 28 (0, 0)) := by rw [← hW0]; exact blk_alloc (blk_alloc (blk_alloc k6 _) _) _
  have m7 : W0.heap[w.heap.size + 1]? = some (.cells #[Value.bool false] 4 (0, 0)) := by rw [← hW0]; exact blk_alloc (blk_alloc (blk_alloc k7 _) _) _
  have hB0 : Below w.heap.size w W0 := by rw [← hW0]; exact ((hBa.alloc hBa.size _).alloc (by simp; omega) _).alloc (by simp; omega) _
  have hs0 : W0.heap.size = w.heap.size + 5 := by rw [← hW0]; simp; omega
  rw [hW0]
  rw [hsa] at m1 m2 m3 ⊢
  clear hW0 k6 k7 hBa hsa
  have HM6 := Aside0.mk m6
  have HM7 := Aside0.mk m7
  have HB0 := Aside0.mk hB0
  have HS0 := Aside0.mk hs0
  have HM1 := Aside0.mk m1
  have HM2 := Aside0.mk m2
  have HM3 := Aside0.mk m3
  clear m6 m7 hB0 hs0 m1 m2 m3
  gi_wp2
  refine wpIn_rangeFunc_ownH rfl h1 (gf := 84) (lb := #[.pointer (some ⟨w.heap.size + 2, 0, none⟩), .pointer (some ⟨w.heap.size + 2 + 1, 0, none⟩), .pointer (some ⟨w.heap.size + 2 + 1 + 1, 0, none⟩)]) rfl trivial (enters_of Try.func84 (by kernel_rfl) rfl)
    (from_stops (n - 1) _ _ _ w.heap.size g (by omega) key seq rs W0 (by rw [HS0.out]; omega) (by rw [HS0.out]; omega) (by rw [HS0.out]; omega) ((blk_cell HM1.out 0).trans rfl) ((blk_cell HM2.out 0).trans rfl) ((blk_cell HM3.out 0).trans rfl) (HS.out.below HB0.out) (HS.out.sl.lt) (by rw [HS0.out]; omega) HL.out) belowK_t (belowK_b (by rw [HS0.out]; omega)) (Below.refl _ _) (fun _ => rfl)
    (fun pre W => pre = [] ∧ W.heap[w.heap.size]? = some (.cells #[Value.string ⟨#[]⟩, Value.int .u64 0, Value.int .i64 0, Value.string ⟨#[]⟩] 28 (0, 0)) ∧ W.heap[w.heap.size + 1]? = some (.cells #[Value.bool false] 4 (0, 0)) ∧ Below w.heap.size w W)
    (fun c pre W => c = .ret ∧ ∃ x : S28, pre = [x] ∧ W.heap[w.heap.size]? = some (.cells #[Value.string x.f0, Value.int .u64 x.f1, Value.int .i64 x.f2, Value.string x.f3] 28 (0, 0)) ∧ W.heap[w.heap.size + 1]? = some (.cells #[Value.bool true] 4 (0, 0)) ∧ Below w.heap.size w W)
    (fun s W W' row hs hg hr => ⟨hs.1, blk_grown_own hs.2.1 hg (fun r e => (hr r e).2), blk_grown_own hs.2.2.1 hg (fun r e => (hr r e).2), hs.2.2.2.grown hg hs.2.2.2.size (fun k e => by have := (hr k e).1; rw [HS0.out] at this; omega)⟩)
    (fun c s W W' row hs hg hr => by
      obtain ⟨h0, x, h2, h3, h4, h5⟩ := hs
      exact ⟨h0, x, h2, blk_grown_own h3 hg (fun r e => (hr r e).2), blk_grown_own h4 hg (fun r e => (hr r e).2), h5.grown hg h5.size (fun k e => by have := (hr k e).1; rw [HS0.out] at this; omega)⟩)
    ⟨rfl, HM6.out, HM7.out, HB0.out⟩
    (fun x a' W => ∃ Bx : Nat, W.heap[Bx]? = some (.cells #[Value.string x.f0, Value.int .u64 x.f1, Value.int .i64 x.f2, Value.string x.f3] 28 (0, 0)) ∧ a' = { tmps := #[Value.pointer (some { block := g, off := 0 }), Value.string key, Value.int IntKind.u64 seq, undef, undef, undef, Value.pointer (some { block := w.heap.size, off := 0 }), Value.pointer (some { block := w.heap.size + 1, off := 0 }), Value.pointer (some { block := Bx, off := 0 }), Value.pointer (some { block := g, off := 0 }), Value.string key, Value.int IntKind.u64 seq, Value.func (Fn.func 84) #[] #[Value.pointer (some { block := w.heap.size + 2, off := 0 }), Value.pointer (some { block := w.heap.size + 2 + 1, off := 0 }), Value.pointer (some { block := w.heap.size + 2 + 1 + 1, off := 0 })], rowV x, undef, undef], defers := [] })
    (fun x a' u W W' row hs hg hr => by
      obtain ⟨Bx, h3, h4⟩ := hs
      exact ⟨Bx, blk_grown_own h3 hg (fun r e => (hr r e).2), h4⟩) ?assign ?body ?done ?stop
  case assign =>
    intro l pre x W K hi hK
    dsimp only [rowV]
    gi_wp2
    exact hK _ _ ((KeepsOthers.alloc _ _).from _) ((Below.refl _ W).alloc hi.2.2.2.size _) ⟨hi.1, blk_alloc hi.2.1 _, blk_alloc hi.2.2.1 _, hi.2.2.2.alloc hi.2.2.2.size _⟩ ⟨W.heap.size, blk_new W _, rfl⟩
  case body =>
    rintro l pre x a' W hl hrec ⟨rfl, hm6, hm7, hbb⟩ ⟨Bx, hbx, rfl⟩ hlt
    have hc0 : W.cell? ⟨Bx, 0, none⟩ = some (.string x.f0) := (blk_cell hbx 0).trans rfl
    have hc1 : W.cell? ⟨Bx, 1, none⟩ = some (.int .u64 x.f1) := (blk_cell hbx 1).trans rfl
    have hc2 : W.cell? ⟨Bx, 2, none⟩ = some (.int .i64 x.f2) := (blk_cell hbx 2).trans rfl
    have hc3 : W.cell? ⟨Bx, 3, none⟩ = some (.string x.f3) := (blk_cell hbx 3).trans rfl
    have hd0 : W.cell? ⟨w.heap.size, 0, none⟩ = some (.string ⟨#[]⟩) := (blk_cell hm6 0).trans rfl
    have hd1 : W.cell? ⟨w.heap.size, 1, none⟩ = some (.int .u64 0) := (blk_cell hm6 1).trans rfl
    have hd2 : W.cell? ⟨w.heap.size, 2, none⟩ = some (.int .i64 0) := (blk_cell hm6 2).trans rfl
    have hd3 : W.cell? ⟨w.heap.size, 3, none⟩ = some (.string ⟨#[]⟩) := (blk_cell hm6 3).trans rfl
    have hf0 := blk_frozen hm6 0
    have hf1 := blk_frozen hm6 1
    have hf2 := blk_frozen hm6 2
    have hf3 := blk_frozen hm6 3
    have hd7 : W.cell? ⟨w.heap.size + 1, 0, none⟩ = some (.bool false) := (blk_cell hm7 0).trans rfl
    have hf7 := blk_frozen hm7 0
    have M6 := Aside0.mk hm6
    have M7 := Aside0.mk hm7
    have MB := Aside0.mk hbb
    clear hm6 hm7 hbb hbx hrec
    gi_wp2
    refine ⟨(((((KeepsOthers.setCell W _ _).trans (.setCell _ _ _)).trans (.setCell _ _ _)).trans (.setCell _ _ _)).trans (.setCell _ _ _)).from _, rfl, x, rfl, ?_, ?_, ?_⟩
    · refine blk_setOther ?_ (by omega)
      refine blk_put (cs := #[.string x.f0, .int .u64 x.f1, .int .i64 x.f2, .string ⟨#[]⟩]) ?_ 3 _ rfl
      refine blk_put (cs := #[.string x.f0, .int .u64 x.f1, .int .i64 0, .string ⟨#[]⟩]) ?_ 2 _ rfl
      refine blk_put (cs := #[.string x.f0, .int .u64 0, .int .i64 0, .string ⟨#[]⟩]) ?_ 1 _ rfl
      exact blk_put M6.out 0 _ rfl
    · refine blk_put (cs := #[.bool false]) ?_ 0 _ rfl
      exact blk_setOther (blk_setOther (blk_setOther (blk_setOther M7.out (by omega)) (by omega)) (by omega)) (by omega)
    · exact ((((MB.out.setCell (p := ⟨w.heap.size, 0, none⟩) (Nat.le_refl _) _).setCell (p := ⟨w.heap.size, 1, none⟩) (Nat.le_refl _) _).setCell (p := ⟨w.heap.size, 2, none⟩) (Nat.le_refl _) _).setCell (p := ⟨w.heap.size, 3, none⟩) (Nat.le_refl _) _).setCell (p := ⟨w.heap.size + 1, 0, none⟩) (Nat.le_succ _) _
  case done =>
    rintro D ys W hD hys ⟨rfl, hm6, hm7, hbb⟩ hK
    have hbe : beh key seq rs = [] := by
      cases hq : beh key seq rs with
      | nil => rfl
      | cons y R => rw [hq] at hys; simp at hys
    have hd0 : W.cell? ⟨w.heap.size, 0, none⟩ = some (.string ⟨#[]⟩) := (blk_cell hm6 0).trans rfl
    have hd1 : W.cell? ⟨w.heap.size, 1, none⟩ = some (.int .u64 0) := (blk_cell hm6 1).trans rfl
    have hd2 : W.cell? ⟨w.heap.size, 2, none⟩ = some (.int .i64 0) := (blk_cell hm6 2).trans rfl
    have hd3 : W.cell? ⟨w.heap.size, 3, none⟩ = some (.string ⟨#[]⟩) := (blk_cell hm6 3).trans rfl
    have hf0 := blk_frozen hm6 0
    have hf1 := blk_frozen hm6 1
    have hf2 := blk_frozen hm6 2
    have hf3 := blk_frozen hm6 3
    have hd7 : W.cell? ⟨w.heap.size + 1, 0, none⟩ = some (.bool false) := (blk_cell hm7 0).trans rfl
    have hf7 := blk_frozen hm7 0
    have M6 := Aside0.mk hm6
    have M7 := Aside0.mk hm7
    have MB := Aside0.mk hbb
    have MK := Aside0.mk hK
    have ME := Aside0.mk hbe
    have MD := Aside0.mk hD
    clear hm6 hm7 hbb hK hbe hys hD
    gi_wp2
    have hK5 := (((((KeepsOthers.setCell W ⟨w.heap.size, 0, none⟩ (.string ⟨#[]⟩)).trans (.setCell _ ⟨w.heap.size, 1, none⟩ (.int .u64 0))).trans (.setCell _ ⟨w.heap.size, 2, none⟩ (.int .i64 0))).trans (.setCell _ ⟨w.heap.size, 3, none⟩ (.string ⟨#[]⟩))).trans (.setCell _ ⟨w.heap.size + 1, 0, none⟩ (.bool false))).same D _ MK.out rfl
    have k6 : _ := blk_setOther (b := w.heap.size + 1) (j := 0) (v := .bool false) (blk_put (blk_put (blk_put (blk_put M6.out 0 (.string ⟨#[]⟩) rfl) 1 (.int .u64 0) rfl) 2 (.int .i64 0) rfl) 3 (.string ⟨#[]⟩) rfl) (by omega)
    have k7 : _ := blk_put (blk_setOther (b := w.heap.size) (j := 3) (v := .string ⟨#[]⟩) (blk_setOther (b := w.heap.size) (j := 2) (v := .int .i64 0) (blk_setOther (b := w.heap.size) (j := 1) (v := .int .u64 0) (blk_setOther (b := w.heap.size) (j := 0) (v := .string ⟨#[]⟩) M7.out (by omega)) (by omega)) (by omega)) (by omega)) 0 (.bool false) rfl
    refine ⟨by simp, .inl ⟨_, _, rfl, run_takeDeferred hK5, ?_⟩⟩
    have e1 : seekRow key seq rs = zrow := by unfold seekRow; rw [ME.out]
    have e2 : seekOk key seq rs = false := by unfold seekOk; rw [ME.out]
    rw [e1, e2]
    refine ⟨_, results_cb rfl _ _ w.heap.size (w.heap.size + 1) #[.string ⟨#[]⟩, .int .u64 0, .int .i64 0, .string ⟨#[]⟩] false rfl (blk_grown_own k6 (grownBy_putObj' _ D _) (fun r e => by cases e; exact ⟨_, hK5, rfl⟩)) size28 rfl (blk_grown_own k7 (grownBy_putObj' _ D _) (fun r e => by cases e; exact ⟨_, hK5, rfl⟩)), rfl, ?_⟩
    have hb5 := ((((MB.out.setCell (p := ⟨w.heap.size, 0, none⟩) (Nat.le_refl _) (.string ⟨#[]⟩)).setCell (p := ⟨w.heap.size, 1, none⟩) (Nat.le_refl _) (.int .u64 0)).setCell (p := ⟨w.heap.size, 2, none⟩) (Nat.le_refl _) (.int .i64 0)).setCell (p := ⟨w.heap.size, 3, none⟩) (Nat.le_refl _) (.string ⟨#[]⟩)).setCell (p := ⟨w.heap.size + 1, 0, none⟩) (Nat.le_succ _) (.bool false)
    exact hb5.trans (belowK_b (w := w) (Nat.le_refl _) _ D _ _ (by have := MD.out; rw [HS0.out] at this; omega) hK5 rfl rfl)
  case stop =>
    rintro D c pre W hD hsp ⟨rfl, x, rfl, hm6, hm7, hbb⟩ hK
    have M6 := Aside0.mk hm6
    have M7 := Aside0.mk hm7
    have MB := Aside0.mk hbb
    have MK := Aside0.mk hK
    have MS := Aside0.mk hsp
    have MD := Aside0.mk hD
    clear hm6 hm7 hbb hK hsp hD
    gi_wp2
    refine ⟨by simp, .inl ⟨_, _, rfl, run_takeDeferred MK.out, ?_⟩⟩
    have hne : ∃ y R, beh key seq rs = y :: R ∧ y.row = x := by
      have h1 := MS.out
      cases hq : beh key seq rs with
      | nil => rw [hq] at h1; obtain ⟨t, ht⟩ := h1; simp at ht
      | cons y R => rw [hq] at h1; obtain ⟨t, ht⟩ := h1; simp at ht; exact ⟨y, R, rfl, ht.1.symm⟩
    obtain ⟨y, R, h2, rfl⟩ := hne
    have e1 : seekRow key seq rs = y.row := by unfold seekRow; rw [h2]
    have e2 : seekOk key seq rs = true := by unfold seekOk; rw [h2]
    rw [e1, e2]
    refine ⟨_, results_cb rfl _ _ w.heap.size (w.heap.size + 1) #[.string y.row.f0, .int .u64 y.row.f1, .int .i64 y.row.f2, .string y.row.f3] true rfl (blk_grown_own M6.out (grownBy_putObj' _ D _) (fun r e => by cases e; exact ⟨_, MK.out, rfl⟩)) size28 rfl (blk_grown_own M7.out (grownBy_putObj' _ D _) (fun r e => by cases e; exact ⟨_, MK.out, rfl⟩)), rfl, ?_⟩
    exact MB.out.trans (belowK_b (w := w) (Nat.le_refl _) _ D _ _ (by have := MD.out; rw [HS0.out] at this; omega) MK.out rfl rfl)
end Go.Proofs.Ytfemebenkbobnaa.SM
