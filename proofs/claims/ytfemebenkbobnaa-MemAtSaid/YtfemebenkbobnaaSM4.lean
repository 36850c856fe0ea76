import Derived.Test.YtfemebenkbobnaaSM3
import Derived.Deep.QuietTactic
/- The skip list's Put, walked. Conditions: the list's nodes fit in 62 bits, each is at least one high. -/
namespace Go.Proofs.Ytfemebenkbobnaa.SM
set_option linter.unusedVariables false
set_option linter.unusedSimpArgs false
open Go.RowKit Go.Proofs.YtfemebenkbobnaaW.PrintWords Go.Proofs.YtfemebenkbobnaaW.PrintLast Go.Proofs.YtfemebenkbobnaaW.PrintMore Go.Proofs.Ytfemebenkbobnaa.PB06
variable {TL : Tl}
theorem max2_mx (k k' : IntKind) (x y : Int) : Builtin.max2 (.int k x) (.int k' y) = pure (.int k (mx x y)) := max2_int k k' x y
theorem min2_mn (k k' : IntKind) (x y : Int) : Builtin.min2 (.int k x) (.int k' y) = pure (.int k (mn x y)) := min2_int k k' x y
attribute [local go_sem] max2_mx min2_mn max_two min_two
/-- What the search finds at level 0: all that stands ahead. -/
theorem found0 {g : Nat} {key : ByteArray} {seq : Int} {A T : List Nd} {v : Value} (h : Found g key seq (A ++ T) 0 v) (hlow : ∀ x, x ∈ A ++ T → 1 ≤ x.h) (hA : ∀ x, x ∈ A → aheadB key seq x.row = true) (hT : ∀ y, T.head? = some y → aheadB key seq y.row = false) :
    v = .pointer (some ⟨endB g A, 0, none⟩) ∧ High 0 A := by
  obtain ⟨P, R, hpr, hv, hh, hp, hr⟩ := h
  suffices P = A by subst this; exact ⟨hv, hh⟩
  rcases List.append_eq_append_iff.mp hpr with ⟨C, h1, h2⟩ | ⟨C, h1, h2⟩
  · cases C with
    | nil => simpa using h1
    | cons c C =>
      have h3 := hT c (by rw [h2]; rfl)
      rw [hp c (by rw [h1]; simp)] at h3
      cases h3
  · cases C with
    | nil => simpa using h1.symm
    | cons c C =>
      have h3 := hr c (by rw [h2]; simp) (hA c (by rw [h1]; simp))
      have h4 := hlow c (by rw [h1]; simp)
      omega
/-- What the search finds at level j: the end of a part of what stands ahead, behind which none that stands ahead is higher. -/
theorem foundj {g : Nat} {key : ByteArray} {seq : Int} {A T : List Nd} {v : Value} {j : Nat} (h : Found g key seq (A ++ T) j v) (hA : ∀ x, x ∈ A → aheadB key seq x.row = true) (hT : ∀ y, T.head? = some y → aheadB key seq y.row = false) :
    ∃ P A2, A = P ++ A2 ∧ v = .pointer (some ⟨endB g P, 0, none⟩) ∧ High j P ∧ ∀ x, x ∈ A2 → x.h ≤ j := by
  obtain ⟨P, R, hpr, hv, hh, hp, hr⟩ := h
  rcases List.append_eq_append_iff.mp hpr with ⟨C, h1, h2⟩ | ⟨C, h1, h2⟩
  · cases C with
    | nil => exact ⟨P, [], by simpa using h1.symm, hv, hh, fun x hx => by simp at hx⟩
    | cons c C =>
      have h3 := hT c (by rw [h2]; rfl)
      rw [hp c (by rw [h1]; simp)] at h3
      cases h3
  · exact ⟨P, C, h1, hv, hh, fun x hx => hr x (by rw [h2]; simp [hx]) (hA x (by rw [h1]; simp [hx]))⟩
set_option maxHeartbeats 8000000 in
set_option maxRecDepth 100000 in
/-- A row whose place is taken is not put. -/
theorem put_there (w : World) (g : Nat) (ln ht : Int) (A R : List Nd) (y : Nd) (r : S28) (hgt : Int) (h : SL TL w g ln ht (A ++ y :: R)) (hf : Front r.f0 r.f1 (A ++ y :: R)) (hlen : (A ++ y :: R).length ≤ 4611686018427387904) (hlow : ∀ x, x ∈ A ++ y :: R → 1 ≤ x.h)
    (hA : ∀ x, x ∈ A → aheadB r.f0 r.f1 x.row = true) (hT : ∀ z, (y :: R).head? = some z → aheadB r.f0 r.f1 z.row = false) (hk : y.row.f0 = r.f0) (hs : y.row.f1 = r.f1) :
    Calls Try.prog 21 #[.pointer (some ⟨g, 0, none⟩), .agg #[.string r.f0, .int .u64 r.f1, .int .i64 r.f2, .string r.f3], .int .i64 hgt] w fun e w' => e = .returned (.bool false) ∧ Below w.heap.size w w' := by
  have HS := Aside0.mk h
  have HF := Aside0.mk hf
  have HN := Aside0.mk hlen
  have HLW := Aside0.mk hlow
  have HA := Aside0.mk hA
  have HT := Aside0.mk hT
  have HB := Aside0.mk (Below.refl w.heap.size w)
  clear h hf hlen hlow hA hT
  have HKK := Aside0.mk hk
  have HSS := Aside0.mk hs
  have HLy := Aside0.mk (show 0 < y.h from HLW.out y (by simp))
  clear hk hs
  go_enter Try.func21, Try.ntmps21
  go_wp2_with (first | ((with_reducible refine gate_dst (N := 4) rfl ?_); refine box_event ?hg (N := 4) ?hd (cs := #[.string r.f0, .int .u64 r.f1, .int .i64 r.f2, .string r.f3]) (t := 28) ?hr ?_; (case hd => rfl); (case hg => rfl); (case hr => first | (go_simp; done) | (go_simp; rfl)); intro gr hg w2 hbox hb; have n0_ := Aside0.mk (below_step HB.out hb); have n1_ := Aside0.mk hbox; have GR := Aside0.mk (by rw [hg]; exact below_size HB.out : w.heap.size ≤ gr); clear HB; have HB := n0_; have BR := n1_; clear n0_ n1_; clear hb hbox hg; have hcr0 : w2.cell? ⟨gr, 0, none⟩ = some (.string r.f0) := (blk_cell BR.out 0).trans rfl; have hcr1 : w2.cell? ⟨gr, 1, none⟩ = some (.int .u64 r.f1) := (blk_cell BR.out 1).trans rfl) | ((with_reducible refine gate_callee (f := 64) rfl ?_); refine goesL_ (some 20) rfl rfl Try.func64 (by kernel_rfl) rfl #[.pointer (some ⟨g, 0, none⟩), .string r.f0, .int .u64 r.f1] rfl (by (try simp only [List.map_toArray, List.map_cons, List.map_nil]); first | done | rfl) ?_; (with_reducible refine (search_calls _ g ln ht (A ++ y :: R) r.f0 r.f1 (HS.out.below HB.out) HF.out HN.out).mono ?_); rintro e w3 ⟨bs, rfl, hl, hfd, hb⟩; refine ⟨_, rfl, ?_⟩; have HL := Aside0.mk hl; have HX := Aside0.mk hfd; have n0_ := Aside0.mk (below_step HB.out hb); have n1_ := Aside0.mk (blk_below BR.out hb); clear HB BR hb hl hfd hcr0 hcr1; have HB := n0_; have BR := n1_; clear n0_ n1_) | ((with_reducible refine gate_dst (N := 7) rfl ?_); refine box_event ?hg (N := 7) ?hd (cs := #[.pointer none, .pointer none, .pointer none, .pointer none, .pointer none, .pointer none, .pointer none, .pointer none, .pointer none, .pointer none, .pointer none, .pointer none]) (t := 30) ?hr ?_; (case hd => rfl); (case hg => rfl); (case hr => first | (go_simp; done) | (go_simp; rfl)); intro gb hg w4 hbox hb; have n0_ := Aside0.mk (below_step HB.out hb); have n1_ := Aside0.mk hbox; have n2_ := Aside0.mk (blk_below BR.out hb); have NBR := Aside0.mk (by rw [hg]; exact Nat.ne_of_lt (blk_lt BR.out) : gr ≠ gb); have GE := Aside0.mk (by rw [hg]; exact below_size HB.out : w.heap.size ≤ gb); clear HB BR; have HB := n0_; have BK := n1_; have BR := n2_; clear n0_ n1_ n2_; clear hb hbox hg) | (refine st_arr rfl 30 _ _ rfl gb 30 ?hx bs.toArray ?hy _ BK.out (by rw [size30]; simp [HL.out]) (by simp [HL.out]) (found_one HL.out HX.out) ?_; (case hx => rfl); (case hy => rfl); intro w5 hb5 hbb hk5 hs5; have n0_ := Aside0.mk hb5; have n1_ := Aside0.mk (hbb _ _ HB.out GE.out); have n2_ := Aside0.mk ((hk5 gr NBR.out).trans BR.out); clear HB BK BR; have BK := n0_; have HB := n1_; have BR := n2_; clear n0_ n1_ n2_ hb5 hbb hk5 hs5; have hcr0 : w5.cell? ⟨gr, 0, none⟩ = some (.string r.f0) := (blk_cell BR.out 0).trans rfl; have hcr1 : w5.cell? ⟨gr, 1, none⟩ = some (.int .u64 r.f1) := (blk_cell BR.out 1).trans rfl; have hcr2 : w5.cell? ⟨gr, 2, none⟩ = some (.int .i64 r.f2) := (blk_cell BR.out 2).trans rfl; have hcr3 : w5.cell? ⟨gr, 3, none⟩ = some (.string r.f3) := (blk_cell BR.out 3).trans rfl; obtain ⟨v0, hv0, hf0⟩ := HX.out 0 (by decide); obtain ⟨rfl, hh0⟩ := found0 hf0 HLW.out HA.out HT.out; have hb0 : w5.cell? ⟨gb, 0, none⟩ = some (.pointer (some ⟨endB g A, 0, none⟩)) := (by rw [blk_cell BK.out, List.getElem?_toArray]; exact hv0); have hn0 : w5.cell? ⟨endB g A, 4, none⟩ = some (pv (nxt 0 (y :: R))) := (HS.out.below HB.out).next rfl (by decide) hh0; clear hv0 hf0 hh0; rw [nxt, if_pos HLy.out, show pv (some y.blk) = .pointer (some ⟨y.blk, 0, none⟩) from rfl] at hn0; have hnode := (HS.out.below HB.out).node (P := A) (x := y) (R := R) rfl; have hy0 : w5.cell? ⟨y.blk, 0, none⟩ = some (.string r.f0) := (by rw [blk_cell hnode, List.getElem?_toArray, cellsN_row y R 0 (by omega), ← HKK.out]; rfl); have hy1 : w5.cell? ⟨y.blk, 1, none⟩ = some (.int .u64 r.f1) := (by rw [blk_cell hnode, List.getElem?_toArray, cellsN_row y R 1 (by omega), ← HSS.out]; rfl); clear hnode))
  go_quiet (fail)
  go_wp2
  go_ret
  exact ⟨rfl, by repeat (first | (with_reducible first | exact HB.out | apply below_alloc | apply pw_below_drewN | apply below_drew1) | exact HB.out)⟩
/-- So high: at least one, at most twelve. -/
def clampH (h : Int) : Nat := (min (max h 1) 12).toNat
theorem clampH_le (h : Int) : 1 ≤ clampH h ∧ clampH h ≤ 12 := by unfold clampH; omega
theorem clampH_is (h : Int) : mn (mx h 1) 12 = (clampH h : Int) := by unfold mn mx clampH; split <;> split <;> omega
theorem mx_max (a b : Int) : mx a b = max a b := by unfold mx; split <;> omega
/-- All but the list's own blocks is as it was. -/
structure Kp (w w' : World) (g : Nat) (l : List Nat) : Prop where
  size : w.heap.size ≤ w'.heap.size
  same : ∀ k, k < w.heap.size → k ≠ g → k ∉ l → w'.heap[k]? = w.heap[k]?
  low : ∀ B w0, Below B w0 w → B ≤ g → B ≤ w.heap.size → (∀ k, k ∈ l → B ≤ k) → Below B w0 w'
theorem Kp.of_below {w w' : World} {g : Nat} {l : List Nat} (h : Below w.heap.size w w') : Kp w w' g l :=
  ⟨h.size, fun k hk _ _ => h.block k hk, fun B w0 hb _ hs _ => hb.trans (h.mono hs)⟩
theorem Kp.below {w w1 w2 : World} {g : Nat} {l : List Nat} (h : Kp w w1 g l) (hb : Below w1.heap.size w1 w2) : Kp w w2 g l :=
  ⟨Nat.le_trans h.size hb.size, fun k hk h1 h2 => (hb.block k (Nat.lt_of_lt_of_le hk h.size)).trans (h.same k hk h1 h2), fun B w0 hB hg hs hl => (h.low B w0 hB hg hs hl).trans (hb.mono (Nat.le_trans hs h.size))⟩
theorem Kp.set {w w1 : World} {g : Nat} {l : List Nat} (h : Kp w w1 g l) {p : Addr} (hp : p.block = g ∨ p.block ∈ l ∨ w.heap.size ≤ p.block) (v : Value) : Kp w (w1.setCell p v) g l := by
  refine ⟨by have := h.size; simpa [World.setCell] using this, fun k hk h1 h2 => ?_, fun B w0 hB hg hs hl => (h.low B w0 hB hg hs hl).setCell (p := p) ?_ v⟩
  · refine (Below.heap_setCell w1 p v k ?_).trans (h.same k hk h1 h2)
    rcases hp with hp | hp | hp
    · rw [hp]; exact h1
    · exact fun e => h2 (e ▸ hp)
    · omega
  · rcases hp with hp | hp | hp
    · omega
    · exact hl _ hp
    · omega
/-- What Put leaves: the list with the new row. -/
def PutPost (TL : Tl) (w w' : World) (g : Nat) (ln ht : Int) (A T : List Nd) (r : S28) (hgt : Int) : Prop :=
  ∃ nb, w.heap.size ≤ nb ∧ SL TL w' g (wrap64 (ln + 1)) (max ht (clampH hgt : Int)) (A ++ ⟨nb, r, clampH hgt⟩ :: T) ∧ Kp w w' g ((A ++ T).map (·.blk))
theorem endB_mem {g : Nat} {P : List Nd} : endB g P = g ∨ endB g P ∈ P.map (·.blk) := by
  rcases List.eq_nil_or_concat P with rfl | ⟨P', x, rfl⟩
  · exact .inl rfl
  · rw [List.concat_eq_append, endB_snoc]
    exact .inr (by simp)
theorem SL.endBlk {w : World} {g : Nat} {ln ht : Int} {P R : List Nd} (h : SL TL w g ln ht (P ++ R)) : ∃ cs t, w.heap[endB g P]? = some (.cells cs t (0, 0)) := by
  rcases List.eq_nil_or_concat P with rfl | ⟨P', x, rfl⟩
  · exact ⟨_, _, h.head⟩
  · rw [List.concat_eq_append] at *
    rw [endB_snoc]
    obtain ⟨cs, hc⟩ := h.chain.mem x (by simp)
    exact ⟨cs, _, hc⟩
theorem SL.setTail {w : World} {g : Nat} {ln ht ln' ht' : Int} {rs : List Nd} (h : SL TL w g ln ht rs) (j : Nat) (v : Value) (hj : (cellsH TL ln ht rs).set j v = cellsH TL ln' ht' rs) : SL TL (w.setCell ⟨g, j, none⟩ v) g ln' ht' rs :=
  ⟨blk_put h.head j v (toArray_set hj), h.chain.keep (fun x hx => blk_setOther rfl (h.apart x hx)), h.nodup, h.top⟩
theorem cellsH_set16 (ln ht v : Int) (rs : List Nd) : (cellsH TL ln ht rs).set 16 (.int .i64 v) = cellsH TL v ht rs := by
  rw [cellsH, cellsH, List.append_assoc, List.append_assoc, List.append_assoc, List.append_assoc, List.set_append_right _ _ (by simp [rowC]), List.set_append_right _ _ (by simp [rowC, links_len])]
  simp [rowC, links_len]
theorem cellsH_set17 (ln ht v : Int) (rs : List Nd) : (cellsH TL ln ht rs).set 17 (.int .i64 v) = cellsH TL ln v rs := by
  rw [cellsH, cellsH, List.append_assoc, List.append_assoc, List.append_assoc, List.append_assoc, List.set_append_right _ _ (by simp [rowC]), List.set_append_right _ _ (by simp [rowC, links_len])]
  simp [rowC, links_len]
set_option maxHeartbeats 8000000 in
set_option maxRecDepth 100000 in
theorem put_new_nil (w : World) (g : Nat) (ln ht : Int) (A : List Nd) (r : S28) (hgt : Int) (h : SL TL w g ln ht (A ++ ([] : List Nd))) (hf : Front r.f0 r.f1 (A ++ ([] : List Nd))) (hlen : (A ++ ([] : List Nd)).length ≤ 4611686018427387904) (hlow : ∀ x, x ∈ A ++ ([] : List Nd) → 1 ≤ x.h)
    (hA : ∀ x, x ∈ A → aheadB r.f0 r.f1 x.row = true) (hT : ∀ z, (([] : List Nd)).head? = some z → aheadB r.f0 r.f1 z.row = false) :
    Calls Try.prog 21 #[.pointer (some ⟨g, 0, none⟩), .agg #[.string r.f0, .int .u64 r.f1, .int .i64 r.f2, .string r.f3], .int .i64 hgt] w fun e w' => e = .returned (.bool true) ∧ PutPost TL w w' g ln ht A (([] : List Nd)) r hgt := by
  have HS := Aside0.mk h
  have HF := Aside0.mk hf
  have HN := Aside0.mk hlen
  have HLW := Aside0.mk hlow
  have HA := Aside0.mk hA
  have HT := Aside0.mk hT
  have HB := Aside0.mk (Below.refl w.heap.size w)
  clear h hf hlen hlow hA hT
  have hcl := clampH_is hgt
  go_enter Try.func21, Try.ntmps21
  go_wp2_with (first | ((with_reducible refine gate_dst (N := 4) rfl ?_); refine box_event ?hg (N := 4) ?hd (cs := #[.string r.f0, .int .u64 r.f1, .int .i64 r.f2, .string r.f3]) (t := 28) ?hr ?_; (case hd => rfl); (case hg => rfl); (case hr => first | (go_simp; done) | (go_simp; rfl)); intro gr hg w2 hbox hb; have n0_ := Aside0.mk (below_step HB.out hb); have n1_ := Aside0.mk hbox; have GR := Aside0.mk (by rw [hg]; exact below_size HB.out : w.heap.size ≤ gr); clear HB; have HB := n0_; have BR := n1_; clear n0_ n1_; clear hb hbox hg; have hcr0 : w2.cell? ⟨gr, 0, none⟩ = some (.string r.f0) := (blk_cell BR.out 0).trans rfl; have hcr1 : w2.cell? ⟨gr, 1, none⟩ = some (.int .u64 r.f1) := (blk_cell BR.out 1).trans rfl) | ((with_reducible refine gate_callee (f := 64) rfl ?_); refine goesL_ (some 20) rfl rfl Try.func64 (by kernel_rfl) rfl #[.pointer (some ⟨g, 0, none⟩), .string r.f0, .int .u64 r.f1] rfl (by (try simp only [List.map_toArray, List.map_cons, List.map_nil]); first | done | rfl) ?_; (with_reducible refine (search_calls _ g ln ht (A ++ ([] : List Nd)) r.f0 r.f1 (HS.out.below HB.out) HF.out HN.out).mono ?_); rintro e w3 ⟨bs, rfl, hl, hfd, hb⟩; refine ⟨_, rfl, ?_⟩; have HL := Aside0.mk hl; have HX := Aside0.mk hfd; have n0_ := Aside0.mk (below_step HB.out hb); have n1_ := Aside0.mk (blk_below BR.out hb); clear HB BR hb hl hfd hcr0 hcr1; have HB := n0_; have BR := n1_; clear n0_ n1_) | ((with_reducible refine gate_dst (N := 7) rfl ?_); refine box_event ?hg (N := 7) ?hd (cs := #[.pointer none, .pointer none, .pointer none, .pointer none, .pointer none, .pointer none, .pointer none, .pointer none, .pointer none, .pointer none, .pointer none, .pointer none]) (t := 30) ?hr ?_; (case hd => rfl); (case hg => rfl); (case hr => first | (go_simp; done) | (go_simp; rfl)); intro gb hg w4 hbox hb; have n0_ := Aside0.mk (below_step HB.out hb); have n1_ := Aside0.mk hbox; have n2_ := Aside0.mk (blk_below BR.out hb); have NBR := Aside0.mk (by rw [hg]; exact Nat.ne_of_lt (blk_lt BR.out) : gr ≠ gb); have GE := Aside0.mk (by rw [hg]; exact below_size HB.out : w.heap.size ≤ gb); clear HB BR; have HB := n0_; have BK := n1_; have BR := n2_; clear n0_ n1_ n2_; clear hb hbox hg) | (refine st_arr rfl 30 _ _ rfl gb 30 ?hx bs.toArray ?hy _ BK.out (by rw [size30]; simp [HL.out]) (by simp [HL.out]) (found_one HL.out HX.out) ?_; (case hx => rfl); (case hy => rfl); intro w5 hb5 hbb hk5 hs5; have n0_ := Aside0.mk hb5; have n1_ := Aside0.mk (hbb _ _ HB.out GE.out); have n2_ := Aside0.mk ((hk5 gr NBR.out).trans BR.out); clear HB BK BR; have BK := n0_; have HB := n1_; have BR := n2_; clear n0_ n1_ n2_ hb5 hbb hk5 hs5; have hcr0 : w5.cell? ⟨gr, 0, none⟩ = some (.string r.f0) := (blk_cell BR.out 0).trans rfl; have hcr1 : w5.cell? ⟨gr, 1, none⟩ = some (.int .u64 r.f1) := (blk_cell BR.out 1).trans rfl; have hcr2 : w5.cell? ⟨gr, 2, none⟩ = some (.int .i64 r.f2) := (blk_cell BR.out 2).trans rfl; have hcr3 : w5.cell? ⟨gr, 3, none⟩ = some (.string r.f3) := (blk_cell BR.out 3).trans rfl; obtain ⟨v0, hv0, hf0⟩ := HX.out 0 (by decide); obtain ⟨rfl, hh0⟩ := found0 hf0 HLW.out HA.out HT.out; have hb0 : w5.cell? ⟨gb, 0, none⟩ = some (.pointer (some ⟨endB g A, 0, none⟩)) := (by rw [blk_cell BK.out, List.getElem?_toArray]; exact hv0); have hn0 : w5.cell? ⟨endB g A, 4, none⟩ = some (pv (nxt 0 (([] : List Nd)))) := (HS.out.below HB.out).next rfl (by decide) hh0; clear hv0 hf0 hh0; rw [nxt, show pv none = .pointer none from rfl] at hn0))
  go_quiet (fail)
  go_wp2_with ((with_reducible refine gate_dst (N := 56) rfl ?_); refine box_event ?hg (N := 56) ?hd (cs := (cellsN ⟨0, r, 0⟩ (([] : List Nd))).toArray) (t := 32) ?hr ?_; (case hd => rfl); (case hg => rfl); (case hr => first | (go_simp; done) | (go_simp; rfl)); intro nb hg w7 hbox hb; have hBx := pw_below_drewN HB.out nq; have BKx := blk_drewN BK.out nq; have n0_ := Aside0.mk ((HS.out.below hBx).zero (nb := nb) (r := r) hb hbox (by rw [hg]; exact Nat.le_refl _)); have n1_ := Aside0.mk (blk_below BKx hb); have n2_ := Aside0.mk (Kp.of_below (g := g) (l := (A ++ ([] : List Nd)).map (·.blk)) (below_step hBx hb)); have GN := Aside0.mk (by rw [hg]; exact below_size hBx : w.heap.size ≤ nb); have NGB := Aside0.mk (by rw [hg]; exact Nat.ne_of_lt (blk_lt BKx) : gb ≠ nb); clear BKx hBx HB BK BR hbox hb hg hcr0 hcr1 hcr2 hcr3 hb0 hn0; have HSL := n0_; have BK := n1_; have HP := n2_; clear n0_ n1_ n2_)
  clear hcl
  try clear hkb
  try clear hsb
  try clear hy0 hy1
  go_loopg [11, 58] (clampH hgt) (fun kq v11 v58 w' => ∃ k : Nat, v58 = .int .i64 (k : Int) ∧ Aside0 (kq + k = clampH hgt) ∧ Aside0 (SL TL w' g ln ht (A ++ ⟨nb, r, k⟩ :: ([] : List Nd))) ∧ Aside0 (w'.heap[gb]? = some (.cells bs.toArray 30 (0, 0))) ∧ Aside0 (Kp w w' g ((A ++ ([] : List Nd)).map (·.blk))))
  case atStart => exact ⟨0, rfl, ⟨by omega⟩, HSL, BK, HP⟩
  case round =>
    clear HSL BK HP
    obtain ⟨k, rfl, HQ, HSL, BK, HP⟩ := hrel
    have h12 := (clampH_le hgt).2
    cases gk with
    | zero =>
      have ek : clampH hgt = k := by have := HQ.out; omega
      rw [ek]
      have c0 : decide ((k : Int) < (k : Int)) = false := by simp
      have hl : wr.cell? ⟨g, 16, none⟩ = some (.int .i64 ln) := by rw [blk_cell HSL.out.head, List.getElem?_toArray, cellsH_len_]
      have hh : wr.cell? ⟨g, 17, none⟩ = some (.int .i64 ht) := by rw [blk_cell HSL.out.head, List.getElem?_toArray, cellsH_ht]
      have hf1 := blk_frozen HSL.out.head 16
      have hf2 := blk_frozen HSL.out.head 17
      go_wp2
      go_ret
      refine ⟨by rfl, nb, GN.out, ?_, ?_⟩
      · rw [ek]
        have h1 := HSL.out.setTail 16 (.int .i64 (wrap64 (ln + 1))) (cellsH_set16 ln ht _ _)
        have h2 := h1.setTail 17 (.int .i64 (max ht (k : Int))) (cellsH_set17 _ ht _ _)
        rw [← mx_max] at h2 ⊢
        exact h2
      · exact (HP.out.set (p := ⟨g, 16, none⟩) (.inl rfl) _).set (p := ⟨g, 17, none⟩) (.inl rfl) _
    | succ q =>
      have hk : k < clampH hgt := by have := HQ.out; omega
      have hk12 : k < 12 := by omega
      have c0 : decide ((k : Int) < (clampH hgt : Int)) = true := decide_eq_true (by omega)
      obtain ⟨vk, hvk, hfk⟩ := HX.out k hk12
      obtain ⟨P, A2, hPA, rfl, hh, hlo⟩ := foundj hfk HA.out HT.out
      have e4 : (k : Int).toNat = k := by omega
      have q1 : (k : Int) < 12 := by omega
      have q0 : 0 ≤ (k : Int) := by omega
      have hsp : A ++ ⟨nb, r, k⟩ :: ([] : List Nd) = P ++ (A2 ++ ⟨nb, r, k⟩ :: ([] : List Nd)) := by rw [hPA, List.append_assoc]
      obtain ⟨px, hpx⟩ : ∃ p : Option Addr, pv (nxt k (([] : List Nd))) = .pointer p := ⟨_, rfl⟩
      have hm : (⟨nb, r, k⟩ : Nd) ∈ A ++ ⟨nb, r, k⟩ :: ([] : List Nd) := by simp
      have NEN := Aside0.mk (show endB g P ≠ nb by
        rcases endB_mem (g := g) (P := P) with e | e
        · rw [e]; exact fun h => HSL.out.apart _ hm h.symm
        · obtain ⟨x, hx, e2⟩ := List.mem_map.mp e
          rw [← e2]
          have hnd := HSL.out.nodup
          rw [hsp, List.map_append, List.nodup_append] at hnd
          exact hnd.2.2 _ (List.mem_map.mpr ⟨x, hx, rfl⟩) _ (by simp))
      have HPA := Aside0.mk hPA
      have HSP := Aside0.mk hsp
      have HH := Aside0.mk hh
      have HLO := Aside0.mk hlo
      have HVK := Aside0.mk hvk
      have HPX := Aside0.mk hpx
      clear hPA hsp hh hlo hvk hpx hm hfk
      go_wp2
      have n0_ := Aside0.mk (HSL.out.below (below_drew (Below.refl _ wr)))
      have n1_ := Aside0.mk (blk_drew BK.out)
      have n2_ := Aside0.mk (HP.out.below (below_drew (Below.refl _ wr)))
      clear HSL BK HP
      have HSL := n0_
      have BK := n1_
      have HP := n2_
      clear n0_ n1_ n2_
      have hc1 : wr.drew.cell? ⟨gb, k, none⟩ = some (.pointer (some ⟨endB g P, 0, none⟩)) := by rw [blk_cell BK.out, List.getElem?_toArray]; exact HVK.out
      have hc2 : wr.drew.cell? ⟨endB g P, 4 + k, none⟩ = some (.pointer px) := by rw [HSL.out.next HSP.out hk12 HH.out, nxt_skip _ HLO.out, nxt, if_neg (Nat.lt_irrefl k), HPX.out]
      have hnode := HSL.out.node (P := A) (x := ⟨nb, r, k⟩) (R := ([] : List Nd)) rfl
      have hc3 : wr.drew.cell? ⟨nb, 4 + k, none⟩ = some (.pointer none) := by rw [blk_cell hnode, List.getElem?_toArray, cellsN_link _ _ k hk12, if_neg (Nat.lt_irrefl k)]; rfl
      have hf3 := blk_frozen hnode (4 + k)
      obtain ⟨cse, te, hblk⟩ := SL.endBlk (P := P) (R := A2 ++ ⟨nb, r, k⟩ :: ([] : List Nd)) (by rw [← HSP.out]; exact HSL.out)
      have hf2 := blk_frozen hblk (4 + k)
      have hne := NEN.out
      have hne' := NEN.out.symm
      have hng := NGB.out
      clear hnode hblk
      refine start_ (n := 23) (S := fun w' => w'.cell? ⟨gb, k, none⟩ = some (.pointer (some ⟨endB g P, 0, none⟩)) ∧ w'.cell? ⟨endB g P, 4 + k, none⟩ = some (.pointer px)) (ds := [22]) #[false, false, false, false, false, false, false, false, false, false, false, false, false, false, false, false, false, false, false, false, false, false, false] (by kernel_rfl) rfl rfl ⟨hc1, hc2⟩ (fun hHeld => ?_)
      generalize wr.drew = wd at HSL BK HP hc1 hc2 hc3 hf2 hf3 hHeld ⊢
      -- 0: Op.move t10
      refine pure_ (i := 0) (N := (some 61)) (v := ?_) (a' := ?_) #[true, false, false, false, false, false, false, false, false, false, false, false, false, false, false, false, false, false, false, false, false, false, false] rfl rfl (by kernel_rfl) (fun _ _ _ h => h) (Or.inl ⟨by rfl, ?_⟩) ?_ ?_
      rotate_left
      · intro w'
        go_simp
        with_reducible rfl
      rotate_left
      · simp only [Act.put, List.setIfInBounds_toArray, List.set_cons_zero, List.set_cons_succ, i64_w, i32_w]
        rfl
      -- 1: Op.move t11
      refine pure_ (i := 1) (N := (some 62)) (v := ?_) (a' := ?_) #[true, true, false, false, false, false, false, false, false, false, false, false, false, false, false, false, false, false, false, false, false, false, false] rfl rfl (by kernel_rfl) (fun _ _ _ h => h) (Or.inl ⟨by rfl, ?_⟩) ?_ ?_
      rotate_left
      · intro w'
        go_simp
        with_reducible rfl
      rotate_left
      · simp only [Act.put, List.setIfInBounds_toArray, List.set_cons_zero, List.set_cons_succ, i64_w, i32_w]
        rfl
      -- 2: Op.move t11
      refine pure_ (i := 2) (N := (some 63)) (v := ?_) (a' := ?_) #[true, true, true, false, false, false, false, false, false, false, false, false, false, false, false, false, false, false, false, false, false, false, false] rfl rfl (by kernel_rfl) (fun _ _ _ h => h) (Or.inl ⟨by rfl, ?_⟩) ?_ ?_
      rotate_left
      · intro w'
        go_simp
        with_reducible rfl
      rotate_left
      · simp only [Act.put, List.setIfInBounds_toArray, List.set_cons_zero, List.set_cons_succ, i64_w, i32_w]
        rfl
      -- 3: Op.indexAddr 30 t7 t63
      refine pure_ (i := 3) (N := (some 64)) (v := ?_) (a' := ?_) #[true, true, true, true, false, false, false, false, false, false, false, false, false, false, false, false, false, false, false, false, false, false, false] rfl rfl (by kernel_rfl) (fun _ _ _ h => h) (Or.inl ⟨by rfl, ?_⟩) ?_ ?_
      rotate_left
      · intro w'
        go_simp
        with_reducible rfl
      rotate_left
      · simp only [Act.put, List.setIfInBounds_toArray, List.set_cons_zero, List.set_cons_succ, i64_w, i32_w]
        rfl
      -- 5: Op.move t11
      refine pure_ (i := 5) (N := (some 66)) (v := ?_) (a' := ?_) #[true, true, true, true, false, true, false, false, false, false, false, false, false, false, false, false, false, false, false, false, false, false, false] rfl rfl (by kernel_rfl) (fun _ _ _ h => h) (Or.inl ⟨by rfl, ?_⟩) ?_ ?_
      rotate_left
      · intro w'
        go_simp
        with_reducible rfl
      rotate_left
      · simp only [Act.put, List.setIfInBounds_toArray, List.set_cons_zero, List.set_cons_succ, i64_w, i32_w]
        rfl
      -- 6: Op.move t11
      refine pure_ (i := 6) (N := (some 67)) (v := ?_) (a' := ?_) #[true, true, true, true, false, true, true, false, false, false, false, false, false, false, false, false, false, false, false, false, false, false, false] rfl rfl (by kernel_rfl) (fun _ _ _ h => h) (Or.inl ⟨by rfl, ?_⟩) ?_ ?_
      rotate_left
      · intro w'
        go_simp
        with_reducible rfl
      rotate_left
      · simp only [Act.put, List.setIfInBounds_toArray, List.set_cons_zero, List.set_cons_succ, i64_w, i32_w]
        rfl
      -- 7: Op.indexAddr 30 t7 t67
      refine pure_ (i := 7) (N := (some 68)) (v := ?_) (a' := ?_) #[true, true, true, true, false, true, true, true, false, false, false, false, false, false, false, false, false, false, false, false, false, false, false] rfl rfl (by kernel_rfl) (fun _ _ _ h => h) (Or.inl ⟨by rfl, ?_⟩) ?_ ?_
      rotate_left
      · intro w'
        go_simp
        with_reducible rfl
      rotate_left
      · simp only [Act.put, List.setIfInBounds_toArray, List.set_cons_zero, List.set_cons_succ, i64_w, i32_w]
        rfl
      -- 9: Op.move t11
      refine pure_ (i := 9) (N := (some 70)) (v := ?_) (a' := ?_) #[true, true, true, true, false, true, true, true, false, true, false, false, false, false, false, false, false, false, false, false, false, false, false] rfl rfl (by kernel_rfl) (fun _ _ _ h => h) (Or.inl ⟨by rfl, ?_⟩) ?_ ?_
      rotate_left
      · intro w'
        go_simp
        with_reducible rfl
      rotate_left
      · simp only [Act.put, List.setIfInBounds_toArray, List.set_cons_zero, List.set_cons_succ, i64_w, i32_w]
        rfl
      -- 14: Op.move t10
      refine pure_ (i := 14) (N := (some 75)) (v := ?_) (a' := ?_) #[true, true, true, true, false, true, true, true, false, true, false, false, false, false, true, false, false, false, false, false, false, false, false] rfl rfl (by kernel_rfl) (fun _ _ _ h => h) (Or.inl ⟨by rfl, ?_⟩) ?_ ?_
      rotate_left
      · intro w'
        go_simp
        with_reducible rfl
      rotate_left
      · simp only [Act.put, List.setIfInBounds_toArray, List.set_cons_zero, List.set_cons_succ, i64_w, i32_w]
        rfl
      -- 15: Op.nilCheck t61
      refine pure_ (i := 15) (N := (some 76)) (v := ?_) (a' := ?_) #[true, true, true, true, false, true, true, true, false, true, false, false, false, false, true, true, false, false, false, false, false, false, false] rfl rfl (by kernel_rfl) (fun _ _ _ h => h) (Or.inl ⟨by rfl, ?_⟩) ?_ ?_
      rotate_left
      · intro w'
        go_simp
        with_reducible rfl
      rotate_left
      · simp only [Act.put, List.setIfInBounds_toArray, List.set_cons_zero, List.set_cons_succ, i64_w, i32_w]
        rfl
      -- 16: Op.fieldAddr 32 t76 1
      refine pure_ (i := 16) (N := (some 77)) (v := ?_) (a' := ?_) #[true, true, true, true, false, true, true, true, false, true, false, false, false, false, true, true, true, false, false, false, false, false, false] rfl rfl (by kernel_rfl) (fun _ _ _ h => h) (Or.inl ⟨by rfl, ?_⟩) ?_ ?_
      rotate_left
      · intro w'
        go_simp
        with_reducible rfl
      rotate_left
      · simp only [Act.put, List.setIfInBounds_toArray, List.set_cons_zero, List.set_cons_succ, i64_w, i32_w]
        rfl
      -- 4: Op.load 29 t64
      refine take_ (i := 4) (N := (some 65)) (v := ?_) (a' := ?_) #[true, true, true, true, true, true, true, true, false, true, false, false, false, false, true, true, true, false, false, false, false, false, false] rfl rfl (by kernel_rfl) (fun _ _ _ h => h) (Or.inl ⟨by rfl, ?_⟩) hHeld ?_ ?_
      rotate_left
      · rintro w' ⟨s0, s1⟩
        go_simp
        with_reducible rfl
      rotate_left
      · simp only [Act.put, List.setIfInBounds_toArray, List.set_cons_zero, List.set_cons_succ, i64_w, i32_w]
        rfl
      -- 19: Op.nilCheck t65
      refine pure_ (i := 19) (N := (some 79)) (v := ?_) (a' := ?_) #[true, true, true, true, true, true, true, true, false, true, false, false, false, false, true, true, true, false, false, true, false, false, false] rfl rfl (by kernel_rfl) (fun _ _ _ h => h) (Or.inl ⟨by rfl, ?_⟩) ?_ ?_
      rotate_left
      · intro w'
        go_simp
        with_reducible rfl
      rotate_left
      · simp only [Act.put, List.setIfInBounds_toArray, List.set_cons_zero, List.set_cons_succ, i64_w, i32_w]
        rfl
      -- 20: Op.fieldAddr 32 t79 1
      refine pure_ (i := 20) (N := (some 80)) (v := ?_) (a' := ?_) #[true, true, true, true, true, true, true, true, false, true, false, false, false, false, true, true, true, false, false, true, true, false, false] rfl rfl (by kernel_rfl) (fun _ _ _ h => h) (Or.inl ⟨by rfl, ?_⟩) ?_ ?_
      rotate_left
      · intro w'
        go_simp
        with_reducible rfl
      rotate_left
      · simp only [Act.put, List.setIfInBounds_toArray, List.set_cons_zero, List.set_cons_succ, i64_w, i32_w]
        rfl
      -- 8: Op.load 29 t68
      refine take_ (i := 8) (N := (some 69)) (v := ?_) (a' := ?_) #[true, true, true, true, true, true, true, true, true, true, false, false, false, false, true, true, true, false, false, true, true, false, false] rfl rfl (by kernel_rfl) (fun _ _ _ h => h) (Or.inl ⟨by rfl, ?_⟩) hHeld ?_ ?_
      rotate_left
      · rintro w' ⟨s0, s1⟩
        go_simp
        with_reducible rfl
      rotate_left
      · simp only [Act.put, List.setIfInBounds_toArray, List.set_cons_zero, List.set_cons_succ, i64_w, i32_w]
        rfl
      -- 10: Op.nilCheck t69
      refine pure_ (i := 10) (N := (some 71)) (v := ?_) (a' := ?_) #[true, true, true, true, true, true, true, true, true, true, true, false, false, false, true, true, true, false, false, true, true, false, false] rfl rfl (by kernel_rfl) (fun _ _ _ h => h) (Or.inl ⟨by rfl, ?_⟩) ?_ ?_
      rotate_left
      · intro w'
        go_simp
        with_reducible rfl
      rotate_left
      · simp only [Act.put, List.setIfInBounds_toArray, List.set_cons_zero, List.set_cons_succ, i64_w, i32_w]
        rfl
      -- 11: Op.fieldAddr 32 t71 1
      refine pure_ (i := 11) (N := (some 72)) (v := ?_) (a' := ?_) #[true, true, true, true, true, true, true, true, true, true, true, true, false, false, true, true, true, false, false, true, true, false, false] rfl rfl (by kernel_rfl) (fun _ _ _ h => h) (Or.inl ⟨by rfl, ?_⟩) ?_ ?_
      rotate_left
      · intro w'
        go_simp
        with_reducible rfl
      rotate_left
      · simp only [Act.put, List.setIfInBounds_toArray, List.set_cons_zero, List.set_cons_succ, i64_w, i32_w]
        rfl
      -- 12: Op.indexAddr 30 t72 t70
      refine pure_ (i := 12) (N := (some 73)) (v := ?_) (a' := ?_) #[true, true, true, true, true, true, true, true, true, true, true, true, true, false, true, true, true, false, false, true, true, false, false] rfl rfl (by kernel_rfl) (fun _ _ _ h => h) (Or.inl ⟨by rfl, ?_⟩) ?_ ?_
      rotate_left
      · intro w'
        go_simp
        with_reducible rfl
      rotate_left
      · simp only [Act.put, List.setIfInBounds_toArray, List.set_cons_zero, List.set_cons_succ, i64_w, i32_w]
        rfl
      -- 13: Op.load 29 t73
      refine take_ (i := 13) (N := (some 74)) (v := ?_) (a' := ?_) #[true, true, true, true, true, true, true, true, true, true, true, true, true, true, true, true, true, false, false, true, true, false, false] rfl rfl (by kernel_rfl) (fun _ _ _ h => h) (Or.inl ⟨by rfl, ?_⟩) hHeld ?_ ?_
      rotate_left
      · rintro w' ⟨s0, s1⟩
        go_simp
        with_reducible rfl
      rotate_left
      · simp only [Act.put, List.setIfInBounds_toArray, List.set_cons_zero, List.set_cons_succ, i64_w, i32_w]
        rfl
      -- 17: Op.indexAddr 30 t77 t62
      refine pure_ (i := 17) (N := (some 78)) (v := ?_) (a' := ?_) #[true, true, true, true, true, true, true, true, true, true, true, true, true, true, true, true, true, true, false, true, true, false, false] rfl rfl (by kernel_rfl) (fun _ _ _ h => h) (Or.inl ⟨by rfl, ?_⟩) ?_ ?_
      rotate_left
      · intro w'
        go_simp
        with_reducible rfl
      rotate_left
      · simp only [Act.put, List.setIfInBounds_toArray, List.set_cons_zero, List.set_cons_succ, i64_w, i32_w]
        rfl
      -- 18: Op.store 29 t78 t74
      refine one_ (i := 18) (N := none) #[true, true, true, true, true, true, true, true, true, true, true, true, true, true, true, true, true, true, true, true, true, false, false] rfl rfl (by kernel_rfl) (by decide) (fun K hK => ?_)
      refine skip_ (w1 := ?_) (by rfl) rfl ?_ ?_
      rotate_left
      · go_simp
        rfl
      clear hHeld
      refine hK.out _ _ ⟨(cell_far (p := ⟨nb, _, none⟩) NGB.out _).trans hc1, (cell_far (p := ⟨nb, _, none⟩) NEN.out _).trans hc2⟩ (fun hHeld => ?_)
      clear hK K
      -- 21: Op.indexAddr 30 t80 t66
      refine pure_ (i := 21) (N := (some 81)) (v := ?_) (a' := ?_) #[true, true, true, true, true, true, true, true, true, true, true, true, true, true, true, true, true, true, true, true, true, true, false] rfl rfl (by kernel_rfl) (fun _ _ _ h => h) (Or.inl ⟨by rfl, ?_⟩) ?_ ?_
      rotate_left
      · intro w'
        go_simp
        with_reducible rfl
      rotate_left
      · simp only [Act.put, List.setIfInBounds_toArray, List.set_cons_zero, List.set_cons_succ, i64_w, i32_w]
        rfl
      -- 22: Op.store 29 t81 t75
      refine last_ (i := 22) (N := none) #[true, true, true, true, true, true, true, true, true, true, true, true, true, true, true, true, true, true, true, true, true, true, true] rfl rfl (by kernel_rfl) (by decide) (fun K hK => ?_)
      refine skip_ (w1 := ?_) (by rfl) rfl ?_ ?_
      rotate_left
      · go_simp
        rfl
      clear hHeld
      refine hK.out _ _ ?_
      clear hK K
      refine done_ (by kernel_rfl) ?_
      go_wp2
      have hem : endB g P = g ∨ endB g P ∈ (A ++ ([] : List Nd)).map (·.blk) := by
        rcases endB_mem (g := g) (P := P) with e | e
        · exact .inl e
        · rw [HPA.out]
          exact .inr (by simp only [List.map_append, List.append_assoc]; exact List.mem_append_left _ e)
      have heg : gb ≠ endB g P := by
        have h1 := HS.out.lt (endB g P) hem
        have h2 := GE.out
        omega
      have ew : wrap64 ((k : Int) + 1) = ((k + 1 : Nat) : Int) := by unfold wrap64; omega
      try rw [ew]
      go_roundg q
      case measure => omega
      case rel => exact ⟨k + 1, rfl, ⟨by have := HQ.out; omega⟩, ⟨by have h1 := HSL.out.link (P := P) (A2 := A2) hk12 HPA.out HH.out HLO.out; rw [HPX.out] at h1; exact h1⟩, ⟨blk_setOther (blk_setOther BK.out NGB.out) heg⟩, ⟨(HP.out.set (p := ⟨nb, _, none⟩) (.inr (.inr GN.out)) _).set (p := ⟨endB g P, _, none⟩) (hem.elim .inl (fun h => .inr (.inl h))) _⟩⟩
set_option maxHeartbeats 8000000 in
set_option maxRecDepth 100000 in
theorem put_new_key (w : World) (g : Nat) (ln ht : Int) (A : List Nd) (R : List Nd) (y : Nd) (r : S28) (hgt : Int) (h : SL TL w g ln ht (A ++ y :: R)) (hf : Front r.f0 r.f1 (A ++ y :: R)) (hlen : (A ++ y :: R).length ≤ 4611686018427387904) (hlow : ∀ x, x ∈ A ++ y :: R → 1 ≤ x.h)
    (hA : ∀ x, x ∈ A → aheadB r.f0 r.f1 x.row = true) (hT : ∀ z, (y :: R).head? = some z → aheadB r.f0 r.f1 z.row = false) (hk : y.row.f0 ≠ r.f0) :
    Calls Try.prog 21 #[.pointer (some ⟨g, 0, none⟩), .agg #[.string r.f0, .int .u64 r.f1, .int .i64 r.f2, .string r.f3], .int .i64 hgt] w fun e w' => e = .returned (.bool true) ∧ PutPost TL w w' g ln ht A (y :: R) r hgt := by
  have HS := Aside0.mk h
  have HF := Aside0.mk hf
  have HN := Aside0.mk hlen
  have HLW := Aside0.mk hlow
  have HA := Aside0.mk hA
  have HT := Aside0.mk hT
  have HB := Aside0.mk (Below.refl w.heap.size w)
  clear h hf hlen hlow hA hT
  have HLy := Aside0.mk (show 0 < y.h from HLW.out y (by simp))
  have hkb : (y.row.f0.toList == r.f0.toList) = false := beq_eq_false_iff_ne.mpr (fun e => hk (Go.WideShapes.bytes_inj (by rw [ByteArray.toList_eq, ByteArray.toList_eq] at e; exact e)))
  clear hk
  have hcl := clampH_is hgt
  go_enter Try.func21, Try.ntmps21
  go_wp2_with (first | ((with_reducible refine gate_dst (N := 4) rfl ?_); refine box_event ?hg (N := 4) ?hd (cs := #[.string r.f0, .int .u64 r.f1, .int .i64 r.f2, .string r.f3]) (t := 28) ?hr ?_; (case hd => rfl); (case hg => rfl); (case hr => first | (go_simp; done) | (go_simp; rfl)); intro gr hg w2 hbox hb; have n0_ := Aside0.mk (below_step HB.out hb); have n1_ := Aside0.mk hbox; have GR := Aside0.mk (by rw [hg]; exact below_size HB.out : w.heap.size ≤ gr); clear HB; have HB := n0_; have BR := n1_; clear n0_ n1_; clear hb hbox hg; have hcr0 : w2.cell? ⟨gr, 0, none⟩ = some (.string r.f0) := (blk_cell BR.out 0).trans rfl; have hcr1 : w2.cell? ⟨gr, 1, none⟩ = some (.int .u64 r.f1) := (blk_cell BR.out 1).trans rfl) | ((with_reducible refine gate_callee (f := 64) rfl ?_); refine goesL_ (some 20) rfl rfl Try.func64 (by kernel_rfl) rfl #[.pointer (some ⟨g, 0, none⟩), .string r.f0, .int .u64 r.f1] rfl (by (try simp only [List.map_toArray, List.map_cons, List.map_nil]); first | done | rfl) ?_; (with_reducible refine (search_calls _ g ln ht (A ++ y :: R) r.f0 r.f1 (HS.out.below HB.out) HF.out HN.out).mono ?_); rintro e w3 ⟨bs, rfl, hl, hfd, hb⟩; refine ⟨_, rfl, ?_⟩; have HL := Aside0.mk hl; have HX := Aside0.mk hfd; have n0_ := Aside0.mk (below_step HB.out hb); have n1_ := Aside0.mk (blk_below BR.out hb); clear HB BR hb hl hfd hcr0 hcr1; have HB := n0_; have BR := n1_; clear n0_ n1_) | ((with_reducible refine gate_dst (N := 7) rfl ?_); refine box_event ?hg (N := 7) ?hd (cs := #[.pointer none, .pointer none, .pointer none, .pointer none, .pointer none, .pointer none, .pointer none, .pointer none, .pointer none, .pointer none, .pointer none, .pointer none]) (t := 30) ?hr ?_; (case hd => rfl); (case hg => rfl); (case hr => first | (go_simp; done) | (go_simp; rfl)); intro gb hg w4 hbox hb; have n0_ := Aside0.mk (below_step HB.out hb); have n1_ := Aside0.mk hbox; have n2_ := Aside0.mk (blk_below BR.out hb); have NBR := Aside0.mk (by rw [hg]; exact Nat.ne_of_lt (blk_lt BR.out) : gr ≠ gb); have GE := Aside0.mk (by rw [hg]; exact below_size HB.out : w.heap.size ≤ gb); clear HB BR; have HB := n0_; have BK := n1_; have BR := n2_; clear n0_ n1_ n2_; clear hb hbox hg) | (refine st_arr rfl 30 _ _ rfl gb 30 ?hx bs.toArray ?hy _ BK.out (by rw [size30]; simp [HL.out]) (by simp [HL.out]) (found_one HL.out HX.out) ?_; (case hx => rfl); (case hy => rfl); intro w5 hb5 hbb hk5 hs5; have n0_ := Aside0.mk hb5; have n1_ := Aside0.mk (hbb _ _ HB.out GE.out); have n2_ := Aside0.mk ((hk5 gr NBR.out).trans BR.out); clear HB BK BR; have BK := n0_; have HB := n1_; have BR := n2_; clear n0_ n1_ n2_ hb5 hbb hk5 hs5; have hcr0 : w5.cell? ⟨gr, 0, none⟩ = some (.string r.f0) := (blk_cell BR.out 0).trans rfl; have hcr1 : w5.cell? ⟨gr, 1, none⟩ = some (.int .u64 r.f1) := (blk_cell BR.out 1).trans rfl; have hcr2 : w5.cell? ⟨gr, 2, none⟩ = some (.int .i64 r.f2) := (blk_cell BR.out 2).trans rfl; have hcr3 : w5.cell? ⟨gr, 3, none⟩ = some (.string r.f3) := (blk_cell BR.out 3).trans rfl; obtain ⟨v0, hv0, hf0⟩ := HX.out 0 (by decide); obtain ⟨rfl, hh0⟩ := found0 hf0 HLW.out HA.out HT.out; have hb0 : w5.cell? ⟨gb, 0, none⟩ = some (.pointer (some ⟨endB g A, 0, none⟩)) := (by rw [blk_cell BK.out, List.getElem?_toArray]; exact hv0); have hn0 : w5.cell? ⟨endB g A, 4, none⟩ = some (pv (nxt 0 (y :: R))) := (HS.out.below HB.out).next rfl (by decide) hh0; clear hv0 hf0 hh0; rw [nxt, if_pos HLy.out, show pv (some y.blk) = .pointer (some ⟨y.blk, 0, none⟩) from rfl] at hn0; have hnode := (HS.out.below HB.out).node (P := A) (x := y) (R := R) rfl; have hy0 : w5.cell? ⟨y.blk, 0, none⟩ = some (.string y.row.f0) := (by rw [blk_cell hnode, List.getElem?_toArray, cellsN_row y R 0 (by omega)]; rfl); have hy1 : w5.cell? ⟨y.blk, 1, none⟩ = some (.int .u64 y.row.f1) := (by rw [blk_cell hnode, List.getElem?_toArray, cellsN_row y R 1 (by omega)]; rfl); clear hnode))
  go_quiet (fail)
  go_wp2_with ((with_reducible refine gate_dst (N := 56) rfl ?_); refine box_event ?hg (N := 56) ?hd (cs := (cellsN ⟨0, r, 0⟩ (y :: R)).toArray) (t := 32) ?hr ?_; (case hd => rfl); (case hg => rfl); (case hr => first | (go_simp; done) | (go_simp; rfl)); intro nb hg w7 hbox hb; have hBx := pw_below_drewN HB.out nq; have BKx := blk_drewN BK.out nq; have n0_ := Aside0.mk ((HS.out.below hBx).zero (nb := nb) (r := r) hb hbox (by rw [hg]; exact Nat.le_refl _)); have n1_ := Aside0.mk (blk_below BKx hb); have n2_ := Aside0.mk (Kp.of_below (g := g) (l := (A ++ y :: R).map (·.blk)) (below_step hBx hb)); have GN := Aside0.mk (by rw [hg]; exact below_size hBx : w.heap.size ≤ nb); have NGB := Aside0.mk (by rw [hg]; exact Nat.ne_of_lt (blk_lt BKx) : gb ≠ nb); clear BKx hBx HB BK BR hbox hb hg hcr0 hcr1 hcr2 hcr3 hb0 hn0; have HSL := n0_; have BK := n1_; have HP := n2_; clear n0_ n1_ n2_)
  clear hcl
  try clear hkb
  try clear hsb
  try clear hy0 hy1
  go_loopg [11, 58] (clampH hgt) (fun kq v11 v58 w' => ∃ k : Nat, v58 = .int .i64 (k : Int) ∧ Aside0 (kq + k = clampH hgt) ∧ Aside0 (SL TL w' g ln ht (A ++ ⟨nb, r, k⟩ :: y :: R)) ∧ Aside0 (w'.heap[gb]? = some (.cells bs.toArray 30 (0, 0))) ∧ Aside0 (Kp w w' g ((A ++ y :: R).map (·.blk))))
  case atStart => exact ⟨0, rfl, ⟨by omega⟩, HSL, BK, HP⟩
  case round =>
    clear HSL BK HP
    obtain ⟨k, rfl, HQ, HSL, BK, HP⟩ := hrel
    have h12 := (clampH_le hgt).2
    cases gk with
    | zero =>
      have ek : clampH hgt = k := by have := HQ.out; omega
      rw [ek]
      have c0 : decide ((k : Int) < (k : Int)) = false := by simp
      have hl : wr.cell? ⟨g, 16, none⟩ = some (.int .i64 ln) := by rw [blk_cell HSL.out.head, List.getElem?_toArray, cellsH_len_]
      have hh : wr.cell? ⟨g, 17, none⟩ = some (.int .i64 ht) := by rw [blk_cell HSL.out.head, List.getElem?_toArray, cellsH_ht]
      have hf1 := blk_frozen HSL.out.head 16
      have hf2 := blk_frozen HSL.out.head 17
      go_wp2
      go_ret
      refine ⟨by rfl, nb, GN.out, ?_, ?_⟩
      · rw [ek]
        have h1 := HSL.out.setTail 16 (.int .i64 (wrap64 (ln + 1))) (cellsH_set16 ln ht _ _)
        have h2 := h1.setTail 17 (.int .i64 (max ht (k : Int))) (cellsH_set17 _ ht _ _)
        rw [← mx_max] at h2 ⊢
        exact h2
      · exact (HP.out.set (p := ⟨g, 16, none⟩) (.inl rfl) _).set (p := ⟨g, 17, none⟩) (.inl rfl) _
    | succ q =>
      have hk : k < clampH hgt := by have := HQ.out; omega
      have hk12 : k < 12 := by omega
      have c0 : decide ((k : Int) < (clampH hgt : Int)) = true := decide_eq_true (by omega)
      obtain ⟨vk, hvk, hfk⟩ := HX.out k hk12
      obtain ⟨P, A2, hPA, rfl, hh, hlo⟩ := foundj hfk HA.out HT.out
      have e4 : (k : Int).toNat = k := by omega
      have q1 : (k : Int) < 12 := by omega
      have q0 : 0 ≤ (k : Int) := by omega
      have hsp : A ++ ⟨nb, r, k⟩ :: y :: R = P ++ (A2 ++ ⟨nb, r, k⟩ :: y :: R) := by rw [hPA, List.append_assoc]
      obtain ⟨px, hpx⟩ : ∃ p : Option Addr, pv (nxt k (y :: R)) = .pointer p := ⟨_, rfl⟩
      have hm : (⟨nb, r, k⟩ : Nd) ∈ A ++ ⟨nb, r, k⟩ :: y :: R := by simp
      have NEN := Aside0.mk (show endB g P ≠ nb by
        rcases endB_mem (g := g) (P := P) with e | e
        · rw [e]; exact fun h => HSL.out.apart _ hm h.symm
        · obtain ⟨x, hx, e2⟩ := List.mem_map.mp e
          rw [← e2]
          have hnd := HSL.out.nodup
          rw [hsp, List.map_append, List.nodup_append] at hnd
          exact hnd.2.2 _ (List.mem_map.mpr ⟨x, hx, rfl⟩) _ (by simp))
      have HPA := Aside0.mk hPA
      have HSP := Aside0.mk hsp
      have HH := Aside0.mk hh
      have HLO := Aside0.mk hlo
      have HVK := Aside0.mk hvk
      have HPX := Aside0.mk hpx
      clear hPA hsp hh hlo hvk hpx hm hfk
      go_wp2
      have n0_ := Aside0.mk (HSL.out.below (below_drew (Below.refl _ wr)))
      have n1_ := Aside0.mk (blk_drew BK.out)
      have n2_ := Aside0.mk (HP.out.below (below_drew (Below.refl _ wr)))
      clear HSL BK HP
      have HSL := n0_
      have BK := n1_
      have HP := n2_
      clear n0_ n1_ n2_
      have hc1 : wr.drew.cell? ⟨gb, k, none⟩ = some (.pointer (some ⟨endB g P, 0, none⟩)) := by rw [blk_cell BK.out, List.getElem?_toArray]; exact HVK.out
      have hc2 : wr.drew.cell? ⟨endB g P, 4 + k, none⟩ = some (.pointer px) := by rw [HSL.out.next HSP.out hk12 HH.out, nxt_skip _ HLO.out, nxt, if_neg (Nat.lt_irrefl k), HPX.out]
      have hnode := HSL.out.node (P := A) (x := ⟨nb, r, k⟩) (R := y :: R) rfl
      have hc3 : wr.drew.cell? ⟨nb, 4 + k, none⟩ = some (.pointer none) := by rw [blk_cell hnode, List.getElem?_toArray, cellsN_link _ _ k hk12, if_neg (Nat.lt_irrefl k)]; rfl
      have hf3 := blk_frozen hnode (4 + k)
      obtain ⟨cse, te, hblk⟩ := SL.endBlk (P := P) (R := A2 ++ ⟨nb, r, k⟩ :: y :: R) (by rw [← HSP.out]; exact HSL.out)
      have hf2 := blk_frozen hblk (4 + k)
      have hne := NEN.out
      have hne' := NEN.out.symm
      have hng := NGB.out
      clear hnode hblk
      refine start_ (n := 23) (S := fun w' => w'.cell? ⟨gb, k, none⟩ = some (.pointer (some ⟨endB g P, 0, none⟩)) ∧ w'.cell? ⟨endB g P, 4 + k, none⟩ = some (.pointer px)) (ds := [22]) #[false, false, false, false, false, false, false, false, false, false, false, false, false, false, false, false, false, false, false, false, false, false, false] (by kernel_rfl) rfl rfl ⟨hc1, hc2⟩ (fun hHeld => ?_)
      generalize wr.drew = wd at HSL BK HP hc1 hc2 hc3 hf2 hf3 hHeld ⊢
      -- 0: Op.move t10
      refine pure_ (i := 0) (N := (some 61)) (v := ?_) (a' := ?_) #[true, false, false, false, false, false, false, false, false, false, false, false, false, false, false, false, false, false, false, false, false, false, false] rfl rfl (by kernel_rfl) (fun _ _ _ h => h) (Or.inl ⟨by rfl, ?_⟩) ?_ ?_
      rotate_left
      · intro w'
        go_simp
        with_reducible rfl
      rotate_left
      · simp only [Act.put, List.setIfInBounds_toArray, List.set_cons_zero, List.set_cons_succ, i64_w, i32_w]
        rfl
      -- 1: Op.move t11
      refine pure_ (i := 1) (N := (some 62)) (v := ?_) (a' := ?_) #[true, true, false, false, false, false, false, false, false, false, false, false, false, false, false, false, false, false, false, false, false, false, false] rfl rfl (by kernel_rfl) (fun _ _ _ h => h) (Or.inl ⟨by rfl, ?_⟩) ?_ ?_
      rotate_left
      · intro w'
        go_simp
        with_reducible rfl
      rotate_left
      · simp only [Act.put, List.setIfInBounds_toArray, List.set_cons_zero, List.set_cons_succ, i64_w, i32_w]
        rfl
      -- 2: Op.move t11
      refine pure_ (i := 2) (N := (some 63)) (v := ?_) (a' := ?_) #[true, true, true, false, false, false, false, false, false, false, false, false, false, false, false, false, false, false, false, false, false, false, false] rfl rfl (by kernel_rfl) (fun _ _ _ h => h) (Or.inl ⟨by rfl, ?_⟩) ?_ ?_
      rotate_left
      · intro w'
        go_simp
        with_reducible rfl
      rotate_left
      · simp only [Act.put, List.setIfInBounds_toArray, List.set_cons_zero, List.set_cons_succ, i64_w, i32_w]
        rfl
      -- 3: Op.indexAddr 30 t7 t63
      refine pure_ (i := 3) (N := (some 64)) (v := ?_) (a' := ?_) #[true, true, true, true, false, false, false, false, false, false, false, false, false, false, false, false, false, false, false, false, false, false, false] rfl rfl (by kernel_rfl) (fun _ _ _ h => h) (Or.inl ⟨by rfl, ?_⟩) ?_ ?_
      rotate_left
      · intro w'
        go_simp
        with_reducible rfl
      rotate_left
      · simp only [Act.put, List.setIfInBounds_toArray, List.set_cons_zero, List.set_cons_succ, i64_w, i32_w]
        rfl
      -- 5: Op.move t11
      refine pure_ (i := 5) (N := (some 66)) (v := ?_) (a' := ?_) #[true, true, true, true, false, true, false, false, false, false, false, false, false, false, false, false, false, false, false, false, false, false, false] rfl rfl (by kernel_rfl) (fun _ _ _ h => h) (Or.inl ⟨by rfl, ?_⟩) ?_ ?_
      rotate_left
      · intro w'
        go_simp
        with_reducible rfl
      rotate_left
      · simp only [Act.put, List.setIfInBounds_toArray, List.set_cons_zero, List.set_cons_succ, i64_w, i32_w]
        rfl
      -- 6: Op.move t11
      refine pure_ (i := 6) (N := (some 67)) (v := ?_) (a' := ?_) #[true, true, true, true, false, true, true, false, false, false, false, false, false, false, false, false, false, false, false, false, false, false, false] rfl rfl (by kernel_rfl) (fun _ _ _ h => h) (Or.inl ⟨by rfl, ?_⟩) ?_ ?_
      rotate_left
      · intro w'
        go_simp
        with_reducible rfl
      rotate_left
      · simp only [Act.put, List.setIfInBounds_toArray, List.set_cons_zero, List.set_cons_succ, i64_w, i32_w]
        rfl
      -- 7: Op.indexAddr 30 t7 t67
      refine pure_ (i := 7) (N := (some 68)) (v := ?_) (a' := ?_) #[true, true, true, true, false, true, true, true, false, false, false, false, false, false, false, false, false, false, false, false, false, false, false] rfl rfl (by kernel_rfl) (fun _ _ _ h => h) (Or.inl ⟨by rfl, ?_⟩) ?_ ?_
      rotate_left
      · intro w'
        go_simp
        with_reducible rfl
      rotate_left
      · simp only [Act.put, List.setIfInBounds_toArray, List.set_cons_zero, List.set_cons_succ, i64_w, i32_w]
        rfl
      -- 9: Op.move t11
      refine pure_ (i := 9) (N := (some 70)) (v := ?_) (a' := ?_) #[true, true, true, true, false, true, true, true, false, true, false, false, false, false, false, false, false, false, false, false, false, false, false] rfl rfl (by kernel_rfl) (fun _ _ _ h => h) (Or.inl ⟨by rfl, ?_⟩) ?_ ?_
      rotate_left
      · intro w'
        go_simp
        with_reducible rfl
      rotate_left
      · simp only [Act.put, List.setIfInBounds_toArray, List.set_cons_zero, List.set_cons_succ, i64_w, i32_w]
        rfl
      -- 14: Op.move t10
      refine pure_ (i := 14) (N := (some 75)) (v := ?_) (a' := ?_) #[true, true, true, true, false, true, true, true, false, true, false, false, false, false, true, false, false, false, false, false, false, false, false] rfl rfl (by kernel_rfl) (fun _ _ _ h => h) (Or.inl ⟨by rfl, ?_⟩) ?_ ?_
      rotate_left
      · intro w'
        go_simp
        with_reducible rfl
      rotate_left
      · simp only [Act.put, List.setIfInBounds_toArray, List.set_cons_zero, List.set_cons_succ, i64_w, i32_w]
        rfl
      -- 15: Op.nilCheck t61
      refine pure_ (i := 15) (N := (some 76)) (v := ?_) (a' := ?_) #[true, true, true, true, false, true, true, true, false, true, false, false, false, false, true, true, false, false, false, false, false, false, false] rfl rfl (by kernel_rfl) (fun _ _ _ h => h) (Or.inl ⟨by rfl, ?_⟩) ?_ ?_
      rotate_left
      · intro w'
        go_simp
        with_reducible rfl
      rotate_left
      · simp only [Act.put, List.setIfInBounds_toArray, List.set_cons_zero, List.set_cons_succ, i64_w, i32_w]
        rfl
      -- 16: Op.fieldAddr 32 t76 1
      refine pure_ (i := 16) (N := (some 77)) (v := ?_) (a' := ?_) #[true, true, true, true, false, true, true, true, false, true, false, false, false, false, true, true, true, false, false, false, false, false, false] rfl rfl (by kernel_rfl) (fun _ _ _ h => h) (Or.inl ⟨by rfl, ?_⟩) ?_ ?_
      rotate_left
      · intro w'
        go_simp
        with_reducible rfl
      rotate_left
      · simp only [Act.put, List.setIfInBounds_toArray, List.set_cons_zero, List.set_cons_succ, i64_w, i32_w]
        rfl
      -- 4: Op.load 29 t64
      refine take_ (i := 4) (N := (some 65)) (v := ?_) (a' := ?_) #[true, true, true, true, true, true, true, true, false, true, false, false, false, false, true, true, true, false, false, false, false, false, false] rfl rfl (by kernel_rfl) (fun _ _ _ h => h) (Or.inl ⟨by rfl, ?_⟩) hHeld ?_ ?_
      rotate_left
      · rintro w' ⟨s0, s1⟩
        go_simp
        with_reducible rfl
      rotate_left
      · simp only [Act.put, List.setIfInBounds_toArray, List.set_cons_zero, List.set_cons_succ, i64_w, i32_w]
        rfl
      -- 19: Op.nilCheck t65
      refine pure_ (i := 19) (N := (some 79)) (v := ?_) (a' := ?_) #[true, true, true, true, true, true, true, true, false, true, false, false, false, false, true, true, true, false, false, true, false, false, false] rfl rfl (by kernel_rfl) (fun _ _ _ h => h) (Or.inl ⟨by rfl, ?_⟩) ?_ ?_
      rotate_left
      · intro w'
        go_simp
        with_reducible rfl
      rotate_left
      · simp only [Act.put, List.setIfInBounds_toArray, List.set_cons_zero, List.set_cons_succ, i64_w, i32_w]
        rfl
      -- 20: Op.fieldAddr 32 t79 1
      refine pure_ (i := 20) (N := (some 80)) (v := ?_) (a' := ?_) #[true, true, true, true, true, true, true, true, false, true, false, false, false, false, true, true, true, false, false, true, true, false, false] rfl rfl (by kernel_rfl) (fun _ _ _ h => h) (Or.inl ⟨by rfl, ?_⟩) ?_ ?_
      rotate_left
      · intro w'
        go_simp
        with_reducible rfl
      rotate_left
      · simp only [Act.put, List.setIfInBounds_toArray, List.set_cons_zero, List.set_cons_succ, i64_w, i32_w]
        rfl
      -- 8: Op.load 29 t68
      refine take_ (i := 8) (N := (some 69)) (v := ?_) (a' := ?_) #[true, true, true, true, true, true, true, true, true, true, false, false, false, false, true, true, true, false, false, true, true, false, false] rfl rfl (by kernel_rfl) (fun _ _ _ h => h) (Or.inl ⟨by rfl, ?_⟩) hHeld ?_ ?_
      rotate_left
      · rintro w' ⟨s0, s1⟩
        go_simp
        with_reducible rfl
      rotate_left
      · simp only [Act.put, List.setIfInBounds_toArray, List.set_cons_zero, List.set_cons_succ, i64_w, i32_w]
        rfl
      -- 10: Op.nilCheck t69
      refine pure_ (i := 10) (N := (some 71)) (v := ?_) (a' := ?_) #[true, true, true, true, true, true, true, true, true, true, true, false, false, false, true, true, true, false, false, true, true, false, false] rfl rfl (by kernel_rfl) (fun _ _ _ h => h) (Or.inl ⟨by rfl, ?_⟩) ?_ ?_
      rotate_left
      · intro w'
        go_simp
        with_reducible rfl
      rotate_left
      · simp only [Act.put, List.setIfInBounds_toArray, List.set_cons_zero, List.set_cons_succ, i64_w, i32_w]
        rfl
      -- 11: Op.fieldAddr 32 t71 1
      refine pure_ (i := 11) (N := (some 72)) (v := ?_) (a' := ?_) #[true, true, true, true, true, true, true, true, true, true, true, true, false, false, true, true, true, false, false, true, true, false, false] rfl rfl (by kernel_rfl) (fun _ _ _ h => h) (Or.inl ⟨by rfl, ?_⟩) ?_ ?_
      rotate_left
      · intro w'
        go_simp
        with_reducible rfl
      rotate_left
      · simp only [Act.put, List.setIfInBounds_toArray, List.set_cons_zero, List.set_cons_succ, i64_w, i32_w]
        rfl
      -- 12: Op.indexAddr 30 t72 t70
      refine pure_ (i := 12) (N := (some 73)) (v := ?_) (a' := ?_) #[true, true, true, true, true, true, true, true, true, true, true, true, true, false, true, true, true, false, false, true, true, false, false] rfl rfl (by kernel_rfl) (fun _ _ _ h => h) (Or.inl ⟨by rfl, ?_⟩) ?_ ?_
      rotate_left
      · intro w'
        go_simp
        with_reducible rfl
      rotate_left
      · simp only [Act.put, List.setIfInBounds_toArray, List.set_cons_zero, List.set_cons_succ, i64_w, i32_w]
        rfl
      -- 13: Op.load 29 t73
      refine take_ (i := 13) (N := (some 74)) (v := ?_) (a' := ?_) #[true, true, true, true, true, true, true, true, true, true, true, true, true, true, true, true, true, false, false, true, true, false, false] rfl rfl (by kernel_rfl) (fun _ _ _ h => h) (Or.inl ⟨by rfl, ?_⟩) hHeld ?_ ?_
      rotate_left
      · rintro w' ⟨s0, s1⟩
        go_simp
        with_reducible rfl
      rotate_left
      · simp only [Act.put, List.setIfInBounds_toArray, List.set_cons_zero, List.set_cons_succ, i64_w, i32_w]
        rfl
      -- 17: Op.indexAddr 30 t77 t62
      refine pure_ (i := 17) (N := (some 78)) (v := ?_) (a' := ?_) #[true, true, true, true, true, true, true, true, true, true, true, true, true, true, true, true, true, true, false, true, true, false, false] rfl rfl (by kernel_rfl) (fun _ _ _ h => h) (Or.inl ⟨by rfl, ?_⟩) ?_ ?_
      rotate_left
      · intro w'
        go_simp
        with_reducible rfl
      rotate_left
      · simp only [Act.put, List.setIfInBounds_toArray, List.set_cons_zero, List.set_cons_succ, i64_w, i32_w]
        rfl
      -- 18: Op.store 29 t78 t74
      refine one_ (i := 18) (N := none) #[true, true, true, true, true, true, true, true, true, true, true, true, true, true, true, true, true, true, true, true, true, false, false] rfl rfl (by kernel_rfl) (by decide) (fun K hK => ?_)
      refine skip_ (w1 := ?_) (by rfl) rfl ?_ ?_
      rotate_left
      · go_simp
        rfl
      clear hHeld
      refine hK.out _ _ ⟨(cell_far (p := ⟨nb, _, none⟩) NGB.out _).trans hc1, (cell_far (p := ⟨nb, _, none⟩) NEN.out _).trans hc2⟩ (fun hHeld => ?_)
      clear hK K
      -- 21: Op.indexAddr 30 t80 t66
      refine pure_ (i := 21) (N := (some 81)) (v := ?_) (a' := ?_) #[true, true, true, true, true, true, true, true, true, true, true, true, true, true, true, true, true, true, true, true, true, true, false] rfl rfl (by kernel_rfl) (fun _ _ _ h => h) (Or.inl ⟨by rfl, ?_⟩) ?_ ?_
      rotate_left
      · intro w'
        go_simp
        with_reducible rfl
      rotate_left
      · simp only [Act.put, List.setIfInBounds_toArray, List.set_cons_zero, List.set_cons_succ, i64_w, i32_w]
        rfl
      -- 22: Op.store 29 t81 t75
      refine last_ (i := 22) (N := none) #[true, true, true, true, true, true, true, true, true, true, true, true, true, true, true, true, true, true, true, true, true, true, true] rfl rfl (by kernel_rfl) (by decide) (fun K hK => ?_)
      refine skip_ (w1 := ?_) (by rfl) rfl ?_ ?_
      rotate_left
      · go_simp
        rfl
      clear hHeld
      refine hK.out _ _ ?_
      clear hK K
      refine done_ (by kernel_rfl) ?_
      go_wp2
      have hem : endB g P = g ∨ endB g P ∈ (A ++ y :: R).map (·.blk) := by
        rcases endB_mem (g := g) (P := P) with e | e
        · exact .inl e
        · rw [HPA.out]
          exact .inr (by simp only [List.map_append, List.append_assoc]; exact List.mem_append_left _ e)
      have heg : gb ≠ endB g P := by
        have h1 := HS.out.lt (endB g P) hem
        have h2 := GE.out
        omega
      have ew : wrap64 ((k : Int) + 1) = ((k + 1 : Nat) : Int) := by unfold wrap64; omega
      try rw [ew]
      go_roundg q
      case measure => omega
      case rel => exact ⟨k + 1, rfl, ⟨by have := HQ.out; omega⟩, ⟨by have h1 := HSL.out.link (P := P) (A2 := A2) hk12 HPA.out HH.out HLO.out; rw [HPX.out] at h1; exact h1⟩, ⟨blk_setOther (blk_setOther BK.out NGB.out) heg⟩, ⟨(HP.out.set (p := ⟨nb, _, none⟩) (.inr (.inr GN.out)) _).set (p := ⟨endB g P, _, none⟩) (hem.elim .inl (fun h => .inr (.inl h))) _⟩⟩
set_option maxHeartbeats 8000000 in
set_option maxRecDepth 100000 in
theorem put_new_seq (w : World) (g : Nat) (ln ht : Int) (A : List Nd) (R : List Nd) (y : Nd) (r : S28) (hgt : Int) (h : SL TL w g ln ht (A ++ y :: R)) (hf : Front r.f0 r.f1 (A ++ y :: R)) (hlen : (A ++ y :: R).length ≤ 4611686018427387904) (hlow : ∀ x, x ∈ A ++ y :: R → 1 ≤ x.h)
    (hA : ∀ x, x ∈ A → aheadB r.f0 r.f1 x.row = true) (hT : ∀ z, (y :: R).head? = some z → aheadB r.f0 r.f1 z.row = false) (hk : y.row.f0 = r.f0) (hs : y.row.f1 ≠ r.f1) :
    Calls Try.prog 21 #[.pointer (some ⟨g, 0, none⟩), .agg #[.string r.f0, .int .u64 r.f1, .int .i64 r.f2, .string r.f3], .int .i64 hgt] w fun e w' => e = .returned (.bool true) ∧ PutPost TL w w' g ln ht A (y :: R) r hgt := by
  have HS := Aside0.mk h
  have HF := Aside0.mk hf
  have HN := Aside0.mk hlen
  have HLW := Aside0.mk hlow
  have HA := Aside0.mk hA
  have HT := Aside0.mk hT
  have HB := Aside0.mk (Below.refl w.heap.size w)
  clear h hf hlen hlow hA hT
  have HLy := Aside0.mk (show 0 < y.h from HLW.out y (by simp))
  have hsb : (y.row.f1 == r.f1) = false := beq_eq_false_iff_ne.mpr hs
  have HKK := Aside0.mk hk
  clear hk hs
  have hcl := clampH_is hgt
  go_enter Try.func21, Try.ntmps21
  go_wp2_with (first | ((with_reducible refine gate_dst (N := 4) rfl ?_); refine box_event ?hg (N := 4) ?hd (cs := #[.string r.f0, .int .u64 r.f1, .int .i64 r.f2, .string r.f3]) (t := 28) ?hr ?_; (case hd => rfl); (case hg => rfl); (case hr => first | (go_simp; done) | (go_simp; rfl)); intro gr hg w2 hbox hb; have n0_ := Aside0.mk (below_step HB.out hb); have n1_ := Aside0.mk hbox; have GR := Aside0.mk (by rw [hg]; exact below_size HB.out : w.heap.size ≤ gr); clear HB; have HB := n0_; have BR := n1_; clear n0_ n1_; clear hb hbox hg; have hcr0 : w2.cell? ⟨gr, 0, none⟩ = some (.string r.f0) := (blk_cell BR.out 0).trans rfl; have hcr1 : w2.cell? ⟨gr, 1, none⟩ = some (.int .u64 r.f1) := (blk_cell BR.out 1).trans rfl) | ((with_reducible refine gate_callee (f := 64) rfl ?_); refine goesL_ (some 20) rfl rfl Try.func64 (by kernel_rfl) rfl #[.pointer (some ⟨g, 0, none⟩), .string r.f0, .int .u64 r.f1] rfl (by (try simp only [List.map_toArray, List.map_cons, List.map_nil]); first | done | rfl) ?_; (with_reducible refine (search_calls _ g ln ht (A ++ y :: R) r.f0 r.f1 (HS.out.below HB.out) HF.out HN.out).mono ?_); rintro e w3 ⟨bs, rfl, hl, hfd, hb⟩; refine ⟨_, rfl, ?_⟩; have HL := Aside0.mk hl; have HX := Aside0.mk hfd; have n0_ := Aside0.mk (below_step HB.out hb); have n1_ := Aside0.mk (blk_below BR.out hb); clear HB BR hb hl hfd hcr0 hcr1; have HB := n0_; have BR := n1_; clear n0_ n1_) | ((with_reducible refine gate_dst (N := 7) rfl ?_); refine box_event ?hg (N := 7) ?hd (cs := #[.pointer none, .pointer none, .pointer none, .pointer none, .pointer none, .pointer none, .pointer none, .pointer none, .pointer none, .pointer none, .pointer none, .pointer none]) (t := 30) ?hr ?_; (case hd => rfl); (case hg => rfl); (case hr => first | (go_simp; done) | (go_simp; rfl)); intro gb hg w4 hbox hb; have n0_ := Aside0.mk (below_step HB.out hb); have n1_ := Aside0.mk hbox; have n2_ := Aside0.mk (blk_below BR.out hb); have NBR := Aside0.mk (by rw [hg]; exact Nat.ne_of_lt (blk_lt BR.out) : gr ≠ gb); have GE := Aside0.mk (by rw [hg]; exact below_size HB.out : w.heap.size ≤ gb); clear HB BR; have HB := n0_; have BK := n1_; have BR := n2_; clear n0_ n1_ n2_; clear hb hbox hg) | (refine st_arr rfl 30 _ _ rfl gb 30 ?hx bs.toArray ?hy _ BK.out (by rw [size30]; simp [HL.out]) (by simp [HL.out]) (found_one HL.out HX.out) ?_; (case hx => rfl); (case hy => rfl); intro w5 hb5 hbb hk5 hs5; have n0_ := Aside0.mk hb5; have n1_ := Aside0.mk (hbb _ _ HB.out GE.out); have n2_ := Aside0.mk ((hk5 gr NBR.out).trans BR.out); clear HB BK BR; have BK := n0_; have HB := n1_; have BR := n2_; clear n0_ n1_ n2_ hb5 hbb hk5 hs5; have hcr0 : w5.cell? ⟨gr, 0, none⟩ = some (.string r.f0) := (blk_cell BR.out 0).trans rfl; have hcr1 : w5.cell? ⟨gr, 1, none⟩ = some (.int .u64 r.f1) := (blk_cell BR.out 1).trans rfl; have hcr2 : w5.cell? ⟨gr, 2, none⟩ = some (.int .i64 r.f2) := (blk_cell BR.out 2).trans rfl; have hcr3 : w5.cell? ⟨gr, 3, none⟩ = some (.string r.f3) := (blk_cell BR.out 3).trans rfl; obtain ⟨v0, hv0, hf0⟩ := HX.out 0 (by decide); obtain ⟨rfl, hh0⟩ := found0 hf0 HLW.out HA.out HT.out; have hb0 : w5.cell? ⟨gb, 0, none⟩ = some (.pointer (some ⟨endB g A, 0, none⟩)) := (by rw [blk_cell BK.out, List.getElem?_toArray]; exact hv0); have hn0 : w5.cell? ⟨endB g A, 4, none⟩ = some (pv (nxt 0 (y :: R))) := (HS.out.below HB.out).next rfl (by decide) hh0; clear hv0 hf0 hh0; rw [nxt, if_pos HLy.out, show pv (some y.blk) = .pointer (some ⟨y.blk, 0, none⟩) from rfl] at hn0; have hnode := (HS.out.below HB.out).node (P := A) (x := y) (R := R) rfl; have hy0 : w5.cell? ⟨y.blk, 0, none⟩ = some (.string r.f0) := (by rw [blk_cell hnode, List.getElem?_toArray, cellsN_row y R 0 (by omega), ← HKK.out]; rfl); have hy1 : w5.cell? ⟨y.blk, 1, none⟩ = some (.int .u64 y.row.f1) := (by rw [blk_cell hnode, List.getElem?_toArray, cellsN_row y R 1 (by omega)]; rfl); clear hnode))
  go_quiet (fail)
  go_wp2_with ((with_reducible refine gate_dst (N := 56) rfl ?_); refine box_event ?hg (N := 56) ?hd (cs := (cellsN ⟨0, r, 0⟩ (y :: R)).toArray) (t := 32) ?hr ?_; (case hd => rfl); (case hg => rfl); (case hr => first | (go_simp; done) | (go_simp; rfl)); intro nb hg w7 hbox hb; have hBx := pw_below_drewN HB.out nq; have BKx := blk_drewN BK.out nq; have n0_ := Aside0.mk ((HS.out.below hBx).zero (nb := nb) (r := r) hb hbox (by rw [hg]; exact Nat.le_refl _)); have n1_ := Aside0.mk (blk_below BKx hb); have n2_ := Aside0.mk (Kp.of_below (g := g) (l := (A ++ y :: R).map (·.blk)) (below_step hBx hb)); have GN := Aside0.mk (by rw [hg]; exact below_size hBx : w.heap.size ≤ nb); have NGB := Aside0.mk (by rw [hg]; exact Nat.ne_of_lt (blk_lt BKx) : gb ≠ nb); clear BKx hBx HB BK BR hbox hb hg hcr0 hcr1 hcr2 hcr3 hb0 hn0; have HSL := n0_; have BK := n1_; have HP := n2_; clear n0_ n1_ n2_)
  clear hcl
  try clear hkb
  try clear hsb
  try clear hy0 hy1
  go_loopg [11, 58] (clampH hgt) (fun kq v11 v58 w' => ∃ k : Nat, v58 = .int .i64 (k : Int) ∧ Aside0 (kq + k = clampH hgt) ∧ Aside0 (SL TL w' g ln ht (A ++ ⟨nb, r, k⟩ :: y :: R)) ∧ Aside0 (w'.heap[gb]? = some (.cells bs.toArray 30 (0, 0))) ∧ Aside0 (Kp w w' g ((A ++ y :: R).map (·.blk))))
  case atStart => exact ⟨0, rfl, ⟨by omega⟩, HSL, BK, HP⟩
  case round =>
    clear HSL BK HP
    obtain ⟨k, rfl, HQ, HSL, BK, HP⟩ := hrel
    have h12 := (clampH_le hgt).2
    cases gk with
    | zero =>
      have ek : clampH hgt = k := by have := HQ.out; omega
      rw [ek]
      have c0 : decide ((k : Int) < (k : Int)) = false := by simp
      have hl : wr.cell? ⟨g, 16, none⟩ = some (.int .i64 ln) := by rw [blk_cell HSL.out.head, List.getElem?_toArray, cellsH_len_]
      have hh : wr.cell? ⟨g, 17, none⟩ = some (.int .i64 ht) := by rw [blk_cell HSL.out.head, List.getElem?_toArray, cellsH_ht]
      have hf1 := blk_frozen HSL.out.head 16
      have hf2 := blk_frozen HSL.out.head 17
      go_wp2
      go_ret
      refine ⟨by rfl, nb, GN.out, ?_, ?_⟩
      · rw [ek]
        have h1 := HSL.out.setTail 16 (.int .i64 (wrap64 (ln + 1))) (cellsH_set16 ln ht _ _)
        have h2 := h1.setTail 17 (.int .i64 (max ht (k : Int))) (cellsH_set17 _ ht _ _)
        rw [← mx_max] at h2 ⊢
        exact h2
      · exact (HP.out.set (p := ⟨g, 16, none⟩) (.inl rfl) _).set (p := ⟨g, 17, none⟩) (.inl rfl) _
    | succ q =>
      have hk : k < clampH hgt := by have := HQ.out; omega
      have hk12 : k < 12 := by omega
      have c0 : decide ((k : Int) < (clampH hgt : Int)) = true := decide_eq_true (by omega)
      obtain ⟨vk, hvk, hfk⟩ := HX.out k hk12
      obtain ⟨P, A2, hPA, rfl, hh, hlo⟩ := foundj hfk HA.out HT.out
      have e4 : (k : Int).toNat = k := by omega
      have q1 : (k : Int) < 12 := by omega
      have q0 : 0 ≤ (k : Int) := by omega
      have hsp : A ++ ⟨nb, r, k⟩ :: y :: R = P ++ (A2 ++ ⟨nb, r, k⟩ :: y :: R) := by rw [hPA, List.append_assoc]
      obtain ⟨px, hpx⟩ : ∃ p : Option Addr, pv (nxt k (y :: R)) = .pointer p := ⟨_, rfl⟩
      have hm : (⟨nb, r, k⟩ : Nd) ∈ A ++ ⟨nb, r, k⟩ :: y :: R := by simp
      have NEN := Aside0.mk (show endB g P ≠ nb by
        rcases endB_mem (g := g) (P := P) with e | e
        · rw [e]; exact fun h => HSL.out.apart _ hm h.symm
        · obtain ⟨x, hx, e2⟩ := List.mem_map.mp e
          rw [← e2]
          have hnd := HSL.out.nodup
          rw [hsp, List.map_append, List.nodup_append] at hnd
          exact hnd.2.2 _ (List.mem_map.mpr ⟨x, hx, rfl⟩) _ (by simp))
      have HPA := Aside0.mk hPA
      have HSP := Aside0.mk hsp
      have HH := Aside0.mk hh
      have HLO := Aside0.mk hlo
      have HVK := Aside0.mk hvk
      have HPX := Aside0.mk hpx
      clear hPA hsp hh hlo hvk hpx hm hfk
      go_wp2
      have n0_ := Aside0.mk (HSL.out.below (below_drew (Below.refl _ wr)))
      have n1_ := Aside0.mk (blk_drew BK.out)
      have n2_ := Aside0.mk (HP.out.below (below_drew (Below.refl _ wr)))
      clear HSL BK HP
      have HSL := n0_
      have BK := n1_
      have HP := n2_
      clear n0_ n1_ n2_
      have hc1 : wr.drew.cell? ⟨gb, k, none⟩ = some (.pointer (some ⟨endB g P, 0, none⟩)) := by rw [blk_cell BK.out, List.getElem?_toArray]; exact HVK.out
      have hc2 : wr.drew.cell? ⟨endB g P, 4 + k, none⟩ = some (.pointer px) := by rw [HSL.out.next HSP.out hk12 HH.out, nxt_skip _ HLO.out, nxt, if_neg (Nat.lt_irrefl k), HPX.out]
      have hnode := HSL.out.node (P := A) (x := ⟨nb, r, k⟩) (R := y :: R) rfl
      have hc3 : wr.drew.cell? ⟨nb, 4 + k, none⟩ = some (.pointer none) := by rw [blk_cell hnode, List.getElem?_toArray, cellsN_link _ _ k hk12, if_neg (Nat.lt_irrefl k)]; rfl
      have hf3 := blk_frozen hnode (4 + k)
      obtain ⟨cse, te, hblk⟩ := SL.endBlk (P := P) (R := A2 ++ ⟨nb, r, k⟩ :: y :: R) (by rw [← HSP.out]; exact HSL.out)
      have hf2 := blk_frozen hblk (4 + k)
      have hne := NEN.out
      have hne' := NEN.out.symm
      have hng := NGB.out
      clear hnode hblk
      refine start_ (n := 23) (S := fun w' => w'.cell? ⟨gb, k, none⟩ = some (.pointer (some ⟨endB g P, 0, none⟩)) ∧ w'.cell? ⟨endB g P, 4 + k, none⟩ = some (.pointer px)) (ds := [22]) #[false, false, false, false, false, false, false, false, false, false, false, false, false, false, false, false, false, false, false, false, false, false, false] (by kernel_rfl) rfl rfl ⟨hc1, hc2⟩ (fun hHeld => ?_)
      generalize wr.drew = wd at HSL BK HP hc1 hc2 hc3 hf2 hf3 hHeld ⊢
      -- 0: Op.move t10
      refine pure_ (i := 0) (N := (some 61)) (v := ?_) (a' := ?_) #[true, false, false, false, false, false, false, false, false, false, false, false, false, false, false, false, false, false, false, false, false, false, false] rfl rfl (by kernel_rfl) (fun _ _ _ h => h) (Or.inl ⟨by rfl, ?_⟩) ?_ ?_
      rotate_left
      · intro w'
        go_simp
        with_reducible rfl
      rotate_left
      · simp only [Act.put, List.setIfInBounds_toArray, List.set_cons_zero, List.set_cons_succ, i64_w, i32_w]
        rfl
      -- 1: Op.move t11
      refine pure_ (i := 1) (N := (some 62)) (v := ?_) (a' := ?_) #[true, true, false, false, false, false, false, false, false, false, false, false, false, false, false, false, false, false, false, false, false, false, false] rfl rfl (by kernel_rfl) (fun _ _ _ h => h) (Or.inl ⟨by rfl, ?_⟩) ?_ ?_
      rotate_left
      · intro w'
        go_simp
        with_reducible rfl
      rotate_left
      · simp only [Act.put, List.setIfInBounds_toArray, List.set_cons_zero, List.set_cons_succ, i64_w, i32_w]
        rfl
      -- 2: Op.move t11
      refine pure_ (i := 2) (N := (some 63)) (v := ?_) (a' := ?_) #[true, true, true, false, false, false, false, false, false, false, false, false, false, false, false, false, false, false, false, false, false, false, false] rfl rfl (by kernel_rfl) (fun _ _ _ h => h) (Or.inl ⟨by rfl, ?_⟩) ?_ ?_
      rotate_left
      · intro w'
        go_simp
        with_reducible rfl
      rotate_left
      · simp only [Act.put, List.setIfInBounds_toArray, List.set_cons_zero, List.set_cons_succ, i64_w, i32_w]
        rfl
      -- 3: Op.indexAddr 30 t7 t63
      refine pure_ (i := 3) (N := (some 64)) (v := ?_) (a' := ?_) #[true, true, true, true, false, false, false, false, false, false, false, false, false, false, false, false, false, false, false, false, false, false, false] rfl rfl (by kernel_rfl) (fun _ _ _ h => h) (Or.inl ⟨by rfl, ?_⟩) ?_ ?_
      rotate_left
      · intro w'
        go_simp
        with_reducible rfl
      rotate_left
      · simp only [Act.put, List.setIfInBounds_toArray, List.set_cons_zero, List.set_cons_succ, i64_w, i32_w]
        rfl
      -- 5: Op.move t11
      refine pure_ (i := 5) (N := (some 66)) (v := ?_) (a' := ?_) #[true, true, true, true, false, true, false, false, false, false, false, false, false, false, false, false, false, false, false, false, false, false, false] rfl rfl (by kernel_rfl) (fun _ _ _ h => h) (Or.inl ⟨by rfl, ?_⟩) ?_ ?_
      rotate_left
      · intro w'
        go_simp
        with_reducible rfl
      rotate_left
      · simp only [Act.put, List.setIfInBounds_toArray, List.set_cons_zero, List.set_cons_succ, i64_w, i32_w]
        rfl
      -- 6: Op.move t11
      refine pure_ (i := 6) (N := (some 67)) (v := ?_) (a' := ?_) #[true, true, true, true, false, true, true, false, false, false, false, false, false, false, false, false, false, false, false, false, false, false, false] rfl rfl (by kernel_rfl) (fun _ _ _ h => h) (Or.inl ⟨by rfl, ?_⟩) ?_ ?_
      rotate_left
      · intro w'
        go_simp
        with_reducible rfl
      rotate_left
      · simp only [Act.put, List.setIfInBounds_toArray, List.set_cons_zero, List.set_cons_succ, i64_w, i32_w]
        rfl
      -- 7: Op.indexAddr 30 t7 t67
      refine pure_ (i := 7) (N := (some 68)) (v := ?_) (a' := ?_) #[true, true, true, true, false, true, true, true, false, false, false, false, false, false, false, false, false, false, false, false, false, false, false] rfl rfl (by kernel_rfl) (fun _ _ _ h => h) (Or.inl ⟨by rfl, ?_⟩) ?_ ?_
      rotate_left
      · intro w'
        go_simp
        with_reducible rfl
      rotate_left
      · simp only [Act.put, List.setIfInBounds_toArray, List.set_cons_zero, List.set_cons_succ, i64_w, i32_w]
        rfl
      -- 9: Op.move t11
      refine pure_ (i := 9) (N := (some 70)) (v := ?_) (a' := ?_) #[true, true, true, true, false, true, true, true, false, true, false, false, false, false, false, false, false, false, false, false, false, false, false] rfl rfl (by kernel_rfl) (fun _ _ _ h => h) (Or.inl ⟨by rfl, ?_⟩) ?_ ?_
      rotate_left
      · intro w'
        go_simp
        with_reducible rfl
      rotate_left
      · simp only [Act.put, List.setIfInBounds_toArray, List.set_cons_zero, List.set_cons_succ, i64_w, i32_w]
        rfl
      -- 14: Op.move t10
      refine pure_ (i := 14) (N := (some 75)) (v := ?_) (a' := ?_) #[true, true, true, true, false, true, true, true, false, true, false, false, false, false, true, false, false, false, false, false, false, false, false] rfl rfl (by kernel_rfl) (fun _ _ _ h => h) (Or.inl ⟨by rfl, ?_⟩) ?_ ?_
      rotate_left
      · intro w'
        go_simp
        with_reducible rfl
      rotate_left
      · simp only [Act.put, List.setIfInBounds_toArray, List.set_cons_zero, List.set_cons_succ, i64_w, i32_w]
        rfl
      -- 15: Op.nilCheck t61
      refine pure_ (i := 15) (N := (some 76)) (v := ?_) (a' := ?_) #[true, true, true, true, false, true, true, true, false, true, false, false, false, false, true, true, false, false, false, false, false, false, false] rfl rfl (by kernel_rfl) (fun _ _ _ h => h) (Or.inl ⟨by rfl, ?_⟩) ?_ ?_
      rotate_left
      · intro w'
        go_simp
        with_reducible rfl
      rotate_left
      · simp only [Act.put, List.setIfInBounds_toArray, List.set_cons_zero, List.set_cons_succ, i64_w, i32_w]
        rfl
      -- 16: Op.fieldAddr 32 t76 1
      refine pure_ (i := 16) (N := (some 77)) (v := ?_) (a' := ?_) #[true, true, true, true, false, true, true, true, false, true, false, false, false, false, true, true, true, false, false, false, false, false, false] rfl rfl (by kernel_rfl) (fun _ _ _ h => h) (Or.inl ⟨by rfl, ?_⟩) ?_ ?_
      rotate_left
      · intro w'
        go_simp
        with_reducible rfl
      rotate_left
      · simp only [Act.put, List.setIfInBounds_toArray, List.set_cons_zero, List.set_cons_succ, i64_w, i32_w]
        rfl
      -- 4: Op.load 29 t64
      refine take_ (i := 4) (N := (some 65)) (v := ?_) (a' := ?_) #[true, true, true, true, true, true, true, true, false, true, false, false, false, false, true, true, true, false, false, false, false, false, false] rfl rfl (by kernel_rfl) (fun _ _ _ h => h) (Or.inl ⟨by rfl, ?_⟩) hHeld ?_ ?_
      rotate_left
      · rintro w' ⟨s0, s1⟩
        go_simp
        with_reducible rfl
      rotate_left
      · simp only [Act.put, List.setIfInBounds_toArray, List.set_cons_zero, List.set_cons_succ, i64_w, i32_w]
        rfl
      -- 19: Op.nilCheck t65
      refine pure_ (i := 19) (N := (some 79)) (v := ?_) (a' := ?_) #[true, true, true, true, true, true, true, true, false, true, false, false, false, false, true, true, true, false, false, true, false, false, false] rfl rfl (by kernel_rfl) (fun _ _ _ h => h) (Or.inl ⟨by rfl, ?_⟩) ?_ ?_
      rotate_left
      · intro w'
        go_simp
        with_reducible rfl
      rotate_left
      · simp only [Act.put, List.setIfInBounds_toArray, List.set_cons_zero, List.set_cons_succ, i64_w, i32_w]
        rfl
      -- 20: Op.fieldAddr 32 t79 1
      refine pure_ (i := 20) (N := (some 80)) (v := ?_) (a' := ?_) #[true, true, true, true, true, true, true, true, false, true, false, false, false, false, true, true, true, false, false, true, true, false, false] rfl rfl (by kernel_rfl) (fun _ _ _ h => h) (Or.inl ⟨by rfl, ?_⟩) ?_ ?_
      rotate_left
      · intro w'
        go_simp
        with_reducible rfl
      rotate_left
      · simp only [Act.put, List.setIfInBounds_toArray, List.set_cons_zero, List.set_cons_succ, i64_w, i32_w]
        rfl
      -- 8: Op.load 29 t68
      refine take_ (i := 8) (N := (some 69)) (v := ?_) (a' := ?_) #[true, true, true, true, true, true, true, true, true, true, false, false, false, false, true, true, true, false, false, true, true, false, false] rfl rfl (by kernel_rfl) (fun _ _ _ h => h) (Or.inl ⟨by rfl, ?_⟩) hHeld ?_ ?_
      rotate_left
      · rintro w' ⟨s0, s1⟩
        go_simp
        with_reducible rfl
      rotate_left
      · simp only [Act.put, List.setIfInBounds_toArray, List.set_cons_zero, List.set_cons_succ, i64_w, i32_w]
        rfl
      -- 10: Op.nilCheck t69
      refine pure_ (i := 10) (N := (some 71)) (v := ?_) (a' := ?_) #[true, true, true, true, true, true, true, true, true, true, true, false, false, false, true, true, true, false, false, true, true, false, false] rfl rfl (by kernel_rfl) (fun _ _ _ h => h) (Or.inl ⟨by rfl, ?_⟩) ?_ ?_
      rotate_left
      · intro w'
        go_simp
        with_reducible rfl
      rotate_left
      · simp only [Act.put, List.setIfInBounds_toArray, List.set_cons_zero, List.set_cons_succ, i64_w, i32_w]
        rfl
      -- 11: Op.fieldAddr 32 t71 1
      refine pure_ (i := 11) (N := (some 72)) (v := ?_) (a' := ?_) #[true, true, true, true, true, true, true, true, true, true, true, true, false, false, true, true, true, false, false, true, true, false, false] rfl rfl (by kernel_rfl) (fun _ _ _ h => h) (Or.inl ⟨by rfl, ?_⟩) ?_ ?_
      rotate_left
      · intro w'
        go_simp
        with_reducible rfl
      rotate_left
      · simp only [Act.put, List.setIfInBounds_toArray, List.set_cons_zero, List.set_cons_succ, i64_w, i32_w]
        rfl
      -- 12: Op.indexAddr 30 t72 t70
      refine pure_ (i := 12) (N := (some 73)) (v := ?_) (a' := ?_) #[true, true, true, true, true, true, true, true, true, true, true, true, true, false, true, true, true, false, false, true, true, false, false] rfl rfl (by kernel_rfl) (fun _ _ _ h => h) (Or.inl ⟨by rfl, ?_⟩) ?_ ?_
      rotate_left
      · intro w'
        go_simp
        with_reducible rfl
      rotate_left
      · simp only [Act.put, List.setIfInBounds_toArray, List.set_cons_zero, List.set_cons_succ, i64_w, i32_w]
        rfl
      -- 13: Op.load 29 t73
      refine take_ (i := 13) (N := (some 74)) (v := ?_) (a' := ?_) #[true, true, true, true, true, true, true, true, true, true, true, true, true, true, true, true, true, false, false, true, true, false, false] rfl rfl (by kernel_rfl) (fun _ _ _ h => h) (Or.inl ⟨by rfl, ?_⟩) hHeld ?_ ?_
      rotate_left
      · rintro w' ⟨s0, s1⟩
        go_simp
        with_reducible rfl
      rotate_left
      · simp only [Act.put, List.setIfInBounds_toArray, List.set_cons_zero, List.set_cons_succ, i64_w, i32_w]
        rfl
      -- 17: Op.indexAddr 30 t77 t62
      refine pure_ (i := 17) (N := (some 78)) (v := ?_) (a' := ?_) #[true, true, true, true, true, true, true, true, true, true, true, true, true, true, true, true, true, true, false, true, true, false, false] rfl rfl (by kernel_rfl) (fun _ _ _ h => h) (Or.inl ⟨by rfl, ?_⟩) ?_ ?_
      rotate_left
      · intro w'
        go_simp
        with_reducible rfl
      rotate_left
      · simp only [Act.put, List.setIfInBounds_toArray, List.set_cons_zero, List.set_cons_succ, i64_w, i32_w]
        rfl
      -- 18: Op.store 29 t78 t74
      refine one_ (i := 18) (N := none) #[true, true, true, true, true, true, true, true, true, true, true, true, true, true, true, true, true, true, true, true, true, false, false] rfl rfl (by kernel_rfl) (by decide) (fun K hK => ?_)
      refine skip_ (w1 := ?_) (by rfl) rfl ?_ ?_
      rotate_left
      · go_simp
        rfl
      clear hHeld
      refine hK.out _ _ ⟨(cell_far (p := ⟨nb, _, none⟩) NGB.out _).trans hc1, (cell_far (p := ⟨nb, _, none⟩) NEN.out _).trans hc2⟩ (fun hHeld => ?_)
      clear hK K
      -- 21: Op.indexAddr 30 t80 t66
      refine pure_ (i := 21) (N := (some 81)) (v := ?_) (a' := ?_) #[true, true, true, true, true, true, true, true, true, true, true, true, true, true, true, true, true, true, true, true, true, true, false] rfl rfl (by kernel_rfl) (fun _ _ _ h => h) (Or.inl ⟨by rfl, ?_⟩) ?_ ?_
      rotate_left
      · intro w'
        go_simp
        with_reducible rfl
      rotate_left
      · simp only [Act.put, List.setIfInBounds_toArray, List.set_cons_zero, List.set_cons_succ, i64_w, i32_w]
        rfl
      -- 22: Op.store 29 t81 t75
      refine last_ (i := 22) (N := none) #[true, true, true, true, true, true, true, true, true, true, true, true, true, true, true, true, true, true, true, true, true, true, true] rfl rfl (by kernel_rfl) (by decide) (fun K hK => ?_)
      refine skip_ (w1 := ?_) (by rfl) rfl ?_ ?_
      rotate_left
      · go_simp
        rfl
      clear hHeld
      refine hK.out _ _ ?_
      clear hK K
      refine done_ (by kernel_rfl) ?_
      go_wp2
      have hem : endB g P = g ∨ endB g P ∈ (A ++ y :: R).map (·.blk) := by
        rcases endB_mem (g := g) (P := P) with e | e
        · exact .inl e
        · rw [HPA.out]
          exact .inr (by simp only [List.map_append, List.append_assoc]; exact List.mem_append_left _ e)
      have heg : gb ≠ endB g P := by
        have h1 := HS.out.lt (endB g P) hem
        have h2 := GE.out
        omega
      have ew : wrap64 ((k : Int) + 1) = ((k + 1 : Nat) : Int) := by unfold wrap64; omega
      try rw [ew]
      go_roundg q
      case measure => omega
      case rel => exact ⟨k + 1, rfl, ⟨by have := HQ.out; omega⟩, ⟨by have h1 := HSL.out.link (P := P) (A2 := A2) hk12 HPA.out HH.out HLO.out; rw [HPX.out] at h1; exact h1⟩, ⟨blk_setOther (blk_setOther BK.out NGB.out) heg⟩, ⟨(HP.out.set (p := ⟨nb, _, none⟩) (.inr (.inr GN.out)) _).set (p := ⟨endB g P, _, none⟩) (hem.elim .inl (fun h => .inr (.inl h))) _⟩⟩
end Go.Proofs.Ytfemebenkbobnaa.SM
