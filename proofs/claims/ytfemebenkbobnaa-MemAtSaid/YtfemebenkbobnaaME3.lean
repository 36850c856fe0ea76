import Derived.Test.YtfemebenkbobnaaME2
import Derived.Test.YtfemebenkbobnaaPB068
/- The table of rows in memory: Add, walked. Conditions: at most 500000 rows, batches of at most 1000, short keys and values. -/
namespace Go.Proofs.Ytfemebenkbobnaa.SM
set_option linter.unusedVariables false
set_option linter.unusedSimpArgs false
open Go.RowKit Go.Shelf Go.Proofs.YtfemebenkbobnaaW.PrintWords Go.Proofs.YtfemebenkbobnaaW.PrintLast Go.Proofs.YtfemebenkbobnaaW.PrintMore Go.Proofs.Ytfemebenkbobnaa.PB06
attribute [local go_sem] max2_int min2_int max_two min_two max_three min_three max_four min_four
/-- How high the i-th row is to be. -/
def hAt (hs : List Int) (i : Nat) : Int := (hs[i]?).getD 1
theorem at_int {w : World} {A : Option Addr} {xs : List Int} (h : (Kd.int .i64).C w A xs.length xs) (i : Nat) (hi : i < xs.length) : ∃ ad, A = some ad ∧ w.cell? (ad.add i) = some (.int .i64 (hAt xs i)) := by
  obtain ⟨_, _, h3⟩ := h
  obtain ⟨ad, e, h4⟩ := h3 (by omega)
  obtain ⟨c, h5, h6, h7⟩ := h4 i xs[i] (List.getElem?_eq_getElem hi)
  have h8 : c = [.int .i64 xs[i]] := h6
  subst h8
  have h9 := h7 0 _ rfl
  refine ⟨ad, e, ?_⟩
  rw [show i * (Kd.int .i64).sz + 0 = i from by show i * 1 + 0 = i; omega] at h9
  rw [h9, hAt, List.getElem?_eq_getElem hi]
  rfl
theorem at_row {w : World} {A : Option Addr} {xs : List S28} (h : k28.C w A xs.length xs) (i : Nat) (hi : i < xs.length) : ∃ ad r, A = some ad ∧ xs.getD i z28 = r ∧ w.cell? (ad.add (i * 4)) = some (.string r.f0) ∧ w.cell? ⟨(ad.add (i * 4)).block, (ad.add (i * 4)).off + 1, none⟩ = some (.int .u64 r.f1) ∧ w.cell? ⟨(ad.add (i * 4)).block, (ad.add (i * 4)).off + 2, none⟩ = some (.int .i64 r.f2) ∧ w.cell? ⟨(ad.add (i * 4)).block, (ad.add (i * 4)).off + 3, none⟩ = some (.string r.f3) := by
  obtain ⟨ad, e, h0, h1, h2, h3⟩ := at_T28 h (i : Int) (by omega) (by omega)
  exact ⟨ad, xs.getD i z28, e, rfl, h0, h1, h2, h3⟩
theorem taken_seek (r : S28) (rs : List Nd) : takenV r (vals rs) = (seekOk r.f0 r.f1 rs && (decide ((seekRow r.f0 r.f1 rs).f0 = r.f0) && decide ((seekRow r.f0 r.f1 rs).f1 = r.f1))) := by
  rw [← vals_taken]
  unfold taken seekOk seekRow
  cases beh r.f0 r.f1 rs with
  | nil => rfl
  | cons y T => rfl
/-- What a table tells: its rows and their heights, its room, the least and the greatest number. -/
structure Ts where
  l : List RH
  room : Int
  least : Int
  greatest : Int
def stepT (hs : List Int) (i : Nat) (r : S28) (t : Ts) : Ts := ⟨putV r (clampH (hAt hs i)) t.l, t.room + ((r.f0.size + r.f3.size + 16 : Nat) : Int), mn (if t.least = 0 then r.f1 else t.least) r.f1, mx t.greatest r.f1⟩
def runT (R : List S28) (hs : List Int) (t : Ts) : Nat → Ts
  | 0 => t
  | i + 1 => stepT hs i (R.getD i z28) (runT R hs t i)
theorem Kp.trans {w w1 w2 : World} {g : Nat} {l l1 : List Nat} (h : Kp w w1 g l) (h1 : Kp w1 w2 g l1) (hg : g < w.heap.size) (hl : ∀ k, k ∈ l1 → k ∈ l ∨ w.heap.size ≤ k) : Kp w w2 g l :=
  ⟨Nat.le_trans h.size h1.size, fun k hk hk1 hk2 => (h1.same k (Nat.lt_of_lt_of_le hk h.size) hk1 (fun hm => (hl k hm).elim hk2 (fun h3 => by omega))).trans (h.same k hk hk1 hk2),
   fun B w0 hB hBg hBs hBl => h1.low B w0 (h.low B w0 hB hBg hBs hBl) hBg (Nat.le_trans hBs h.size) (fun k hk => (hl k hk).elim (hBl k) (fun h3 => Nat.le_trans hBs h3))⟩
/-- What rows that are added come to. -/
structure AddP (w w' : World) (g : Nat) (rs : List Nd) (t : Ts) (rs' : List Nd) : Prop where
  sk : Sk (tabT t.room t.least t.greatest) w' g rs'
  val : vals rs' = t.l
  new : ∀ k, k ∈ fp g rs' → k ∈ fp g rs ∨ w.heap.size ≤ k
  kp : Kp w w' g (rs.map (·.blk))
section
variable {w w1 w2 : World} {g : Nat} {rs rs1 rs2 : List Nd} {t : Ts} {r : S28} {h : Nat}
theorem AddP.refl {room least greatest : Int} (hs : Sk (tabT room least greatest) w g rs) (hb : Below w.heap.size w w1) : AddP w w1 g rs ⟨vals rs, room, least, greatest⟩ rs := ⟨hs.below hb, rfl, fun k hk => .inl hk, Kp.of_below hb⟩
theorem AddP.below (ha : AddP w w1 g rs t rs1) (hb : Below w1.heap.size w1 w2) : AddP w w2 g rs t rs1 := ⟨ha.sk.below hb, ha.val, ha.new, ha.kp.below hb⟩
theorem AddP.put (ha : AddP w w1 g rs t rs1) (hg : g < w.heap.size) (hp : Put (tabT t.room t.least t.greatest) w1 w2 g rs1 r h rs2) : AddP w w2 g rs ⟨putV r h t.l, t.room, t.least, t.greatest⟩ rs2 :=
  ⟨hp.sk, by rw [hp.val, ha.val], fun k hk => (hp.new k hk).elim (ha.new k) (fun h3 => .inr (Nat.le_trans ha.kp.size h3)),
   ha.kp.trans hp.kp hg (fun k hk => by
    rcases ha.new k (fp_mem.mpr (.inr hk)) with h3 | h3
    · rcases fp_mem.mp h3 with rfl | h3
      · obtain ⟨x, hx, he⟩ := List.mem_map.mp hk
        exact absurd he (ha.sk.sl.apart x hx)
      · exact .inl h3
    · exact .inr h3)⟩
theorem cellsH_tail (TL TL' : Tl) (ln ht : Int) (rs : List Nd) (j : Nat) (v : Value) (hj : TL.tl.set j v = TL'.tl) : (cellsH TL ln ht rs).set (18 + j) v = cellsH TL' ln ht rs := by
  rw [cellsH, cellsH, ← hj, List.set_append_right _ _ (by simp [rowC, links_len])]
  simp [rowC, links_len]
theorem sk_tail {TL TL' : Tl} (hs : Sk TL w g rs) (j : Nat) (v : Value) (hj : TL.tl.set j v = TL'.tl) (ht : TL.ty = TL'.ty) : Sk TL' (w.setCell ⟨g, 18 + j, none⟩ v) g rs :=
  ⟨⟨by rw [← ht]; exact blk_put hs.sl.head (18 + j) v (toArray_set (cellsH_tail TL TL' _ _ _ j v hj)), hs.sl.chain.keep (fun x hx => blk_setOther rfl (hs.sl.apart x hx)), hs.sl.nodup, hs.sl.top⟩, hs.lo, hs.ord⟩
theorem AddP.room (ha : AddP w w1 g rs t rs1) (v : Int) : AddP w (w1.setCell ⟨g, 19, none⟩ (.int .i64 v)) g rs { t with room := v } rs1 :=
  ⟨sk_tail (TL' := tabT v t.least t.greatest) ha.sk 1 (.int .i64 v) rfl rfl, ha.val, ha.new, ha.kp.set (.inl rfl) _⟩
theorem AddP.least (ha : AddP w w1 g rs t rs1) (v : Int) : AddP w (w1.setCell ⟨g, 20, none⟩ (.int .u64 v)) g rs { t with least := v } rs1 :=
  ⟨sk_tail (TL' := tabT t.room v t.greatest) ha.sk 2 (.int .u64 v) rfl rfl, ha.val, ha.new, ha.kp.set (.inl rfl) _⟩
theorem AddP.greatest (ha : AddP w w1 g rs t rs1) (v : Int) : AddP w (w1.setCell ⟨g, 21, none⟩ (.int .u64 v)) g rs { t with greatest := v } rs1 :=
  ⟨sk_tail (TL' := tabT t.room t.least v) ha.sk 3 (.int .u64 v) rfl rfl, ha.val, ha.new, ha.kp.set (.inl rfl) _⟩
end
section
variable {P : Program} {md : Region.Mode} {ops : Array Oper} {Q : Exit → Act → World → Prop} {S : World → Prop} {ds : List Nat}
/-- Either a read (it changes nothing) or one of ds may come up now. -/
theorem mix_ {i j : Nat} {Ni Nj : Option Tmp} {oi oj : Oper} {fuel : Nat} {l : Array Bool} {a : Act} {w : World} {v : Value} (li lj : Array Bool) (hi : ops[i]? = some oi) (hj : ops[j]? = some oj) (hNi : oi.dst = Ni) (hNj : oj.dst = Nj)
    (hc : (Region.ready md ops l == [i, j] && l.setIfInBounds i true == li && l.setIfInBounds j true == lj) = true) (hdj : j ∈ ds)
    (hwi : Region.wanted oi (yielded ops a.tmps) = true) (hruni : (execOp a.eval oi).run P w = .ok (.value v) w) (h1 : wpAnyLast P md ops Q S ds fuel li (a.put Ni v) w)
    (h2 : ∀ K : Act → World → Prop, Shut (∀ a' w', wpAnyLast P md ops Q S ds fuel lj a' w' → K a' w') → if Region.wanted oj (yielded ops a.tmps) = true then Oper.wp P oj a w K Q else K (a.put Nj undef) w) :
    wpAnyLast P md ops Q S ds (fuel + 1) l a w := by
  subst hNi
  subst hNj
  simp only [Bool.and_eq_true, beq_iff_eq] at hc
  obtain ⟨⟨h3, h4⟩, h5⟩ := hc
  subst h4
  subst h5
  refine wpAnyLast_ready h3 (by simp) (fun j' hj' => ?_)
  rcases List.mem_cons.1 hj' with rfl | hj'
  · exact wpOp_step hi (fun K' hK => value_ hwi rfl hruni (hK _ _ ⟨fun _ h => h, h1⟩))
  · rcases List.mem_cons.1 hj' with rfl | hj'
    · exact wpOp_step hj (fun K' hK => h2 K' (fun a w hW => hK a w ⟨fun hn => absurd hdj hn, hW⟩))
    · cases hj'
/-- A read alone may come up now, whatever holds. -/
theorem here_ {i : Nat} {N : Option Tmp} {oi : Oper} {fuel : Nat} {l : Array Bool} {a : Act} {w : World} {v : Value} (l' : Array Bool) (hi : ops[i]? = some oi) (hN : oi.dst = N) (hc : readyB md ops l l' i = true)
    (hwi : Region.wanted oi (yielded ops a.tmps) = true) (hruni : (execOp a.eval oi).run P w = .ok (.value v) w) (h1 : wpAnyLast P md ops Q S ds fuel l' (a.put N v) w) : wpAnyLast P md ops Q S ds (fuel + 1) l a w := by
  subst hN
  simp only [readyB, Bool.and_eq_true, beq_iff_eq] at hc
  obtain ⟨h3, h4⟩ := hc
  subst h4
  refine wpAnyLast_ready h3 (by simp) (fun j' hj' => ?_)
  rcases List.mem_cons.1 hj' with rfl | hj'
  · exact wpOp_step hi (fun K' hK => value_ hwi rfl hruni (hK _ _ ⟨fun _ h => h, h1⟩))
  · cases hj'
end
theorem sk_typed {TL : Tl} {w : World} {g : Nat} {rs : List Nd} (h : Sk TL w g rs) : ∀ k, k ∈ fp g rs → ∃ cs t, w.heap[k]? = some (.cells cs t (0, 0)) ∧ t ≠ 28 ∧ t ≠ 3 := fun k hk => by
  rcases fp_mem.mp hk with rfl | hk
  · exact ⟨_, _, h.sl.head, TL.ne (by decide) (by decide), TL.ne (by decide) (by decide)⟩
  · obtain ⟨x, hx, rfl⟩ := List.mem_map.mp hk
    obtain ⟨cs, hc⟩ := h.sl.chain.mem x hx
    exact ⟨cs, _, hc, by decide, by decide⟩
theorem R28_keep {w w' : World} {base : Nat} {v : Value} {xs : List S28} (h : Kd.R k28 28 w base (fun _ => True) v xs) (hk : ∀ (k : Nat) (cs : Array Value), w.heap[k]? = some (.cells cs 28 (0, 0)) → w'.heap[k]? = w.heap[k]?) : Kd.R k28 28 w' base (fun _ => True) v xs := by
  refine Kd.R_mono (Kd.R_step (Kd.R_bound h) (fun k ho _ => ?_)) (fun _ _ => trivial)
  obtain ⟨_, _, _, q, hq, cells, hc⟩ := ho
  have hq28 : q = 28 := by
    rcases List.mem_cons.mp hq with e | e
    · exact e
    · exact absurd e (by have : k28.E = [] := rfl; rw [this]; simp)
  subst hq28
  exact hk k cells hc
/-- A block of a row's type stays where a list takes a row. -/
theorem put_28 {TL : Tl} {w w' : World} {g go h : Nat} {rs rs' : List Nd} {r : S28} {cs : Array Value} (hs : Sk TL w g rs) (hp : Put TL w w' g rs r h rs') (hc : w.heap[go]? = some (.cells cs 28 (0, 0))) : w'.heap[go]? = w.heap[go]? := by
  have hn : go ∉ fp g rs := fun hm => by
    obtain ⟨cs', t, h1, h2, _⟩ := sk_typed hs go hm
    rw [hc] at h1
    cases h1
    exact h2 rfl
  exact hp.kp.same go (blk_lt hc) (fun e => hn (fp_mem.mpr (.inl e))) (fun e => hn (fp_mem.mpr (.inr e)))
theorem g_ne {TL : Tl} {w : World} {g go : Nat} {rs : List Nd} {cs : Array Value} (hs : Sk TL w g rs) (hc : w.heap[go]? = some (.cells cs 28 (0, 0))) : go ≠ g := fun e => by
  subst e
  have h1 := hs.sl.head
  rw [hc] at h1
  have h2 := Option.some.inj h1
  injection h2 with _ h3 _
  exact TL.ne (by decide) (by decide) h3.symm
theorem R28_set {TL : Tl} {w : World} {g j base : Nat} {rs : List Nd} {u v : Value} {xs : List S28} (hs : Sk TL w g rs) (h : Kd.R k28 28 w base (fun _ => True) v xs) : Kd.R k28 28 (w.setCell ⟨g, j, none⟩ u) base (fun _ => True) v xs :=
  R28_keep h fun k cs hc => Below.heap_setCell w ⟨g, j, none⟩ u k (g_ne hs hc)
theorem runT_len (R : List S28) (hs : List Int) (t : Ts) : ∀ i, (runT R hs t i).l.length ≤ t.l.length + i
  | 0 => Nat.le_refl _
  | i + 1 => by
    have h1 := runT_len R hs t i
    have h2 := putV_len (R.getD i z28) (clampH (hAt hs i)) (runT R hs t i).l
    rw [runT, stepT]
    show (putV _ _ _).length ≤ _
    omega
theorem runT_room {R : List S28} {hs : List Int} {t : Ts} (hsz : ∀ r, r ∈ R → r.f0.size ≤ 1000000 ∧ r.f3.size ≤ 1000000) : ∀ i, i ≤ R.length → t.room ≤ (runT R hs t i).room ∧ (runT R hs t i).room ≤ t.room + i * 2000016
  | 0, _ => by rw [runT]; omega
  | i + 1, h => by
    have h1 := runT_room (hs := hs) (t := t) hsz i (by omega)
    have e : R.getD i z28 = R[i] := by rw [List.getD_eq_getElem?_getD, List.getElem?_eq_getElem (by omega)]; rfl
    have h2 := hsz R[i] (List.getElem_mem _)
    rw [runT, stepT, e]
    show t.room ≤ (runT R hs t i).room + _ ∧ (runT R hs t i).room + _ ≤ _
    omega
set_option maxHeartbeats 8000000 in
set_option maxRecDepth 100000 in
theorem add_tab (w : World) (g : Nat) (rs : List Nd) (room least greatest : Int) (h : Sk (tabT room least greatest) w g rs) (n0 : Int) (A0 : Option Addr) (c0 : Nat) (l0 : List S72) (hC0 : k72.C w A0 l0.length l0) (hc0 : l0.length ≤ c0) (A1 : Option Addr) (c1 : Nat) (hs : List Int)
    (hH : ∀ w', (∀ k, k < w.heap.size → k ∉ fp g rs → w'.heap[k]? = w.heap[k]?) → (Kd.int .i64).C w' A1 hs.length hs) (f : Int) (kf : Nat) (hf : batch_Check.f kf n0 l0 = some f) (R : List S28) (hR : f = 0 → ∃ kr, batch_Rows.f kr n0 l0 = some R)
    (hsz : ∀ r, r ∈ R → r.f0.size ≤ 1000000 ∧ r.f3.size ≤ 1000000) (hroom : 0 ≤ room ∧ room ≤ 1000000000000) (hlen : rs.length ≤ 500000) (hRl : R.length ≤ 1000) :
    Calls Try.prog 49 #[.pointer (some ⟨g, 0, none⟩), .agg #[.int .u64 n0, .slice A0 l0.length c0], .slice A1 hs.length c1] w fun e w' =>
      (f ≠ 0 ∧ e = .returned (.int .i64 f) ∧ Below w.heap.size w w') ∨
      (f = 0 ∧ (∃ r, r ∈ R ∧ takenV r (vals rs) = true) ∧ e = .returned (.int .i64 2) ∧ Below w.heap.size w w') ∨
      (f = 0 ∧ (∀ r, r ∈ R → takenV r (vals rs) = false) ∧ e = .returned (.int .i64 0) ∧ ∃ rs', AddP w w' g rs (runT R hs ⟨vals rs, room, least, greatest⟩ R.length) rs') := by
  have HS := Aside0.mk h
  have HS0 := Aside0.mk h
  have HGL := Aside0.mk (show g < w.heap.size from h.lt g (fp_mem.mpr (.inl rfl)))
  have HLT := Aside0.mk h.lt
  have HC0 := Aside0.mk hC0
  have HC0c := Aside0.mk hc0
  have HH := Aside0.mk hH
  have HF := Aside0.mk hf
  have HRR := Aside0.mk hR
  have HSZ := Aside0.mk hsz
  have HRM := Aside0.mk hroom
  have HLN := Aside0.mk hlen
  have HRL := Aside0.mk hRl
  have HB := Aside0.mk (Below.refl w.heap.size w)
  clear h hC0 hc0 hH hf hR hsz hroom hlen hRl
  go_enter Try.func49, Try.ntmps49
  go_wp2_with (first | ((with_reducible refine gate_dst (N := 4) rfl ?_); refine box_event ?hg (N := 4) ?hd (cs := #[.int .u64 n0, .slice A0 l0.length c0]) (t := 58) ?hr ?_; (case hd => rfl); (case hg => rfl); (case hr => first | (go_simp; done) | (go_simp; rfl)); intro gb hg w2 hbox hb; have n0_ := Aside0.mk (below_step HB.out hb); have n1_ := Aside0.mk hbox; have n2_ := Aside0.mk (HS.out.below hb); have n3_ := Aside0.mk (Kd.C_below HC0.out hb); clear HB HS HC0; have HB := n0_; have BR := n1_; have HS := n2_; have HC0 := n3_; clear n0_ n1_ n2_ n3_; clear hb hbox hg; have b0 : w2.cell? ⟨gb, 0, none⟩ = some (.int .u64 n0) := (blk_cell BR.out 0).trans rfl; have b1 : w2.cell? ⟨gb, 1, none⟩ = some (.slice A0 l0.length c0) := (blk_cell BR.out 1).trans rfl) | fail)
  refine (none_tab HS.out).mono ?_
  rintro e w3 ⟨rfl, hb⟩
  have n0_ := Aside0.mk (below_step HB.out hb)
  have n1_ := Aside0.mk (blk_below BR.out hb)
  have n2_ := Aside0.mk (HS.out.below hb)
  have n3_ := Aside0.mk (Kd.C_below HC0.out hb)
  clear HB BR HS HC0 hb b0 b1
  have HB := n0_
  have BR := n1_
  have HS := n2_
  have HC0 := n3_
  clear n0_ n1_ n2_ n3_
  have b0 : w3.cell? ⟨gb, 0, none⟩ = some (.int .u64 n0) := (blk_cell BR.out 0).trans rfl
  have b1 : w3.cell? ⟨gb, 1, none⟩ = some (.slice A0 l0.length c0) := (blk_cell BR.out 1).trans rfl
  go_wp2_with fail
  refine (batch_Check.calls kf n0 A0 c0 l0 f w3 HC0.out HC0c.out HF.out).mono ?_
  rintro e w4 ⟨rfl, hb⟩
  have n0_ := Aside0.mk (below_step HB.out hb)
  have n1_ := Aside0.mk (blk_below BR.out hb)
  have n2_ := Aside0.mk (HS.out.below hb)
  have n3_ := Aside0.mk (Kd.C_below HC0.out hb)
  clear HB BR HS HC0 hb b0 b1
  have HB := n0_
  have BR := n1_
  have HS := n2_
  have HC0 := n3_
  clear n0_ n1_ n2_ n3_
  have b0 : w4.cell? ⟨gb, 0, none⟩ = some (.int .u64 n0) := (blk_cell BR.out 0).trans rfl
  have b1 : w4.cell? ⟨gb, 1, none⟩ = some (.slice A0 l0.length c0) := (blk_cell BR.out 1).trans rfl
  by_cases hf0 : f = 0
  · have f1 : (f == 0) = true := beq_iff_eq.mpr hf0
    have f2 : (f != 0) = false := by rw [hf0]; rfl
    have f3 : decide (f = 0) = true := decide_eq_true hf0
    have F0 := Aside0.mk hf0
    obtain ⟨kr, hkr⟩ := HRR.out hf0
    clear hf0
    go_wp2_with fail
    refine (batch_Rows.calls kr n0 A0 c0 l0 R w4 HC0.out HC0c.out hkr).mono ?_
    clear hkr f1 f2 f3
    rintro e w5 ⟨v, rfl, hRr, hb⟩
    obtain ⟨AR, cR, hv⟩ := Kd.R_slice hRr
    subst hv
    have n0_ := Aside0.mk (below_step HB.out hb)
    have n2_ := Aside0.mk (HS.out.below hb)
    have RR := Aside0.mk hRr
    have RC := Aside0.mk (Kd.R_reads' hRr).2.2
    clear HB BR HS HC0 hb b0 b1 hRr
    have HB := n0_
    have HS := n2_
    clear n0_ n2_
    go_wp2_with fail
    go_loopg [11, 12, 13, 33] R.length (fun kq v11 v12 v13 v33 w' => ∃ (i : Nat), v33 = .int .i64 (i : Int) ∧ Aside0 (kq + i = R.length) ∧ Aside0 (∀ r, r ∈ R.take i → takenV r (vals rs) = false) ∧ Aside0 (Below w5.heap.size w5 w'))
    case atStart => exact ⟨0, rfl, ⟨by omega⟩, ⟨fun r hr => by simp at hr⟩, ⟨Below.refl _ _⟩⟩
    case round =>
      obtain ⟨i, rfl, HK, HNT, HBL⟩ := hrel
      cases gk with
      | zero =>
        have ei : i = R.length := by have := HK.out; omega
        subst ei
        have d0 : decide ((R.length : Int) < (R.length : Int)) = false := by simp
        have HNT2 := Aside0.mk (show ∀ r, r ∈ R → takenV r (vals rs) = false by have h1 := HNT.out; rw [List.take_length] at h1; exact h1)
        have HA := Aside0.mk (AddP.refl HS0.out (below_step HB.out HBL.out))
        have HO := Aside0.mk (Kd.R_below RR.out HBL.out)
        clear HNT HBL HK RR RC HS HB
        go_wp2_with fail
        go_loopg [14, 15, 16, 64] R.length (fun kq v14 v15 v16 v64 w' => ∃ (i : Nat) (rs1 : List Nd), v64 = .int .i64 (i : Int) ∧ Aside0 (kq + i = R.length) ∧ Aside0 (Kd.R k28 28 w' w4.heap.size (fun _ => True) (.slice AR R.length cR) R) ∧ Aside0 (AddP w w' g rs (runT R hs ⟨vals rs, room, least, greatest⟩ i) rs1))
        case atStart => exact ⟨0, rs, rfl, ⟨by omega⟩, HO, HA⟩
        case round =>
          clear HO HA
          obtain ⟨i, rs1, rfl, HK, HO, HA⟩ := hrel
          cases gk with
          | zero =>
            have ei : i = R.length := by have := HK.out; omega
            subst ei
            have d0 : decide ((R.length : Int) < (R.length : Int)) = false := by simp
            go_wp2_with fail
            go_ret
            exact .inr (.inr ⟨F0.out, HNT2.out, rfl, rs1, HA.out⟩)
          | succ q =>
            have hi : i < R.length := by have := HK.out; omega
            have d0 : decide ((i : Int) < (R.length : Int)) = true := decide_eq_true (by omega)
            have d1 : decide (i < R.length) = true := decide_eq_true hi
            have p0 : 0 ≤ (i : Int) := Int.natCast_nonneg _
            have p1 : (i : Int) < (R.length : Int) := Int.ofNat_lt.mpr hi
            obtain ⟨ad, x, ea, hxx, hx0, hx1, hx2, hx3⟩ := at_row (Kd.R_reads' HO.out).2.2 i hi
            cases ea
            have XE := Aside0.mk hxx
            have XM := Aside0.mk (show x ∈ R by rw [← hxx, List.getD_eq_getElem?_getD, List.getElem?_eq_getElem hi]; exact List.getElem_mem _)
            have R1L := Aside0.mk (show rs1.length ≤ 501000 by have h1 := runT_len R hs ⟨vals rs, room, least, greatest⟩ i; rw [← HA.out.val, vals_len] at h1; have h2 : (vals rs).length = rs.length := vals_len rs; have h3 := HLN.out; have h4 := HRL.out; have h5 : (Ts.l ⟨vals rs, room, least, greatest⟩).length = (vals rs).length := rfl; omega)
            have RMB := Aside0.mk (show 0 ≤ (runT R hs ⟨vals rs, room, least, greatest⟩ i).room ∧ (runT R hs ⟨vals rs, room, least, greatest⟩ i).room ≤ 1000000000000 + i * 2000016 by have h1 := runT_room (hs := hs) (t := ⟨vals rs, room, least, greatest⟩) HSZ.out i (by omega); have h2 := HRM.out; have h3 : Ts.room ⟨vals rs, room, least, greatest⟩ = room := rfl; omega)
            obtain ⟨t, ht⟩ : ∃ t, t = runT R hs ⟨vals rs, room, least, greatest⟩ i := ⟨_, rfl⟩
            have HTT := Aside0.mk ht
            rw [← ht] at HA RMB
            clear ht hxx
            have hal := (Below.refl wr.heap.size wr).alloc (Nat.le_refl _) (.cells #[.string x.f0, .int .u64 x.f1, .int .i64 x.f2, .string x.f3] 28)
            have n0_ := Aside0.mk (HA.out.below hal)
            have n1_ := Aside0.mk (Kd.R_below HO.out hal)
            have BO := Aside0.mk (blk_new wr (.cells #[.string x.f0, .int .u64 x.f1, .int .i64 x.f2, .string x.f3] 28))
            obtain ⟨a, ha_⟩ : ∃ a, x.f0.size + x.f3.size = a := ⟨_, rfl⟩
            obtain ⟨b, hb_⟩ : ∃ b, a + 16 = b := ⟨_, rfl⟩
            obtain ⟨room2, hr2_⟩ : ∃ v, t.room + (b : Int) = v := ⟨_, rfl⟩
            have HSX := Aside0.mk (HSZ.out x XM.out)
            have HR2 := Aside0.mk (show t.room + ((x.f0.size + x.f3.size + 16 : Nat) : Int) = room2 by rw [ha_, hb_]; exact hr2_)
            have e1 : True → (x.f0.size : Int) + (x.f3.size : Int) = (a : Int) := fun _ => by omega
            have e2 : True → (a : Int) + 16 = (b : Int) := fun _ => by omega
            have e3 : True → t.room + (b : Int) = room2 := fun _ => hr2_
            have e4 : True → wrap64 (a : Int) = (a : Int) := fun _ => by have := HSX.out; unfold wrap64; omega
            have e5 : True → wrap64 (b : Int) = (b : Int) := fun _ => by have := HSX.out; unfold wrap64; omega
            have e6 : True → wrap64 room2 = room2 := fun _ => by have h1 := HSX.out; have h2 := RMB.out; have h3 := HRL.out; unfold wrap64; omega
            have e7 : True → IntKind.i64.wrap (a : Int) = (a : Int) := fun h => by rw [i64_w]; exact e4 h
            have e8 : True → IntKind.i64.wrap (b : Int) = (b : Int) := fun h => by rw [i64_w]; exact e5 h
            have e9 : True → IntKind.i64.wrap room2 = room2 := fun h => by rw [i64_w]; exact e6 h
            clear ha_ hb_ hr2_ HO
            by_cases ch : i < hs.length
            · have d2 : decide ((i : Int) < (hs.length : Int)) = true := decide_eq_true (by omega)
              have d3 : decide (i < hs.length) = true := decide_eq_true ch
              have p2 : (i : Int) < (hs.length : Int) := by omega
              obtain ⟨ad1, ea1, hy⟩ := at_int (HH.out (wr.alloc (.cells #[.string x.f0, .int .u64 x.f1, .int .i64 x.f2, .string x.f3] 28)) (fun k hk hn => n0_.out.kp.same k hk (fun e => hn (fp_mem.mpr (.inl e))) (fun e => hn (fp_mem.mpr (.inr e))))) i ch
              cases ea1
              obtain ⟨hv, hhv⟩ : ∃ hv, hAt hs i = hv := ⟨_, rfl⟩
              rw [hhv] at hy
              have HVV := Aside0.mk hhv
              clear HA hhv hal
              go_wp2_with fail
              clear hx0 hx1 hx2 hx3 hy
              generalize wr.heap.size = go at *
              generalize wr.alloc (.cells #[.string x.f0, .int .u64 x.f1, .int .i64 x.f2, .string x.f3] 28) = w6 at *
              have HA := n0_
              have HO := n1_
              clear n0_ n1_
              refine start_ (n := 7) (S := fun w' => w'.heap[go]? = some (.cells #[.string x.f0, .int .u64 x.f1, .int .i64 x.f2, .string x.f3] 28 (0, 0))) (ds := []) #[false, false, false, false, false, false, false] (by kernel_rfl) rfl rfl (blk_drew BO.out) (fun hHeld => ?_)
              have n0_ : Aside0 (AddP w w6.drew g rs t rs1) := Aside0.mk (HA.out.below (pw_below_drewN (Below.refl _ _) 1))
              have n1_ : Aside0 (Kd.R k28 28 w6.drew w4.heap.size (fun _ => True) (.slice (some ad) R.length cR) R) := Aside0.mk (Kd.R_below HO.out (pw_below_drewN (Below.refl _ _) 1))
              clear HA HO BO
              generalize w6.drew = w7 at *
              have HA := n0_
              have HO := n1_
              clear n0_ n1_
              -- 0: Op.move t0
              refine pure_ (i := 0) (N := (some 77)) (v := ?_) (a' := ?_) #[true, false, false, false, false, false, false] rfl rfl (by kernel_rfl) (fun _ _ _ h => h) (Or.inl ⟨by rfl, ?_⟩) ?_ ?_
              rotate_left
              · intro w'
                go_simp
                with_reducible rfl
              rotate_left
              · simp only [Act.put, List.setIfInBounds_toArray, List.set_cons_zero, List.set_cons_succ, i64_w, i32_w]
                rfl
              -- 1: Op.nilCheck t77
              refine pure_ (i := 1) (N := (some 78)) (v := ?_) (a' := ?_) #[true, true, false, false, false, false, false] rfl rfl (by kernel_rfl) (fun _ _ _ h => h) (Or.inl ⟨by rfl, ?_⟩) ?_ ?_
              rotate_left
              · intro w'
                go_simp
                with_reducible rfl
              rotate_left
              · simp only [Act.put, List.setIfInBounds_toArray, List.set_cons_zero, List.set_cons_succ, i64_w, i32_w]
                rfl
              -- 2: Op.fieldAddr 94 t78 0
              refine pure_ (i := 2) (N := (some 79)) (v := ?_) (a' := ?_) #[true, true, true, false, false, false, false] rfl rfl (by kernel_rfl) (fun _ _ _ h => h) (Or.inl ⟨by rfl, ?_⟩) ?_ ?_
              rotate_left
              · intro w'
                go_simp
                with_reducible rfl
              rotate_left
              · simp only [Act.put, List.setIfInBounds_toArray, List.set_cons_zero, List.set_cons_succ, i64_w, i32_w]
                rfl
              -- 3: Op.fieldAddr 92 t79 0
              refine pure_ (i := 3) (N := (some 80)) (v := ?_) (a' := ?_) #[true, true, true, true, false, false, false] rfl rfl (by kernel_rfl) (fun _ _ _ h => h) (Or.inl ⟨by rfl, ?_⟩) ?_ ?_
              rotate_left
              · intro w'
                go_simp
                with_reducible rfl
              rotate_left
              · simp only [Act.put, List.setIfInBounds_toArray, List.set_cons_zero, List.set_cons_succ, i64_w, i32_w]
                rfl
              -- 4: Op.load 28 t15
              refine take_ (i := 4) (N := (some 81)) (v := ?_) (a' := ?_) #[true, true, true, true, true, false, false] rfl rfl (by kernel_rfl) (fun _ _ _ h => h) (Or.inl ⟨by rfl, ?_⟩) hHeld ?_ ?_
              rotate_left
              · rintro w' s0
                have z0 : w'.cell? ⟨go, 0, none⟩ = some (.string x.f0) := (blk_cell s0 0).trans rfl
                have z1 : w'.cell? ⟨go, 1, none⟩ = some (.int .u64 x.f1) := (blk_cell s0 1).trans rfl
                have z2 : w'.cell? ⟨go, 2, none⟩ = some (.int .i64 x.f2) := (blk_cell s0 2).trans rfl
                have z3 : w'.cell? ⟨go, 3, none⟩ = some (.string x.f3) := (blk_cell s0 3).trans rfl
                go_simp
                with_reducible rfl
              rotate_left
              · simp only [Act.put, List.setIfInBounds_toArray, List.set_cons_zero, List.set_cons_succ, i64_w, i32_w]
                rfl
              -- 5: Op.move t16
              refine pure_ (i := 5) (N := (some 82)) (v := ?_) (a' := ?_) #[true, true, true, true, true, true, false] rfl rfl (by kernel_rfl) (fun _ _ _ h => h) (Or.inl ⟨by rfl, ?_⟩) ?_ ?_
              rotate_left
              · intro w'
                go_simp
                with_reducible rfl
              rotate_left
              · simp only [Act.put, List.setIfInBounds_toArray, List.set_cons_zero, List.set_cons_succ, i64_w, i32_w]
                rfl
              -- 6: Op.call { value (Operand.func 21), args := #[t80, t81, t82], argTypes := #[34, 28, 3] }
              refine one_ (i := 6) (N := (some 83)) #[true, true, true, true, true, true, true] rfl rfl (by kernel_rfl) (by decide) (fun K hK => ?_)
              refine goes_ Try.func21 (by kernel_rfl) rfl #[.pointer (some ⟨g, 0, none⟩), .agg #[.string x.f0, .int .u64 x.f1, .int .i64 x.f2, .string x.f3], .int .i64 (hv)] (by rfl) rfl rfl (by (try simp only [List.map_toArray, List.map_cons, List.map_nil]); first | done | rfl) ?_
              with_reducible refine (put_val w7 g rs1 x (hv) HA.out.sk (by have := R1L.out; omega)).mono ?_
              rintro e w8 ⟨rfl, rs2, hp⟩
              refine ⟨_, rfl, ?_⟩
              have hOld := hHeld
              clear hHeld
              refine hK.out _ _ ((put_28 HA.out.sk hp hOld).trans hOld) (fun hHeld => ?_)
              clear hOld hK K
              refine norm_ (a' := ?_) ?_ ?_
              rotate_left
              · show Act.put _ (some 83) _ = _
                simp only [Act.put, List.setIfInBounds_toArray, List.set_cons_zero, List.set_cons_succ, i64_w, i32_w]
                rfl
              refine done_ (by kernel_rfl) ?_
              have n0_ := Aside0.mk (HA.out.put HGL.out hp)
              have n1_ : Aside0 (Kd.R k28 28 w8 w4.heap.size (fun _ => True) (.slice (some ad) R.length cR) R) := Aside0.mk (R28_keep HO.out (fun k cs hc => put_28 HA.out.sk hp hc))
              have BO := Aside0.mk hHeld
              clear HA HO hp hHeld
              have HA := n0_
              have HO := n1_
              clear n0_ n1_
              go_wp2_with fail
              refine start_ (n := 16) (S := fun w' => w'.cell? ⟨g, 19, none⟩ = some (.int .i64 t.room) ∧ w'.cell? ⟨go, 0, none⟩ = some (.string x.f0) ∧ w'.cell? ⟨go, 3, none⟩ = some (.string x.f3)) (ds := [15]) #[false, false, false, false, false, false, false, false, false, false, false, false, false, false, false, false] (by kernel_rfl) rfl rfl ⟨(tab_cells HA.out.sk).2.1, (blk_cell BO.out 0).trans rfl, (blk_cell BO.out 3).trans rfl⟩ (fun hHeld => ?_)
              have n0_ := Aside0.mk (HA.out.below (pw_below_drewN (Below.refl _ _) 1))
              have n1_ : Aside0 (Kd.R k28 28 w8.drew w4.heap.size (fun _ => True) (.slice (some ad) R.length cR) R) := Aside0.mk (Kd.R_below HO.out (pw_below_drewN (Below.refl _ _) 1))
              have n2_ : Aside0 (w8.drew.heap[go]? = some (.cells #[.string x.f0, .int .u64 x.f1, .int .i64 x.f2, .string x.f3] 28 (0, 0))) := Aside0.mk (blk_drew BO.out)
              replace n0_ : Aside0 (AddP w w8.drew g rs ⟨putV x (clampH hv) t.l, t.room, t.least, t.greatest⟩ rs2) := n0_
              clear HA HO BO
              generalize w8.drew = w9 at *
              have HA := n0_
              have HO := n1_
              have BO := n2_
              clear n0_ n1_ n2_
              -- 0: Op.move t0
              refine pure_ (i := 0) (N := (some 84)) (v := ?_) (a' := ?_) #[true, false, false, false, false, false, false, false, false, false, false, false, false, false, false, false] rfl rfl (by kernel_rfl) (fun _ _ _ h => h) (Or.inl ⟨by rfl, ?_⟩) ?_ ?_
              rotate_left
              · intro w'
                go_simp
                with_reducible rfl
              rotate_left
              · simp only [Act.put, List.setIfInBounds_toArray, List.set_cons_zero, List.set_cons_succ, i64_w, i32_w]
                rfl
              -- 1: Op.nilCheck t84
              refine pure_ (i := 1) (N := (some 85)) (v := ?_) (a' := ?_) #[true, true, false, false, false, false, false, false, false, false, false, false, false, false, false, false] rfl rfl (by kernel_rfl) (fun _ _ _ h => h) (Or.inl ⟨by rfl, ?_⟩) ?_ ?_
              rotate_left
              · intro w'
                go_simp
                with_reducible rfl
              rotate_left
              · simp only [Act.put, List.setIfInBounds_toArray, List.set_cons_zero, List.set_cons_succ, i64_w, i32_w]
                rfl
              -- 2: Op.fieldAddr 94 t85 1
              refine pure_ (i := 2) (N := (some 86)) (v := ?_) (a' := ?_) #[true, true, true, false, false, false, false, false, false, false, false, false, false, false, false, false] rfl rfl (by kernel_rfl) (fun _ _ _ h => h) (Or.inl ⟨by rfl, ?_⟩) ?_ ?_
              rotate_left
              · intro w'
                go_simp
                with_reducible rfl
              rotate_left
              · simp only [Act.put, List.setIfInBounds_toArray, List.set_cons_zero, List.set_cons_succ, i64_w, i32_w]
                rfl
              -- 3: Op.load 3 t86
              refine take_ (i := 3) (N := (some 87)) (v := ?_) (a' := ?_) #[true, true, true, true, false, false, false, false, false, false, false, false, false, false, false, false] rfl rfl (by kernel_rfl) (fun _ _ _ h => h) (Or.inl ⟨by rfl, ?_⟩) hHeld ?_ ?_
              rotate_left
              · rintro w' ⟨s0, s1, s2⟩
                go_simp
                with_reducible rfl
              rotate_left
              · simp only [Act.put, List.setIfInBounds_toArray, List.set_cons_zero, List.set_cons_succ, i64_w, i32_w]
                rfl
              -- 4: Op.fieldAddr 28 t15 0
              refine pure_ (i := 4) (N := (some 88)) (v := ?_) (a' := ?_) #[true, true, true, true, true, false, false, false, false, false, false, false, false, false, false, false] rfl rfl (by kernel_rfl) (fun _ _ _ h => h) (Or.inl ⟨by rfl, ?_⟩) ?_ ?_
              rotate_left
              · intro w'
                go_simp
                with_reducible rfl
              rotate_left
              · simp only [Act.put, List.setIfInBounds_toArray, List.set_cons_zero, List.set_cons_succ, i64_w, i32_w]
                rfl
              -- 5: Op.load 9 t88
              refine take_ (i := 5) (N := (some 89)) (v := ?_) (a' := ?_) #[true, true, true, true, true, true, false, false, false, false, false, false, false, false, false, false] rfl rfl (by kernel_rfl) (fun _ _ _ h => h) (Or.inl ⟨by rfl, ?_⟩) hHeld ?_ ?_
              rotate_left
              · rintro w' ⟨s0, s1, s2⟩
                go_simp
                with_reducible rfl
              rotate_left
              · simp only [Act.put, List.setIfInBounds_toArray, List.set_cons_zero, List.set_cons_succ, i64_w, i32_w]
                rfl
              -- 6: Op.call { builtin len, args := #[t89], argTypes := #[9] }
              refine pure_ (i := 6) (N := (some 90)) (v := ?_) (a' := ?_) #[true, true, true, true, true, true, true, false, false, false, false, false, false, false, false, false] rfl rfl (by kernel_rfl) (fun _ _ _ h => h) (Or.inl ⟨by rfl, ?_⟩) ?_ ?_
              rotate_left
              · intro w'
                go_simp
                with_reducible rfl
              rotate_left
              · simp only [Act.put, List.setIfInBounds_toArray, List.set_cons_zero, List.set_cons_succ, i64_w, i32_w]
                rfl
              -- 7: Op.fieldAddr 28 t15 3
              refine pure_ (i := 7) (N := (some 91)) (v := ?_) (a' := ?_) #[true, true, true, true, true, true, true, true, false, false, false, false, false, false, false, false] rfl rfl (by kernel_rfl) (fun _ _ _ h => h) (Or.inl ⟨by rfl, ?_⟩) ?_ ?_
              rotate_left
              · intro w'
                go_simp
                with_reducible rfl
              rotate_left
              · simp only [Act.put, List.setIfInBounds_toArray, List.set_cons_zero, List.set_cons_succ, i64_w, i32_w]
                rfl
              -- 8: Op.load 9 t91
              refine take_ (i := 8) (N := (some 92)) (v := ?_) (a' := ?_) #[true, true, true, true, true, true, true, true, true, false, false, false, false, false, false, false] rfl rfl (by kernel_rfl) (fun _ _ _ h => h) (Or.inl ⟨by rfl, ?_⟩) hHeld ?_ ?_
              rotate_left
              · rintro w' ⟨s0, s1, s2⟩
                go_simp
                with_reducible rfl
              rotate_left
              · simp only [Act.put, List.setIfInBounds_toArray, List.set_cons_zero, List.set_cons_succ, i64_w, i32_w]
                rfl
              -- 9: Op.call { builtin len, args := #[t92], argTypes := #[9] }
              refine pure_ (i := 9) (N := (some 93)) (v := ?_) (a' := ?_) #[true, true, true, true, true, true, true, true, true, true, false, false, false, false, false, false] rfl rfl (by kernel_rfl) (fun _ _ _ h => h) (Or.inl ⟨by rfl, ?_⟩) ?_ ?_
              rotate_left
              · intro w'
                go_simp
                with_reducible rfl
              rotate_left
              · simp only [Act.put, List.setIfInBounds_toArray, List.set_cons_zero, List.set_cons_succ, i64_w, i32_w]
                rfl
              -- 10: Op.binOp BinOp.add 3 t90 t93 3
              refine pure_ (i := 10) (N := (some 94)) (v := ?_) (a' := ?_) #[true, true, true, true, true, true, true, true, true, true, true, false, false, false, false, false] rfl rfl (by kernel_rfl) (fun _ _ _ h => h) (Or.inl ⟨by rfl, ?_⟩) ?_ ?_
              rotate_left
              · intro w'
                go_simp
                with_reducible rfl
              rotate_left
              · simp only [Act.put, List.setIfInBounds_toArray, List.set_cons_zero, List.set_cons_succ, i64_w, i32_w]
                rfl
              -- 11: Op.binOp BinOp.add 3 t94 (const (16:i64)) 3
              refine pure_ (i := 11) (N := (some 95)) (v := ?_) (a' := ?_) #[true, true, true, true, true, true, true, true, true, true, true, true, false, false, false, false] rfl rfl (by kernel_rfl) (fun _ _ _ h => h) (Or.inl ⟨by rfl, ?_⟩) ?_ ?_
              rotate_left
              · intro w'
                go_simp
                with_reducible rfl
              rotate_left
              · simp only [Act.put, List.setIfInBounds_toArray, List.set_cons_zero, List.set_cons_succ, i64_w, i32_w]
                rfl
              -- 12: Op.binOp BinOp.add 3 t87 t95 3
              refine pure_ (i := 12) (N := (some 96)) (v := ?_) (a' := ?_) #[true, true, true, true, true, true, true, true, true, true, true, true, true, false, false, false] rfl rfl (by kernel_rfl) (fun _ _ _ h => h) (Or.inl ⟨by rfl, ?_⟩) ?_ ?_
              rotate_left
              · intro w'
                go_simp
                with_reducible rfl
              rotate_left
              · simp only [Act.put, List.setIfInBounds_toArray, List.set_cons_zero, List.set_cons_succ, i64_w, i32_w]
                rfl
              -- 13: Op.nilCheck t84
              refine pure_ (i := 13) (N := (some 97)) (v := ?_) (a' := ?_) #[true, true, true, true, true, true, true, true, true, true, true, true, true, true, false, false] rfl rfl (by kernel_rfl) (fun _ _ _ h => h) (Or.inl ⟨by rfl, ?_⟩) ?_ ?_
              rotate_left
              · intro w'
                go_simp
                with_reducible rfl
              rotate_left
              · simp only [Act.put, List.setIfInBounds_toArray, List.set_cons_zero, List.set_cons_succ, i64_w, i32_w]
                rfl
              -- 14: Op.fieldAddr 94 t97 1
              refine pure_ (i := 14) (N := (some 98)) (v := ?_) (a' := ?_) #[true, true, true, true, true, true, true, true, true, true, true, true, true, true, true, false] rfl rfl (by kernel_rfl) (fun _ _ _ h => h) (Or.inl ⟨by rfl, ?_⟩) ?_ ?_
              rotate_left
              · intro w'
                go_simp
                with_reducible rfl
              rotate_left
              · simp only [Act.put, List.setIfInBounds_toArray, List.set_cons_zero, List.set_cons_succ, i64_w, i32_w]
                rfl
              have hfz : w9.frozen? ⟨g, 19, none⟩ = false := blk_frozen HA.out.sk.sl.head 19
              have hcz := hHeld.1
              -- 15: Op.store 3 t98 t96
              refine last_ (i := 15) (N := none) #[true, true, true, true, true, true, true, true, true, true, true, true, true, true, true, true] rfl rfl (by kernel_rfl) (by decide) (fun K hK => ?_)
              refine skip_ (w1 := w9.setCell ⟨g, 19, none⟩ (.int .i64 room2)) (by rfl) rfl (by go_simp) ?_
              clear hHeld
              refine hK.out _ _ ?_
              clear hK K
              refine done_ (by kernel_rfl) ?_
              have n0_ := Aside0.mk (HA.out.room room2)
              have n1_ : Aside0 (Kd.R k28 28 (w9.setCell ⟨g, 19, none⟩ (.int .i64 room2)) w4.heap.size (fun _ => True) (.slice (some ad) R.length cR) R) := Aside0.mk (R28_set HA.out.sk HO.out)
              have n2_ := Aside0.mk (show (w9.setCell ⟨g, 19, none⟩ (.int .i64 room2)).heap[go]? = some (.cells #[.string x.f0, .int .u64 x.f1, .int .i64 x.f2, .string x.f3] 28 (0, 0)) from (Below.heap_setCell w9 ⟨g, 19, none⟩ _ go (g_ne HA.out.sk BO.out)).trans BO.out)
              clear HA HO BO hfz hcz
              generalize w9.setCell ⟨g, 19, none⟩ (.int .i64 room2) = w10 at *
              have HA := n0_
              have HO := n1_
              have BO := n2_
              clear n0_ n1_ n2_
              have l20 := (tab_cells HA.out.sk).2.2.1
              by_cases hz : t.least = 0
              · have g0 : (t.least == 0) = true := beq_iff_eq.mpr hz
                have g1 : decide (t.least = 0) = true := decide_eq_true hz
                obtain ⟨lv, hlv⟩ : ∃ lv, (if t.least = 0 then x.f1 else t.least) = lv := ⟨_, rfl⟩
                have HLV := Aside0.mk hlv
                have HX1 := Aside0.mk (show x.f1 = lv by rw [← hlv, if_pos hz])
                have f20 : w10.frozen? ⟨g, 20, none⟩ = false := blk_frozen HA.out.sk.sl.head 20
                have o1 : w10.cell? ⟨go, 1, none⟩ = some (.int .u64 x.f1) := (blk_cell BO.out 1).trans rfl
                have n0_ := Aside0.mk (HA.out.least x.f1)
                have n1_ : Aside0 (Kd.R k28 28 (w10.setCell ⟨g, 20, none⟩ (.int .u64 x.f1)) w4.heap.size (fun _ => True) (.slice (some ad) R.length cR) R) := Aside0.mk (R28_set HA.out.sk HO.out)
                have n2_ := Aside0.mk (show (w10.setCell ⟨g, 20, none⟩ (.int .u64 x.f1)).heap[go]? = some (.cells #[.string x.f0, .int .u64 x.f1, .int .i64 x.f2, .string x.f3] 28 (0, 0)) from (Below.heap_setCell w10 ⟨g, 20, none⟩ _ go (g_ne HA.out.sk BO.out)).trans BO.out)
                clear hz hlv HA HO BO
                go_wp2_with fail
                clear l20 f20 o1 g0 g1
                generalize w10.setCell ⟨g, 20, none⟩ (.int .u64 x.f1) = w11 at *
                have HA := n0_
                have HO := n1_
                have BO := n2_
                clear n0_ n1_ n2_
                rw [HX1.out] at HA
                obtain ⟨lv2, hlv2⟩ : ∃ v, v = (if x.f1 < lv then x.f1 else lv) := ⟨_, rfl⟩
                obtain ⟨gv2, hgv2⟩ : ∃ v, v = (if t.greatest < x.f1 then x.f1 else t.greatest) := ⟨_, rfl⟩
                have LV2 := Aside0.mk (show mn lv x.f1 = lv2 by rw [hlv2]; rfl)
                have GV2 := Aside0.mk (show mx t.greatest x.f1 = gv2 by rw [hgv2]; rfl)
                have u1 : True → (if x.f1 < lv then x.f1 else lv) = lv2 := fun _ => hlv2.symm
                have u2 : True → (if t.greatest < x.f1 then x.f1 else t.greatest) = gv2 := fun _ => hgv2.symm
                clear hlv2 hgv2
                go_wp2_with fail
                refine start_ (n := 22) (S := fun w' => w'.cell? ⟨g, 20, none⟩ = some (.int .u64 lv) ∧ w'.cell? ⟨g, 21, none⟩ = some (.int .u64 t.greatest) ∧ w'.cell? ⟨go, 1, none⟩ = some (.int .u64 x.f1)) (ds := [18, 21]) #[false, false, false, false, false, false, false, false, false, false, false, false, false, false, false, false, false, false, false, false, false, false] (by kernel_rfl) rfl rfl ⟨(tab_cells HA.out.sk).2.2.1, (tab_cells HA.out.sk).2.2.2, (blk_cell BO.out 1).trans rfl⟩ (fun hHeld => ?_)
                have n0_ := Aside0.mk (HA.out.below (pw_below_drewN (Below.refl _ _) 1))
                have n1_ : Aside0 (Kd.R k28 28 w11.drew w4.heap.size (fun _ => True) (.slice (some ad) R.length cR) R) := Aside0.mk (Kd.R_below HO.out (pw_below_drewN (Below.refl _ _) 1))
                have n2_ : Aside0 (w11.drew.heap[go]? = some (.cells #[.string x.f0, .int .u64 x.f1, .int .i64 x.f2, .string x.f3] 28 (0, 0))) := Aside0.mk (blk_drew BO.out)
                replace n0_ : Aside0 (AddP w w11.drew g rs ⟨putV x (clampH hv) t.l, room2, lv, t.greatest⟩ rs2) := n0_
                clear HA HO BO
                generalize w11.drew = w12 at *
                have HA := n0_
                have HO := n1_
                have BO := n2_
                clear n0_ n1_ n2_
                -- 0: Op.move t0
                refine pure_ (i := 0) (N := (some 109)) (v := ?_) (a' := ?_) #[true, false, false, false, false, false, false, false, false, false, false, false, false, false, false, false, false, false, false, false, false, false] rfl rfl (by kernel_rfl) (fun _ _ _ h => h) (Or.inl ⟨by rfl, ?_⟩) ?_ ?_
                rotate_left
                · intro w'
                  go_simp
                  with_reducible rfl
                rotate_left
                · simp only [Act.put, List.setIfInBounds_toArray, List.set_cons_zero, List.set_cons_succ, i64_w, i32_w]
                  rfl
                -- 1: Op.move t0
                refine pure_ (i := 1) (N := (some 110)) (v := ?_) (a' := ?_) #[true, true, false, false, false, false, false, false, false, false, false, false, false, false, false, false, false, false, false, false, false, false] rfl rfl (by kernel_rfl) (fun _ _ _ h => h) (Or.inl ⟨by rfl, ?_⟩) ?_ ?_
                rotate_left
                · intro w'
                  go_simp
                  with_reducible rfl
                rotate_left
                · simp only [Act.put, List.setIfInBounds_toArray, List.set_cons_zero, List.set_cons_succ, i64_w, i32_w]
                  rfl
                -- 2: Op.move t0
                refine pure_ (i := 2) (N := (some 111)) (v := ?_) (a' := ?_) #[true, true, true, false, false, false, false, false, false, false, false, false, false, false, false, false, false, false, false, false, false, false] rfl rfl (by kernel_rfl) (fun _ _ _ h => h) (Or.inl ⟨by rfl, ?_⟩) ?_ ?_
                rotate_left
                · intro w'
                  go_simp
                  with_reducible rfl
                rotate_left
                · simp only [Act.put, List.setIfInBounds_toArray, List.set_cons_zero, List.set_cons_succ, i64_w, i32_w]
                  rfl
                -- 3: Op.nilCheck t111
                refine pure_ (i := 3) (N := (some 112)) (v := ?_) (a' := ?_) #[true, true, true, true, false, false, false, false, false, false, false, false, false, false, false, false, false, false, false, false, false, false] rfl rfl (by kernel_rfl) (fun _ _ _ h => h) (Or.inl ⟨by rfl, ?_⟩) ?_ ?_
                rotate_left
                · intro w'
                  go_simp
                  with_reducible rfl
                rotate_left
                · simp only [Act.put, List.setIfInBounds_toArray, List.set_cons_zero, List.set_cons_succ, i64_w, i32_w]
                  rfl
                -- 4: Op.fieldAddr 94 t112 2
                refine pure_ (i := 4) (N := (some 113)) (v := ?_) (a' := ?_) #[true, true, true, true, true, false, false, false, false, false, false, false, false, false, false, false, false, false, false, false, false, false] rfl rfl (by kernel_rfl) (fun _ _ _ h => h) (Or.inl ⟨by rfl, ?_⟩) ?_ ?_
                rotate_left
                · intro w'
                  go_simp
                  with_reducible rfl
                rotate_left
                · simp only [Act.put, List.setIfInBounds_toArray, List.set_cons_zero, List.set_cons_succ, i64_w, i32_w]
                  rfl
                -- 5: Op.load 24 t113
                refine take_ (i := 5) (N := (some 114)) (v := ?_) (a' := ?_) #[true, true, true, true, true, true, false, false, false, false, false, false, false, false, false, false, false, false, false, false, false, false] rfl rfl (by kernel_rfl) (fun _ _ _ h => h) (Or.inl ⟨by rfl, ?_⟩) hHeld ?_ ?_
                rotate_left
                · rintro w' ⟨s0, s1, s2⟩
                  go_simp
                  with_reducible rfl
                rotate_left
                · simp only [Act.put, List.setIfInBounds_toArray, List.set_cons_zero, List.set_cons_succ, i64_w, i32_w]
                  rfl
                -- 6: Op.fieldAddr 28 t15 1
                refine pure_ (i := 6) (N := (some 115)) (v := ?_) (a' := ?_) #[true, true, true, true, true, true, true, false, false, false, false, false, false, false, false, false, false, false, false, false, false, false] rfl rfl (by kernel_rfl) (fun _ _ _ h => h) (Or.inl ⟨by rfl, ?_⟩) ?_ ?_
                rotate_left
                · intro w'
                  go_simp
                  with_reducible rfl
                rotate_left
                · simp only [Act.put, List.setIfInBounds_toArray, List.set_cons_zero, List.set_cons_succ, i64_w, i32_w]
                  rfl
                -- 7: Op.load 24 t115
                refine take_ (i := 7) (N := (some 116)) (v := ?_) (a' := ?_) #[true, true, true, true, true, true, true, true, false, false, false, false, false, false, false, false, false, false, false, false, false, false] rfl rfl (by kernel_rfl) (fun _ _ _ h => h) (Or.inl ⟨by rfl, ?_⟩) hHeld ?_ ?_
                rotate_left
                · rintro w' ⟨s0, s1, s2⟩
                  go_simp
                  with_reducible rfl
                rotate_left
                · simp only [Act.put, List.setIfInBounds_toArray, List.set_cons_zero, List.set_cons_succ, i64_w, i32_w]
                  rfl
                -- 8: Op.call { builtin min, args := #[t114, t116], argTypes := #[24, 24] }
                refine pure_ (i := 8) (N := (some 117)) (v := ?_) (a' := ?_) #[true, true, true, true, true, true, true, true, true, false, false, false, false, false, false, false, false, false, false, false, false, false] rfl rfl (by kernel_rfl) (fun _ _ _ h => h) (Or.inl ⟨by rfl, ?_⟩) ?_ ?_
                rotate_left
                · intro w'
                  go_simp
                  with_reducible rfl
                rotate_left
                · simp only [Act.put, List.setIfInBounds_toArray, List.set_cons_zero, List.set_cons_succ, i64_w, i32_w]
                  rfl
                -- 9: Op.move t0
                refine pure_ (i := 9) (N := (some 118)) (v := ?_) (a' := ?_) #[true, true, true, true, true, true, true, true, true, true, false, false, false, false, false, false, false, false, false, false, false, false] rfl rfl (by kernel_rfl) (fun _ _ _ h => h) (Or.inl ⟨by rfl, ?_⟩) ?_ ?_
                rotate_left
                · intro w'
                  go_simp
                  with_reducible rfl
                rotate_left
                · simp only [Act.put, List.setIfInBounds_toArray, List.set_cons_zero, List.set_cons_succ, i64_w, i32_w]
                  rfl
                -- 10: Op.nilCheck t118
                refine pure_ (i := 10) (N := (some 119)) (v := ?_) (a' := ?_) #[true, true, true, true, true, true, true, true, true, true, true, false, false, false, false, false, false, false, false, false, false, false] rfl rfl (by kernel_rfl) (fun _ _ _ h => h) (Or.inl ⟨by rfl, ?_⟩) ?_ ?_
                rotate_left
                · intro w'
                  go_simp
                  with_reducible rfl
                rotate_left
                · simp only [Act.put, List.setIfInBounds_toArray, List.set_cons_zero, List.set_cons_succ, i64_w, i32_w]
                  rfl
                -- 11: Op.fieldAddr 94 t119 3
                refine pure_ (i := 11) (N := (some 120)) (v := ?_) (a' := ?_) #[true, true, true, true, true, true, true, true, true, true, true, true, false, false, false, false, false, false, false, false, false, false] rfl rfl (by kernel_rfl) (fun _ _ _ h => h) (Or.inl ⟨by rfl, ?_⟩) ?_ ?_
                rotate_left
                · intro w'
                  go_simp
                  with_reducible rfl
                rotate_left
                · simp only [Act.put, List.setIfInBounds_toArray, List.set_cons_zero, List.set_cons_succ, i64_w, i32_w]
                  rfl
                -- 12: Op.load 24 t120
                refine take_ (i := 12) (N := (some 121)) (v := ?_) (a' := ?_) #[true, true, true, true, true, true, true, true, true, true, true, true, true, false, false, false, false, false, false, false, false, false] rfl rfl (by kernel_rfl) (fun _ _ _ h => h) (Or.inl ⟨by rfl, ?_⟩) hHeld ?_ ?_
                rotate_left
                · rintro w' ⟨s0, s1, s2⟩
                  go_simp
                  with_reducible rfl
                rotate_left
                · simp only [Act.put, List.setIfInBounds_toArray, List.set_cons_zero, List.set_cons_succ, i64_w, i32_w]
                  rfl
                -- 13: Op.fieldAddr 28 t15 1
                refine pure_ (i := 13) (N := (some 122)) (v := ?_) (a' := ?_) #[true, true, true, true, true, true, true, true, true, true, true, true, true, true, false, false, false, false, false, false, false, false] rfl rfl (by kernel_rfl) (fun _ _ _ h => h) (Or.inl ⟨by rfl, ?_⟩) ?_ ?_
                rotate_left
                · intro w'
                  go_simp
                  with_reducible rfl
                rotate_left
                · simp only [Act.put, List.setIfInBounds_toArray, List.set_cons_zero, List.set_cons_succ, i64_w, i32_w]
                  rfl
                -- 16: Op.nilCheck t109
                refine pure_ (i := 16) (N := (some 125)) (v := ?_) (a' := ?_) #[true, true, true, true, true, true, true, true, true, true, true, true, true, true, false, false, true, false, false, false, false, false] rfl rfl (by kernel_rfl) (fun _ _ _ h => h) (Or.inl ⟨by rfl, ?_⟩) ?_ ?_
                rotate_left
                · intro w'
                  go_simp
                  with_reducible rfl
                rotate_left
                · simp only [Act.put, List.setIfInBounds_toArray, List.set_cons_zero, List.set_cons_succ, i64_w, i32_w]
                  rfl
                -- 17: Op.fieldAddr 94 t125 2
                refine pure_ (i := 17) (N := (some 126)) (v := ?_) (a' := ?_) #[true, true, true, true, true, true, true, true, true, true, true, true, true, true, false, false, true, true, false, false, false, false] rfl rfl (by kernel_rfl) (fun _ _ _ h => h) (Or.inl ⟨by rfl, ?_⟩) ?_ ?_
                rotate_left
                · intro w'
                  go_simp
                  with_reducible rfl
                rotate_left
                · simp only [Act.put, List.setIfInBounds_toArray, List.set_cons_zero, List.set_cons_succ, i64_w, i32_w]
                  rfl
                have hfz : w12.frozen? ⟨g, 20, none⟩ = false := blk_frozen HA.out.sk.sl.head 20
                have hcz := hHeld.1
                have hco := hHeld.2.2
                clear hHeld
                refine mix_ (i := 14) (j := 18) (Ni := some 123) (Nj := none) (v := .int .u64 x.f1) #[true, true, true, true, true, true, true, true, true, true, true, true, true, true, true, false, true, true, false, false, false, false] #[true, true, true, true, true, true, true, true, true, true, true, true, true, true, false, false, true, true, true, false, false, false] rfl rfl rfl rfl (by kernel_rfl) (by decide) (by rfl) (by go_simp) ?_ (fun K hK => ?_)
                · refine norm_ (a' := ?_) ?_ ?_
                  rotate_left
                  · show Act.put _ (some 123) _ = _
                    simp only [Act.put, List.setIfInBounds_toArray, List.set_cons_zero, List.set_cons_succ, i64_w, i32_w]
                    rfl
                  have hHeld := True.intro
                  -- 15: Op.call { builtin max, args := #[t121, t123], argTypes := #[24, 24] }
                  refine pure_ (i := 15) (N := (some 124)) (v := ?_) (a' := ?_) #[true, true, true, true, true, true, true, true, true, true, true, true, true, true, true, true, true, true, false, false, false, false] rfl rfl (by kernel_rfl) (fun _ _ _ h => h) (Or.inl ⟨by rfl, ?_⟩) ?_ ?_
                  rotate_left
                  · intro w'
                    go_simp
                    with_reducible rfl
                  rotate_left
                  · simp only [Act.put, List.setIfInBounds_toArray, List.set_cons_zero, List.set_cons_succ, i64_w, i32_w]
                    rfl
                  -- 18
                  refine last_ (i := 18) (N := none) #[true, true, true, true, true, true, true, true, true, true, true, true, true, true, true, true, true, true, true, false, false, false] rfl rfl (by kernel_rfl) (by decide) (fun K hK => ?_)
                  clear hHeld
                  refine skip_ (w1 := w12.setCell ⟨g, 20, none⟩ (.int .u64 lv2)) (by rfl) rfl (by go_simp) ?_
                  refine hK.out _ _ ?_
                  clear hK K
                  have n0_ := Aside0.mk (HA.out.least lv2)
                  have n1_ : Aside0 (Kd.R k28 28 (w12.setCell ⟨g, 20, none⟩ (.int .u64 lv2)) w4.heap.size (fun _ => True) (.slice (some ad) R.length cR) R) := Aside0.mk (R28_set HA.out.sk HO.out)
                  have n2_ := Aside0.mk (show (w12.setCell ⟨g, 20, none⟩ (.int .u64 lv2)).heap[go]? = some (.cells #[.string x.f0, .int .u64 x.f1, .int .i64 x.f2, .string x.f3] 28 (0, 0)) from (Below.heap_setCell w12 ⟨g, 20, none⟩ _ go (g_ne HA.out.sk BO.out)).trans BO.out)
                  clear HA HO BO hfz hcz hco
                  generalize w12.setCell ⟨g, 20, none⟩ (.int .u64 lv2) = w13 at *
                  have HA := n0_
                  have HO := n1_
                  have BO := n2_
                  clear n0_ n1_ n2_
                  -- 19: Op.nilCheck t110
                  refine pure_ (i := 19) (N := (some 127)) (v := ?_) (a' := ?_) #[true, true, true, true, true, true, true, true, true, true, true, true, true, true, true, true, true, true, true, true, false, false] rfl rfl (by kernel_rfl) (fun _ _ _ h => h) (Or.inl ⟨by rfl, ?_⟩) ?_ ?_
                  rotate_left
                  · intro w'
                    go_simp
                    with_reducible rfl
                  rotate_left
                  · simp only [Act.put, List.setIfInBounds_toArray, List.set_cons_zero, List.set_cons_succ, i64_w, i32_w]
                    rfl
                  -- 20: Op.fieldAddr 94 t127 3
                  refine pure_ (i := 20) (N := (some 128)) (v := ?_) (a' := ?_) #[true, true, true, true, true, true, true, true, true, true, true, true, true, true, true, true, true, true, true, true, true, false] rfl rfl (by kernel_rfl) (fun _ _ _ h => h) (Or.inl ⟨by rfl, ?_⟩) ?_ ?_
                  rotate_left
                  · intro w'
                    go_simp
                    with_reducible rfl
                  rotate_left
                  · simp only [Act.put, List.setIfInBounds_toArray, List.set_cons_zero, List.set_cons_succ, i64_w, i32_w]
                    rfl
                  have hfz : w13.frozen? ⟨g, 21, none⟩ = false := blk_frozen HA.out.sk.sl.head 21
                  have hcz := (tab_cells HA.out.sk).2.2.2
                  have hHeld := True.intro
                  -- 21: Op.store 24 t128 t124
                  refine last_ (i := 21) (N := none) #[true, true, true, true, true, true, true, true, true, true, true, true, true, true, true, true, true, true, true, true, true, true] rfl rfl (by kernel_rfl) (by decide) (fun K hK => ?_)
                  refine skip_ (w1 := w13.setCell ⟨g, 21, none⟩ (.int .u64 gv2)) (by rfl) rfl (by go_simp) ?_
                  clear hHeld
                  refine hK.out _ _ ?_
                  clear hK K
                  have n0_ := Aside0.mk (HA.out.greatest gv2)
                  have n1_ : Aside0 (Kd.R k28 28 (w13.setCell ⟨g, 21, none⟩ (.int .u64 gv2)) w4.heap.size (fun _ => True) (.slice (some ad) R.length cR) R) := Aside0.mk (R28_set HA.out.sk HO.out)
                  clear HA HO BO hfz hcz
                  generalize w13.setCell ⟨g, 21, none⟩ (.int .u64 gv2) = w14 at *
                  have HA := n0_
                  have HO := n1_
                  clear n0_ n1_
                  refine done_ (by kernel_rfl) ?_
                  go_wp2_with fail
                  have ew : wrap64 ((i : Int) + 1) = ((i + 1 : Nat) : Int) := by have := HRL.out; unfold wrap64; omega
                  try rw [ew]
                  go_roundg q
                  case measure => omega
                  case rel => exact ⟨i + 1, rs2, rfl, ⟨by have := HK.out; omega⟩, HO, ⟨by rw [runT, XE.out, ← HTT.out, stepT, HVV.out, HLV.out, LV2.out, GV2.out, HR2.out]; exact HA.out⟩⟩
                · skip
                  refine skip_ (w1 := w12.setCell ⟨g, 20, none⟩ (.int .u64 lv2)) (by rfl) rfl (by go_simp) ?_
                  refine hK.out _ _ ?_
                  clear hK K
                  have n0_ := Aside0.mk (HA.out.least lv2)
                  have n1_ : Aside0 (Kd.R k28 28 (w12.setCell ⟨g, 20, none⟩ (.int .u64 lv2)) w4.heap.size (fun _ => True) (.slice (some ad) R.length cR) R) := Aside0.mk (R28_set HA.out.sk HO.out)
                  have n2_ := Aside0.mk (show (w12.setCell ⟨g, 20, none⟩ (.int .u64 lv2)).heap[go]? = some (.cells #[.string x.f0, .int .u64 x.f1, .int .i64 x.f2, .string x.f3] 28 (0, 0)) from (Below.heap_setCell w12 ⟨g, 20, none⟩ _ go (g_ne HA.out.sk BO.out)).trans BO.out)
                  clear HA HO BO hfz hcz hco
                  generalize w12.setCell ⟨g, 20, none⟩ (.int .u64 lv2) = w13 at *
                  have HA := n0_
                  have HO := n1_
                  have BO := n2_
                  clear n0_ n1_ n2_
                  have hco : w13.cell? ⟨go, 1, none⟩ = some (.int .u64 x.f1) := (blk_cell BO.out 1).trans rfl
                  refine here_ (i := 14) (N := some 123) (v := .int .u64 x.f1) #[true, true, true, true, true, true, true, true, true, true, true, true, true, true, true, false, true, true, true, false, false, false] rfl rfl (by kernel_rfl) (by rfl) (by go_simp) ?_
                  refine norm_ (a' := ?_) ?_ ?_
                  rotate_left
                  · show Act.put _ (some 123) _ = _
                    simp only [Act.put, List.setIfInBounds_toArray, List.set_cons_zero, List.set_cons_succ, i64_w, i32_w]
                    rfl
                  clear hco
                  -- 15: Op.call { builtin max, args := #[t121, t123], argTypes := #[24, 24] }
                  refine pure_ (i := 15) (N := (some 124)) (v := ?_) (a' := ?_) #[true, true, true, true, true, true, true, true, true, true, true, true, true, true, true, true, true, true, true, false, false, false] rfl rfl (by kernel_rfl) (fun _ _ _ h => h) (Or.inl ⟨by rfl, ?_⟩) ?_ ?_
                  rotate_left
                  · intro w'
                    go_simp
                    with_reducible rfl
                  rotate_left
                  · simp only [Act.put, List.setIfInBounds_toArray, List.set_cons_zero, List.set_cons_succ, i64_w, i32_w]
                    rfl
                  -- 19: Op.nilCheck t110
                  refine pure_ (i := 19) (N := (some 127)) (v := ?_) (a' := ?_) #[true, true, true, true, true, true, true, true, true, true, true, true, true, true, true, true, true, true, true, true, false, false] rfl rfl (by kernel_rfl) (fun _ _ _ h => h) (Or.inl ⟨by rfl, ?_⟩) ?_ ?_
                  rotate_left
                  · intro w'
                    go_simp
                    with_reducible rfl
                  rotate_left
                  · simp only [Act.put, List.setIfInBounds_toArray, List.set_cons_zero, List.set_cons_succ, i64_w, i32_w]
                    rfl
                  -- 20: Op.fieldAddr 94 t127 3
                  refine pure_ (i := 20) (N := (some 128)) (v := ?_) (a' := ?_) #[true, true, true, true, true, true, true, true, true, true, true, true, true, true, true, true, true, true, true, true, true, false] rfl rfl (by kernel_rfl) (fun _ _ _ h => h) (Or.inl ⟨by rfl, ?_⟩) ?_ ?_
                  rotate_left
                  · intro w'
                    go_simp
                    with_reducible rfl
                  rotate_left
                  · simp only [Act.put, List.setIfInBounds_toArray, List.set_cons_zero, List.set_cons_succ, i64_w, i32_w]
                    rfl
                  have hfz : w13.frozen? ⟨g, 21, none⟩ = false := blk_frozen HA.out.sk.sl.head 21
                  have hcz := (tab_cells HA.out.sk).2.2.2
                  have hHeld := True.intro
                  -- 21: Op.store 24 t128 t124
                  refine last_ (i := 21) (N := none) #[true, true, true, true, true, true, true, true, true, true, true, true, true, true, true, true, true, true, true, true, true, true] rfl rfl (by kernel_rfl) (by decide) (fun K hK => ?_)
                  refine skip_ (w1 := w13.setCell ⟨g, 21, none⟩ (.int .u64 gv2)) (by rfl) rfl (by go_simp) ?_
                  clear hHeld
                  refine hK.out _ _ ?_
                  clear hK K
                  have n0_ := Aside0.mk (HA.out.greatest gv2)
                  have n1_ : Aside0 (Kd.R k28 28 (w13.setCell ⟨g, 21, none⟩ (.int .u64 gv2)) w4.heap.size (fun _ => True) (.slice (some ad) R.length cR) R) := Aside0.mk (R28_set HA.out.sk HO.out)
                  clear HA HO BO hfz hcz
                  generalize w13.setCell ⟨g, 21, none⟩ (.int .u64 gv2) = w14 at *
                  have HA := n0_
                  have HO := n1_
                  clear n0_ n1_
                  refine done_ (by kernel_rfl) ?_
                  go_wp2_with fail
                  have ew : wrap64 ((i : Int) + 1) = ((i + 1 : Nat) : Int) := by have := HRL.out; unfold wrap64; omega
                  try rw [ew]
                  go_roundg q
                  case measure => omega
                  case rel => exact ⟨i + 1, rs2, rfl, ⟨by have := HK.out; omega⟩, HO, ⟨by rw [runT, XE.out, ← HTT.out, stepT, HVV.out, HLV.out, LV2.out, GV2.out, HR2.out]; exact HA.out⟩⟩
              · have g0 : (t.least == 0) = false := beq_eq_false_iff_ne.mpr hz
                have g1 : decide (t.least = 0) = false := decide_eq_false hz
                obtain ⟨lv, hlv⟩ : ∃ lv, (if t.least = 0 then x.f1 else t.least) = lv := ⟨_, rfl⟩
                have HLV := Aside0.mk hlv
                have HX1 := Aside0.mk (show t.least = lv by rw [← hlv, if_neg hz])
                clear hz hlv
                go_wp2_with fail
                clear l20 g0 g1
                have n0_ := HA.out
                rw [HX1.out] at n0_
                clear HA
                have HA := Aside0.mk n0_
                clear n0_
                obtain ⟨lv2, hlv2⟩ : ∃ v, v = (if x.f1 < lv then x.f1 else lv) := ⟨_, rfl⟩
                obtain ⟨gv2, hgv2⟩ : ∃ v, v = (if t.greatest < x.f1 then x.f1 else t.greatest) := ⟨_, rfl⟩
                have LV2 := Aside0.mk (show mn lv x.f1 = lv2 by rw [hlv2]; rfl)
                have GV2 := Aside0.mk (show mx t.greatest x.f1 = gv2 by rw [hgv2]; rfl)
                have u1 : True → (if x.f1 < lv then x.f1 else lv) = lv2 := fun _ => hlv2.symm
                have u2 : True → (if t.greatest < x.f1 then x.f1 else t.greatest) = gv2 := fun _ => hgv2.symm
                clear hlv2 hgv2
                go_wp2_with fail
                refine start_ (n := 22) (S := fun w' => w'.cell? ⟨g, 20, none⟩ = some (.int .u64 lv) ∧ w'.cell? ⟨g, 21, none⟩ = some (.int .u64 t.greatest) ∧ w'.cell? ⟨go, 1, none⟩ = some (.int .u64 x.f1)) (ds := [18, 21]) #[false, false, false, false, false, false, false, false, false, false, false, false, false, false, false, false, false, false, false, false, false, false] (by kernel_rfl) rfl rfl ⟨(tab_cells HA.out.sk).2.2.1, (tab_cells HA.out.sk).2.2.2, (blk_cell BO.out 1).trans rfl⟩ (fun hHeld => ?_)
                have n0_ := Aside0.mk (HA.out.below (pw_below_drewN (Below.refl _ _) 1))
                have n1_ : Aside0 (Kd.R k28 28 w10.drew w4.heap.size (fun _ => True) (.slice (some ad) R.length cR) R) := Aside0.mk (Kd.R_below HO.out (pw_below_drewN (Below.refl _ _) 1))
                have n2_ : Aside0 (w10.drew.heap[go]? = some (.cells #[.string x.f0, .int .u64 x.f1, .int .i64 x.f2, .string x.f3] 28 (0, 0))) := Aside0.mk (blk_drew BO.out)
                replace n0_ : Aside0 (AddP w w10.drew g rs ⟨putV x (clampH hv) t.l, room2, lv, t.greatest⟩ rs2) := n0_
                clear HA HO BO
                generalize w10.drew = w12 at *
                have HA := n0_
                have HO := n1_
                have BO := n2_
                clear n0_ n1_ n2_
                -- 0: Op.move t0
                refine pure_ (i := 0) (N := (some 109)) (v := ?_) (a' := ?_) #[true, false, false, false, false, false, false, false, false, false, false, false, false, false, false, false, false, false, false, false, false, false] rfl rfl (by kernel_rfl) (fun _ _ _ h => h) (Or.inl ⟨by rfl, ?_⟩) ?_ ?_
                rotate_left
                · intro w'
                  go_simp
                  with_reducible rfl
                rotate_left
                · simp only [Act.put, List.setIfInBounds_toArray, List.set_cons_zero, List.set_cons_succ, i64_w, i32_w]
                  rfl
                -- 1: Op.move t0
                refine pure_ (i := 1) (N := (some 110)) (v := ?_) (a' := ?_) #[true, true, false, false, false, false, false, false, false, false, false, false, false, false, false, false, false, false, false, false, false, false] rfl rfl (by kernel_rfl) (fun _ _ _ h => h) (Or.inl ⟨by rfl, ?_⟩) ?_ ?_
                rotate_left
                · intro w'
                  go_simp
                  with_reducible rfl
                rotate_left
                · simp only [Act.put, List.setIfInBounds_toArray, List.set_cons_zero, List.set_cons_succ, i64_w, i32_w]
                  rfl
                -- 2: Op.move t0
                refine pure_ (i := 2) (N := (some 111)) (v := ?_) (a' := ?_) #[true, true, true, false, false, false, false, false, false, false, false, false, false, false, false, false, false, false, false, false, false, false] rfl rfl (by kernel_rfl) (fun _ _ _ h => h) (Or.inl ⟨by rfl, ?_⟩) ?_ ?_
                rotate_left
                · intro w'
                  go_simp
                  with_reducible rfl
                rotate_left
                · simp only [Act.put, List.setIfInBounds_toArray, List.set_cons_zero, List.set_cons_succ, i64_w, i32_w]
                  rfl
                -- 3: Op.nilCheck t111
                refine pure_ (i := 3) (N := (some 112)) (v := ?_) (a' := ?_) #[true, true, true, true, false, false, false, false, false, false, false, false, false, false, false, false, false, false, false, false, false, false] rfl rfl (by kernel_rfl) (fun _ _ _ h => h) (Or.inl ⟨by rfl, ?_⟩) ?_ ?_
                rotate_left
                · intro w'
                  go_simp
                  with_reducible rfl
                rotate_left
                · simp only [Act.put, List.setIfInBounds_toArray, List.set_cons_zero, List.set_cons_succ, i64_w, i32_w]
                  rfl
                -- 4: Op.fieldAddr 94 t112 2
                refine pure_ (i := 4) (N := (some 113)) (v := ?_) (a' := ?_) #[true, true, true, true, true, false, false, false, false, false, false, false, false, false, false, false, false, false, false, false, false, false] rfl rfl (by kernel_rfl) (fun _ _ _ h => h) (Or.inl ⟨by rfl, ?_⟩) ?_ ?_
                rotate_left
                · intro w'
                  go_simp
                  with_reducible rfl
                rotate_left
                · simp only [Act.put, List.setIfInBounds_toArray, List.set_cons_zero, List.set_cons_succ, i64_w, i32_w]
                  rfl
                -- 5: Op.load 24 t113
                refine take_ (i := 5) (N := (some 114)) (v := ?_) (a' := ?_) #[true, true, true, true, true, true, false, false, false, false, false, false, false, false, false, false, false, false, false, false, false, false] rfl rfl (by kernel_rfl) (fun _ _ _ h => h) (Or.inl ⟨by rfl, ?_⟩) hHeld ?_ ?_
                rotate_left
                · rintro w' ⟨s0, s1, s2⟩
                  go_simp
                  with_reducible rfl
                rotate_left
                · simp only [Act.put, List.setIfInBounds_toArray, List.set_cons_zero, List.set_cons_succ, i64_w, i32_w]
                  rfl
                -- 6: Op.fieldAddr 28 t15 1
                refine pure_ (i := 6) (N := (some 115)) (v := ?_) (a' := ?_) #[true, true, true, true, true, true, true, false, false, false, false, false, false, false, false, false, false, false, false, false, false, false] rfl rfl (by kernel_rfl) (fun _ _ _ h => h) (Or.inl ⟨by rfl, ?_⟩) ?_ ?_
                rotate_left
                · intro w'
                  go_simp
                  with_reducible rfl
                rotate_left
                · simp only [Act.put, List.setIfInBounds_toArray, List.set_cons_zero, List.set_cons_succ, i64_w, i32_w]
                  rfl
                -- 7: Op.load 24 t115
                refine take_ (i := 7) (N := (some 116)) (v := ?_) (a' := ?_) #[true, true, true, true, true, true, true, true, false, false, false, false, false, false, false, false, false, false, false, false, false, false] rfl rfl (by kernel_rfl) (fun _ _ _ h => h) (Or.inl ⟨by rfl, ?_⟩) hHeld ?_ ?_
                rotate_left
                · rintro w' ⟨s0, s1, s2⟩
                  go_simp
                  with_reducible rfl
                rotate_left
                · simp only [Act.put, List.setIfInBounds_toArray, List.set_cons_zero, List.set_cons_succ, i64_w, i32_w]
                  rfl
                -- 8: Op.call { builtin min, args := #[t114, t116], argTypes := #[24, 24] }
                refine pure_ (i := 8) (N := (some 117)) (v := ?_) (a' := ?_) #[true, true, true, true, true, true, true, true, true, false, false, false, false, false, false, false, false, false, false, false, false, false] rfl rfl (by kernel_rfl) (fun _ _ _ h => h) (Or.inl ⟨by rfl, ?_⟩) ?_ ?_
                rotate_left
                · intro w'
                  go_simp
                  with_reducible rfl
                rotate_left
                · simp only [Act.put, List.setIfInBounds_toArray, List.set_cons_zero, List.set_cons_succ, i64_w, i32_w]
                  rfl
                -- 9: Op.move t0
                refine pure_ (i := 9) (N := (some 118)) (v := ?_) (a' := ?_) #[true, true, true, true, true, true, true, true, true, true, false, false, false, false, false, false, false, false, false, false, false, false] rfl rfl (by kernel_rfl) (fun _ _ _ h => h) (Or.inl ⟨by rfl, ?_⟩) ?_ ?_
                rotate_left
                · intro w'
                  go_simp
                  with_reducible rfl
                rotate_left
                · simp only [Act.put, List.setIfInBounds_toArray, List.set_cons_zero, List.set_cons_succ, i64_w, i32_w]
                  rfl
                -- 10: Op.nilCheck t118
                refine pure_ (i := 10) (N := (some 119)) (v := ?_) (a' := ?_) #[true, true, true, true, true, true, true, true, true, true, true, false, false, false, false, false, false, false, false, false, false, false] rfl rfl (by kernel_rfl) (fun _ _ _ h => h) (Or.inl ⟨by rfl, ?_⟩) ?_ ?_
                rotate_left
                · intro w'
                  go_simp
                  with_reducible rfl
                rotate_left
                · simp only [Act.put, List.setIfInBounds_toArray, List.set_cons_zero, List.set_cons_succ, i64_w, i32_w]
                  rfl
                -- 11: Op.fieldAddr 94 t119 3
                refine pure_ (i := 11) (N := (some 120)) (v := ?_) (a' := ?_) #[true, true, true, true, true, true, true, true, true, true, true, true, false, false, false, false, false, false, false, false, false, false] rfl rfl (by kernel_rfl) (fun _ _ _ h => h) (Or.inl ⟨by rfl, ?_⟩) ?_ ?_
                rotate_left
                · intro w'
                  go_simp
                  with_reducible rfl
                rotate_left
                · simp only [Act.put, List.setIfInBounds_toArray, List.set_cons_zero, List.set_cons_succ, i64_w, i32_w]
                  rfl
                -- 12: Op.load 24 t120
                refine take_ (i := 12) (N := (some 121)) (v := ?_) (a' := ?_) #[true, true, true, true, true, true, true, true, true, true, true, true, true, false, false, false, false, false, false, false, false, false] rfl rfl (by kernel_rfl) (fun _ _ _ h => h) (Or.inl ⟨by rfl, ?_⟩) hHeld ?_ ?_
                rotate_left
                · rintro w' ⟨s0, s1, s2⟩
                  go_simp
                  with_reducible rfl
                rotate_left
                · simp only [Act.put, List.setIfInBounds_toArray, List.set_cons_zero, List.set_cons_succ, i64_w, i32_w]
                  rfl
                -- 13: Op.fieldAddr 28 t15 1
                refine pure_ (i := 13) (N := (some 122)) (v := ?_) (a' := ?_) #[true, true, true, true, true, true, true, true, true, true, true, true, true, true, false, false, false, false, false, false, false, false] rfl rfl (by kernel_rfl) (fun _ _ _ h => h) (Or.inl ⟨by rfl, ?_⟩) ?_ ?_
                rotate_left
                · intro w'
                  go_simp
                  with_reducible rfl
                rotate_left
                · simp only [Act.put, List.setIfInBounds_toArray, List.set_cons_zero, List.set_cons_succ, i64_w, i32_w]
                  rfl
                -- 16: Op.nilCheck t109
                refine pure_ (i := 16) (N := (some 125)) (v := ?_) (a' := ?_) #[true, true, true, true, true, true, true, true, true, true, true, true, true, true, false, false, true, false, false, false, false, false] rfl rfl (by kernel_rfl) (fun _ _ _ h => h) (Or.inl ⟨by rfl, ?_⟩) ?_ ?_
                rotate_left
                · intro w'
                  go_simp
                  with_reducible rfl
                rotate_left
                · simp only [Act.put, List.setIfInBounds_toArray, List.set_cons_zero, List.set_cons_succ, i64_w, i32_w]
                  rfl
                -- 17: Op.fieldAddr 94 t125 2
                refine pure_ (i := 17) (N := (some 126)) (v := ?_) (a' := ?_) #[true, true, true, true, true, true, true, true, true, true, true, true, true, true, false, false, true, true, false, false, false, false] rfl rfl (by kernel_rfl) (fun _ _ _ h => h) (Or.inl ⟨by rfl, ?_⟩) ?_ ?_
                rotate_left
                · intro w'
                  go_simp
                  with_reducible rfl
                rotate_left
                · simp only [Act.put, List.setIfInBounds_toArray, List.set_cons_zero, List.set_cons_succ, i64_w, i32_w]
                  rfl
                have hfz : w12.frozen? ⟨g, 20, none⟩ = false := blk_frozen HA.out.sk.sl.head 20
                have hcz := hHeld.1
                have hco := hHeld.2.2
                clear hHeld
                refine mix_ (i := 14) (j := 18) (Ni := some 123) (Nj := none) (v := .int .u64 x.f1) #[true, true, true, true, true, true, true, true, true, true, true, true, true, true, true, false, true, true, false, false, false, false] #[true, true, true, true, true, true, true, true, true, true, true, true, true, true, false, false, true, true, true, false, false, false] rfl rfl rfl rfl (by kernel_rfl) (by decide) (by rfl) (by go_simp) ?_ (fun K hK => ?_)
                · refine norm_ (a' := ?_) ?_ ?_
                  rotate_left
                  · show Act.put _ (some 123) _ = _
                    simp only [Act.put, List.setIfInBounds_toArray, List.set_cons_zero, List.set_cons_succ, i64_w, i32_w]
                    rfl
                  have hHeld := True.intro
                  -- 15: Op.call { builtin max, args := #[t121, t123], argTypes := #[24, 24] }
                  refine pure_ (i := 15) (N := (some 124)) (v := ?_) (a' := ?_) #[true, true, true, true, true, true, true, true, true, true, true, true, true, true, true, true, true, true, false, false, false, false] rfl rfl (by kernel_rfl) (fun _ _ _ h => h) (Or.inl ⟨by rfl, ?_⟩) ?_ ?_
                  rotate_left
                  · intro w'
                    go_simp
                    with_reducible rfl
                  rotate_left
                  · simp only [Act.put, List.setIfInBounds_toArray, List.set_cons_zero, List.set_cons_succ, i64_w, i32_w]
                    rfl
                  -- 18
                  refine last_ (i := 18) (N := none) #[true, true, true, true, true, true, true, true, true, true, true, true, true, true, true, true, true, true, true, false, false, false] rfl rfl (by kernel_rfl) (by decide) (fun K hK => ?_)
                  clear hHeld
                  refine skip_ (w1 := w12.setCell ⟨g, 20, none⟩ (.int .u64 lv2)) (by rfl) rfl (by go_simp) ?_
                  refine hK.out _ _ ?_
                  clear hK K
                  have n0_ := Aside0.mk (HA.out.least lv2)
                  have n1_ : Aside0 (Kd.R k28 28 (w12.setCell ⟨g, 20, none⟩ (.int .u64 lv2)) w4.heap.size (fun _ => True) (.slice (some ad) R.length cR) R) := Aside0.mk (R28_set HA.out.sk HO.out)
                  have n2_ := Aside0.mk (show (w12.setCell ⟨g, 20, none⟩ (.int .u64 lv2)).heap[go]? = some (.cells #[.string x.f0, .int .u64 x.f1, .int .i64 x.f2, .string x.f3] 28 (0, 0)) from (Below.heap_setCell w12 ⟨g, 20, none⟩ _ go (g_ne HA.out.sk BO.out)).trans BO.out)
                  clear HA HO BO hfz hcz hco
                  generalize w12.setCell ⟨g, 20, none⟩ (.int .u64 lv2) = w13 at *
                  have HA := n0_
                  have HO := n1_
                  have BO := n2_
                  clear n0_ n1_ n2_
                  -- 19: Op.nilCheck t110
                  refine pure_ (i := 19) (N := (some 127)) (v := ?_) (a' := ?_) #[true, true, true, true, true, true, true, true, true, true, true, true, true, true, true, true, true, true, true, true, false, false] rfl rfl (by kernel_rfl) (fun _ _ _ h => h) (Or.inl ⟨by rfl, ?_⟩) ?_ ?_
                  rotate_left
                  · intro w'
                    go_simp
                    with_reducible rfl
                  rotate_left
                  · simp only [Act.put, List.setIfInBounds_toArray, List.set_cons_zero, List.set_cons_succ, i64_w, i32_w]
                    rfl
                  -- 20: Op.fieldAddr 94 t127 3
                  refine pure_ (i := 20) (N := (some 128)) (v := ?_) (a' := ?_) #[true, true, true, true, true, true, true, true, true, true, true, true, true, true, true, true, true, true, true, true, true, false] rfl rfl (by kernel_rfl) (fun _ _ _ h => h) (Or.inl ⟨by rfl, ?_⟩) ?_ ?_
                  rotate_left
                  · intro w'
                    go_simp
                    with_reducible rfl
                  rotate_left
                  · simp only [Act.put, List.setIfInBounds_toArray, List.set_cons_zero, List.set_cons_succ, i64_w, i32_w]
                    rfl
                  have hfz : w13.frozen? ⟨g, 21, none⟩ = false := blk_frozen HA.out.sk.sl.head 21
                  have hcz := (tab_cells HA.out.sk).2.2.2
                  have hHeld := True.intro
                  -- 21: Op.store 24 t128 t124
                  refine last_ (i := 21) (N := none) #[true, true, true, true, true, true, true, true, true, true, true, true, true, true, true, true, true, true, true, true, true, true] rfl rfl (by kernel_rfl) (by decide) (fun K hK => ?_)
                  refine skip_ (w1 := w13.setCell ⟨g, 21, none⟩ (.int .u64 gv2)) (by rfl) rfl (by go_simp) ?_
                  clear hHeld
                  refine hK.out _ _ ?_
                  clear hK K
                  have n0_ := Aside0.mk (HA.out.greatest gv2)
                  have n1_ : Aside0 (Kd.R k28 28 (w13.setCell ⟨g, 21, none⟩ (.int .u64 gv2)) w4.heap.size (fun _ => True) (.slice (some ad) R.length cR) R) := Aside0.mk (R28_set HA.out.sk HO.out)
                  clear HA HO BO hfz hcz
                  generalize w13.setCell ⟨g, 21, none⟩ (.int .u64 gv2) = w14 at *
                  have HA := n0_
                  have HO := n1_
                  clear n0_ n1_
                  refine done_ (by kernel_rfl) ?_
                  go_wp2_with fail
                  have ew : wrap64 ((i : Int) + 1) = ((i + 1 : Nat) : Int) := by have := HRL.out; unfold wrap64; omega
                  try rw [ew]
                  go_roundg q
                  case measure => omega
                  case rel => exact ⟨i + 1, rs2, rfl, ⟨by have := HK.out; omega⟩, HO, ⟨by rw [runT, XE.out, ← HTT.out, stepT, HVV.out, HLV.out, LV2.out, GV2.out, HR2.out]; exact HA.out⟩⟩
                · skip
                  refine skip_ (w1 := w12.setCell ⟨g, 20, none⟩ (.int .u64 lv2)) (by rfl) rfl (by go_simp) ?_
                  refine hK.out _ _ ?_
                  clear hK K
                  have n0_ := Aside0.mk (HA.out.least lv2)
                  have n1_ : Aside0 (Kd.R k28 28 (w12.setCell ⟨g, 20, none⟩ (.int .u64 lv2)) w4.heap.size (fun _ => True) (.slice (some ad) R.length cR) R) := Aside0.mk (R28_set HA.out.sk HO.out)
                  have n2_ := Aside0.mk (show (w12.setCell ⟨g, 20, none⟩ (.int .u64 lv2)).heap[go]? = some (.cells #[.string x.f0, .int .u64 x.f1, .int .i64 x.f2, .string x.f3] 28 (0, 0)) from (Below.heap_setCell w12 ⟨g, 20, none⟩ _ go (g_ne HA.out.sk BO.out)).trans BO.out)
                  clear HA HO BO hfz hcz hco
                  generalize w12.setCell ⟨g, 20, none⟩ (.int .u64 lv2) = w13 at *
                  have HA := n0_
                  have HO := n1_
                  have BO := n2_
                  clear n0_ n1_ n2_
                  have hco : w13.cell? ⟨go, 1, none⟩ = some (.int .u64 x.f1) := (blk_cell BO.out 1).trans rfl
                  refine here_ (i := 14) (N := some 123) (v := .int .u64 x.f1) #[true, true, true, true, true, true, true, true, true, true, true, true, true, true, true, false, true, true, true, false, false, false] rfl rfl (by kernel_rfl) (by rfl) (by go_simp) ?_
                  refine norm_ (a' := ?_) ?_ ?_
                  rotate_left
                  · show Act.put _ (some 123) _ = _
                    simp only [Act.put, List.setIfInBounds_toArray, List.set_cons_zero, List.set_cons_succ, i64_w, i32_w]
                    rfl
                  clear hco
                  -- 15: Op.call { builtin max, args := #[t121, t123], argTypes := #[24, 24] }
                  refine pure_ (i := 15) (N := (some 124)) (v := ?_) (a' := ?_) #[true, true, true, true, true, true, true, true, true, true, true, true, true, true, true, true, true, true, true, false, false, false] rfl rfl (by kernel_rfl) (fun _ _ _ h => h) (Or.inl ⟨by rfl, ?_⟩) ?_ ?_
                  rotate_left
                  · intro w'
                    go_simp
                    with_reducible rfl
                  rotate_left
                  · simp only [Act.put, List.setIfInBounds_toArray, List.set_cons_zero, List.set_cons_succ, i64_w, i32_w]
                    rfl
                  -- 19: Op.nilCheck t110
                  refine pure_ (i := 19) (N := (some 127)) (v := ?_) (a' := ?_) #[true, true, true, true, true, true, true, true, true, true, true, true, true, true, true, true, true, true, true, true, false, false] rfl rfl (by kernel_rfl) (fun _ _ _ h => h) (Or.inl ⟨by rfl, ?_⟩) ?_ ?_
                  rotate_left
                  · intro w'
                    go_simp
                    with_reducible rfl
                  rotate_left
                  · simp only [Act.put, List.setIfInBounds_toArray, List.set_cons_zero, List.set_cons_succ, i64_w, i32_w]
                    rfl
                  -- 20: Op.fieldAddr 94 t127 3
                  refine pure_ (i := 20) (N := (some 128)) (v := ?_) (a' := ?_) #[true, true, true, true, true, true, true, true, true, true, true, true, true, true, true, true, true, true, true, true, true, false] rfl rfl (by kernel_rfl) (fun _ _ _ h => h) (Or.inl ⟨by rfl, ?_⟩) ?_ ?_
                  rotate_left
                  · intro w'
                    go_simp
                    with_reducible rfl
                  rotate_left
                  · simp only [Act.put, List.setIfInBounds_toArray, List.set_cons_zero, List.set_cons_succ, i64_w, i32_w]
                    rfl
                  have hfz : w13.frozen? ⟨g, 21, none⟩ = false := blk_frozen HA.out.sk.sl.head 21
                  have hcz := (tab_cells HA.out.sk).2.2.2
                  have hHeld := True.intro
                  -- 21: Op.store 24 t128 t124
                  refine last_ (i := 21) (N := none) #[true, true, true, true, true, true, true, true, true, true, true, true, true, true, true, true, true, true, true, true, true, true] rfl rfl (by kernel_rfl) (by decide) (fun K hK => ?_)
                  refine skip_ (w1 := w13.setCell ⟨g, 21, none⟩ (.int .u64 gv2)) (by rfl) rfl (by go_simp) ?_
                  clear hHeld
                  refine hK.out _ _ ?_
                  clear hK K
                  have n0_ := Aside0.mk (HA.out.greatest gv2)
                  have n1_ : Aside0 (Kd.R k28 28 (w13.setCell ⟨g, 21, none⟩ (.int .u64 gv2)) w4.heap.size (fun _ => True) (.slice (some ad) R.length cR) R) := Aside0.mk (R28_set HA.out.sk HO.out)
                  clear HA HO BO hfz hcz
                  generalize w13.setCell ⟨g, 21, none⟩ (.int .u64 gv2) = w14 at *
                  have HA := n0_
                  have HO := n1_
                  clear n0_ n1_
                  refine done_ (by kernel_rfl) ?_
                  go_wp2_with fail
                  have ew : wrap64 ((i : Int) + 1) = ((i + 1 : Nat) : Int) := by have := HRL.out; unfold wrap64; omega
                  try rw [ew]
                  go_roundg q
                  case measure => omega
                  case rel => exact ⟨i + 1, rs2, rfl, ⟨by have := HK.out; omega⟩, HO, ⟨by rw [runT, XE.out, ← HTT.out, stepT, HVV.out, HLV.out, LV2.out, GV2.out, HR2.out]; exact HA.out⟩⟩
            · have d2 : decide ((i : Int) < (hs.length : Int)) = false := decide_eq_false (by omega)
              have d3 : decide (i < hs.length) = false := decide_eq_false ch
              have HVV := Aside0.mk (show hAt hs i = 1 by rw [hAt, List.getElem?_eq_none (by omega)]; rfl)
              clear HA hal
              go_wp2_with fail
              clear hx0 hx1 hx2 hx3
              generalize wr.heap.size = go at *
              generalize wr.alloc (.cells #[.string x.f0, .int .u64 x.f1, .int .i64 x.f2, .string x.f3] 28) = w6 at *
              have HA := n0_
              have HO := n1_
              clear n0_ n1_
              refine start_ (n := 7) (S := fun w' => w'.heap[go]? = some (.cells #[.string x.f0, .int .u64 x.f1, .int .i64 x.f2, .string x.f3] 28 (0, 0))) (ds := []) #[false, false, false, false, false, false, false] (by kernel_rfl) rfl rfl (blk_drew BO.out) (fun hHeld => ?_)
              have n0_ : Aside0 (AddP w w6.drew g rs t rs1) := Aside0.mk (HA.out.below (pw_below_drewN (Below.refl _ _) 1))
              have n1_ : Aside0 (Kd.R k28 28 w6.drew w4.heap.size (fun _ => True) (.slice (some ad) R.length cR) R) := Aside0.mk (Kd.R_below HO.out (pw_below_drewN (Below.refl _ _) 1))
              clear HA HO BO
              generalize w6.drew = w7 at *
              have HA := n0_
              have HO := n1_
              clear n0_ n1_
              -- 0: Op.move t0
              refine pure_ (i := 0) (N := (some 77)) (v := ?_) (a' := ?_) #[true, false, false, false, false, false, false] rfl rfl (by kernel_rfl) (fun _ _ _ h => h) (Or.inl ⟨by rfl, ?_⟩) ?_ ?_
              rotate_left
              · intro w'
                go_simp
                with_reducible rfl
              rotate_left
              · simp only [Act.put, List.setIfInBounds_toArray, List.set_cons_zero, List.set_cons_succ, i64_w, i32_w]
                rfl
              -- 1: Op.nilCheck t77
              refine pure_ (i := 1) (N := (some 78)) (v := ?_) (a' := ?_) #[true, true, false, false, false, false, false] rfl rfl (by kernel_rfl) (fun _ _ _ h => h) (Or.inl ⟨by rfl, ?_⟩) ?_ ?_
              rotate_left
              · intro w'
                go_simp
                with_reducible rfl
              rotate_left
              · simp only [Act.put, List.setIfInBounds_toArray, List.set_cons_zero, List.set_cons_succ, i64_w, i32_w]
                rfl
              -- 2: Op.fieldAddr 94 t78 0
              refine pure_ (i := 2) (N := (some 79)) (v := ?_) (a' := ?_) #[true, true, true, false, false, false, false] rfl rfl (by kernel_rfl) (fun _ _ _ h => h) (Or.inl ⟨by rfl, ?_⟩) ?_ ?_
              rotate_left
              · intro w'
                go_simp
                with_reducible rfl
              rotate_left
              · simp only [Act.put, List.setIfInBounds_toArray, List.set_cons_zero, List.set_cons_succ, i64_w, i32_w]
                rfl
              -- 3: Op.fieldAddr 92 t79 0
              refine pure_ (i := 3) (N := (some 80)) (v := ?_) (a' := ?_) #[true, true, true, true, false, false, false] rfl rfl (by kernel_rfl) (fun _ _ _ h => h) (Or.inl ⟨by rfl, ?_⟩) ?_ ?_
              rotate_left
              · intro w'
                go_simp
                with_reducible rfl
              rotate_left
              · simp only [Act.put, List.setIfInBounds_toArray, List.set_cons_zero, List.set_cons_succ, i64_w, i32_w]
                rfl
              -- 4: Op.load 28 t15
              refine take_ (i := 4) (N := (some 81)) (v := ?_) (a' := ?_) #[true, true, true, true, true, false, false] rfl rfl (by kernel_rfl) (fun _ _ _ h => h) (Or.inl ⟨by rfl, ?_⟩) hHeld ?_ ?_
              rotate_left
              · rintro w' s0
                have z0 : w'.cell? ⟨go, 0, none⟩ = some (.string x.f0) := (blk_cell s0 0).trans rfl
                have z1 : w'.cell? ⟨go, 1, none⟩ = some (.int .u64 x.f1) := (blk_cell s0 1).trans rfl
                have z2 : w'.cell? ⟨go, 2, none⟩ = some (.int .i64 x.f2) := (blk_cell s0 2).trans rfl
                have z3 : w'.cell? ⟨go, 3, none⟩ = some (.string x.f3) := (blk_cell s0 3).trans rfl
                go_simp
                with_reducible rfl
              rotate_left
              · simp only [Act.put, List.setIfInBounds_toArray, List.set_cons_zero, List.set_cons_succ, i64_w, i32_w]
                rfl
              -- 5: Op.move t16
              refine pure_ (i := 5) (N := (some 82)) (v := ?_) (a' := ?_) #[true, true, true, true, true, true, false] rfl rfl (by kernel_rfl) (fun _ _ _ h => h) (Or.inl ⟨by rfl, ?_⟩) ?_ ?_
              rotate_left
              · intro w'
                go_simp
                with_reducible rfl
              rotate_left
              · simp only [Act.put, List.setIfInBounds_toArray, List.set_cons_zero, List.set_cons_succ, i64_w, i32_w]
                rfl
              -- 6: Op.call { value (Operand.func 21), args := #[t80, t81, t82], argTypes := #[34, 28, 3] }
              refine one_ (i := 6) (N := (some 83)) #[true, true, true, true, true, true, true] rfl rfl (by kernel_rfl) (by decide) (fun K hK => ?_)
              refine goes_ Try.func21 (by kernel_rfl) rfl #[.pointer (some ⟨g, 0, none⟩), .agg #[.string x.f0, .int .u64 x.f1, .int .i64 x.f2, .string x.f3], .int .i64 (1)] (by rfl) rfl rfl (by (try simp only [List.map_toArray, List.map_cons, List.map_nil]); first | done | rfl) ?_
              with_reducible refine (put_val w7 g rs1 x (1) HA.out.sk (by have := R1L.out; omega)).mono ?_
              rintro e w8 ⟨rfl, rs2, hp⟩
              refine ⟨_, rfl, ?_⟩
              have hOld := hHeld
              clear hHeld
              refine hK.out _ _ ((put_28 HA.out.sk hp hOld).trans hOld) (fun hHeld => ?_)
              clear hOld hK K
              refine norm_ (a' := ?_) ?_ ?_
              rotate_left
              · show Act.put _ (some 83) _ = _
                simp only [Act.put, List.setIfInBounds_toArray, List.set_cons_zero, List.set_cons_succ, i64_w, i32_w]
                rfl
              refine done_ (by kernel_rfl) ?_
              have n0_ := Aside0.mk (HA.out.put HGL.out hp)
              have n1_ : Aside0 (Kd.R k28 28 w8 w4.heap.size (fun _ => True) (.slice (some ad) R.length cR) R) := Aside0.mk (R28_keep HO.out (fun k cs hc => put_28 HA.out.sk hp hc))
              have BO := Aside0.mk hHeld
              clear HA HO hp hHeld
              have HA := n0_
              have HO := n1_
              clear n0_ n1_
              go_wp2_with fail
              refine start_ (n := 16) (S := fun w' => w'.cell? ⟨g, 19, none⟩ = some (.int .i64 t.room) ∧ w'.cell? ⟨go, 0, none⟩ = some (.string x.f0) ∧ w'.cell? ⟨go, 3, none⟩ = some (.string x.f3)) (ds := [15]) #[false, false, false, false, false, false, false, false, false, false, false, false, false, false, false, false] (by kernel_rfl) rfl rfl ⟨(tab_cells HA.out.sk).2.1, (blk_cell BO.out 0).trans rfl, (blk_cell BO.out 3).trans rfl⟩ (fun hHeld => ?_)
              have n0_ := Aside0.mk (HA.out.below (pw_below_drewN (Below.refl _ _) 1))
              have n1_ : Aside0 (Kd.R k28 28 w8.drew w4.heap.size (fun _ => True) (.slice (some ad) R.length cR) R) := Aside0.mk (Kd.R_below HO.out (pw_below_drewN (Below.refl _ _) 1))
              have n2_ : Aside0 (w8.drew.heap[go]? = some (.cells #[.string x.f0, .int .u64 x.f1, .int .i64 x.f2, .string x.f3] 28 (0, 0))) := Aside0.mk (blk_drew BO.out)
              replace n0_ : Aside0 (AddP w w8.drew g rs ⟨putV x (clampH 1) t.l, t.room, t.least, t.greatest⟩ rs2) := n0_
              clear HA HO BO
              generalize w8.drew = w9 at *
              have HA := n0_
              have HO := n1_
              have BO := n2_
              clear n0_ n1_ n2_
              -- 0: Op.move t0
              refine pure_ (i := 0) (N := (some 84)) (v := ?_) (a' := ?_) #[true, false, false, false, false, false, false, false, false, false, false, false, false, false, false, false] rfl rfl (by kernel_rfl) (fun _ _ _ h => h) (Or.inl ⟨by rfl, ?_⟩) ?_ ?_
              rotate_left
              · intro w'
                go_simp
                with_reducible rfl
              rotate_left
              · simp only [Act.put, List.setIfInBounds_toArray, List.set_cons_zero, List.set_cons_succ, i64_w, i32_w]
                rfl
              -- 1: Op.nilCheck t84
              refine pure_ (i := 1) (N := (some 85)) (v := ?_) (a' := ?_) #[true, true, false, false, false, false, false, false, false, false, false, false, false, false, false, false] rfl rfl (by kernel_rfl) (fun _ _ _ h => h) (Or.inl ⟨by rfl, ?_⟩) ?_ ?_
              rotate_left
              · intro w'
                go_simp
                with_reducible rfl
              rotate_left
              · simp only [Act.put, List.setIfInBounds_toArray, List.set_cons_zero, List.set_cons_succ, i64_w, i32_w]
                rfl
              -- 2: Op.fieldAddr 94 t85 1
              refine pure_ (i := 2) (N := (some 86)) (v := ?_) (a' := ?_) #[true, true, true, false, false, false, false, false, false, false, false, false, false, false, false, false] rfl rfl (by kernel_rfl) (fun _ _ _ h => h) (Or.inl ⟨by rfl, ?_⟩) ?_ ?_
              rotate_left
              · intro w'
                go_simp
                with_reducible rfl
              rotate_left
              · simp only [Act.put, List.setIfInBounds_toArray, List.set_cons_zero, List.set_cons_succ, i64_w, i32_w]
                rfl
              -- 3: Op.load 3 t86
              refine take_ (i := 3) (N := (some 87)) (v := ?_) (a' := ?_) #[true, true, true, true, false, false, false, false, false, false, false, false, false, false, false, false] rfl rfl (by kernel_rfl) (fun _ _ _ h => h) (Or.inl ⟨by rfl, ?_⟩) hHeld ?_ ?_
              rotate_left
              · rintro w' ⟨s0, s1, s2⟩
                go_simp
                with_reducible rfl
              rotate_left
              · simp only [Act.put, List.setIfInBounds_toArray, List.set_cons_zero, List.set_cons_succ, i64_w, i32_w]
                rfl
              -- 4: Op.fieldAddr 28 t15 0
              refine pure_ (i := 4) (N := (some 88)) (v := ?_) (a' := ?_) #[true, true, true, true, true, false, false, false, false, false, false, false, false, false, false, false] rfl rfl (by kernel_rfl) (fun _ _ _ h => h) (Or.inl ⟨by rfl, ?_⟩) ?_ ?_
              rotate_left
              · intro w'
                go_simp
                with_reducible rfl
              rotate_left
              · simp only [Act.put, List.setIfInBounds_toArray, List.set_cons_zero, List.set_cons_succ, i64_w, i32_w]
                rfl
              -- 5: Op.load 9 t88
              refine take_ (i := 5) (N := (some 89)) (v := ?_) (a' := ?_) #[true, true, true, true, true, true, false, false, false, false, false, false, false, false, false, false] rfl rfl (by kernel_rfl) (fun _ _ _ h => h) (Or.inl ⟨by rfl, ?_⟩) hHeld ?_ ?_
              rotate_left
              · rintro w' ⟨s0, s1, s2⟩
                go_simp
                with_reducible rfl
              rotate_left
              · simp only [Act.put, List.setIfInBounds_toArray, List.set_cons_zero, List.set_cons_succ, i64_w, i32_w]
                rfl
              -- 6: Op.call { builtin len, args := #[t89], argTypes := #[9] }
              refine pure_ (i := 6) (N := (some 90)) (v := ?_) (a' := ?_) #[true, true, true, true, true, true, true, false, false, false, false, false, false, false, false, false] rfl rfl (by kernel_rfl) (fun _ _ _ h => h) (Or.inl ⟨by rfl, ?_⟩) ?_ ?_
              rotate_left
              · intro w'
                go_simp
                with_reducible rfl
              rotate_left
              · simp only [Act.put, List.setIfInBounds_toArray, List.set_cons_zero, List.set_cons_succ, i64_w, i32_w]
                rfl
              -- 7: Op.fieldAddr 28 t15 3
              refine pure_ (i := 7) (N := (some 91)) (v := ?_) (a' := ?_) #[true, true, true, true, true, true, true, true, false, false, false, false, false, false, false, false] rfl rfl (by kernel_rfl) (fun _ _ _ h => h) (Or.inl ⟨by rfl, ?_⟩) ?_ ?_
              rotate_left
              · intro w'
                go_simp
                with_reducible rfl
              rotate_left
              · simp only [Act.put, List.setIfInBounds_toArray, List.set_cons_zero, List.set_cons_succ, i64_w, i32_w]
                rfl
              -- 8: Op.load 9 t91
              refine take_ (i := 8) (N := (some 92)) (v := ?_) (a' := ?_) #[true, true, true, true, true, true, true, true, true, false, false, false, false, false, false, false] rfl rfl (by kernel_rfl) (fun _ _ _ h => h) (Or.inl ⟨by rfl, ?_⟩) hHeld ?_ ?_
              rotate_left
              · rintro w' ⟨s0, s1, s2⟩
                go_simp
                with_reducible rfl
              rotate_left
              · simp only [Act.put, List.setIfInBounds_toArray, List.set_cons_zero, List.set_cons_succ, i64_w, i32_w]
                rfl
              -- 9: Op.call { builtin len, args := #[t92], argTypes := #[9] }
              refine pure_ (i := 9) (N := (some 93)) (v := ?_) (a' := ?_) #[true, true, true, true, true, true, true, true, true, true, false, false, false, false, false, false] rfl rfl (by kernel_rfl) (fun _ _ _ h => h) (Or.inl ⟨by rfl, ?_⟩) ?_ ?_
              rotate_left
              · intro w'
                go_simp
                with_reducible rfl
              rotate_left
              · simp only [Act.put, List.setIfInBounds_toArray, List.set_cons_zero, List.set_cons_succ, i64_w, i32_w]
                rfl
              -- 10: Op.binOp BinOp.add 3 t90 t93 3
              refine pure_ (i := 10) (N := (some 94)) (v := ?_) (a' := ?_) #[true, true, true, true, true, true, true, true, true, true, true, false, false, false, false, false] rfl rfl (by kernel_rfl) (fun _ _ _ h => h) (Or.inl ⟨by rfl, ?_⟩) ?_ ?_
              rotate_left
              · intro w'
                go_simp
                with_reducible rfl
              rotate_left
              · simp only [Act.put, List.setIfInBounds_toArray, List.set_cons_zero, List.set_cons_succ, i64_w, i32_w]
                rfl
              -- 11: Op.binOp BinOp.add 3 t94 (const (16:i64)) 3
              refine pure_ (i := 11) (N := (some 95)) (v := ?_) (a' := ?_) #[true, true, true, true, true, true, true, true, true, true, true, true, false, false, false, false] rfl rfl (by kernel_rfl) (fun _ _ _ h => h) (Or.inl ⟨by rfl, ?_⟩) ?_ ?_
              rotate_left
              · intro w'
                go_simp
                with_reducible rfl
              rotate_left
              · simp only [Act.put, List.setIfInBounds_toArray, List.set_cons_zero, List.set_cons_succ, i64_w, i32_w]
                rfl
              -- 12: Op.binOp BinOp.add 3 t87 t95 3
              refine pure_ (i := 12) (N := (some 96)) (v := ?_) (a' := ?_) #[true, true, true, true, true, true, true, true, true, true, true, true, true, false, false, false] rfl rfl (by kernel_rfl) (fun _ _ _ h => h) (Or.inl ⟨by rfl, ?_⟩) ?_ ?_
              rotate_left
              · intro w'
                go_simp
                with_reducible rfl
              rotate_left
              · simp only [Act.put, List.setIfInBounds_toArray, List.set_cons_zero, List.set_cons_succ, i64_w, i32_w]
                rfl
              -- 13: Op.nilCheck t84
              refine pure_ (i := 13) (N := (some 97)) (v := ?_) (a' := ?_) #[true, true, true, true, true, true, true, true, true, true, true, true, true, true, false, false] rfl rfl (by kernel_rfl) (fun _ _ _ h => h) (Or.inl ⟨by rfl, ?_⟩) ?_ ?_
              rotate_left
              · intro w'
                go_simp
                with_reducible rfl
              rotate_left
              · simp only [Act.put, List.setIfInBounds_toArray, List.set_cons_zero, List.set_cons_succ, i64_w, i32_w]
                rfl
              -- 14: Op.fieldAddr 94 t97 1
              refine pure_ (i := 14) (N := (some 98)) (v := ?_) (a' := ?_) #[true, true, true, true, true, true, true, true, true, true, true, true, true, true, true, false] rfl rfl (by kernel_rfl) (fun _ _ _ h => h) (Or.inl ⟨by rfl, ?_⟩) ?_ ?_
              rotate_left
              · intro w'
                go_simp
                with_reducible rfl
              rotate_left
              · simp only [Act.put, List.setIfInBounds_toArray, List.set_cons_zero, List.set_cons_succ, i64_w, i32_w]
                rfl
              have hfz : w9.frozen? ⟨g, 19, none⟩ = false := blk_frozen HA.out.sk.sl.head 19
              have hcz := hHeld.1
              -- 15: Op.store 3 t98 t96
              refine last_ (i := 15) (N := none) #[true, true, true, true, true, true, true, true, true, true, true, true, true, true, true, true] rfl rfl (by kernel_rfl) (by decide) (fun K hK => ?_)
              refine skip_ (w1 := w9.setCell ⟨g, 19, none⟩ (.int .i64 room2)) (by rfl) rfl (by go_simp) ?_
              clear hHeld
              refine hK.out _ _ ?_
              clear hK K
              refine done_ (by kernel_rfl) ?_
              have n0_ := Aside0.mk (HA.out.room room2)
              have n1_ : Aside0 (Kd.R k28 28 (w9.setCell ⟨g, 19, none⟩ (.int .i64 room2)) w4.heap.size (fun _ => True) (.slice (some ad) R.length cR) R) := Aside0.mk (R28_set HA.out.sk HO.out)
              have n2_ := Aside0.mk (show (w9.setCell ⟨g, 19, none⟩ (.int .i64 room2)).heap[go]? = some (.cells #[.string x.f0, .int .u64 x.f1, .int .i64 x.f2, .string x.f3] 28 (0, 0)) from (Below.heap_setCell w9 ⟨g, 19, none⟩ _ go (g_ne HA.out.sk BO.out)).trans BO.out)
              clear HA HO BO hfz hcz
              generalize w9.setCell ⟨g, 19, none⟩ (.int .i64 room2) = w10 at *
              have HA := n0_
              have HO := n1_
              have BO := n2_
              clear n0_ n1_ n2_
              have l20 := (tab_cells HA.out.sk).2.2.1
              by_cases hz : t.least = 0
              · have g0 : (t.least == 0) = true := beq_iff_eq.mpr hz
                have g1 : decide (t.least = 0) = true := decide_eq_true hz
                obtain ⟨lv, hlv⟩ : ∃ lv, (if t.least = 0 then x.f1 else t.least) = lv := ⟨_, rfl⟩
                have HLV := Aside0.mk hlv
                have HX1 := Aside0.mk (show x.f1 = lv by rw [← hlv, if_pos hz])
                have f20 : w10.frozen? ⟨g, 20, none⟩ = false := blk_frozen HA.out.sk.sl.head 20
                have o1 : w10.cell? ⟨go, 1, none⟩ = some (.int .u64 x.f1) := (blk_cell BO.out 1).trans rfl
                have n0_ := Aside0.mk (HA.out.least x.f1)
                have n1_ : Aside0 (Kd.R k28 28 (w10.setCell ⟨g, 20, none⟩ (.int .u64 x.f1)) w4.heap.size (fun _ => True) (.slice (some ad) R.length cR) R) := Aside0.mk (R28_set HA.out.sk HO.out)
                have n2_ := Aside0.mk (show (w10.setCell ⟨g, 20, none⟩ (.int .u64 x.f1)).heap[go]? = some (.cells #[.string x.f0, .int .u64 x.f1, .int .i64 x.f2, .string x.f3] 28 (0, 0)) from (Below.heap_setCell w10 ⟨g, 20, none⟩ _ go (g_ne HA.out.sk BO.out)).trans BO.out)
                clear hz hlv HA HO BO
                go_wp2_with fail
                clear l20 f20 o1 g0 g1
                generalize w10.setCell ⟨g, 20, none⟩ (.int .u64 x.f1) = w11 at *
                have HA := n0_
                have HO := n1_
                have BO := n2_
                clear n0_ n1_ n2_
                rw [HX1.out] at HA
                obtain ⟨lv2, hlv2⟩ : ∃ v, v = (if x.f1 < lv then x.f1 else lv) := ⟨_, rfl⟩
                obtain ⟨gv2, hgv2⟩ : ∃ v, v = (if t.greatest < x.f1 then x.f1 else t.greatest) := ⟨_, rfl⟩
                have LV2 := Aside0.mk (show mn lv x.f1 = lv2 by rw [hlv2]; rfl)
                have GV2 := Aside0.mk (show mx t.greatest x.f1 = gv2 by rw [hgv2]; rfl)
                have u1 : True → (if x.f1 < lv then x.f1 else lv) = lv2 := fun _ => hlv2.symm
                have u2 : True → (if t.greatest < x.f1 then x.f1 else t.greatest) = gv2 := fun _ => hgv2.symm
                clear hlv2 hgv2
                go_wp2_with fail
                refine start_ (n := 22) (S := fun w' => w'.cell? ⟨g, 20, none⟩ = some (.int .u64 lv) ∧ w'.cell? ⟨g, 21, none⟩ = some (.int .u64 t.greatest) ∧ w'.cell? ⟨go, 1, none⟩ = some (.int .u64 x.f1)) (ds := [18, 21]) #[false, false, false, false, false, false, false, false, false, false, false, false, false, false, false, false, false, false, false, false, false, false] (by kernel_rfl) rfl rfl ⟨(tab_cells HA.out.sk).2.2.1, (tab_cells HA.out.sk).2.2.2, (blk_cell BO.out 1).trans rfl⟩ (fun hHeld => ?_)
                have n0_ := Aside0.mk (HA.out.below (pw_below_drewN (Below.refl _ _) 1))
                have n1_ : Aside0 (Kd.R k28 28 w11.drew w4.heap.size (fun _ => True) (.slice (some ad) R.length cR) R) := Aside0.mk (Kd.R_below HO.out (pw_below_drewN (Below.refl _ _) 1))
                have n2_ : Aside0 (w11.drew.heap[go]? = some (.cells #[.string x.f0, .int .u64 x.f1, .int .i64 x.f2, .string x.f3] 28 (0, 0))) := Aside0.mk (blk_drew BO.out)
                replace n0_ : Aside0 (AddP w w11.drew g rs ⟨putV x (clampH 1) t.l, room2, lv, t.greatest⟩ rs2) := n0_
                clear HA HO BO
                generalize w11.drew = w12 at *
                have HA := n0_
                have HO := n1_
                have BO := n2_
                clear n0_ n1_ n2_
                -- 0: Op.move t0
                refine pure_ (i := 0) (N := (some 109)) (v := ?_) (a' := ?_) #[true, false, false, false, false, false, false, false, false, false, false, false, false, false, false, false, false, false, false, false, false, false] rfl rfl (by kernel_rfl) (fun _ _ _ h => h) (Or.inl ⟨by rfl, ?_⟩) ?_ ?_
                rotate_left
                · intro w'
                  go_simp
                  with_reducible rfl
                rotate_left
                · simp only [Act.put, List.setIfInBounds_toArray, List.set_cons_zero, List.set_cons_succ, i64_w, i32_w]
                  rfl
                -- 1: Op.move t0
                refine pure_ (i := 1) (N := (some 110)) (v := ?_) (a' := ?_) #[true, true, false, false, false, false, false, false, false, false, false, false, false, false, false, false, false, false, false, false, false, false] rfl rfl (by kernel_rfl) (fun _ _ _ h => h) (Or.inl ⟨by rfl, ?_⟩) ?_ ?_
                rotate_left
                · intro w'
                  go_simp
                  with_reducible rfl
                rotate_left
                · simp only [Act.put, List.setIfInBounds_toArray, List.set_cons_zero, List.set_cons_succ, i64_w, i32_w]
                  rfl
                -- 2: Op.move t0
                refine pure_ (i := 2) (N := (some 111)) (v := ?_) (a' := ?_) #[true, true, true, false, false, false, false, false, false, false, false, false, false, false, false, false, false, false, false, false, false, false] rfl rfl (by kernel_rfl) (fun _ _ _ h => h) (Or.inl ⟨by rfl, ?_⟩) ?_ ?_
                rotate_left
                · intro w'
                  go_simp
                  with_reducible rfl
                rotate_left
                · simp only [Act.put, List.setIfInBounds_toArray, List.set_cons_zero, List.set_cons_succ, i64_w, i32_w]
                  rfl
                -- 3: Op.nilCheck t111
                refine pure_ (i := 3) (N := (some 112)) (v := ?_) (a' := ?_) #[true, true, true, true, false, false, false, false, false, false, false, false, false, false, false, false, false, false, false, false, false, false] rfl rfl (by kernel_rfl) (fun _ _ _ h => h) (Or.inl ⟨by rfl, ?_⟩) ?_ ?_
                rotate_left
                · intro w'
                  go_simp
                  with_reducible rfl
                rotate_left
                · simp only [Act.put, List.setIfInBounds_toArray, List.set_cons_zero, List.set_cons_succ, i64_w, i32_w]
                  rfl
                -- 4: Op.fieldAddr 94 t112 2
                refine pure_ (i := 4) (N := (some 113)) (v := ?_) (a' := ?_) #[true, true, true, true, true, false, false, false, false, false, false, false, false, false, false, false, false, false, false, false, false, false] rfl rfl (by kernel_rfl) (fun _ _ _ h => h) (Or.inl ⟨by rfl, ?_⟩) ?_ ?_
                rotate_left
                · intro w'
                  go_simp
                  with_reducible rfl
                rotate_left
                · simp only [Act.put, List.setIfInBounds_toArray, List.set_cons_zero, List.set_cons_succ, i64_w, i32_w]
                  rfl
                -- 5: Op.load 24 t113
                refine take_ (i := 5) (N := (some 114)) (v := ?_) (a' := ?_) #[true, true, true, true, true, true, false, false, false, false, false, false, false, false, false, false, false, false, false, false, false, false] rfl rfl (by kernel_rfl) (fun _ _ _ h => h) (Or.inl ⟨by rfl, ?_⟩) hHeld ?_ ?_
                rotate_left
                · rintro w' ⟨s0, s1, s2⟩
                  go_simp
                  with_reducible rfl
                rotate_left
                · simp only [Act.put, List.setIfInBounds_toArray, List.set_cons_zero, List.set_cons_succ, i64_w, i32_w]
                  rfl
                -- 6: Op.fieldAddr 28 t15 1
                refine pure_ (i := 6) (N := (some 115)) (v := ?_) (a' := ?_) #[true, true, true, true, true, true, true, false, false, false, false, false, false, false, false, false, false, false, false, false, false, false] rfl rfl (by kernel_rfl) (fun _ _ _ h => h) (Or.inl ⟨by rfl, ?_⟩) ?_ ?_
                rotate_left
                · intro w'
                  go_simp
                  with_reducible rfl
                rotate_left
                · simp only [Act.put, List.setIfInBounds_toArray, List.set_cons_zero, List.set_cons_succ, i64_w, i32_w]
                  rfl
                -- 7: Op.load 24 t115
                refine take_ (i := 7) (N := (some 116)) (v := ?_) (a' := ?_) #[true, true, true, true, true, true, true, true, false, false, false, false, false, false, false, false, false, false, false, false, false, false] rfl rfl (by kernel_rfl) (fun _ _ _ h => h) (Or.inl ⟨by rfl, ?_⟩) hHeld ?_ ?_
                rotate_left
                · rintro w' ⟨s0, s1, s2⟩
                  go_simp
                  with_reducible rfl
                rotate_left
                · simp only [Act.put, List.setIfInBounds_toArray, List.set_cons_zero, List.set_cons_succ, i64_w, i32_w]
                  rfl
                -- 8: Op.call { builtin min, args := #[t114, t116], argTypes := #[24, 24] }
                refine pure_ (i := 8) (N := (some 117)) (v := ?_) (a' := ?_) #[true, true, true, true, true, true, true, true, true, false, false, false, false, false, false, false, false, false, false, false, false, false] rfl rfl (by kernel_rfl) (fun _ _ _ h => h) (Or.inl ⟨by rfl, ?_⟩) ?_ ?_
                rotate_left
                · intro w'
                  go_simp
                  with_reducible rfl
                rotate_left
                · simp only [Act.put, List.setIfInBounds_toArray, List.set_cons_zero, List.set_cons_succ, i64_w, i32_w]
                  rfl
                -- 9: Op.move t0
                refine pure_ (i := 9) (N := (some 118)) (v := ?_) (a' := ?_) #[true, true, true, true, true, true, true, true, true, true, false, false, false, false, false, false, false, false, false, false, false, false] rfl rfl (by kernel_rfl) (fun _ _ _ h => h) (Or.inl ⟨by rfl, ?_⟩) ?_ ?_
                rotate_left
                · intro w'
                  go_simp
                  with_reducible rfl
                rotate_left
                · simp only [Act.put, List.setIfInBounds_toArray, List.set_cons_zero, List.set_cons_succ, i64_w, i32_w]
                  rfl
                -- 10: Op.nilCheck t118
                refine pure_ (i := 10) (N := (some 119)) (v := ?_) (a' := ?_) #[true, true, true, true, true, true, true, true, true, true, true, false, false, false, false, false, false, false, false, false, false, false] rfl rfl (by kernel_rfl) (fun _ _ _ h => h) (Or.inl ⟨by rfl, ?_⟩) ?_ ?_
                rotate_left
                · intro w'
                  go_simp
                  with_reducible rfl
                rotate_left
                · simp only [Act.put, List.setIfInBounds_toArray, List.set_cons_zero, List.set_cons_succ, i64_w, i32_w]
                  rfl
                -- 11: Op.fieldAddr 94 t119 3
                refine pure_ (i := 11) (N := (some 120)) (v := ?_) (a' := ?_) #[true, true, true, true, true, true, true, true, true, true, true, true, false, false, false, false, false, false, false, false, false, false] rfl rfl (by kernel_rfl) (fun _ _ _ h => h) (Or.inl ⟨by rfl, ?_⟩) ?_ ?_
                rotate_left
                · intro w'
                  go_simp
                  with_reducible rfl
                rotate_left
                · simp only [Act.put, List.setIfInBounds_toArray, List.set_cons_zero, List.set_cons_succ, i64_w, i32_w]
                  rfl
                -- 12: Op.load 24 t120
                refine take_ (i := 12) (N := (some 121)) (v := ?_) (a' := ?_) #[true, true, true, true, true, true, true, true, true, true, true, true, true, false, false, false, false, false, false, false, false, false] rfl rfl (by kernel_rfl) (fun _ _ _ h => h) (Or.inl ⟨by rfl, ?_⟩) hHeld ?_ ?_
                rotate_left
                · rintro w' ⟨s0, s1, s2⟩
                  go_simp
                  with_reducible rfl
                rotate_left
                · simp only [Act.put, List.setIfInBounds_toArray, List.set_cons_zero, List.set_cons_succ, i64_w, i32_w]
                  rfl
                -- 13: Op.fieldAddr 28 t15 1
                refine pure_ (i := 13) (N := (some 122)) (v := ?_) (a' := ?_) #[true, true, true, true, true, true, true, true, true, true, true, true, true, true, false, false, false, false, false, false, false, false] rfl rfl (by kernel_rfl) (fun _ _ _ h => h) (Or.inl ⟨by rfl, ?_⟩) ?_ ?_
                rotate_left
                · intro w'
                  go_simp
                  with_reducible rfl
                rotate_left
                · simp only [Act.put, List.setIfInBounds_toArray, List.set_cons_zero, List.set_cons_succ, i64_w, i32_w]
                  rfl
                -- 16: Op.nilCheck t109
                refine pure_ (i := 16) (N := (some 125)) (v := ?_) (a' := ?_) #[true, true, true, true, true, true, true, true, true, true, true, true, true, true, false, false, true, false, false, false, false, false] rfl rfl (by kernel_rfl) (fun _ _ _ h => h) (Or.inl ⟨by rfl, ?_⟩) ?_ ?_
                rotate_left
                · intro w'
                  go_simp
                  with_reducible rfl
                rotate_left
                · simp only [Act.put, List.setIfInBounds_toArray, List.set_cons_zero, List.set_cons_succ, i64_w, i32_w]
                  rfl
                -- 17: Op.fieldAddr 94 t125 2
                refine pure_ (i := 17) (N := (some 126)) (v := ?_) (a' := ?_) #[true, true, true, true, true, true, true, true, true, true, true, true, true, true, false, false, true, true, false, false, false, false] rfl rfl (by kernel_rfl) (fun _ _ _ h => h) (Or.inl ⟨by rfl, ?_⟩) ?_ ?_
                rotate_left
                · intro w'
                  go_simp
                  with_reducible rfl
                rotate_left
                · simp only [Act.put, List.setIfInBounds_toArray, List.set_cons_zero, List.set_cons_succ, i64_w, i32_w]
                  rfl
                have hfz : w12.frozen? ⟨g, 20, none⟩ = false := blk_frozen HA.out.sk.sl.head 20
                have hcz := hHeld.1
                have hco := hHeld.2.2
                clear hHeld
                refine mix_ (i := 14) (j := 18) (Ni := some 123) (Nj := none) (v := .int .u64 x.f1) #[true, true, true, true, true, true, true, true, true, true, true, true, true, true, true, false, true, true, false, false, false, false] #[true, true, true, true, true, true, true, true, true, true, true, true, true, true, false, false, true, true, true, false, false, false] rfl rfl rfl rfl (by kernel_rfl) (by decide) (by rfl) (by go_simp) ?_ (fun K hK => ?_)
                · refine norm_ (a' := ?_) ?_ ?_
                  rotate_left
                  · show Act.put _ (some 123) _ = _
                    simp only [Act.put, List.setIfInBounds_toArray, List.set_cons_zero, List.set_cons_succ, i64_w, i32_w]
                    rfl
                  have hHeld := True.intro
                  -- 15: Op.call { builtin max, args := #[t121, t123], argTypes := #[24, 24] }
                  refine pure_ (i := 15) (N := (some 124)) (v := ?_) (a' := ?_) #[true, true, true, true, true, true, true, true, true, true, true, true, true, true, true, true, true, true, false, false, false, false] rfl rfl (by kernel_rfl) (fun _ _ _ h => h) (Or.inl ⟨by rfl, ?_⟩) ?_ ?_
                  rotate_left
                  · intro w'
                    go_simp
                    with_reducible rfl
                  rotate_left
                  · simp only [Act.put, List.setIfInBounds_toArray, List.set_cons_zero, List.set_cons_succ, i64_w, i32_w]
                    rfl
                  -- 18
                  refine last_ (i := 18) (N := none) #[true, true, true, true, true, true, true, true, true, true, true, true, true, true, true, true, true, true, true, false, false, false] rfl rfl (by kernel_rfl) (by decide) (fun K hK => ?_)
                  clear hHeld
                  refine skip_ (w1 := w12.setCell ⟨g, 20, none⟩ (.int .u64 lv2)) (by rfl) rfl (by go_simp) ?_
                  refine hK.out _ _ ?_
                  clear hK K
                  have n0_ := Aside0.mk (HA.out.least lv2)
                  have n1_ : Aside0 (Kd.R k28 28 (w12.setCell ⟨g, 20, none⟩ (.int .u64 lv2)) w4.heap.size (fun _ => True) (.slice (some ad) R.length cR) R) := Aside0.mk (R28_set HA.out.sk HO.out)
                  have n2_ := Aside0.mk (show (w12.setCell ⟨g, 20, none⟩ (.int .u64 lv2)).heap[go]? = some (.cells #[.string x.f0, .int .u64 x.f1, .int .i64 x.f2, .string x.f3] 28 (0, 0)) from (Below.heap_setCell w12 ⟨g, 20, none⟩ _ go (g_ne HA.out.sk BO.out)).trans BO.out)
                  clear HA HO BO hfz hcz hco
                  generalize w12.setCell ⟨g, 20, none⟩ (.int .u64 lv2) = w13 at *
                  have HA := n0_
                  have HO := n1_
                  have BO := n2_
                  clear n0_ n1_ n2_
                  -- 19: Op.nilCheck t110
                  refine pure_ (i := 19) (N := (some 127)) (v := ?_) (a' := ?_) #[true, true, true, true, true, true, true, true, true, true, true, true, true, true, true, true, true, true, true, true, false, false] rfl rfl (by kernel_rfl) (fun _ _ _ h => h) (Or.inl ⟨by rfl, ?_⟩) ?_ ?_
                  rotate_left
                  · intro w'
                    go_simp
                    with_reducible rfl
                  rotate_left
                  · simp only [Act.put, List.setIfInBounds_toArray, List.set_cons_zero, List.set_cons_succ, i64_w, i32_w]
                    rfl
                  -- 20: Op.fieldAddr 94 t127 3
                  refine pure_ (i := 20) (N := (some 128)) (v := ?_) (a' := ?_) #[true, true, true, true, true, true, true, true, true, true, true, true, true, true, true, true, true, true, true, true, true, false] rfl rfl (by kernel_rfl) (fun _ _ _ h => h) (Or.inl ⟨by rfl, ?_⟩) ?_ ?_
                  rotate_left
                  · intro w'
                    go_simp
                    with_reducible rfl
                  rotate_left
                  · simp only [Act.put, List.setIfInBounds_toArray, List.set_cons_zero, List.set_cons_succ, i64_w, i32_w]
                    rfl
                  have hfz : w13.frozen? ⟨g, 21, none⟩ = false := blk_frozen HA.out.sk.sl.head 21
                  have hcz := (tab_cells HA.out.sk).2.2.2
                  have hHeld := True.intro
                  -- 21: Op.store 24 t128 t124
                  refine last_ (i := 21) (N := none) #[true, true, true, true, true, true, true, true, true, true, true, true, true, true, true, true, true, true, true, true, true, true] rfl rfl (by kernel_rfl) (by decide) (fun K hK => ?_)
                  refine skip_ (w1 := w13.setCell ⟨g, 21, none⟩ (.int .u64 gv2)) (by rfl) rfl (by go_simp) ?_
                  clear hHeld
                  refine hK.out _ _ ?_
                  clear hK K
                  have n0_ := Aside0.mk (HA.out.greatest gv2)
                  have n1_ : Aside0 (Kd.R k28 28 (w13.setCell ⟨g, 21, none⟩ (.int .u64 gv2)) w4.heap.size (fun _ => True) (.slice (some ad) R.length cR) R) := Aside0.mk (R28_set HA.out.sk HO.out)
                  clear HA HO BO hfz hcz
                  generalize w13.setCell ⟨g, 21, none⟩ (.int .u64 gv2) = w14 at *
                  have HA := n0_
                  have HO := n1_
                  clear n0_ n1_
                  refine done_ (by kernel_rfl) ?_
                  go_wp2_with fail
                  have ew : wrap64 ((i : Int) + 1) = ((i + 1 : Nat) : Int) := by have := HRL.out; unfold wrap64; omega
                  try rw [ew]
                  go_roundg q
                  case measure => omega
                  case rel => exact ⟨i + 1, rs2, rfl, ⟨by have := HK.out; omega⟩, HO, ⟨by rw [runT, XE.out, ← HTT.out, stepT, HVV.out, HLV.out, LV2.out, GV2.out, HR2.out]; exact HA.out⟩⟩
                · skip
                  refine skip_ (w1 := w12.setCell ⟨g, 20, none⟩ (.int .u64 lv2)) (by rfl) rfl (by go_simp) ?_
                  refine hK.out _ _ ?_
                  clear hK K
                  have n0_ := Aside0.mk (HA.out.least lv2)
                  have n1_ : Aside0 (Kd.R k28 28 (w12.setCell ⟨g, 20, none⟩ (.int .u64 lv2)) w4.heap.size (fun _ => True) (.slice (some ad) R.length cR) R) := Aside0.mk (R28_set HA.out.sk HO.out)
                  have n2_ := Aside0.mk (show (w12.setCell ⟨g, 20, none⟩ (.int .u64 lv2)).heap[go]? = some (.cells #[.string x.f0, .int .u64 x.f1, .int .i64 x.f2, .string x.f3] 28 (0, 0)) from (Below.heap_setCell w12 ⟨g, 20, none⟩ _ go (g_ne HA.out.sk BO.out)).trans BO.out)
                  clear HA HO BO hfz hcz hco
                  generalize w12.setCell ⟨g, 20, none⟩ (.int .u64 lv2) = w13 at *
                  have HA := n0_
                  have HO := n1_
                  have BO := n2_
                  clear n0_ n1_ n2_
                  have hco : w13.cell? ⟨go, 1, none⟩ = some (.int .u64 x.f1) := (blk_cell BO.out 1).trans rfl
                  refine here_ (i := 14) (N := some 123) (v := .int .u64 x.f1) #[true, true, true, true, true, true, true, true, true, true, true, true, true, true, true, false, true, true, true, false, false, false] rfl rfl (by kernel_rfl) (by rfl) (by go_simp) ?_
                  refine norm_ (a' := ?_) ?_ ?_
                  rotate_left
                  · show Act.put _ (some 123) _ = _
                    simp only [Act.put, List.setIfInBounds_toArray, List.set_cons_zero, List.set_cons_succ, i64_w, i32_w]
                    rfl
                  clear hco
                  -- 15: Op.call { builtin max, args := #[t121, t123], argTypes := #[24, 24] }
                  refine pure_ (i := 15) (N := (some 124)) (v := ?_) (a' := ?_) #[true, true, true, true, true, true, true, true, true, true, true, true, true, true, true, true, true, true, true, false, false, false] rfl rfl (by kernel_rfl) (fun _ _ _ h => h) (Or.inl ⟨by rfl, ?_⟩) ?_ ?_
                  rotate_left
                  · intro w'
                    go_simp
                    with_reducible rfl
                  rotate_left
                  · simp only [Act.put, List.setIfInBounds_toArray, List.set_cons_zero, List.set_cons_succ, i64_w, i32_w]
                    rfl
                  -- 19: Op.nilCheck t110
                  refine pure_ (i := 19) (N := (some 127)) (v := ?_) (a' := ?_) #[true, true, true, true, true, true, true, true, true, true, true, true, true, true, true, true, true, true, true, true, false, false] rfl rfl (by kernel_rfl) (fun _ _ _ h => h) (Or.inl ⟨by rfl, ?_⟩) ?_ ?_
                  rotate_left
                  · intro w'
                    go_simp
                    with_reducible rfl
                  rotate_left
                  · simp only [Act.put, List.setIfInBounds_toArray, List.set_cons_zero, List.set_cons_succ, i64_w, i32_w]
                    rfl
                  -- 20: Op.fieldAddr 94 t127 3
                  refine pure_ (i := 20) (N := (some 128)) (v := ?_) (a' := ?_) #[true, true, true, true, true, true, true, true, true, true, true, true, true, true, true, true, true, true, true, true, true, false] rfl rfl (by kernel_rfl) (fun _ _ _ h => h) (Or.inl ⟨by rfl, ?_⟩) ?_ ?_
                  rotate_left
                  · intro w'
                    go_simp
                    with_reducible rfl
                  rotate_left
                  · simp only [Act.put, List.setIfInBounds_toArray, List.set_cons_zero, List.set_cons_succ, i64_w, i32_w]
                    rfl
                  have hfz : w13.frozen? ⟨g, 21, none⟩ = false := blk_frozen HA.out.sk.sl.head 21
                  have hcz := (tab_cells HA.out.sk).2.2.2
                  have hHeld := True.intro
                  -- 21: Op.store 24 t128 t124
                  refine last_ (i := 21) (N := none) #[true, true, true, true, true, true, true, true, true, true, true, true, true, true, true, true, true, true, true, true, true, true] rfl rfl (by kernel_rfl) (by decide) (fun K hK => ?_)
                  refine skip_ (w1 := w13.setCell ⟨g, 21, none⟩ (.int .u64 gv2)) (by rfl) rfl (by go_simp) ?_
                  clear hHeld
                  refine hK.out _ _ ?_
                  clear hK K
                  have n0_ := Aside0.mk (HA.out.greatest gv2)
                  have n1_ : Aside0 (Kd.R k28 28 (w13.setCell ⟨g, 21, none⟩ (.int .u64 gv2)) w4.heap.size (fun _ => True) (.slice (some ad) R.length cR) R) := Aside0.mk (R28_set HA.out.sk HO.out)
                  clear HA HO BO hfz hcz
                  generalize w13.setCell ⟨g, 21, none⟩ (.int .u64 gv2) = w14 at *
                  have HA := n0_
                  have HO := n1_
                  clear n0_ n1_
                  refine done_ (by kernel_rfl) ?_
                  go_wp2_with fail
                  have ew : wrap64 ((i : Int) + 1) = ((i + 1 : Nat) : Int) := by have := HRL.out; unfold wrap64; omega
                  try rw [ew]
                  go_roundg q
                  case measure => omega
                  case rel => exact ⟨i + 1, rs2, rfl, ⟨by have := HK.out; omega⟩, HO, ⟨by rw [runT, XE.out, ← HTT.out, stepT, HVV.out, HLV.out, LV2.out, GV2.out, HR2.out]; exact HA.out⟩⟩
              · have g0 : (t.least == 0) = false := beq_eq_false_iff_ne.mpr hz
                have g1 : decide (t.least = 0) = false := decide_eq_false hz
                obtain ⟨lv, hlv⟩ : ∃ lv, (if t.least = 0 then x.f1 else t.least) = lv := ⟨_, rfl⟩
                have HLV := Aside0.mk hlv
                have HX1 := Aside0.mk (show t.least = lv by rw [← hlv, if_neg hz])
                clear hz hlv
                go_wp2_with fail
                clear l20 g0 g1
                have n0_ := HA.out
                rw [HX1.out] at n0_
                clear HA
                have HA := Aside0.mk n0_
                clear n0_
                obtain ⟨lv2, hlv2⟩ : ∃ v, v = (if x.f1 < lv then x.f1 else lv) := ⟨_, rfl⟩
                obtain ⟨gv2, hgv2⟩ : ∃ v, v = (if t.greatest < x.f1 then x.f1 else t.greatest) := ⟨_, rfl⟩
                have LV2 := Aside0.mk (show mn lv x.f1 = lv2 by rw [hlv2]; rfl)
                have GV2 := Aside0.mk (show mx t.greatest x.f1 = gv2 by rw [hgv2]; rfl)
                have u1 : True → (if x.f1 < lv then x.f1 else lv) = lv2 := fun _ => hlv2.symm
                have u2 : True → (if t.greatest < x.f1 then x.f1 else t.greatest) = gv2 := fun _ => hgv2.symm
                clear hlv2 hgv2
                go_wp2_with fail
                refine start_ (n := 22) (S := fun w' => w'.cell? ⟨g, 20, none⟩ = some (.int .u64 lv) ∧ w'.cell? ⟨g, 21, none⟩ = some (.int .u64 t.greatest) ∧ w'.cell? ⟨go, 1, none⟩ = some (.int .u64 x.f1)) (ds := [18, 21]) #[false, false, false, false, false, false, false, false, false, false, false, false, false, false, false, false, false, false, false, false, false, false] (by kernel_rfl) rfl rfl ⟨(tab_cells HA.out.sk).2.2.1, (tab_cells HA.out.sk).2.2.2, (blk_cell BO.out 1).trans rfl⟩ (fun hHeld => ?_)
                have n0_ := Aside0.mk (HA.out.below (pw_below_drewN (Below.refl _ _) 1))
                have n1_ : Aside0 (Kd.R k28 28 w10.drew w4.heap.size (fun _ => True) (.slice (some ad) R.length cR) R) := Aside0.mk (Kd.R_below HO.out (pw_below_drewN (Below.refl _ _) 1))
                have n2_ : Aside0 (w10.drew.heap[go]? = some (.cells #[.string x.f0, .int .u64 x.f1, .int .i64 x.f2, .string x.f3] 28 (0, 0))) := Aside0.mk (blk_drew BO.out)
                replace n0_ : Aside0 (AddP w w10.drew g rs ⟨putV x (clampH 1) t.l, room2, lv, t.greatest⟩ rs2) := n0_
                clear HA HO BO
                generalize w10.drew = w12 at *
                have HA := n0_
                have HO := n1_
                have BO := n2_
                clear n0_ n1_ n2_
                -- 0: Op.move t0
                refine pure_ (i := 0) (N := (some 109)) (v := ?_) (a' := ?_) #[true, false, false, false, false, false, false, false, false, false, false, false, false, false, false, false, false, false, false, false, false, false] rfl rfl (by kernel_rfl) (fun _ _ _ h => h) (Or.inl ⟨by rfl, ?_⟩) ?_ ?_
                rotate_left
                · intro w'
                  go_simp
                  with_reducible rfl
                rotate_left
                · simp only [Act.put, List.setIfInBounds_toArray, List.set_cons_zero, List.set_cons_succ, i64_w, i32_w]
                  rfl
                -- 1: Op.move t0
                refine pure_ (i := 1) (N := (some 110)) (v := ?_) (a' := ?_) #[true, true, false, false, false, false, false, false, false, false, false, false, false, false, false, false, false, false, false, false, false, false] rfl rfl (by kernel_rfl) (fun _ _ _ h => h) (Or.inl ⟨by rfl, ?_⟩) ?_ ?_
                rotate_left
                · intro w'
                  go_simp
                  with_reducible rfl
                rotate_left
                · simp only [Act.put, List.setIfInBounds_toArray, List.set_cons_zero, List.set_cons_succ, i64_w, i32_w]
                  rfl
                -- 2: Op.move t0
                refine pure_ (i := 2) (N := (some 111)) (v := ?_) (a' := ?_) #[true, true, true, false, false, false, false, false, false, false, false, false, false, false, false, false, false, false, false, false, false, false] rfl rfl (by kernel_rfl) (fun _ _ _ h => h) (Or.inl ⟨by rfl, ?_⟩) ?_ ?_
                rotate_left
                · intro w'
                  go_simp
                  with_reducible rfl
                rotate_left
                · simp only [Act.put, List.setIfInBounds_toArray, List.set_cons_zero, List.set_cons_succ, i64_w, i32_w]
                  rfl
                -- 3: Op.nilCheck t111
                refine pure_ (i := 3) (N := (some 112)) (v := ?_) (a' := ?_) #[true, true, true, true, false, false, false, false, false, false, false, false, false, false, false, false, false, false, false, false, false, false] rfl rfl (by kernel_rfl) (fun _ _ _ h => h) (Or.inl ⟨by rfl, ?_⟩) ?_ ?_
                rotate_left
                · intro w'
                  go_simp
                  with_reducible rfl
                rotate_left
                · simp only [Act.put, List.setIfInBounds_toArray, List.set_cons_zero, List.set_cons_succ, i64_w, i32_w]
                  rfl
                -- 4: Op.fieldAddr 94 t112 2
                refine pure_ (i := 4) (N := (some 113)) (v := ?_) (a' := ?_) #[true, true, true, true, true, false, false, false, false, false, false, false, false, false, false, false, false, false, false, false, false, false] rfl rfl (by kernel_rfl) (fun _ _ _ h => h) (Or.inl ⟨by rfl, ?_⟩) ?_ ?_
                rotate_left
                · intro w'
                  go_simp
                  with_reducible rfl
                rotate_left
                · simp only [Act.put, List.setIfInBounds_toArray, List.set_cons_zero, List.set_cons_succ, i64_w, i32_w]
                  rfl
                -- 5: Op.load 24 t113
                refine take_ (i := 5) (N := (some 114)) (v := ?_) (a' := ?_) #[true, true, true, true, true, true, false, false, false, false, false, false, false, false, false, false, false, false, false, false, false, false] rfl rfl (by kernel_rfl) (fun _ _ _ h => h) (Or.inl ⟨by rfl, ?_⟩) hHeld ?_ ?_
                rotate_left
                · rintro w' ⟨s0, s1, s2⟩
                  go_simp
                  with_reducible rfl
                rotate_left
                · simp only [Act.put, List.setIfInBounds_toArray, List.set_cons_zero, List.set_cons_succ, i64_w, i32_w]
                  rfl
                -- 6: Op.fieldAddr 28 t15 1
                refine pure_ (i := 6) (N := (some 115)) (v := ?_) (a' := ?_) #[true, true, true, true, true, true, true, false, false, false, false, false, false, false, false, false, false, false, false, false, false, false] rfl rfl (by kernel_rfl) (fun _ _ _ h => h) (Or.inl ⟨by rfl, ?_⟩) ?_ ?_
                rotate_left
                · intro w'
                  go_simp
                  with_reducible rfl
                rotate_left
                · simp only [Act.put, List.setIfInBounds_toArray, List.set_cons_zero, List.set_cons_succ, i64_w, i32_w]
                  rfl
                -- 7: Op.load 24 t115
                refine take_ (i := 7) (N := (some 116)) (v := ?_) (a' := ?_) #[true, true, true, true, true, true, true, true, false, false, false, false, false, false, false, false, false, false, false, false, false, false] rfl rfl (by kernel_rfl) (fun _ _ _ h => h) (Or.inl ⟨by rfl, ?_⟩) hHeld ?_ ?_
                rotate_left
                · rintro w' ⟨s0, s1, s2⟩
                  go_simp
                  with_reducible rfl
                rotate_left
                · simp only [Act.put, List.setIfInBounds_toArray, List.set_cons_zero, List.set_cons_succ, i64_w, i32_w]
                  rfl
                -- 8: Op.call { builtin min, args := #[t114, t116], argTypes := #[24, 24] }
                refine pure_ (i := 8) (N := (some 117)) (v := ?_) (a' := ?_) #[true, true, true, true, true, true, true, true, true, false, false, false, false, false, false, false, false, false, false, false, false, false] rfl rfl (by kernel_rfl) (fun _ _ _ h => h) (Or.inl ⟨by rfl, ?_⟩) ?_ ?_
                rotate_left
                · intro w'
                  go_simp
                  with_reducible rfl
                rotate_left
                · simp only [Act.put, List.setIfInBounds_toArray, List.set_cons_zero, List.set_cons_succ, i64_w, i32_w]
                  rfl
                -- 9: Op.move t0
                refine pure_ (i := 9) (N := (some 118)) (v := ?_) (a' := ?_) #[true, true, true, true, true, true, true, true, true, true, false, false, false, false, false, false, false, false, false, false, false, false] rfl rfl (by kernel_rfl) (fun _ _ _ h => h) (Or.inl ⟨by rfl, ?_⟩) ?_ ?_
                rotate_left
                · intro w'
                  go_simp
                  with_reducible rfl
                rotate_left
                · simp only [Act.put, List.setIfInBounds_toArray, List.set_cons_zero, List.set_cons_succ, i64_w, i32_w]
                  rfl
                -- 10: Op.nilCheck t118
                refine pure_ (i := 10) (N := (some 119)) (v := ?_) (a' := ?_) #[true, true, true, true, true, true, true, true, true, true, true, false, false, false, false, false, false, false, false, false, false, false] rfl rfl (by kernel_rfl) (fun _ _ _ h => h) (Or.inl ⟨by rfl, ?_⟩) ?_ ?_
                rotate_left
                · intro w'
                  go_simp
                  with_reducible rfl
                rotate_left
                · simp only [Act.put, List.setIfInBounds_toArray, List.set_cons_zero, List.set_cons_succ, i64_w, i32_w]
                  rfl
                -- 11: Op.fieldAddr 94 t119 3
                refine pure_ (i := 11) (N := (some 120)) (v := ?_) (a' := ?_) #[true, true, true, true, true, true, true, true, true, true, true, true, false, false, false, false, false, false, false, false, false, false] rfl rfl (by kernel_rfl) (fun _ _ _ h => h) (Or.inl ⟨by rfl, ?_⟩) ?_ ?_
                rotate_left
                · intro w'
                  go_simp
                  with_reducible rfl
                rotate_left
                · simp only [Act.put, List.setIfInBounds_toArray, List.set_cons_zero, List.set_cons_succ, i64_w, i32_w]
                  rfl
                -- 12: Op.load 24 t120
                refine take_ (i := 12) (N := (some 121)) (v := ?_) (a' := ?_) #[true, true, true, true, true, true, true, true, true, true, true, true, true, false, false, false, false, false, false, false, false, false] rfl rfl (by kernel_rfl) (fun _ _ _ h => h) (Or.inl ⟨by rfl, ?_⟩) hHeld ?_ ?_
                rotate_left
                · rintro w' ⟨s0, s1, s2⟩
                  go_simp
                  with_reducible rfl
                rotate_left
                · simp only [Act.put, List.setIfInBounds_toArray, List.set_cons_zero, List.set_cons_succ, i64_w, i32_w]
                  rfl
                -- 13: Op.fieldAddr 28 t15 1
                refine pure_ (i := 13) (N := (some 122)) (v := ?_) (a' := ?_) #[true, true, true, true, true, true, true, true, true, true, true, true, true, true, false, false, false, false, false, false, false, false] rfl rfl (by kernel_rfl) (fun _ _ _ h => h) (Or.inl ⟨by rfl, ?_⟩) ?_ ?_
                rotate_left
                · intro w'
                  go_simp
                  with_reducible rfl
                rotate_left
                · simp only [Act.put, List.setIfInBounds_toArray, List.set_cons_zero, List.set_cons_succ, i64_w, i32_w]
                  rfl
                -- 16: Op.nilCheck t109
                refine pure_ (i := 16) (N := (some 125)) (v := ?_) (a' := ?_) #[true, true, true, true, true, true, true, true, true, true, true, true, true, true, false, false, true, false, false, false, false, false] rfl rfl (by kernel_rfl) (fun _ _ _ h => h) (Or.inl ⟨by rfl, ?_⟩) ?_ ?_
                rotate_left
                · intro w'
                  go_simp
                  with_reducible rfl
                rotate_left
                · simp only [Act.put, List.setIfInBounds_toArray, List.set_cons_zero, List.set_cons_succ, i64_w, i32_w]
                  rfl
                -- 17: Op.fieldAddr 94 t125 2
                refine pure_ (i := 17) (N := (some 126)) (v := ?_) (a' := ?_) #[true, true, true, true, true, true, true, true, true, true, true, true, true, true, false, false, true, true, false, false, false, false] rfl rfl (by kernel_rfl) (fun _ _ _ h => h) (Or.inl ⟨by rfl, ?_⟩) ?_ ?_
                rotate_left
                · intro w'
                  go_simp
                  with_reducible rfl
                rotate_left
                · simp only [Act.put, List.setIfInBounds_toArray, List.set_cons_zero, List.set_cons_succ, i64_w, i32_w]
                  rfl
                have hfz : w12.frozen? ⟨g, 20, none⟩ = false := blk_frozen HA.out.sk.sl.head 20
                have hcz := hHeld.1
                have hco := hHeld.2.2
                clear hHeld
                refine mix_ (i := 14) (j := 18) (Ni := some 123) (Nj := none) (v := .int .u64 x.f1) #[true, true, true, true, true, true, true, true, true, true, true, true, true, true, true, false, true, true, false, false, false, false] #[true, true, true, true, true, true, true, true, true, true, true, true, true, true, false, false, true, true, true, false, false, false] rfl rfl rfl rfl (by kernel_rfl) (by decide) (by rfl) (by go_simp) ?_ (fun K hK => ?_)
                · refine norm_ (a' := ?_) ?_ ?_
                  rotate_left
                  · show Act.put _ (some 123) _ = _
                    simp only [Act.put, List.setIfInBounds_toArray, List.set_cons_zero, List.set_cons_succ, i64_w, i32_w]
                    rfl
                  have hHeld := True.intro
                  -- 15: Op.call { builtin max, args := #[t121, t123], argTypes := #[24, 24] }
                  refine pure_ (i := 15) (N := (some 124)) (v := ?_) (a' := ?_) #[true, true, true, true, true, true, true, true, true, true, true, true, true, true, true, true, true, true, false, false, false, false] rfl rfl (by kernel_rfl) (fun _ _ _ h => h) (Or.inl ⟨by rfl, ?_⟩) ?_ ?_
                  rotate_left
                  · intro w'
                    go_simp
                    with_reducible rfl
                  rotate_left
                  · simp only [Act.put, List.setIfInBounds_toArray, List.set_cons_zero, List.set_cons_succ, i64_w, i32_w]
                    rfl
                  -- 18
                  refine last_ (i := 18) (N := none) #[true, true, true, true, true, true, true, true, true, true, true, true, true, true, true, true, true, true, true, false, false, false] rfl rfl (by kernel_rfl) (by decide) (fun K hK => ?_)
                  clear hHeld
                  refine skip_ (w1 := w12.setCell ⟨g, 20, none⟩ (.int .u64 lv2)) (by rfl) rfl (by go_simp) ?_
                  refine hK.out _ _ ?_
                  clear hK K
                  have n0_ := Aside0.mk (HA.out.least lv2)
                  have n1_ : Aside0 (Kd.R k28 28 (w12.setCell ⟨g, 20, none⟩ (.int .u64 lv2)) w4.heap.size (fun _ => True) (.slice (some ad) R.length cR) R) := Aside0.mk (R28_set HA.out.sk HO.out)
                  have n2_ := Aside0.mk (show (w12.setCell ⟨g, 20, none⟩ (.int .u64 lv2)).heap[go]? = some (.cells #[.string x.f0, .int .u64 x.f1, .int .i64 x.f2, .string x.f3] 28 (0, 0)) from (Below.heap_setCell w12 ⟨g, 20, none⟩ _ go (g_ne HA.out.sk BO.out)).trans BO.out)
                  clear HA HO BO hfz hcz hco
                  generalize w12.setCell ⟨g, 20, none⟩ (.int .u64 lv2) = w13 at *
                  have HA := n0_
                  have HO := n1_
                  have BO := n2_
                  clear n0_ n1_ n2_
                  -- 19: Op.nilCheck t110
                  refine pure_ (i := 19) (N := (some 127)) (v := ?_) (a' := ?_) #[true, true, true, true, true, true, true, true, true, true, true, true, true, true, true, true, true, true, true, true, false, false] rfl rfl (by kernel_rfl) (fun _ _ _ h => h) (Or.inl ⟨by rfl, ?_⟩) ?_ ?_
                  rotate_left
                  · intro w'
                    go_simp
                    with_reducible rfl
                  rotate_left
                  · simp only [Act.put, List.setIfInBounds_toArray, List.set_cons_zero, List.set_cons_succ, i64_w, i32_w]
                    rfl
                  -- 20: Op.fieldAddr 94 t127 3
                  refine pure_ (i := 20) (N := (some 128)) (v := ?_) (a' := ?_) #[true, true, true, true, true, true, true, true, true, true, true, true, true, true, true, true, true, true, true, true, true, false] rfl rfl (by kernel_rfl) (fun _ _ _ h => h) (Or.inl ⟨by rfl, ?_⟩) ?_ ?_
                  rotate_left
                  · intro w'
                    go_simp
                    with_reducible rfl
                  rotate_left
                  · simp only [Act.put, List.setIfInBounds_toArray, List.set_cons_zero, List.set_cons_succ, i64_w, i32_w]
                    rfl
                  have hfz : w13.frozen? ⟨g, 21, none⟩ = false := blk_frozen HA.out.sk.sl.head 21
                  have hcz := (tab_cells HA.out.sk).2.2.2
                  have hHeld := True.intro
                  -- 21: Op.store 24 t128 t124
                  refine last_ (i := 21) (N := none) #[true, true, true, true, true, true, true, true, true, true, true, true, true, true, true, true, true, true, true, true, true, true] rfl rfl (by kernel_rfl) (by decide) (fun K hK => ?_)
                  refine skip_ (w1 := w13.setCell ⟨g, 21, none⟩ (.int .u64 gv2)) (by rfl) rfl (by go_simp) ?_
                  clear hHeld
                  refine hK.out _ _ ?_
                  clear hK K
                  have n0_ := Aside0.mk (HA.out.greatest gv2)
                  have n1_ : Aside0 (Kd.R k28 28 (w13.setCell ⟨g, 21, none⟩ (.int .u64 gv2)) w4.heap.size (fun _ => True) (.slice (some ad) R.length cR) R) := Aside0.mk (R28_set HA.out.sk HO.out)
                  clear HA HO BO hfz hcz
                  generalize w13.setCell ⟨g, 21, none⟩ (.int .u64 gv2) = w14 at *
                  have HA := n0_
                  have HO := n1_
                  clear n0_ n1_
                  refine done_ (by kernel_rfl) ?_
                  go_wp2_with fail
                  have ew : wrap64 ((i : Int) + 1) = ((i + 1 : Nat) : Int) := by have := HRL.out; unfold wrap64; omega
                  try rw [ew]
                  go_roundg q
                  case measure => omega
                  case rel => exact ⟨i + 1, rs2, rfl, ⟨by have := HK.out; omega⟩, HO, ⟨by rw [runT, XE.out, ← HTT.out, stepT, HVV.out, HLV.out, LV2.out, GV2.out, HR2.out]; exact HA.out⟩⟩
                · skip
                  refine skip_ (w1 := w12.setCell ⟨g, 20, none⟩ (.int .u64 lv2)) (by rfl) rfl (by go_simp) ?_
                  refine hK.out _ _ ?_
                  clear hK K
                  have n0_ := Aside0.mk (HA.out.least lv2)
                  have n1_ : Aside0 (Kd.R k28 28 (w12.setCell ⟨g, 20, none⟩ (.int .u64 lv2)) w4.heap.size (fun _ => True) (.slice (some ad) R.length cR) R) := Aside0.mk (R28_set HA.out.sk HO.out)
                  have n2_ := Aside0.mk (show (w12.setCell ⟨g, 20, none⟩ (.int .u64 lv2)).heap[go]? = some (.cells #[.string x.f0, .int .u64 x.f1, .int .i64 x.f2, .string x.f3] 28 (0, 0)) from (Below.heap_setCell w12 ⟨g, 20, none⟩ _ go (g_ne HA.out.sk BO.out)).trans BO.out)
                  clear HA HO BO hfz hcz hco
                  generalize w12.setCell ⟨g, 20, none⟩ (.int .u64 lv2) = w13 at *
                  have HA := n0_
                  have HO := n1_
                  have BO := n2_
                  clear n0_ n1_ n2_
                  have hco : w13.cell? ⟨go, 1, none⟩ = some (.int .u64 x.f1) := (blk_cell BO.out 1).trans rfl
                  refine here_ (i := 14) (N := some 123) (v := .int .u64 x.f1) #[true, true, true, true, true, true, true, true, true, true, true, true, true, true, true, false, true, true, true, false, false, false] rfl rfl (by kernel_rfl) (by rfl) (by go_simp) ?_
                  refine norm_ (a' := ?_) ?_ ?_
                  rotate_left
                  · show Act.put _ (some 123) _ = _
                    simp only [Act.put, List.setIfInBounds_toArray, List.set_cons_zero, List.set_cons_succ, i64_w, i32_w]
                    rfl
                  clear hco
                  -- 15: Op.call { builtin max, args := #[t121, t123], argTypes := #[24, 24] }
                  refine pure_ (i := 15) (N := (some 124)) (v := ?_) (a' := ?_) #[true, true, true, true, true, true, true, true, true, true, true, true, true, true, true, true, true, true, true, false, false, false] rfl rfl (by kernel_rfl) (fun _ _ _ h => h) (Or.inl ⟨by rfl, ?_⟩) ?_ ?_
                  rotate_left
                  · intro w'
                    go_simp
                    with_reducible rfl
                  rotate_left
                  · simp only [Act.put, List.setIfInBounds_toArray, List.set_cons_zero, List.set_cons_succ, i64_w, i32_w]
                    rfl
                  -- 19: Op.nilCheck t110
                  refine pure_ (i := 19) (N := (some 127)) (v := ?_) (a' := ?_) #[true, true, true, true, true, true, true, true, true, true, true, true, true, true, true, true, true, true, true, true, false, false] rfl rfl (by kernel_rfl) (fun _ _ _ h => h) (Or.inl ⟨by rfl, ?_⟩) ?_ ?_
                  rotate_left
                  · intro w'
                    go_simp
                    with_reducible rfl
                  rotate_left
                  · simp only [Act.put, List.setIfInBounds_toArray, List.set_cons_zero, List.set_cons_succ, i64_w, i32_w]
                    rfl
                  -- 20: Op.fieldAddr 94 t127 3
                  refine pure_ (i := 20) (N := (some 128)) (v := ?_) (a' := ?_) #[true, true, true, true, true, true, true, true, true, true, true, true, true, true, true, true, true, true, true, true, true, false] rfl rfl (by kernel_rfl) (fun _ _ _ h => h) (Or.inl ⟨by rfl, ?_⟩) ?_ ?_
                  rotate_left
                  · intro w'
                    go_simp
                    with_reducible rfl
                  rotate_left
                  · simp only [Act.put, List.setIfInBounds_toArray, List.set_cons_zero, List.set_cons_succ, i64_w, i32_w]
                    rfl
                  have hfz : w13.frozen? ⟨g, 21, none⟩ = false := blk_frozen HA.out.sk.sl.head 21
                  have hcz := (tab_cells HA.out.sk).2.2.2
                  have hHeld := True.intro
                  -- 21: Op.store 24 t128 t124
                  refine last_ (i := 21) (N := none) #[true, true, true, true, true, true, true, true, true, true, true, true, true, true, true, true, true, true, true, true, true, true] rfl rfl (by kernel_rfl) (by decide) (fun K hK => ?_)
                  refine skip_ (w1 := w13.setCell ⟨g, 21, none⟩ (.int .u64 gv2)) (by rfl) rfl (by go_simp) ?_
                  clear hHeld
                  refine hK.out _ _ ?_
                  clear hK K
                  have n0_ := Aside0.mk (HA.out.greatest gv2)
                  have n1_ : Aside0 (Kd.R k28 28 (w13.setCell ⟨g, 21, none⟩ (.int .u64 gv2)) w4.heap.size (fun _ => True) (.slice (some ad) R.length cR) R) := Aside0.mk (R28_set HA.out.sk HO.out)
                  clear HA HO BO hfz hcz
                  generalize w13.setCell ⟨g, 21, none⟩ (.int .u64 gv2) = w14 at *
                  have HA := n0_
                  have HO := n1_
                  clear n0_ n1_
                  refine done_ (by kernel_rfl) ?_
                  go_wp2_with fail
                  have ew : wrap64 ((i : Int) + 1) = ((i + 1 : Nat) : Int) := by have := HRL.out; unfold wrap64; omega
                  try rw [ew]
                  go_roundg q
                  case measure => omega
                  case rel => exact ⟨i + 1, rs2, rfl, ⟨by have := HK.out; omega⟩, HO, ⟨by rw [runT, XE.out, ← HTT.out, stepT, HVV.out, HLV.out, LV2.out, GV2.out, HR2.out]; exact HA.out⟩⟩
      | succ q =>
        have hi : i < R.length := by have := HK.out; omega
        have d0 : decide ((i : Int) < (R.length : Int)) = true := decide_eq_true (by omega)
        have d1 : decide (i < R.length) = true := decide_eq_true hi
        have p0 : 0 ≤ (i : Int) := Int.natCast_nonneg _
        have p1 : (i : Int) < (R.length : Int) := Int.ofNat_lt.mpr hi
        obtain ⟨ad, x, ea, hxx, hx0, hx1, hx2, hx3⟩ := at_row (Kd.C_below RC.out HBL.out) i hi
        cases ea
        have XE := Aside0.mk hxx
        have z0 : (wr.alloc (.cells #[.string x.f0, .int .u64 x.f1, .int .i64 x.f2, .string x.f3] 28)).cell? ⟨wr.heap.size, 0, none⟩ = some (.string x.f0) := (blk_cell (blk_new wr (.cells #[.string x.f0, .int .u64 x.f1, .int .i64 x.f2, .string x.f3] 28)) 0).trans rfl
        have z1 : (wr.alloc (.cells #[.string x.f0, .int .u64 x.f1, .int .i64 x.f2, .string x.f3] 28)).cell? ⟨wr.heap.size, 1, none⟩ = some (.int .u64 x.f1) := (blk_cell (blk_new wr (.cells #[.string x.f0, .int .u64 x.f1, .int .i64 x.f2, .string x.f3] 28)) 1).trans rfl
        clear hxx
        go_wp2_with fail
        have hal := (Below.refl wr.heap.size wr).alloc (Nat.le_refl _) (.cells #[.string x.f0, .int .u64 x.f1, .int .i64 x.f2, .string x.f3] 28)
        have HB6 := Aside0.mk (below_step HBL.out hal)
        have BO := Aside0.mk (blk_new wr (.cells #[.string x.f0, .int .u64 x.f1, .int .i64 x.f2, .string x.f3] 28))
        clear HBL z0 z1 hx0 hx1 hx2 hx3 hal
        generalize wr.heap.size = go at *
        generalize wr.alloc (.cells #[.string x.f0, .int .u64 x.f1, .int .i64 x.f2, .string x.f3] 28) = w6 at *
        obtain ⟨y, hy⟩ : ∃ y, y = seekRow x.f0 x.f1 rs := ⟨_, rfl⟩
        obtain ⟨b, hbk⟩ : ∃ b, b = seekOk x.f0 x.f1 rs := ⟨_, rfl⟩
        have HT := Aside0.mk (taken_seek x rs)
        rw [← hy, ← hbk] at HT
        have hsk := seek_calls w6 g rs x.f0 x.f1 (HS.out.below HB6.out) (by have := HLN.out; omega)
        rw [← hy, ← hbk, show rowV y = .agg #[.string y.f0, .int .u64 y.f1, .int .i64 y.f2, .string y.f3] from rfl] at hsk
        refine (hsk).mono ?_
        clear hsk hy hbk
        rintro e w7 ⟨rfl, hb⟩
        have HB7 := Aside0.mk (below_step HB6.out hb)
        have BO7 := Aside0.mk (blk_below BO.out hb)
        clear hb HB6 BO
        have hal := (Below.refl w7.heap.size w7).alloc (Nat.le_refl _) (.cells #[.string y.f0, .int .u64 y.f1, .int .i64 y.f2, .string y.f3] 28)
        have HB8 := Aside0.mk (below_step HB7.out hal)
        have a0 : (w7.alloc (.cells #[.string y.f0, .int .u64 y.f1, .int .i64 y.f2, .string y.f3] 28)).cell? ⟨go, 0, none⟩ = some (.string x.f0) := (blk_cell (blk_below BO7.out hal) 0).trans rfl
        have a1 : (w7.alloc (.cells #[.string y.f0, .int .u64 y.f1, .int .i64 y.f2, .string y.f3] 28)).cell? ⟨go, 1, none⟩ = some (.int .u64 x.f1) := (blk_cell (blk_below BO7.out hal) 1).trans rfl
        have b0 : (w7.alloc (.cells #[.string y.f0, .int .u64 y.f1, .int .i64 y.f2, .string y.f3] 28)).cell? ⟨w7.heap.size, 0, none⟩ = some (.string y.f0) := (blk_cell (blk_new w7 (.cells #[.string y.f0, .int .u64 y.f1, .int .i64 y.f2, .string y.f3] 28)) 0).trans rfl
        have b1 : (w7.alloc (.cells #[.string y.f0, .int .u64 y.f1, .int .i64 y.f2, .string y.f3] 28)).cell? ⟨w7.heap.size, 1, none⟩ = some (.int .u64 y.f1) := (blk_cell (blk_new w7 (.cells #[.string y.f0, .int .u64 y.f1, .int .i64 y.f2, .string y.f3] 28)) 1).trans rfl
        have XM := Aside0.mk (show x ∈ R by rw [← XE.out, List.getD_eq_getElem?_getD, List.getElem?_eq_getElem hi]; exact List.getElem_mem _)
        have NT := fun (hq : takenV x (vals rs) = false) => show ∀ r, r ∈ R.take (i + 1) → takenV r (vals rs) = false from fun r hr => by
          rw [List.take_add_one, List.getElem?_eq_getElem hi] at hr
          rcases List.mem_append.mp hr with hr | hr
          · exact HNT.out r hr
          · simp at hr
            have e1 := XE.out
            rw [List.getD_eq_getElem?_getD, List.getElem?_eq_getElem hi] at e1
            rw [hr, show R[i] = x from e1]
            exact hq
        have HNT2 := Aside0.mk NT
        clear hal NT BO7 HB7
        cases b with
        | false =>
          go_wp2_with fail
          have ew : wrap64 ((i : Int) + 1) = ((i + 1 : Nat) : Int) := by have := HRL.out; unfold wrap64; omega
          try rw [ew]
          go_roundg q
          case measure => omega
          case rel => exact ⟨i + 1, rfl, ⟨by have := HK.out; omega⟩, ⟨HNT2.out (by rw [HT.out]; rfl)⟩, HB8⟩
        | true =>
          by_cases hk : y.f0 = x.f0
          · have k3 : (y.f0.toList == x.f0.toList) = true := beq_iff_eq.mpr (by rw [hk])
            have k6 : decide (y.f0.toList = x.f0.toList) = true := decide_eq_true (by rw [hk])
            have K1 := Aside0.mk hk
            clear hk
            by_cases hq : y.f1 = x.f1
            · have k4 : (y.f1 == x.f1) = true := beq_iff_eq.mpr hq
              have k5 : decide (y.f1 = x.f1) = true := decide_eq_true hq
              have K2 := Aside0.mk hq
              clear hq
              go_wp2_with fail
              go_ret
              exact .inr (.inl ⟨F0.out, ⟨x, XM.out, by rw [HT.out, decide_eq_true K1.out, decide_eq_true K2.out]; rfl⟩, rfl, below_step HB.out HB8.out⟩)
            · have k4 : (y.f1 == x.f1) = false := beq_eq_false_iff_ne.mpr hq
              have k5 : decide (y.f1 = x.f1) = false := decide_eq_false hq
              have K2 := Aside0.mk hq
              clear hq
              go_wp2_with fail
              have ew : wrap64 ((i : Int) + 1) = ((i + 1 : Nat) : Int) := by have := HRL.out; unfold wrap64; omega
              try rw [ew]
              go_roundg q
              case measure => omega
              case rel => exact ⟨i + 1, rfl, ⟨by have := HK.out; omega⟩, ⟨HNT2.out (by rw [HT.out, decide_eq_false K2.out, Bool.and_false, Bool.and_false])⟩, HB8⟩
          · have hk2 : ¬ y.f0.toList = x.f0.toList := fun e => hk (Go.WideShapes.bytes_inj (by rw [ByteArray.toList_eq, ByteArray.toList_eq] at e; exact e))
            have k3 : (y.f0.toList == x.f0.toList) = false := beq_eq_false_iff_ne.mpr hk2
            have k6 : decide (y.f0.toList = x.f0.toList) = false := decide_eq_false hk2
            have K1 := Aside0.mk hk
            clear hk hk2
            go_wp2_with fail
            have ew : wrap64 ((i : Int) + 1) = ((i + 1 : Nat) : Int) := by have := HRL.out; unfold wrap64; omega
            try rw [ew]
            go_roundg q
            case measure => omega
            case rel => exact ⟨i + 1, rfl, ⟨by have := HK.out; omega⟩, ⟨HNT2.out (by rw [HT.out, decide_eq_false K1.out, Bool.false_and, Bool.and_false])⟩, HB8⟩
  · have f1 : (f == 0) = false := beq_eq_false_iff_ne.mpr hf0
    have f2 : (f != 0) = true := bne_iff_ne.mpr hf0
    have f3 : decide (f = 0) = false := decide_eq_false hf0
    have F0 := Aside0.mk hf0
    clear hf0
    go_wp2_with fail
    go_ret
    exact .inl ⟨F0.out, rfl, HB.out⟩
end Go.Proofs.Ytfemebenkbobnaa.SM
