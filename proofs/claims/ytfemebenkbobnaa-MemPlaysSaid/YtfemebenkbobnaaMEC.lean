import Derived.Test.YtfemebenkbobnaaMEB
import Derived.Test.YtfemebenkbobnaaS06
/- A table beside the document's rows: the state that MemPlays keeps, and the calls in its terms. Conditions: at most 60 calls. -/
namespace Go.Proofs.Ytfemebenkbobnaa.SM
set_option linter.unusedVariables false
set_option linter.unusedSimpArgs false
open Go.RowKit Go.Shelf Go.Proofs.YtfemebenkbobnaaW.PrintWords Go.Proofs.YtfemebenkbobnaaW.PrintLast Go.Proofs.YtfemebenkbobnaaW.PrintMore Go.Proofs.Ytfemebenkbobnaa.PB06
theorem samew_refl (n : Int) (a : List S72) (ha : a.length ≤ 4611686018427387904) : ∃ k, freshetref06_Same.f k n a n a = some true := by
  have hl : ∀ c i, i + c = a.length → freshetref06_Same.l0 (c + 1) (i : Int) n a n a = some true := by
    intro c
    induction c with
    | zero =>
      intro i hi
      rw [freshetref06_Same.l0, if_neg (by omega)]
    | succ c ih =>
      intro i hi
      rw [freshetref06_Same.l0, if_pos (by omega), if_pos (by omega), if_pos (by omega), if_neg (by simp), show wrap64 ((i : Int) + 1) = ((i + 1 : Nat) : Int) by unfold wrap64; omega]
      exact ih (i + 1) (by omega)
  refine ⟨a.length + 2, ?_⟩
  rw [freshetref06_Same.f, if_pos rfl, freshetref06_Same.j0, if_neg (by simp)]
  exact hl a.length 0 (by omega)
theorem samew_true (w : World) (n : Int) (A0 : Option Addr) (c0 : Nat) (A1 : Option Addr) (c1 : Nat) (a : List S72) (h0 : Kd.C k72 w A0 a.length a) (hc0 : a.length ≤ c0) (h1 : Kd.C k72 w A1 a.length a) (hc1 : a.length ≤ c1) (ha : a.length ≤ 4611686018427387904) :
    Calls Try.prog 42 #[.agg #[.int .u64 n, .slice A0 a.length c0], .agg #[.int .u64 n, .slice A1 a.length c1]] w fun e w' => e = .returned (.bool true) ∧ Below w.heap.size w w' := by
  obtain ⟨k, hk⟩ := samew_refl n a ha
  refine (freshetref06_Same.calls k n A0 c0 a n A1 c1 a true w h0 hc0 h1 hc1 hk).mono fun e w' h => ⟨h.1, ?_⟩
  first | exact h.2 | exact drawn_below h.2
/-- The table at ga, its rows side by side with the document's list at A. -/
structure St (w0 w : World) (ga : Nat) (rs : List Nd) (t : Ts) (A : Option Addr) (c i : Nat) : Prop where
  sk : Sk (tabT t.room t.least t.greatest) w ga rs
  vl : vals rs = t.l
  row : Kd.R k28 28 w w0.heap.size (fun _ => True) (.slice A t.l.length c) (t.l.map (·.1))
  lo : ∀ k, k ∈ fp ga rs → w0.heap.size ≤ k
  bel : Below w0.heap.size w0 w
  told : Told t
  small : Small t i
theorem sk_typed3 {room least greatest : Int} {w : World} {g : Nat} {rs : List Nd} (h : Sk (tabT room least greatest) w g rs) : ∀ k, k ∈ fp g rs → ∃ cs q, w.heap[k]? = some (.cells cs q (0, 0)) ∧ q ≠ 28 ∧ q ≠ 58 ∧ q ≠ 72 ∧ q ≠ 84 := fun k hk => by
  rcases fp_mem.mp hk with rfl | hk
  · exact ⟨_, _, h.sl.head, Tl.ne _ (by decide) (by decide), Tl.ne _ (by decide) (by decide), Tl.ne _ (by decide) (by decide), Tl.ne _ (by decide) (by decide)⟩
  · obtain ⟨x, hx, rfl⟩ := List.mem_map.mp hk
    obtain ⟨cs, hc⟩ := h.sl.chain.mem x hx
    exact ⟨cs, _, hc, by decide, by decide, by decide, by decide⟩
theorem not_fp {room least greatest : Int} {w : World} {g go q : Nat} {cs : Array Value} {rs : List Nd} (h : Sk (tabT room least greatest) w g rs) (hc : w.heap[go]? = some (.cells cs q (0, 0))) (hq : q = 28 ∨ q = 58 ∨ q = 72 ∨ q = 84) : go ∉ fp g rs := fun hm => by
  obtain ⟨cs', t, h1, h2⟩ := sk_typed3 h go hm
  rw [hc] at h1
  cases h1
  rcases hq with rfl | rfl | rfl | rfl
  · exact h2.1 rfl
  · exact h2.2.1 rfl
  · exact h2.2.2.1 rfl
  · exact h2.2.2.2 rfl
/-- A block of none of a table's types stays where Add runs. -/
theorem add_blk {room least greatest : Int} {w w' : World} {g go q : Nat} {cs : Array Value} {rs rs' : List Nd} {t : Ts} (hs : Sk (tabT room least greatest) w g rs) (ha : AddP w w' g rs t rs') (hc : w.heap[go]? = some (.cells cs q (0, 0))) (hq : q = 28 ∨ q = 58 ∨ q = 72 ∨ q = 84) : w'.heap[go]? = some (.cells cs q (0, 0)) := by
  have hn := not_fp hs hc hq
  exact (ha.kp.same go (blk_lt hc) (fun e => hn (fp_mem.mpr (.inl e))) (fun e => hn (fp_mem.mpr (.inr e)))).trans hc
theorem R72_keep {w w' : World} {base : Nat} {v : Value} {xs : List S72} (h : Kd.R k72 72 w base (fun _ => True) v xs) (hk : ∀ (k : Nat) (cs : Array Value), w.heap[k]? = some (.cells cs 72 (0, 0)) → w'.heap[k]? = w.heap[k]?) : Kd.R k72 72 w' base (fun _ => True) v xs := by
  refine Kd.R_mono (Kd.R_step (Kd.R_bound h) (fun k ho _ => ?_)) (fun _ _ => trivial)
  obtain ⟨_, _, _, q, hq, cells, hc⟩ := ho
  have hq72 : q = 72 := by
    rcases List.mem_cons.mp hq with e | e
    · exact e
    · exact absurd e (by have : k72.E = [] := rfl; rw [this]; simp)
  subst hq72
  exact hk k cells hc
section
variable {w0 w w' w1 w2 : World} {ga : Nat} {rs rs' : List Nd} {t : Ts} {A A' : Option Addr} {c c' i : Nat}
theorem St.below (h : St w0 w ga rs t A c i) (hb : Below w.heap.size w w') : St w0 w' ga rs t A c i := ⟨h.sk.below hb, h.vl, Kd.R_below h.row hb, h.lo, below_step h.bel hb, h.told, h.small⟩
theorem St.more (h : St w0 w ga rs t A c i) : St w0 w ga rs t A c (i + 1) := ⟨h.sk, h.vl, h.row, h.lo, h.bel, h.told, ⟨by have := h.small.len; omega, h.small.lo, by have := h.small.hi; omega, h.small.u64⟩⟩
theorem St.size (h : St w0 w ga rs t A c i) : rs.length = t.l.length := by rw [← h.vl, vals_len]
theorem St.len (h : St w0 w ga rs t A c i) (hi : i ≤ 100) : t.l.length ≤ 7000 := by have := h.small.len; omega
theorem St.rows (h : St w0 w ga rs t A c i) : rowsN rs = t.l.map (·.1) := by rw [← h.vl, rowsN_vals]
theorem St.reads (h : St w0 w ga rs t A c i) : t.l.length ≤ c ∧ k28.C w A (t.l.map (·.1)).length (t.l.map (·.1)) := by
  have h1 := Kd.R_reads' h.row
  exact ⟨h1.2.1, h1.2.2⟩
/-- Another block of a row of writes has been written. -/
theorem St.grown {g q : Nat} {cs : Array Value} (h : St w0 w ga rs t A c i) (hg : w.heap[g]? = some (.cells cs q (0, 0))) (hq : q = 58 ∨ q = 72) (hgr : w.grownBy w1 (some g)) (hlo : w0.heap.size ≤ g) : St w0 w1 ga rs t A c i := by
  refine ⟨h.sk.keep fun k hk => ?_, h.vl, R28_keep h.row fun k cs' hk => hgr.block k (blk_lt hk) (fun e => ?_), h.lo, pw_below_grown h.bel (some g) h.bel.size hgr (fun k hk => by cases hk; exact hlo), h.told, h.small⟩
  · obtain ⟨cs', q, h1, h2⟩ := sk_typed3 h.sk k (fp_mem.mpr hk)
    refine hgr.block k (blk_lt h1) (fun e => ?_)
    cases e
    rw [hg] at h1
    cases h1
    rcases hq with rfl | rfl
    · exact h2.2.1 rfl
    · exact h2.2.2.1 rfl
  · cases e
    rw [hg] at hk
    cases hk
    rcases hq with h | h <;> cases h
theorem St.add {n : Int} {l : List S72} {hs : List Int} (h : St w0 w ga rs t A c i) (hsk : Sk (tabT t.room t.least t.greatest) w1 ga rs) (hb1 : Below w0.heap.size w0 w1) (hR : Kd.R k28 28 w1 w0.heap.size (fun _ => True) (.slice A' (addT hs n l t).l.length c') ((addT hs n l t).l.map (·.1))) (ha : AddP w1 w2 ga rs (addT hs n l t) rs') (hl : l.length ≤ 70) : St w0 w2 ga rs' (addT hs n l t) A' c' (i + 1) := by
  refine ⟨ha.sk, ha.val, R28_keep hR fun k cs hk => (add_blk hsk ha hk (.inl rfl)).trans hk.symm, fun k hk => ?_, ?_, addT_told h.told, add_small h.small hl⟩
  · rcases ha.new k hk with h1 | h1
    · exact h.lo k h1
    · exact Nat.le_trans hb1.size h1
  · exact ha.kp.low _ _ hb1 (h.lo ga (fp_mem.mpr (.inl rfl))) hb1.size (fun k hk => h.lo k (fp_mem.mpr (.inr hk)))
theorem refadd_c (hs : List Int) (h : St w0 w ga rs t A c i) (hi : i ≤ 100) (n : Int) {X : Option Addr} {d : Nat} {l : List S72} (hC : k72.C w X l.length l) (hd : l.length ≤ d) (hl : l.length ≤ 70) : Calls Try.prog 54 #[.slice A t.l.length c, .agg #[.int .u64 n, .slice X l.length d]] w fun e w' => ∃ A' c', e = .returned (.tuple #[.slice A' (addT hs n l t).l.length c', .int .i64 (refAddR n l (t.l.map (·.1))).2]) ∧ Kd.R k28 28 w' w0.heap.size (fun _ => True) (.slice A' (addT hs n l t).l.length c') ((addT hs n l t).l.map (·.1)) ∧ Below w.heap.size w w' := by
  have h1 := refadd_calls w w0.heap.size h.bel.size A c (t.l.map (·.1)) (by rw [List.length_map]; exact h.row) h.told.good.sorted (by rw [List.length_map]; have := h.len hi; omega) n X d l hC hd (by omega)
  rw [List.length_map] at h1
  have hlen : (addT hs n l t).l.length = (refAddR n l (t.l.map (·.1))).1.length := by rw [← addT_rows hs, List.length_map]
  refine h1.mono fun e w' ⟨A', c', he, hR, hb⟩ => ⟨A', c', by rw [hlen]; exact he, ?_, hb⟩
  rw [hlen, addT_rows]
  exact hR
theorem add_c (h : St w0 w ga rs t A c i) (hi : i ≤ 100) (n : Int) {B : Option Addr} {cB : Nat} {l : List S72} (hC : k72.C w B l.length l) (hcB : l.length ≤ cB) (hl : l.length ≤ 70) {X : Option Addr} {d : Nat} {hs : List Int} (hH : (Kd.int .i64).C w0 X hs.length hs) : Calls Try.prog 49 #[.pointer (some ⟨ga, 0, none⟩), .agg #[.int .u64 n, .slice B l.length cB], .slice X hs.length d] w fun e w' => ∃ rs', e = .returned (.int .i64 (refAddR n l (t.l.map (·.1))).2) ∧ AddP w w' ga rs (addT hs n l t) rs' :=
  add_code w ga rs t h.sk h.vl n B cB l hC hcB hl X d hs (fun w' hk => C3_heap (w := w0) (fun k hlt => (hk k (Nat.lt_of_lt_of_le hlt h.bel.size) (fun hm => by have := h.lo k hm; omega)).trans (h.bel.block k hlt)) hH) hi h.small
theorem get_c (h : St w0 w ga rs t A c i) (hi : i ≤ 100) (key : ByteArray) (seq : Int) : Calls Try.prog 50 #[.pointer (some ⟨ga, 0, none⟩), .string key, .int .u64 seq] w fun e w' => e = .returned (.tuple #[.agg #[.string (getRow key seq rs).f0, .int .u64 (getRow key seq rs).f1, .int .i64 (getRow key seq rs).f2, .string (getRow key seq rs).f3], .bool (getIs key seq rs)]) ∧ Below w.heap.size w w' :=
  get_tab h.sk (by have := h.size; have := h.len hi; omega) key seq
theorem get_vals (key : ByteArray) (seq : Int) (hs : SortedR (t.l.map (·.1))) (hv : vals rs = t.l) : getV (getF key seq (t.l.map (·.1))) = ((getRow key seq rs).f0, (getRow key seq rs).f1, (getRow key seq rs).f2, (getRow key seq rs).f3, getIs key seq rs) := by
  have e : behR key seq (t.l.map (·.1)) = (behV key seq t.l).map (·.1) := by
    unfold behR behV
    rw [List.dropWhile_map]
    rfl
  rw [getF_is hs, e, getRow_v, getIs_v, hv]
  unfold getRowV getIsV
  cases behV key seq t.l with
  | nil => rfl
  | cons y T =>
    show getV (if y.1.f0 = key then some y.1 else none) = _
    by_cases c : y.1.f0 = key
    · simp only [if_pos c, decide_eq_true c]
      rfl
    · simp only [if_neg c, decide_eq_false c]
      rfl
theorem refget_c (h : St w0 w ga rs t A c i) (hi : i ≤ 100) (key : ByteArray) (seq : Int) : Calls Try.prog 55 #[.slice A t.l.length c, .string key, .int .u64 seq] w fun e w' => e = .returned (.tuple #[.agg #[.string (getRow key seq rs).f0, .int .u64 (getRow key seq rs).f1, .int .i64 (getRow key seq rs).f2, .string (getRow key seq rs).f3], .bool (getIs key seq rs)]) ∧ Below w.heap.size w w' := by
  have h1 := freshetref09_Get.calls ((t.l.map (·.1)).length + 1) A c (t.l.map (·.1)) key seq _ _ _ _ _ w h.reads.2 (by rw [List.length_map]; exact h.reads.1) (by rw [get_f (by rw [List.length_map]; have := h.len hi; omega), get_vals key seq h.told.good.sorted h.vl])
  rw [List.length_map] at h1
  exact h1
theorem range_c (h : St w0 w ga rs t A c i) (hi : i ≤ 100) (from_ to_ : ByteArray) : Calls Try.prog 56 #[.pointer (some ⟨ga, 0, none⟩), .string from_, .string to_] w fun e w' => ∃ v, e = .returned v ∧ Kd.R k28 28 w' w.heap.size (fun _ => True) v (rangeF from_ to_ (t.l.map (·.1))) ∧ Below w.heap.size w w' := by
  have h1 := range_tab h.sk (by have := h.size; have := h.len hi; omega) from_ to_
  rw [beh_rows, h.rows, ← rangeF_is h.told.good.sorted (fun x hx => by obtain ⟨p, hp, rfl⟩ := List.mem_map.mp hx; exact h.small.u64 p hp)] at h1
  exact h1
theorem refrange_c (h : St w0 w ga rs t A c i) (hi : i ≤ 100) (from_ to_ : ByteArray) : Calls Try.prog 57 #[.slice A t.l.length c, .string from_, .string to_] w fun e w' => ∃ v, e = .returned v ∧ Kd.R k28 28 w' w.heap.size (fun _ => True) v (rangeF from_ to_ (t.l.map (·.1))) ∧ Below w.heap.size w w' := by
  have h1 := freshetref09_Range.calls ((t.l.map (·.1)).length + 1) A c (t.l.map (·.1)) from_ to_ _ w h.reads.2 (by rw [List.length_map]; exact h.reads.1) (range_f (by rw [List.length_map]; have := h.len hi; omega))
  rw [List.length_map] at h1
  exact h1
theorem rangeF_len (from_ to_ : ByteArray) (L : List S28) : (rangeF from_ to_ L).length ≤ L.length := List.length_filter_le _ _
theorem tells_c (h : St w0 w ga rs t A c i) (hi : i ≤ 100) : Calls Try.prog 58 #[.pointer (some ⟨ga, 0, none⟩), .slice A t.l.length c] w fun e w' => e = .returned (.bool true) ∧ Below w.heap.size w w' := by
  have h1 := tells_tab h.sk h.vl h.told (by have := h.size; have := h.len hi; omega) (by have := h.small.hi; omega) A c (t.l.map (·.1)) rfl h.reads.2 (by rw [List.length_map]; exact h.reads.1)
  rw [List.length_map] at h1
  exact h1
theorem rows_c (h : St w0 w ga rs t A c i) (hi : i ≤ 100) : Calls Try.prog 51 #[.pointer (some ⟨ga, 0, none⟩)] w fun e w' => ∃ v, e = .returned v ∧ Kd.R k28 28 w' w.heap.size (fun _ => True) v (t.l.map (·.1)) ∧ Below w.heap.size w w' := by
  have h1 := rows_tab h.sk (by have := h.size; have := h.len hi; omega) (fun x hx => h.small.u64 (x.row, x.h) (by rw [← h.vl]; exact List.mem_map.mpr ⟨x, hx, rfl⟩))
  rw [h.rows] at h1
  exact h1
end
end Go.Proofs.Ytfemebenkbobnaa.SM
