import Derived.Lib.FrozenHead
import Derived.Lib.AppendStr
import Derived.Lib.ConvBytes
import Derived.Laws.IdiomStrings
import Derived.Maps.AppendAt
import Derived.Test.YtkjepfofiegcdaaWWords
import Derived.Test.YtkjepfofiegcdaaWLast
import Derived.Test.YtkjepfofiegcdaaWMore
namespace Go.Proofs.Ytkjepfofiegcdaa.H
open Go.RowKit Go.Proofs.YtkjepfofiegcdaaW.PrintWords Go.Proofs.YtkjepfofiegcdaaW.PrintLast Go.Proofs.YtkjepfofiegcdaaW.PrintMore
/-- Storing into a row whose frozen range begins behind what is written. -/
theorem run_storeCells_atT (P : Program) (g o : Nat) (t : TypeId) (fz : Nat × Nat) : ∀ (vs : List Value) (i : Nat) (cur : Array Value) (w : World), w.heap[g]? = some (.cells cur t fz) → (fz = (0, 0) ∨ cur.size ≤ fz.1) → o + i + vs.length ≤ cur.size → (∀ v ∈ vs, v.oneCell' = true) →
    (storeCells ⟨g, o, none⟩ vs i).run P w = .ok () (w.setRow g (cur.toList.take (o + i) ++ vs ++ cur.toList.drop (o + i + vs.length)).toArray)
  | [], i, cur, w, hg, _, _, _ => by
    simp only [storeCells, List.append_nil, List.length_nil, Nat.add_zero, List.take_append_drop, Array.toArray_toList]
    rw [setRow_self w g cur t fz hg]
    rfl
  | v :: rest, i, cur, w, hg, hfz, hl, h1 => by
    have hi : o + i < cur.size := by simp at hl; omega
    have hadd : (⟨g, o, none⟩ : Addr).add i = ⟨g, o + i, none⟩ := by unfold Addr.add; split <;> simp_all
    have hcell : w.cell? ⟨g, o + i, none⟩ = some cur[o + i] := by simp [World.cell?, hg, hi]
    have hfro : w.frozen? ⟨g, o + i, none⟩ = false := by
      obtain ⟨lo, hi'⟩ := fz
      simp only [World.frozen?, hg, Bool.and_eq_false_iff, decide_eq_false_iff_not]
      rcases hfz with h | h
      · cases h
        right
        omega
      · left
        simp only at h
        omega
    have hst : (store ((⟨g, o, none⟩ : Addr).add i) v).run P w = .ok () (w.setRow g (cur.setIfInBounds (o + i) v)) := by
      rw [hadd, run_store P w _ v _ (h1 v (by simp)), hcell]
      simp [hfro, setCell_eq_setRow w g (o + i) cur t fz v hg]
    have ih := run_storeCells_atT P g o t fz rest (i + 1) (cur.setIfInBounds (o + i) v) (w.setRow g (cur.setIfInBounds (o + i) v)) (setRow_heap w g cur _ t _ hg) (by simpa using hfz) (by simp at hl ⊢; omega) (fun x hx => h1 x (by simp [hx]))
    simp only [storeCells, Sem.run_bind, hst, Result.andThen_ok, ih, setRow_setRow]
    congr 3
    have e := list_seg_step cur.toList (o + i) v rest (by simp at hl ⊢; omega)
    simpa [Array.toList_setIfInBounds, Nat.add_assoc] using e
/-- A row of bytes of the call's own, its mark (if any) behind its end. -/
def BRow (w : World) (base : Nat) (e : TypeId) (v : Value) (xs : List Int) : Prop :=
  ∃ g cap cur fz, v = .slice (some ⟨g, 0, none⟩) xs.length cap ∧ base ≤ g ∧ w.heap[g]? = some (.cells cur e fz) ∧ (fz = (0, 0) ∨ cur.size ≤ fz.1) ∧ xs.length ≤ cap ∧ cap ≤ maxLen ∧ cur.size = cap ∧ cur.toList.take xs.length = nums .u8 xs
section
variable {P : Program} {w w1 : World} {base : Nat} {e : TypeId} {v : Value} {xs : List Int}
theorem BRow.kept (h : BRow w base e v xs) (hk : ∀ g, v.ownBlock = some g → w1.heap[g]? = w.heap[g]?) : BRow w1 base e v xs := by
  obtain ⟨g, cap, cur, fz, rfl, hb, hg, r⟩ := h
  exact ⟨g, cap, cur, fz, rfl, hb, (hk g (by simp [Value.ownBlock])).trans hg, r⟩
theorem BRow.lt (h : BRow w base e v xs) (g : Nat) (hv : v.ownBlock = some g) : g < w.heap.size := by
  obtain ⟨g', cap, cur, fz, rfl, hb, hg, r⟩ := h
  have : g' = g := by simpa [Value.ownBlock] using hv
  subst this
  exact blk_lt hg
theorem BRow.below (h : BRow w base e v xs) (hb : Below w.heap.size w w1) : BRow w1 base e v xs := h.kept fun g hg => hb.block g (h.lt g hg)
theorem BRow.alloc (h : BRow w base e v xs) (o : Obj) : BRow (w.alloc o) base e v xs := h.kept fun g hg => Below.heap_alloc w o g (h.lt g hg)
theorem BRow.drew (h : BRow w base e v xs) : BRow w.drew base e v xs := h
theorem BRow.drewN (h : BRow w base e v xs) (n : Nat) : BRow (w.drewN n) base e v xs := h
theorem BRow.ne (h : BRow w base e v xs) {g : Nat} {cs : Array Value} {t : TypeId} (hg : w.heap[g]? = some (.cells cs t (0, 0))) (hne : e ≠ t) : v.ownBlock ≠ some g := by
  obtain ⟨g', cap, cur, fz, rfl, hb, hh, r⟩ := h
  intro hk
  have : g' = g := by simpa [Value.ownBlock] using hk
  subst this
  rw [hh] at hg
  injection hg with hg
  injection hg with _ ht
  exact hne ht
theorem BRow.ne_alloc (h : BRow w base e v xs) {w2 : World} {o : Obj} (_ : w2.heap[w.heap.size]? = some o) : v.ownBlock ≠ some w.heap.size := by
  intro hk
  have := h.lt _ hk
  omega
theorem BRow.cells (h : BRow w base e v xs) : ∃ A c, v = .slice A xs.length c ∧ ReadsInt w .u8 A xs.length xs := by
  obtain ⟨g, cap, cur, fz, rfl, hb, hg, hfz, hle, hm, hcs, ht⟩ := h
  refine ⟨_, cap, rfl, rfl, by simp only [maxLen] at hm; omega, fun _ => ⟨_, rfl, fun j hj => ?_⟩⟩
  rw [add_plain]
  have h1 : cur[j]? = some (.int .u8 (xs.getD j 0)) := by
    have h2 : (cur.toList.take xs.length)[j]? = (nums .u8 xs)[j]? := by rw [ht]
    rw [List.getElem?_take, if_pos hj] at h2
    simp only [nums, List.getElem?_map] at h2
    rw [List.getElem?_eq_getElem hj] at h2
    rw [← Array.getElem?_toList, h2]
    simp [hj]
  exact (cell_of_row w g j cur e fz hg).trans h1
/-- '[]byte(s)': what 'run_bytes_of_string' lays. -/
theorem BRow.new_bytes (w : World) (s : ByteArray) (hs : s.size ≤ maxLen) (hbase : base ≤ w.heap.size) :
    BRow (w.drew.alloc (.cells (bytesRow s (grownCap w s.size 0 e)) e ((bytesRow s (grownCap w s.size 0 e)).size, (bytesRow s (grownCap w s.size 0 e)).size + 1))) base e (.slice (some ⟨w.heap.size, 0, none⟩) s.size (grownCap w s.size 0 e)) (bytesOf s) := by
  refine ⟨w.heap.size, grownCap w s.size 0 e, bytesRow s (grownCap w s.size 0 e), _, by rw [bytesOf_length], hbase, heap_alloc_new w.drew _, .inr (Nat.le_refl _), by rw [bytesOf_length]; exact grownCap_ge _ _ _ _, grownCap_le_maxLen _ _ _ _ hs, ?_, ?_⟩
  · have := grownCap_ge w s.size 0 e
    simp only [bytesRow, Array.size_append, Array.size_map, Array.size_replicate]
    have h2 : s.data.size = s.size := rfl
    omega
  · rw [bytesOf_length]
    simp only [bytesRow, Array.toList_append, Array.toList_map]
    rw [List.take_left' (by simp)]
    simp [nums, bytesOf]
theorem BRow.to_string {dst src : TypeId} (hs : P.underlying src = some (.slice e)) (he : P.underlying e = some (.int .u8)) (hd : P.underlying dst = some .string) (h : BRow w base e v xs) : (convert src dst v).run P w = .ok (.string (strOfNums xs)) w := by
  obtain ⟨A, c, rfl, hA⟩ := h.cells
  obtain ⟨g, cap, cur, fz, hv, hb, hg, hfz, hle, hm, hcs, ht⟩ := h
  injection hv with hv1 hv2 hv3
  subst hv1
  subst hv3
  refine run_convert_bytes_arg w src e hs he g 0 xs.length c xs rfl (fun i hi => ?_) dst hd
  obtain ⟨ad, he2, hc⟩ := hA.2.2 (by omega)
  injection he2 with he2
  subst he2
  have := hc i hi
  rw [add_plain] at this
  simpa using this
theorem BRow.appended {news : List Int} {g cap : Nat} {cur : Array Value} {fz : Nat × Nat} (hb : base ≤ g) (hg : w.heap[g]? = some (.cells cur e fz)) (hfz : fz = (0, 0) ∨ cur.size ≤ fz.1) (hm : cap ≤ maxLen) (hcs : cur.size = cap) (ht : cur.toList.take xs.length = nums .u8 xs) (hroom : xs.length + news.length ≤ cap) :
    BRow (w.setRow g (cur.toList.take xs.length ++ nums .u8 news ++ cur.toList.drop (xs.length + news.length)).toArray) base e (.slice (some ⟨g, 0, none⟩) (xs.length + news.length) cap) (xs ++ news) := by
  have hlen : (cur.toList.take xs.length ++ nums .u8 news ++ cur.toList.drop (xs.length + news.length)).length = cur.size := by
    simp only [List.length_append, List.length_take, List.length_drop, Array.length_toList, nums_length]
    omega
  refine ⟨g, cap, _, fz, by rw [List.length_append], hb, setRow_heap w g cur _ e _ hg, ?_, by rw [List.length_append]; exact hroom, hm, by simp only [List.size_toArray]; rw [hlen, hcs], ?_⟩
  · rcases hfz with h | h
    · exact .inl h
    · exact .inr (by simp only [List.size_toArray]; rw [hlen]; exact h)
  · rw [ht, List.length_append, nums_append]
    have : xs.length + news.length = (nums .u8 xs ++ nums .u8 news).length := by simp [nums_length]
    rw [this]
    exact List.take_left
theorem BRow.grown {news : List Int} {W : World} (old : Nat) (hbase : base ≤ W.heap.size) (hsmall : xs.length + news.length ≤ maxLen) :
    BRow (W.drew.alloc (.cells ((nums .u8 xs).toArray ++ (nums .u8 news).toArray ++ Builtin.zeroCells (Value.int .u8 0).cells (grownCap W (xs.length + news.length) old e - (xs.length + news.length))) e)) base e (.slice (some ⟨W.heap.size, 0, none⟩) (xs.length + news.length) (grownCap W (xs.length + news.length) old e)) (xs ++ news) := by
  have hge := grownCap_ge W (xs.length + news.length) old e
  have hz1 : (Value.int IntKind.u8 0).cells.size = 1 := rfl
  refine ⟨W.heap.size, _, _, _, by rw [List.length_append], hbase, heap_alloc_new W.drew _, .inl rfl, by rw [List.length_append]; exact hge, grownCap_le_maxLen _ _ _ _ hsmall, ?_, ?_⟩
  · simp only [Array.size_append, List.size_toArray, size_zeroCells, hz1, nums_length]
    omega
  · simp only [Array.toList_append, List.append_assoc]
    rw [List.length_append, ← List.append_assoc, nums_append]
    have : xs.length + news.length = (nums .u8 xs ++ nums .u8 news).length := by simp [nums_length]
    rw [this]
    exact List.take_left
theorem nums_one (xs : List Int) : ∀ u ∈ nums .u8 xs, u.oneCell' = true := by
  intro u hu
  obtain ⟨x, _, rfl⟩ := List.mem_map.1 hu
  rfl
theorem BRow.reads (h : BRow w base e v xs) : ∀ g cap, v = .slice (some ⟨g, 0, none⟩) xs.length cap → ∀ j u, (nums .u8 xs)[j]? = some u → w.cell? ((⟨g, 0, none⟩ : Addr).add j) = some u := by
  intro g cap hv j u hu
  obtain ⟨g', cap', cur, fz, hv', hb, hg, hfz, hle, hm, hcs, ht⟩ := h
  rw [hv'] at hv
  injection hv with hv
  injection hv with hv
  injection hv with hv
  subst hv
  rw [add_plain, cell_of_row w g' j cur e fz hg]
  have hj : j < xs.length := by
    rcases Nat.lt_or_ge j xs.length with h | h
    · exact h
    · rw [List.getElem?_eq_none (by rw [nums_length]; exact h)] at hu
      cases hu
  have h2 : (cur.toList.take xs.length)[j]? = (nums .u8 xs)[j]? := by rw [ht]
  rw [List.getElem?_take, if_pos hj] at h2
  rw [← Array.getElem?_toList, h2, hu]
/-- append(out, c). -/
theorem BRow.append_one (t ty : TypeId) (i : TypeInfo) (ht : P.underlying t = some (.slice e)) (hi : P.info? e = some i) (hz : i.zero = some (.int .u8 0)) (hsz : i.size = 1) (hby : i.bytes = 1)
    (h : BRow w base e v xs) (ad : Addr) (y : Int) (c : Nat) (hy : w.cell? ad = some (.int .u8 y)) (hl : xs.length + 1 ≤ 140737488355328) (hbase : base ≤ w.heap.size) :
    ∃ v' w', (Builtin.append_ #[t, t] ty #[v, .slice (some ad) 1 c]).run P w = .ok v' w' ∧ BRow w' base e v' (xs ++ [y]) ∧ w.grownBy w' v.ownBlock ∧ (v'.ownBlock = v.ownBlock ∨ v'.ownBlock = some w.heap.size) := by
  have hnews : ∀ j u, [Value.int .u8 y][j]? = some u → w.cell? (ad.add j) = some u := by
    intro j u hu
    cases j with
    | zero => simp at hu; subst hu; simpa [Addr.add] using hy
    | succ j => simp at hu
  have hreads := h.reads
  obtain ⟨g, cap, cur, fz, rfl, hb, hg, hfz, hle, hm, hcs, htk⟩ := h
  by_cases hroom : xs.length + 1 ≤ cap
  · have hf := run_firstCells_some (P := P) w i.size 1 ad 1 c [.int .u8 y] (by rw [hsz]; rfl) hnews
    have hst := run_storeCells_atT P g xs.length e fz [.int .u8 y] 0 cur w hg hfz (by simp; omega) (by simp [Value.oneCell'])
    simp only [Nat.add_zero] at hst
    refine ⟨_, _, ?_, BRow.appended (news := [y]) hb hg hfz hm hcs htk hroom, ⟨rfl, rfl, rfl, by simp, fun k _ hk => setRow_other w g k _ (fun e => hk (by simp [Value.ownBlock, e]))⟩, .inl rfl⟩
    rw [hsz] at hf
    simp [Builtin.append_, run_underlying ht, sizeOf, typeInfo, hi, hsz, Builtin.lenOf, hroom, hf, Addr.add_lit, hst, nums]
  · have hr := run_append_grow (P := P) w t ty e i (.int .u8 0) ht hi hz ⟨g, 0, none⟩ xs.length cap (nums .u8 xs) (by rw [hsz, nums_length, Nat.mul_one]) (hreads g cap rfl) ad 1 c [.int .u8 y] (by rw [hsz]; rfl) hnews (by omega) (by simp only [maxLen] at *; omega) (by rw [hby]; exact growslice_fits (by omega) (by omega))
    exact ⟨_, _, hr, BRow.grown (news := [y]) cap hbase (by simp only [maxLen, List.length_singleton]; omega), ⟨rfl, rfl, rfl, by simp, fun k hk _ => Below.heap_alloc w.drew _ k hk⟩, .inr rfl⟩
/-- append(out, s...), s a string. -/
theorem BRow.append_str (t u ty : TypeId) (i : TypeInfo) (ht : P.underlying t = some (.slice e)) (hu : P.underlying u = some .string) (hi : P.info? e = some i) (hz : i.zero = some (.int .u8 0)) (hsz : i.size = 1) (hby : i.bytes = 1)
    (h : BRow w base e v xs) (s : ByteArray) (hl : xs.length + s.size ≤ 140737488355328) (hbase : base ≤ w.heap.size) :
    ∃ v' w', (Builtin.append_ #[t, u] ty #[v, .string s]).run P w = .ok v' w' ∧ BRow w' base e v' (xs ++ bytesOf s) ∧ w.grownBy w' v.ownBlock ∧ (v'.ownBlock = v.ownBlock ∨ v'.ownBlock = some w.heap.size) := by
  have hreads := h.reads
  have hsc : Lib.strCells s = nums .u8 (bytesOf s) := by simp [nums, bytesOf, Lib.strCells]
  have hbl : (bytesOf s).length = s.size := bytesOf_length s
  obtain ⟨g, cap, cur, fz, rfl, hb, hg, hfz, hle, hm, hcs, htk⟩ := h
  by_cases hroom : xs.length + s.size ≤ cap
  · have hf := Lib.run_firstCells_string (P := P) w 1 s
    have hst := run_storeCells_atT P g xs.length e fz (Lib.strCells s) 0 cur w hg hfz (by rw [Lib.strCells_length]; omega) (Lib.strCells_oneCell s)
    simp only [Nat.add_zero, Lib.strCells_length] at hst
    rw [hsc] at hst hf
    have h2 := BRow.appended (news := bytesOf s) hb hg hfz hm hcs htk (by rw [hbl]; exact hroom)
    rw [hbl] at h2
    refine ⟨_, _, ?_, h2, ⟨rfl, rfl, rfl, by simp, fun k _ hk => setRow_other w g k _ (fun e => hk (by simp [Value.ownBlock, e]))⟩, .inl rfl⟩
    simp [Builtin.append_, run_underlying ht, run_underlying hu, sizeOf, typeInfo, hi, hsz, Builtin.lenOf, hroom, hf, Addr.add_lit, hst]
  · have hr := Lib.run_append_grow_string (P := P) w t u ty e i (.int .u8 0) ht hu hi hz ⟨g, 0, none⟩ xs.length cap (nums .u8 xs) (by rw [hsz, nums_length, Nat.mul_one]) (hreads g cap rfl) s (by omega) (by simp only [maxLen] at *; omega) (by rw [hby]; exact growslice_fits (by omega) (by omega))
    rw [hsc] at hr
    have h2 := BRow.grown (e := e) (xs := xs) (news := bytesOf s) (W := w) cap hbase (by rw [hbl]; simp only [maxLen]; omega)
    rw [hbl] at h2
    exact ⟨_, _, hr, h2, ⟨rfl, rfl, rfl, by simp, fun k hk _ => Below.heap_alloc w.drew _ k hk⟩, .inr rfl⟩
theorem exec_append {o : Oper} {ev : Operand → Value} {w' : World} {v' : Value} (s x : Operand) (t u : TypeId) (ho : o.op = .call { callee := .builtin .append, args := #[s, x], argTypes := #[t, u] }) {vs vx : Value} (hs : ev s = vs) (hx : ev x = vx)
    (h : (Builtin.append_ #[t, u] o.type #[vs, vx]).run P w = .ok v' w') : (execOp ev o).run P w = .ok (.value v') w' := by
  unfold execOp
  simp only [ho, resolve, invoke, builtin, Sem.run_bind, Sem.run_pure, Result.andThen_ok, List.map_toArray, List.map_cons, List.map_nil, hs, hx, h]
theorem BRow.wp_append_one {ops : Array Oper} {rest : List Oper} {o : Oper} {a : Act} {Q : Exit → Act → World → Prop} (hgd : o.guard = none) (s x : Operand) (t : TypeId)
    (ho : o.op = .call { callee := .builtin .append, args := #[s, x], argTypes := #[t, t] })
    (ht : P.underlying t = some (.slice e)) (hinfo : (P.info? e).map (fun i => (i.zero, i.size, i.bytes)) = some (some (.int .u8 0), 1, 1))
    (hs : a.eval s = v) (h : BRow w base e v xs) (ad : Addr) (y : Int) (c : Nat) (hx : a.eval x = .slice (some ad) 1 c) (hy : w.cell? ad = some (.int .u8 y)) (hl : xs.length + 1 ≤ 140737488355328) (hbase : base ≤ w.heap.size)
    (k : ∀ v' w', BRow w' base e v' (xs ++ [y]) → w.grownBy w' v.ownBlock → (v'.ownBlock = v.ownBlock ∨ v'.ownBlock = some w.heap.size) → wpList P ops Q rest (a.put o.dst v') w') : wpList P ops Q (o :: rest) a w := by
  obtain ⟨i, hi, hzz⟩ := Option.map_eq_some_iff.1 hinfo
  simp only [Prod.mk.injEq] at hzz
  obtain ⟨hz0, hz1, hz2⟩ := hzz
  refine wpList_plain hgd fun K hK => ?_
  obtain ⟨v', w', hr, h2, h3, h4⟩ := h.append_one (P := P) t o.type i ht hi hz0 hz1 hz2 ad y c hy hl hbase
  unfold Oper.wp
  rw [exec_append s x t t ho hs hx hr]
  exact hK _ _ (k v' w' h2 h3 h4)
theorem BRow.exec_str {o : Oper} {a : Act} (s x : Operand) (t u : TypeId)
    (ho : o.op = .call { callee := .builtin .append, args := #[s, x], argTypes := #[t, u] })
    (ht : P.underlying t = some (.slice e)) (hu : P.underlying u = some .string) (hinfo : (P.info? e).map (fun i => (i.zero, i.size, i.bytes)) = some (some (.int .u8 0), 1, 1))
    (hs : a.eval s = v) (h : BRow w base e v xs) (y : ByteArray) (hx : a.eval x = .string y) (hl : xs.length + y.size ≤ 140737488355328) (hbase : base ≤ w.heap.size) :
    ∃ v' w', (execOp a.eval o).run P w = .ok (.value v') w' ∧ BRow w' base e v' (xs ++ bytesOf y) ∧ w.grownBy w' v.ownBlock ∧ (v'.ownBlock = v.ownBlock ∨ v'.ownBlock = some w.heap.size) := by
  obtain ⟨i, hi, hzz⟩ := Option.map_eq_some_iff.1 hinfo
  simp only [Prod.mk.injEq] at hzz
  obtain ⟨hz0, hz1, hz2⟩ := hzz
  obtain ⟨v', w', hr, h2, h3, h4⟩ := h.append_str (P := P) t u o.type i ht hu hi hz0 hz1 hz2 y hl hbase
  exact ⟨v', w', exec_append s x t u ho hs hx hr, h2, h3, h4⟩
theorem BRow.append_str_i (t u ty : TypeId) (ht : P.underlying t = some (.slice e)) (hu : P.underlying u = some .string) (hinfo : (P.info? e).map (fun i => (i.zero, i.size, i.bytes)) = some (some (.int .u8 0), 1, 1))
    (h : BRow w base e v xs) (y : ByteArray) (hl : xs.length + y.size ≤ 140737488355328) (hbase : base ≤ w.heap.size) :
    ∃ v' w', (Builtin.append_ #[t, u] ty #[v, .string y]).run P w = .ok v' w' ∧ BRow w' base e v' (xs ++ bytesOf y) ∧ w.grownBy w' v.ownBlock ∧ (v'.ownBlock = v.ownBlock ∨ v'.ownBlock = some w.heap.size) := by
  obtain ⟨i, hi, hzz⟩ := Option.map_eq_some_iff.1 hinfo
  simp only [Prod.mk.injEq] at hzz
  obtain ⟨hz0, hz1, hz2⟩ := hzz
  exact h.append_str (P := P) t u ty i ht hu hi hz0 hz1 hz2 y hl hbase
theorem BRow.own_ge (h : BRow w base e v xs) (k : Nat) (hk : v.ownBlock = some k) : base ≤ k := by
  obtain ⟨g, cap, cur, fz, rfl, hb, r⟩ := h
  have : g = k := by simpa [Value.ownBlock] using hk
  omega
theorem cell_alloc_at {W : World} {cs : Array Value} {t : TypeId} {n : Nat} (h : W.heap.size = n) (i : Nat) : (W.alloc (.cells cs t)).cell? ⟨n, i, none⟩ = cs[i]? := by
  subst h
  exact blk_cell (blk_new W (.cells cs t)) i
/-- An operation's run out of its meaning's. -/
theorem run_as_value {P : Program} {o : Oper} {ev : Operand → Value} {w w1 : World} {v : Value} {s : Sem Value} (h : s.run P w = .ok v w1) (ho : execOp ev o = (do let v ← s; pure (Next.value v))) : (execOp ev o).run P w = .ok (.value v) w1 := by
  rw [ho]
  simp [h]
end
end Go.Proofs.Ytkjepfofiegcdaa.H
