import Derived.Test.YtkjepfofiegcdaaVM1Y
/- Builtin clear over the one row behind a row of one's own; slices.Delete (106) of one row, walked. Conditions: the index within the row, room within its block. -/
namespace Go.Proofs.Ytkjepfofiegcdaa.V
set_option linter.unusedVariables false
set_option linter.unusedSimpArgs false
open Go.RowKit Go.Proofs.YtkjepfofiegcdaaW.PrintWords Go.Proofs.YtkjepfofiegcdaaW.PrintLast Go.Proofs.YtkjepfofiegcdaaW.PrintMore Go.Proofs.Ytkjepfofiegcdaa.PB14
def zs58 : List Value := [.int .u64 0, .int .i64 0, .int .i64 0, .string ⟨#[]⟩, .string ⟨#[]⟩, .int .u64 0, .int .u64 0]
theorem clear_run (W : World) (a : Addr) (ty : TypeId) (c2 : Nat) (W2 : World) (h : (storeCells a zs58 0).run Try.prog W = .ok () W2) :
    (Builtin.clear_ #[23] ty #[.slice (some a) 1 c2]).run Try.prog W = .ok (.tuple #[]) W2 := by
  obtain ⟨i58, hi58, hz58, hsz58, _⟩ := info_parts info58
  have hu := Try.underlying23
  unfold Builtin.clear_
  go_simp
  rw [show (Builtin.zeroCells #[Value.int IntKind.u64 0, Value.int IntKind.i64 0, Value.int IntKind.i64 0, Value.string { data := #[] }, Value.string { data := #[] }, Value.int IntKind.u64 0, Value.int IntKind.u64 0] 1).toList = zs58 from by first | kernel_rfl | (simp [Builtin.zeroCells, zs58]; done) | decide, h]
  rfl
theorem R_clear_run {W : World} {base g n c : Nat} {xs : List S58} {ok : Nat → Prop} (HO : k58.R 58 W base ok (.slice (some ⟨g, 0, none⟩) n c) xs) (hc : n + 1 ≤ c) (ty : TypeId) (c2 : Nat) :
    ∃ w1, (Builtin.clear_ #[23] ty #[.slice (some ⟨g, n * 7, none⟩) 1 c2]).run Try.prog W = .ok (.tuple #[]) w1 ∧ k58.R 58 w1 base ok (.slice (some ⟨g, 0, none⟩) n c) xs ∧ W.grownBy w1 (some g) := by
  obtain ⟨hn, hnc, _⟩ := Kd.R_reads' HO
  obtain ⟨hok, inner, hown, hr⟩ := HO
  subst hn
  rcases hown.2 with ⟨hv, _⟩ | ⟨g', cap', cur, hv, hb, hh, hnl, hcm, hcs, htake⟩
  · cases hv
  injection hv with ha _ hc'
  injection ha with ha
  injection ha with hg
  subst hg; subst hc'
  have k7 : k58.sz = 7 := rfl
  rw [k7] at hcs htake
  have hfit : xs.length * 7 + zs58.length ≤ cur.size := by rw [hcs]; show xs.length * 7 + 7 ≤ c * 7; omega
  have hrun := run_storeCells_cells (P := Try.prog) g (xs.length * 7) zs58 0 W (fun j hj => by rw [cell_of_row W g _ cur 58 (0, 0) hh]; simp; have : zs58.length = 7 := rfl; omega) (fun j _ => blk_frozen hh _) (by intro v hv; simp [zs58] at hv; rcases hv with rfl | rfl | rfl | rfl | rfl | rfl | rfl <;> rfl)
  rw [Nat.add_zero] at hrun
  obtain ⟨cur', h3, h4, h5⟩ := setCells_row zs58 (xs.length * 7) W cur hh hfit
  obtain ⟨s1, s2, s3, s4⟩ := setCells_same g zs58 (xs.length * 7) W
  have hfar : ∀ k', k' ≠ g → (W.setCells g (xs.length * 7) zs58).heap[k']? = W.heap[k']? := fun k' hk' => setCells_far zs58 _ k' hk'
  have hgo : some g = (Value.slice (some ⟨g, 0, none⟩) xs.length c).ownBlock := by simp [Value.ownBlock]
  refine ⟨_, clear_run W _ ty c2 _ hrun, ⟨hok, inner, ⟨hown.1, .inr ⟨g, c, cur', rfl, hb, h3, hnl, hcm, by rw [h4, hcs, k7], ?_⟩⟩, hr.imp_ (fun p q hp => Kd.M_move k58 (fun k' hk' => hfar k' (fun he => hk'.2 (by rw [← hgo, he]))) hp)⟩, ⟨s1, s2, s3, by rw [s4]; exact Nat.le_refl _, fun k' _ hk' => hfar k' (fun he => hk' (by rw [he]))⟩⟩
  rw [k7, h5, List.append_assoc, List.take_append_of_le_length (by rw [List.length_take]; simp; omega), List.take_take]
  rw [Nat.min_self]
  exact htake
end Go.Proofs.Ytkjepfofiegcdaa.V
namespace Go.Proofs.Ytkjepfofiegcdaa.V
set_option linter.unusedVariables false
set_option linter.unusedSimpArgs false
open Go.RowKit Go.Proofs.YtkjepfofiegcdaaW.PrintWords Go.Proofs.YtkjepfofiegcdaaW.PrintLast Go.Proofs.YtkjepfofiegcdaaW.PrintMore Go.Proofs.Ytkjepfofiegcdaa.PB14
set_option maxHeartbeats 2000000 in
set_option maxRecDepth 100000 in
theorem deleteF_calls (w : World) (base g c k : Nat) (l : List S58) (ok : Nat → Prop) (hR : k58.R 58 w base ok (.slice (some ⟨g, 0, none⟩) l.length c) l) (hk : k < l.length) (hlc : l.length ≤ c) (hl : l.length ≤ 1000000000) (hb : base ≤ w.heap.size) :
    Calls Try.prog 106 #[.slice (some ⟨g, 0, none⟩) l.length c, .int .i64 (k : Int), .int .i64 ((k + 1 : Nat) : Int)] w fun e w' => e = .returned (.slice (some ⟨g, 0, none⟩) (l.length - 1) c) ∧ k58.R 58 w' base ok (.slice (some ⟨g, 0, none⟩) (l.length - 1) c) (l.eraseIdx k) ∧ Below base w w' ∧ (∀ b, b < w.heap.size → b ≠ g → w'.heap[b]? = w.heap[b]?) := by
  have HR := Aside0.mk hR
  have HB := Aside0.mk (Below.refl base w)
  have HBS := Aside0.mk hb
  have HK := Aside0.mk hk
  obtain ⟨i58, hi58, _, hsz58, _⟩ := info_parts info58
  have HI58 := Aside0.mk hi58
  have HSZ := Aside0.mk (show i58.size = 7 from hsz58)
  have HN := Aside0.mk (show l.length - 1 + 1 = l.length by omega)
  obtain ⟨j, hj⟩ : ∃ j, j = k + 1 := ⟨_, rfl⟩
  rw [← hj]
  have HJ := Aside0.mk hj
  have p0 : 0 ≤ (k : Int) := Int.natCast_nonneg _
  have p1 : (k : Int) ≤ (j : Int) := by omega
  have p2 : (j : Int) ≤ (l.length : Int) := by omega
  have p3 : (l.length : Int) ≤ (c : Int) := by omega
  have p4 : (k : Int) ≤ (l.length : Int) := by omega
  have p5 : (k : Int) ≤ (c : Int) := by omega
  have p6 : (j : Int) ≤ (c : Int) := by omega
  have p7 : 0 ≤ (j : Int) := Int.natCast_nonneg _
  have hne : ¬ l.length = k := by omega
  have hne2 : (l.length = k) = False := eq_false hne
  have e0 : decide ((k : Int) = (j : Int)) = false := decide_eq_false (by omega)
  have e1 : ((k : Int) == (j : Int)) = false := beq_eq_false_iff_ne.mpr (by omega)
  have e2 : (k == j) = false := beq_eq_false_iff_ne.mpr (by omega)
  have hcut1 : ∀ W : World, (Instr.slice 23 (.slice (some ⟨g, 0, none⟩) l.length c) none (some (.int .i64 (k : Int))) none).run Try.prog W = .ok (.slice (some ⟨g, 0, none⟩) k c) W := by
    have h := cut_to (P := Try.prog) 23 58 .i64 Try.underlying23 hi58 (some ⟨g, 0, none⟩) l.length c (k : Int) p0 p4 hlc
    rw [Int.toNat_natCast] at h
    exact h
  obtain ⟨A2, hA2⟩ : ∃ a, (if c = j then (some ⟨g, 0, none⟩ : Option Addr) else (some (⟨g, 0, none⟩ : Addr)).map (·.add (j * 7))) = a := ⟨_, rfl⟩
  have hcut2 : ∀ W : World, (Instr.slice 23 (.slice (some ⟨g, 0, none⟩) l.length c) (some (.int .i64 (j : Int))) none none).run Try.prog W = .ok (.slice A2 (l.length - j) (c - j)) W := by
    have h := cut_from (P := Try.prog) 23 58 .i64 Try.underlying23 hi58 7 hsz58 (some ⟨g, 0, none⟩) l.length c (j : Int) p7 p2
    rw [Int.toNat_natCast, hA2] at h
    exact h
  have HA2 := Aside0.mk hA2
  have HLC := Aside0.mk hlc
  clear hA2 hi58 hsz58 hR hk hb hj hlc hl
  go_enter Try.func106, Try.ntmps106
  go_upto_region 5 with (fail)
  go_wp2_with fail
  refine start_ (n := 8) (S := (fun w' => k58.R 58 w' base ok (.slice (some ⟨g, 0, none⟩) l.length c) l ∧ Below base w w')) (ds := [6]) #[false, false, false, false, false, false, false, false] (by kernel_rfl) rfl rfl ⟨Kd.R_below HR.out (below_drew (Below.refl _ _)), below_drew HB.out⟩ (fun hHeld => ?_)
  refine pure_ (i := 0) (N := (some 20)) (v := ?_) (a' := ?_) #[true, false, false, false, false, false, false, false] rfl rfl (by kernel_rfl) (fun _ _ _ h => h) (Or.inl ⟨by rfl, ?_⟩) ?_ ?_
  rotate_left
  · intro w'
    go_simp
    with_reducible rfl
  rotate_left
  · simp only [Act.put, List.setIfInBounds_toArray, List.set_cons_zero, List.set_cons_succ, i64_w, i32_w]
    rfl
  refine pure_ (i := 1) (N := (some 21)) (v := ?_) (a' := ?_) #[true, true, false, false, false, false, false, false] rfl rfl (by kernel_rfl) (fun _ _ _ h => h) (Or.inl ⟨by rfl, ?_⟩) ?_ ?_
  rotate_left
  · intro w'
    go_simp
    with_reducible rfl
  rotate_left
  · simp only [Act.put, List.setIfInBounds_toArray, List.set_cons_zero, List.set_cons_succ, i64_w, i32_w]
    rfl
  refine pure_ (i := 2) (N := (some 22)) (v := ?_) (a' := ?_) #[true, true, true, false, false, false, false, false] rfl rfl (by kernel_rfl) (fun _ _ _ h => h) (Or.inl ⟨by rfl, ?_⟩) ?_ ?_
  rotate_left
  · intro w'
    go_simp
    first | with_reducible rfl | rfl
  rotate_left
  · simp only [Act.put, List.setIfInBounds_toArray, List.set_cons_zero, List.set_cons_succ, i64_w, i32_w]
    rfl
  refine pure_ (i := 3) (N := (some 23)) (v := ?_) (a' := ?_) #[true, true, true, true, false, false, false, false] rfl rfl (by kernel_rfl) (fun _ _ _ h => h) (Or.inl ⟨by rfl, ?_⟩) ?_ ?_
  rotate_left
  · intro w'
    go_simp
    with_reducible rfl
  rotate_left
  · simp only [Act.put, List.setIfInBounds_toArray, List.set_cons_zero, List.set_cons_succ, i64_w, i32_w]
    rfl
  refine pure_ (i := 4) (N := (some 24)) (v := ?_) (a' := ?_) #[true, true, true, true, true, false, false, false] rfl rfl (by kernel_rfl) (fun _ _ _ h => h) (Or.inl ⟨by rfl, ?_⟩) ?_ ?_
  rotate_left
  · intro w'
    go_simp
    with_reducible rfl
  rotate_left
  · simp only [Act.put, List.setIfInBounds_toArray, List.set_cons_zero, List.set_cons_succ, i64_w, i32_w]
    rfl
  refine pure_ (i := 5) (N := (some 25)) (v := ?_) (a' := ?_) #[true, true, true, true, true, true, false, false] rfl rfl (by kernel_rfl) (fun _ _ _ h => h) (Or.inl ⟨by rfl, ?_⟩) ?_ ?_
  rotate_left
  · intro w'
    go_simp
    first | with_reducible rfl | rfl
  rotate_left
  · simp only [Act.put, List.setIfInBounds_toArray, List.set_cons_zero, List.set_cons_succ, i64_w, i32_w]
    rfl
  refine last_ (i := 6) (N := (some 26)) #[true, true, true, true, true, true, true, false] rfl rfl (by kernel_rfl) (by decide) (fun K hK => ?_)
  refine Kd.R_delete_step k58 (w0 := w) base (by rfl) (.tmp 22) (.tmp 25) 23 58 (by rfl) Try.underlying23 (by kernel_rfl) rfl rfl (by have h := HA2.out; rw [HJ.out] at h; exact h.symm) (by have := HJ.out; omega) hHeld.1 HK.out hHeld.2 (Nat.le_trans HBS.out (by have := hHeld.2.size; omega)) ?_
  intro wA hRA hbA hgA
  try clear hHeld
  refine hK.out _ _ ?_
  clear hK K
  refine norm_ (a' := ?_) ?_ ?_
  rotate_left
  · show Act.put _ (some 26) _ = _
    simp only [Act.put, List.setIfInBounds_toArray, List.set_cons_zero, List.set_cons_succ, i64_w, i32_w]
    rfl
  have RA := Aside0.mk hRA
  refine pure_ (i := 7) (N := (some 0)) (v := ?_) (a' := ?_) #[true, true, true, true, true, true, true, true] rfl rfl (by kernel_rfl) (fun _ _ _ h => h) (Or.inl ⟨by rfl, ?_⟩) ?_ ?_
  rotate_left
  · intro w'
    go_simp
    with_reducible rfl
  rotate_left
  · simp only [Act.put, List.setIfInBounds_toArray, List.set_cons_zero, List.set_cons_succ, i64_w, i32_w]
    rfl
  refine done_ (by kernel_rfl) ?_
  obtain ⟨n, hn⟩ : ∃ n, n = l.length - 1 := ⟨_, rfl⟩
  rw [← hn] at RA ⊢
  have q0 : 0 ≤ (n : Int) := Int.natCast_nonneg _
  have q1 : (n : Int) ≤ (l.length : Int) := by omega
  have HNC := Aside0.mk (show n + 1 ≤ c by have := HLC.out; have := HN.out; omega)
  have hcut3 : ∀ W : World, (Instr.slice 23 (.slice (some ⟨g, 0, none⟩) n c) (some (.int .i64 (n : Int))) (some (.int .i64 (l.length : Int))) none).run Try.prog W = .ok (.slice (some ⟨g, n * 7, none⟩) 1 (c - n)) W := by
    intro W
    have hel : Try.prog.elem 23 = 58 := by simp [Program.elem, Try.underlying23]
    have hu : Try.prog.underlying 23 = some (.slice (Try.prog.elem 23)) := by rw [hel]; exact Try.underlying23
    have hc1 : ¬ c = n := by have := HNC.out; omega
    have hl1 : l.length - n = 1 := by have := HN.out; have := HK.out; omega
    rw [run_slice_lh W 23 (some ⟨g, 0, none⟩) n c hu .i64 .i64 (n : Int) (l.length : Int) q0 q1 p3, hel]
    simp [sizeOf, typeInfo, HI58.out, HSZ.out, sliced, Result.andThen, hc1, hl1, Addr.add]
    try (intro h9; omega)
  obtain ⟨w9, hc9, hr9, hg9⟩ := R_clear_run RA.out HNC.out 0 (c - n)
  have R9 := Aside0.mk hr9
  have B9 := Aside0.mk (pw_below_grown hbA (some g) (Nat.le_trans HBS.out hbA.size) hg9 (fun b hb => by injection hb with hb; subst hb; exact Kd.R_base RA.out _ (by simp [Value.ownBlock])))
  have F9 := Aside0.mk (show ∀ b, b < w.heap.size → b ≠ g → w9.heap[b]? = w.heap[b]? from fun b hb hn_ => (hg9.block b (Nat.lt_of_lt_of_le hb hgA.size) (fun e => hn_ (by injection e))).trans (hgA.block b hb (fun e => hn_ (by injection e))))
  have HN2 := Aside0.mk hn
  clear hn hr9 hg9 hgA hRA
  go_wp2_with fail
  go_ret
  exact ⟨by rw [← HN2.out]; rfl, by rw [← HN2.out]; exact R9.out, B9.out, F9.out⟩
end Go.Proofs.Ytkjepfofiegcdaa.V
namespace Go.Proofs.Ytkjepfofiegcdaa.V
set_option linter.unusedVariables false
set_option linter.unusedSimpArgs false
open Go.RowKit Go.Proofs.YtkjepfofiegcdaaW.PrintWords Go.Proofs.YtkjepfofiegcdaaW.PrintLast Go.Proofs.YtkjepfofiegcdaaW.PrintMore Go.Proofs.Ytkjepfofiegcdaa.PB14
def okS (y : Ver) (n : Nat) : Prop := apV y ∧ VW y ∧ ∀ i, i < 4 → (y.lv i).length ≤ n
theorem woL_sub {l : List S58} {n : Int} {m : S58} (h : m ∈ woL l n) : m ∈ l := (List.mem_filter.mp h).1
theorem wiL_mem {lv : Int} {m x : S58} {l : List S58} (h : x ∈ wiL lv m l) : x = m ∨ x ∈ l := by
 unfold wiL at h
 rw [List.mem_append, List.mem_cons] at h
 rcases h with h | h | h
 ·exact .inr (List.mem_of_mem_take h)
 ·exact .inl h
 ·exact .inr (List.mem_of_mem_drop h)
theorem okS.go {y : Ver} {n : Nat} (h : okS y n) {i : Nat} (hi : i < 4) (f : Int) : okS (y.set i (woL (y.lv i) f)) n :=
 ⟨h.1.wo hi f, fun j hj m hm => by
  rw [Ver.set_lv y i j hi hj] at hm
  by_cases e : j = i
  ·rw [if_pos e] at hm; exact h.2.1 i hi m (woL_sub hm)
  ·rw [if_neg e] at hm; exact h.2.1 j hj m hm, fun j hj => by
  rw [Ver.set_lv y i j hi hj]
  by_cases e : j = i
  ·rw [if_pos e]; exact Nat.le_trans (List.length_filter_le _ _) (h.2.2 i hi)
  ·rw [if_neg e]; exact h.2.2 j hj⟩
theorem okS.come {y : Ver} {n : Nat} (h : okS y n) {i : Nat} (hi : i < 4) {m : S58} (hm : mayP m) (hc : cntV y m.f0 = 0) : okS (y.set i (wiL (i : Int) m (y.lv i))) (n + 1) :=
 ⟨fun f => by
  have h1 := h.1 f
  have h2 := wi_cnt y hi (i : Int) m f
  by_cases e : m.f0 = f
  ·subst e; rw [if_pos rfl] at h2; omega
  ·rw [if_neg e] at h2; omega, fun j hj x hx => by
  rw [Ver.set_lv y i j hi hj] at hx
  by_cases e : j = i
  ·rw [if_pos e] at hx
   rcases wiL_mem hx with rfl | hx
   ·have h1 := hm.1; have h2 := hm.2.1; omega
   ·exact h.2.1 i hi x hx
  ·rw [if_neg e] at hx; exact h.2.1 j hj x hx, fun j hj => by
  rw [Ver.set_lv y i j hi hj]
  by_cases e : j = i
  ·rw [if_pos e, wiL_len]; have := h.2.2 i hi; omega
  ·rw [if_neg e]; have := h.2.2 j hj; omega⟩
theorem drop_at {α : Type} (l : List α) (z : α) {k : Nat} (hk : k < l.length) : l.drop k = l.getD k z :: l.drop (k + 1) := by
 rw [List.drop_eq_getElem_cons hk, List.getD_eq_getElem?_getD, List.getElem?_eq_getElem hk, Option.getD_some]
theorem goV_no {y : Ver} {lv : Nat} {f : Int} (h : f ∉ nums (y.lv lv)) : goV y ⟨(lv : Int), f⟩ = none := by
 unfold goV
 rw [Int.toNat_natCast, if_neg h]
theorem goV_yes {y : Ver} {lv : Nat} {f : Int} (h : f ∈ nums (y.lv lv)) : goV y ⟨(lv : Int), f⟩ = some (y.set lv (woL (y.lv lv) f)) := by
 unfold goV
 rw [Int.toNat_natCast, if_pos h]
theorem nums_not {l : List S58} {n : Int} (h : ∀ j, j < l.length → ¬ (l.getD j z58).f0 = n) : n ∉ nums l := by
 intro hn
 obtain ⟨m, hm, hf⟩ := mem_nums.mp hn
 obtain ⟨j, hj, e⟩ := List.getElem_of_mem hm
 refine h j hj ?_
 rw [List.getD_eq_getElem?_getD, List.getElem?_eq_getElem hj, Option.getD_some, e, hf]
theorem nums_at {l : List S58} {n : Int} {k : Nat} (hk : k < l.length) (h : (l.getD k z58).f0 = n) : n ∈ nums l := mem_nums.mpr ⟨_, getD_mem l z58 hk, h⟩
theorem gone_no {y : Ver} {g : List S84} {r : List S82} {k lv : Nat} {f : Int} (hk : k < g.length) (hx : g.getD k z84 = ⟨(lv : Int), f⟩) (h : f ∉ nums (y.lv lv)) : goneV y (g.drop k) r = (zeroV, 4) := by
 rw [drop_at g z84 hk, goneV_cons, hx, goV_no h]
theorem gone_yes {y : Ver} {g : List S84} {r : List S82} {k lv : Nat} {f : Int} (hk : k < g.length) (hx : g.getD k z84 = ⟨(lv : Int), f⟩) (h : f ∈ nums (y.lv lv)) : goneV y (g.drop k) r = goneV (y.set lv (woL (y.lv lv) f)) (g.drop (k + 1)) r := by
 rw [drop_at g z84 hk, goneV_cons, hx, goV_yes h]
theorem come_no {y : Ver} {g : List S82} {k lv : Nat} {m : S58} (hk : k < g.length) (hx : g.getD k z82 = ⟨(lv : Int), m⟩) (h : 0 < cntV y m.f0) : comeV y (g.drop k) = (zeroV, 5) := by
 rw [drop_at g z82 hk, comeV_cons, hx, adV, if_pos h]
theorem come_yes {y : Ver} {g : List S82} {k lv : Nat} {m : S58} (hk : k < g.length) (hx : g.getD k z82 = ⟨(lv : Int), m⟩) (h : cntV y m.f0 = 0) : comeV y (g.drop k) = comeV (y.set lv (wiL (lv : Int) m (y.lv lv))) (g.drop (k + 1)) := by
 rw [drop_at g z82 hk, comeV_cons, hx, adV, if_neg (show ¬ 0 < cntV y m.f0 by omega), Int.toNat_natCast]
/-! Rows of one's own beside other blocks. -/
theorem own_ne {w : World} {base : Nat} {xs : List S58} {A : Option Addr} {n c g t : Nat} {cs : Array Value} (h : Kd.R k58 58 w base (fun _ => True) (.slice A n c) xs) (hx : w.heap[g]? = some (.cells cs t (0, 0))) (ht : t ≠ 58) : (Value.slice A n c).ownBlock ≠ some g := fun e => by
 rcases R58_open h with ⟨h1, _⟩ | ⟨g2, cur, inner, ha, _, hh, _⟩
 ·subst h1; simp [Value.ownBlock] at e
 ·subst ha
  simp [Value.ownBlock] at e
  subst e
  rw [hx] at hh
  injection hh with hh
  injection hh with _ hh _
  exact ht hh
theorem Rows4.zero (w : World) (base : Nat) : Rows4 w base zeroV firstP := ⟨fun i hi => by
 rcases (by omega : i = 0 ∨ i = 1 ∨ i = 2 ∨ i = 3) with rfl | rfl | rfl | rfl <;> exact Kd.R_nil _ _ _ _ _, fun i j hi hj _ b hb => by
 rcases (by omega : i = 0 ∨ i = 1 ∨ i = 2 ∨ i = 3) with rfl | rfl | rfl | rfl <;> simp [slV, firstP, Pl.a, Value.ownBlock] at hb⟩
theorem Rows4.set {w : World} {base : Nat} {u : Ver} {p : Pl} (h : Rows4 w base u p) {g t : Nat} {cs : Array Value} (hx : w.heap[g]? = some (.cells cs t (0, 0))) (ht : t ≠ 58) (j : Nat) (v : Value) : Rows4 (w.setCell ⟨g, j, none⟩ v) base u p := RowsK.all (RowsK.set (n := 4) h hx ht j v)
theorem Rows4.grown {w w' : World} {base : Nat} {u : Ver} {p : Pl} (h : Rows4 w base u p) {gm n : Nat} {F : Int → Int} (hc : Cnt w gm n F) (hg : w.grownBy w' (some gm)) : Rows4 w' base u p := by
 obtain ⟨D, _, ⟨es, ck, hm, _⟩, _⟩ := hc
 refine ⟨fun j hj => ?_, h.2⟩
 rcases R58_open (h.1 j hj) with ⟨h1, h2, h3, h4⟩ | ⟨g, cur, inner, ha, hb, hh, hl, hnc, hcm, hcs, ht, hr⟩
 ·show Kd.R k58 58 w' base (fun _ => True) (.slice (p.a j) (u.lv j).length (p.c j)) (u.lv j)
  rw [h1, h2, h3, h4]
  exact Kd.R_nil _ _ _ _ _
 ·show Kd.R k58 58 w' base (fun _ => True) (.slice (p.a j) (u.lv j).length (p.c j)) (u.lv j)
  rw [ha]
  refine R58_mk hb ((hg.block g (blk_lt hh) (fun e => ?_)).trans hh) hl hnc hcm hcs ht hr
  injection e with e
  subst e
  rw [hm] at hh
  injection hh with hh
  cases hh
theorem Cnt.own {w : World} {base g k : Nat} {F : Int → Int} {xs : List S58} {A : Option Addr} {n c : Nat} (hc : Cnt w g k F) (h : Kd.R k58 58 w base (fun _ => True) (.slice A n c) xs) : some g ≠ (Value.slice A n c).ownBlock := fun e => by
 obtain ⟨D, _, ⟨es, ck, hm, _⟩, _⟩ := hc
 rcases R58_open h with ⟨h1, _⟩ | ⟨g2, cur, inner, ha, _, hh, _⟩
 ·subst h1; simp [Value.ownBlock] at e
 ·subst ha
  simp [Value.ownBlock] at e
  subst e
  rw [hm] at hh
  injection hh with hh
  cases hh
theorem grown_stay {B : Nat} {w w' : World} {own : Option Nat} (hb : Below B w w') (hs : ∀ b, b < w.heap.size → own ≠ some b → w'.heap[b]? = w.heap[b]?) : w.grownBy w' own := ⟨hb.os, hb.tape, hb.output, hb.size, fun i hi hne => hs i hi (fun e => hne e.symm)⟩
theorem grown_cell (w : World) (g j : Nat) (v : Value) : w.grownBy (w.setCell ⟨g, j, none⟩ v) (some g) := grown_stay ((Below.refl 0 w).setCell (Nat.zero_le _) v) (fun b hb hne => Below.heap_setCell w _ v b (fun e => hne (by rw [e])))
theorem cnt_wi (y : Ver) {i : Nat} (hi : i < 4) (lv : Int) (m : S58) : (fun j : Int => if j = m.f0 then cntF (catV y 4) m.f0 + 1 else cntF (catV y 4) j) = cntF (catV (y.set i (wiL lv m (y.lv i))) 4) := by
 funext j
 have h := wi_cnt y hi lv m j
 unfold cntV at h
 unfold cntF
 rw [h]
 by_cases e : j = m.f0
 ·subst e
  rw [if_pos rfl, if_pos rfl]
  omega
 ·rw [if_neg e, if_neg (fun h2 => e h2.symm)]
  omega
theorem catV_le {v : Ver} {i n : Nat} (h : ∀ j, j < i → (v.lv j).length ≤ n) : (catV v i).length ≤ n * i := by
 induction i with
 | zero => simp [catV]
 | succ i ih =>
  have h1 := ih (fun j hj => h j (by omega))
  have h2 := h i (by omega)
  rw [catV, List.length_append, Nat.mul_succ]
  omega
theorem Rows4.bnd {w : World} {base : Nat} {v : Ver} {p : Pl} (e : Edt) (h : Rows4 w base v p) : Rows4 w base (bndV v e) p := by
 have hs : ∀ i, i < 4 → slV (bndV v e) p i = slV v p i := fun i hi => by unfold slV; rw [bndV_lv v e i hi]
 refine ⟨fun i hi => ?_, fun i j hi hj hij b h1 h2 => ?_⟩
 ·rw [hs i hi, bndV_lv v e i hi]; exact h.1 i hi
 ·rw [hs i hi] at h1
  rw [hs j hj] at h2
  exact h.2 i j hi hj hij b h1 h2
theorem okS_bnd {v : Ver} {n : Nat} (e : Edt) (hr : rightP v) (hW : VW v) (hn : ∀ i, i < 4 → (v.lv i).length ≤ n) : okS (bndV v e) n :=
 ⟨fun m => by
  have h := apV_of hr.2.1.2.2 m
  rw [lv_cnt] at h ⊢
  exact h, fun i hi m hm => hW i hi m (by rw [bndV_lv v e i hi] at hm; exact hm), fun i hi => by rw [bndV_lv v e i hi]; exact hn i hi⟩
theorem delL_calls (w : World) (base g c k : Nat) (l : List S58) (f : Int) (hR : Kd.R k58 58 w base (fun _ => True) (.slice (some ⟨g, 0, none⟩) l.length c) l) (hk : k < l.length) (hlc : l.length ≤ c) (hl : l.length ≤ 1000000000) (hb : base ≤ w.heap.size) (he : (l.getD k z58).f0 = f) (hN : (nums l).Nodup) :
  Calls Try.prog 106 #[.slice (some ⟨g, 0, none⟩) l.length c, .int .i64 (k : Int), .int .i64 ((k + 1 : Nat) : Int)] w fun e w' => e = .returned (.slice (some ⟨g, 0, none⟩) (woL l f).length c) ∧ Kd.R k58 58 w' base (fun _ => True) (.slice (some ⟨g, 0, none⟩) (woL l f).length c) (woL l f) ∧ Below base w w' ∧ (∀ b, b < w.heap.size → (Value.slice (some ⟨g, 0, none⟩) l.length c).ownBlock ≠ some b → w'.heap[b]? = w.heap[b]?) := by
 refine (deleteF_calls w base g c k l (fun _ => True) hR hk hlc hl hb).mono ?_
 rintro e w' ⟨rfl, h1, h2, h3⟩
 have e1 := erase_first hk he hN
 have e2 : l.length - 1 = (woL l f).length := by rw [← e1, List.length_eraseIdx_of_lt hk]
 rw [e1, e2] at h1
 rw [e2]
 exact ⟨rfl, h1, h2, fun b hb hne => h3 b hb (fun e => hne (by subst e; simp [Value.ownBlock]))⟩
theorem insL_calls (w : World) (base c gv k : Nat) (A : Option Addr) (l : List S58) (lv : Int) (m : S58) (hR : Kd.R k58 58 w base (fun _ => True) (.slice A l.length c) l) (hp : plc lv m l = k) (hgv : w.heap[gv]? = some (.cells (mCs m) 58 (0, 0))) (hne : (Value.slice A l.length c).ownBlock ≠ some gv) (hsm : l.length ≤ 1000000000) (hbase : base ≤ w.heap.size) :
  Calls Try.prog 107 #[.slice A l.length c, .int .i64 (k : Int), .slice (some ⟨gv, 0, none⟩) 1 1] w fun e w' => (∃ (B : Option Addr) (cb : Nat), e = .returned (.slice B (wiL lv m l).length cb) ∧ Kd.R k58 58 w' base (fun _ => True) (.slice B (wiL lv m l).length cb) (wiL lv m l) ∧ ((Value.slice B (wiL lv m l).length cb).ownBlock = (Value.slice A l.length c).ownBlock ∨ ∃ b, (Value.slice B (wiL lv m l).length cb).ownBlock = some b ∧ w.heap.size ≤ b)) ∧ (∀ b, b < w.heap.size → (Value.slice A l.length c).ownBlock ≠ some b → w'.heap[b]? = w.heap[b]?) ∧ Below base w w' := by
 have hk : k ≤ l.length := by
  rw [← hp]
  unfold plc
  exact (List.takeWhile_sublist _).length_le
 refine (insert_calls w base l.length c gv k A l m hR hk hgv hne hsm hbase).mono ?_
 have e1 : wiL lv m l = l.take k ++ m :: l.drop k := by unfold wiL; rw [hp]
 have e2 : l.length + 1 = (wiL lv m l).length := (wiL_len lv m l).symm
 rintro e w' ⟨⟨B, cb, h1, h2, h3⟩, h4, h5⟩
 rw [← e1, e2] at h2
 rw [e2] at h1 h3
 exact ⟨⟨B, cb, h1, h2, h3⟩, h4, h5⟩
end Go.Proofs.Ytkjepfofiegcdaa.V
