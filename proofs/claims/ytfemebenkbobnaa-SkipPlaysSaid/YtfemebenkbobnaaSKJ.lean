import Derived.Test.YtfemebenkbobnaaSKI
import Derived.Laws.Cover1
/- The document's Put, walked. Conditions: at most 1000 rows, in order. -/
namespace Go.Proofs.Ytfemebenkbobnaa.SK
set_option linter.unusedVariables false
set_option linter.unusedSimpArgs false
open Go.RowKit Go.Shelf Go.Proofs.YtfemebenkbobnaaW.PrintWords Go.Proofs.YtfemebenkbobnaaW.PrintLast Go.Proofs.YtfemebenkbobnaaW.PrintMore Go.Proofs.Ytfemebenkbobnaa.PB06
/-- A list of the document's: rows and heights, in memory from base on. -/
structure RL (w : World) (base g : Nat) (l : List RH) : Prop where
  ex : ∃ A1 c1 A2 c2, w.heap[g]? = some (.cells #[.slice A1 l.length c1, .slice A2 l.length c2] 42 (0, 0)) ∧ Kd.R k28 28 w base (fun _ => True) (.slice A1 l.length c1) (l.map (·.1)) ∧ Kd.R (Kd.int .i64) 3 w base (fun _ => True) (.slice A2 l.length c2) (l.map (fun x => (x.2 : Int)))
theorem R28_keep {w w' : World} {base : Nat} {v : Value} {xs : List S28} (h : Kd.R k28 28 w base (fun _ => True) v xs) (hk : ∀ (k : Nat) (cs : Array Value), w.heap[k]? = some (.cells cs 28 (0, 0)) → w'.heap[k]? = w.heap[k]?) : Kd.R k28 28 w' base (fun _ => True) v xs := by
  refine Kd.R_mono (Kd.R_step (Kd.R_bound h) (fun k ho _ => ?_)) (fun _ _ => trivial)
  obtain ⟨_, _, _, q, hq, cells, hc⟩ := ho
  have hq28 : q = 28 := by
    rcases List.mem_cons.mp hq with e | e
    · exact e
    · exact absurd e (by have : k28.E = [] := rfl; rw [this]; simp)
  subst hq28
  exact hk k cells hc
theorem R3_keep {w w' : World} {base : Nat} {v : Value} {xs : List Int} (h : Kd.R (Kd.int .i64) 3 w base (fun _ => True) v xs) (hk : ∀ (k : Nat) (cs : Array Value), w.heap[k]? = some (.cells cs 3 (0, 0)) → w'.heap[k]? = w.heap[k]?) : Kd.R (Kd.int .i64) 3 w' base (fun _ => True) v xs := by
  refine Kd.R_mono (Kd.R_step (Kd.R_bound h) (fun k ho _ => ?_)) (fun _ _ => trivial)
  obtain ⟨_, _, _, q, hq, cells, hc⟩ := ho
  have hq28 : q = 3 := by
    rcases List.mem_cons.mp hq with e | e
    · exact e
    · exact absurd e (by have : (Kd.int .i64).E = [] := rfl; rw [this]; simp)
  subst hq28
  exact hk k cells hc
theorem RL.keep {w w' : World} {base g : Nat} {l : List RH} (h : RL w base g l) (hk : ∀ (k : Nat) (cs : Array Value) (q : TypeId), w.heap[k]? = some (.cells cs q (0, 0)) → q = 28 ∨ q = 3 ∨ q = 42 → w'.heap[k]? = w.heap[k]?) : RL w' base g l := by
  obtain ⟨A1, c1, A2, c2, h1, h2, h3⟩ := h.ex
  exact ⟨A1, c1, A2, c2, (hk _ _ _ h1 (.inr (.inr rfl))).trans h1, R28_keep h2 (fun k cs hc => hk _ _ _ hc (.inl rfl)), R3_keep h3 (fun k cs hc => hk _ _ _ hc (.inr (.inl rfl)))⟩
theorem RL.below {w w' : World} {base g : Nat} {l : List RH} (h : RL w base g l) (hb : Below w.heap.size w w') : RL w' base g l := h.keep fun k cs q hc _ => hb.block k (blk_lt hc)
theorem sk_typed2 {w : World} {g : Nat} {rs : List Nd} (h : Sk w g rs) : ∀ k, k ∈ fp g rs → ∃ cs t, w.heap[k]? = some (.cells cs t (0, 0)) ∧ t ≠ 28 ∧ t ≠ 3 ∧ t ≠ 42 := fun k hk => by
  rcases fp_mem.mp hk with rfl | hk
  · exact ⟨_, _, h.sl.head, by decide, by decide, by decide⟩
  · obtain ⟨x, hx, rfl⟩ := List.mem_map.mp hk
    obtain ⟨cs, hc⟩ := h.sl.chain.mem x hx
    exact ⟨cs, _, hc, by decide, by decide, by decide⟩
theorem RL.put {w w' : World} {base g g2 h : Nat} {l : List RH} {rs rs' : List Nd} {r : S28} (hR : RL w base g l) (hs : Sk w g2 rs) (hp : Put w w' g2 rs r h rs') : RL w' base g l := hR.keep fun k cs q hc hq => by
  have hn : k ∉ fp g2 rs := fun hm => by
    obtain ⟨cs', t, h1, h2, h3, h4⟩ := sk_typed2 hs k hm
    rw [hc] at h1
    cases h1
    rcases hq with rfl | rfl | rfl
    · exact h2 rfl
    · exact h3 rfl
    · exact h4 rfl
  exact hp.kp.same k (blk_lt hc) (fun e => hn (fp_mem.mpr (.inl e))) (fun e => hn (fp_mem.mpr (.inr e)))
/-- A skip list stays where the document's list is written. -/
theorem Sk.far {w w' : World} {g g2 : Nat} {rs : List Nd} {cs : Array Value} (h : Sk w g rs) (hg : w.heap[g2]? = some (.cells cs 42 (0, 0))) (hk : ∀ k, k < w.heap.size → k ≠ g2 → w'.heap[k]? = w.heap[k]?) : Sk w' g rs :=
  h.keep fun k hm => by
    obtain ⟨cs', t, h1, h2, h3, h4⟩ := sk_typed2 h k (fp_mem.mpr hm)
    refine hk k (blk_lt h1) (fun e => ?_)
    subst e
    rw [hg] at h1
    cases h1
    exact h4 rfl
theorem R28_grown {W w1 : World} {base : Nat} {v v2 : Value} {xs : List S28} {ys : List Int} (h : Kd.R k28 28 W base (fun _ => True) v xs) (h2 : Kd.R (Kd.int .i64) 3 W base (fun _ => True) v2 ys) (hg : W.grownBy w1 v2.ownBlock) : Kd.R k28 28 w1 base (fun _ => True) v xs :=
  R28_keep h fun k cs hc => hg.block k (blk_lt hc) (Kd.R_ne h2 hc (by decide))
theorem R3_grown {W w1 : World} {base : Nat} {v v2 : Value} {xs : List Int} {ys : List S28} (h : Kd.R (Kd.int .i64) 3 W base (fun _ => True) v xs) (h2 : Kd.R k28 28 W base (fun _ => True) v2 ys) (hg : W.grownBy w1 v2.ownBlock) : Kd.R (Kd.int .i64) 3 w1 base (fun _ => True) v xs :=
  R3_keep h fun k cs hc => hg.block k (blk_lt hc) (Kd.R_ne h2 hc (by decide))
theorem info3 : (Try.prog.info? 3).map (fun i => (i.zero, i.size, i.bytes)) = some (some (.int .i64 0), 1, 8) := by kernel_rfl
theorem l_row {l : List RH} {i : Nat} (h : i < l.length) : (l.map (·.1)).getD i z28 = (l.getD i zRH).1 := by
  rw [getD_RH h, List.getD_eq_getElem?_getD, List.getElem?_map, List.getElem?_eq_getElem h]; rfl
theorem l_h {l : List RH} {i : Nat} (h : i < l.length) : hAt (l.map (fun x => (x.2 : Int))) i = ((l.getD i zRH).2 : Int) := by
  rw [getD_RH h, hAt, List.getElem?_map, List.getElem?_eq_getElem h]; rfl
theorem aL_ {α : Type} {l : List α} {ys : List S28} (h : l.length ≤ 1001) (h2 : ys.length ≤ l.length + 1) : (ys.length + 1) * 48 ≤ 140737488355328 := by omega
theorem aL3_ {α : Type} {l : List α} {ys : List Int} (h : l.length ≤ 1001) (h2 : ys.length ≤ l.length + 1) : (ys.length + 1) * 8 ≤ 140737488355328 := by omega
theorem below_any {B : Nat} {w0 w w' : World} (h : Below B w0 w) (hb : Below w.heap.size w w') (hB : B ≤ w.heap.size) : Below B w0 w' := h.trans (hb.mono hB)
theorem put08_end {w wa wr : World} {base g : Nat} {l PL : List RH} {r : S28} {hgt : Int} {A1 A2 A9 A10 : Option Addr} {c1 c2 c9 c10 : Nat} (hPL : PL = putV r (clampH hgt) l) (htk : takenV r l = false) (hg : wr.heap[g]? = some (.cells #[.slice A1 l.length c1, .slice A2 l.length c2] 42 (0, 0)))
    (hb : Below wa.heap.size wa wr) (hba : Below w.heap.size w wa) (hb1 : base ≤ g) (hgl : g < w.heap.size) (hbs : base ≤ w.heap.size)
    (h9 : Kd.R k28 28 wr wa.heap.size (fun _ => True) (.slice A9 PL.length c9) (PL.map (·.1))) (h10 : Kd.R (Kd.int .i64) 3 wr wa.heap.size (fun _ => True) (.slice A10 PL.length c10) (PL.map (fun x => (x.2 : Int)))) :
    Ending.returned (.bool true) = Ending.returned (.bool (!takenV r l)) ∧ RL ((wr.setCell ⟨g, 0, none⟩ (.slice A9 PL.length c9)).setCell ⟨g, 1, none⟩ (.slice A10 PL.length c10)) base g (putV r (clampH hgt) l) ∧ (∀ k, k < w.heap.size → k ≠ g → ((wr.setCell ⟨g, 0, none⟩ (.slice A9 PL.length c9)).setCell ⟨g, 1, none⟩ (.slice A10 PL.length c10)).heap[k]? = w.heap[k]?) ∧
      (∀ B w0, Below B w0 w → B ≤ g → Below B w0 ((wr.setCell ⟨g, 0, none⟩ (.slice A9 PL.length c9)).setCell ⟨g, 1, none⟩ (.slice A10 PL.length c10))) := by
  have hS1 := blk_put hg 0 (.slice A9 PL.length c9) (cs' := #[.slice A9 PL.length c9, .slice A2 l.length c2]) rfl
  have hS2 := blk_put hS1 1 (.slice A10 PL.length c10) (cs' := #[.slice A9 PL.length c9, .slice A10 PL.length c10]) rfl
  have hfar : ∀ k, k ≠ g → ((wr.setCell ⟨g, 0, none⟩ (.slice A9 PL.length c9)).setCell ⟨g, 1, none⟩ (.slice A10 PL.length c10)).heap[k]? = wr.heap[k]? := fun k hk =>
    (Below.heap_setCell _ ⟨g, 1, none⟩ _ k hk).trans (Below.heap_setCell _ ⟨g, 0, none⟩ _ k hk)
  have hle : w.heap.size ≤ wa.heap.size := hba.size
  have hw : Below w.heap.size w wr := below_step hba hb
  refine ⟨by rw [htk]; rfl, ?_, fun k hk hne => (hfar k hne).trans (hw.block k hk), fun B w0 h1 h2 => ((below_any h1 hw (by omega)).setCell h2 _).setCell h2 _⟩
  rw [← hPL]
  refine ⟨A9, c9, A10, c10, hS2, Kd.R_lower (R28_keep h9 (fun k cs hc => hfar k (fun e => ?_))) (by omega), Kd.R_lower (R3_keep h10 (fun k cs hc => hfar k (fun e => ?_))) (by omega)⟩
  · subst e; rw [hg] at hc; cases hc
  · subst e; rw [hg] at hc; cases hc
set_option maxHeartbeats 8000000 in
set_option maxRecDepth 100000 in
theorem put08_calls (w : World) (base g : Nat) (l : List RH) (r : S28) (hgt : Int) (hR : RL w base g l) (hs : SortedR (l.map (·.1))) (hl : l.length ≤ 1000) (hb0 : base ≤ w.heap.size) (hb1 : base ≤ g) :
    Calls Try.prog 26 #[.pointer (some ⟨g, 0, none⟩), .agg #[.string r.f0, .int .u64 r.f1, .int .i64 r.f2, .string r.f3], .int .i64 hgt] w fun e w' => e = .returned (.bool (!takenV r l)) ∧ RL w' base g (putV r (clampH hgt) l) ∧ (∀ k, k < w.heap.size → k ≠ g → w'.heap[k]? = w.heap[k]?) ∧ (∀ B w0, Below B w0 w → B ≤ g → Below B w0 w') := by
  have HR := Aside0.mk hR
  have HS := Aside0.mk hs
  have HLN := Aside0.mk hl
  have HB0 := Aside0.mk hb0
  have HB1 := Aside0.mk hb1
  have HGL := Aside0.mk (show g < w.heap.size by obtain ⟨_, _, _, _, h1, _⟩ := hR.ex; exact blk_lt h1)
  have HB := Aside0.mk (Below.refl w.heap.size w)
  have HT := Aside0.mk (there_f (r := r) hs (by rw [List.length_map]; omega))
  have HP := Aside0.mk (place_f (key := r.f0) (seq := r.f1) hs (by rw [List.length_map]; omega))
  have HE := Aside0.mk (show (ahdR r.f0 r.f1 (l.map (·.1))).length = (ahdV r.f0 r.f1 l).length by rw [← rows_ahd, List.length_map])
  rw [show takenR r (l.map (·.1)) = takenV r l from (rows_taken r l).symm] at HT
  clear hR hs hl hb0 hb1
  go_enter Try.func26, Try.ntmps26
  go_wp2_with (first | ((with_reducible refine gate_dst (N := 4) rfl ?_); refine box_event ?hg (N := 4) ?hd (cs := #[.string r.f0, .int .u64 r.f1, .int .i64 r.f2, .string r.f3]) (t := 28) ?hr ?_; (case hd => rfl); (case hg => rfl); (case hr => first | (go_simp; done) | (go_simp; rfl)); intro gr hg w2 hbox hb; have n0_ := Aside0.mk (below_step HB.out hb); have n1_ := Aside0.mk hbox; have GR := Aside0.mk (by rw [hg]; exact below_size HB.out : w.heap.size ≤ gr); have n2_ := Aside0.mk (HR.out.below hb); clear HB HR; have HB := n0_; have BR := n1_; have HR := n2_; clear n0_ n1_ n2_; clear hb hbox hg) | fail)
  obtain ⟨A1, c1, A2, c2, hg0, hr1, hr2⟩ := HR.out.ex
  have G0 := Aside0.mk ((blk_cell hg0 0).trans rfl : w2.cell? ⟨g, 0, none⟩ = some (.slice A1 l.length c1))
  have C1 := Aside0.mk (Kd.R_reads' hr1).2.2
  have L1 := Aside0.mk (Kd.R_reads' hr1).2.1
  clear hg0 hr1 hr2
  have q0 : w2.cell? ⟨gr, 0, none⟩ = some (.string r.f0) := (blk_cell BR.out 0).trans rfl
  have q1 : w2.cell? ⟨gr, 1, none⟩ = some (.int .u64 r.f1) := (blk_cell BR.out 1).trans rfl
  have a0 := G0.out
  refine start_ (n := 9) (S := fun w' => w'.cell? ⟨g, 0, none⟩ = some (.slice A1 l.length c1) ∧ w'.cell? ⟨gr, 0, none⟩ = some (.string r.f0) ∧ w'.cell? ⟨gr, 1, none⟩ = some (.int .u64 r.f1)) (ds := []) #[false, false, false, false, false, false, false, false, false] (by kernel_rfl) rfl rfl ⟨a0, q0, q1⟩ (fun hHeld => ?_)
  have n0_ := Aside0.mk (below_step HB.out (pw_below_drewN (Below.refl _ _) 1))
  have n1_ := Aside0.mk (HR.out.below (pw_below_drewN (Below.refl _ _) 1))
  have n2_ := Aside0.mk (blk_drew BR.out)
  have n3_ := Aside0.mk (Kd.C_below C1.out (pw_below_drewN (Below.refl _ _) 1))
  replace n0_ : Aside0 (Below w.heap.size w w2.drew) := n0_
  replace n1_ : Aside0 (RL w2.drew base g l) := n1_
  replace n3_ : Aside0 (Kd.C k28 w2.drew A1 (l.map (·.1)).length (l.map (·.1))) := n3_
  clear HB HR BR C1 a0 q0 q1 G0
  generalize w2.drew = wd at *
  have HB := n0_
  have HR := n1_
  have BR := n2_
  have C1 := n3_
  clear n0_ n1_ n2_ n3_
  -- 0: Op.move t0
  refine pure_ (i := 0) (N := (some 12)) (v := ?_) (a' := ?_) #[true, false, false, false, false, false, false, false, false] rfl rfl (by kernel_rfl) (fun _ _ _ h => h) (Or.inl ⟨by rfl, ?_⟩) ?_ ?_
  rotate_left
  · intro w'
    go_simp
    with_reducible rfl
  rotate_left
  · simp only [Act.put, List.setIfInBounds_toArray, List.set_cons_zero, List.set_cons_succ, i64_w, i32_w]
    rfl
  -- 1: Op.nilCheck t12
  refine pure_ (i := 1) (N := (some 13)) (v := ?_) (a' := ?_) #[true, true, false, false, false, false, false, false, false] rfl rfl (by kernel_rfl) (fun _ _ _ h => h) (Or.inl ⟨by rfl, ?_⟩) ?_ ?_
  rotate_left
  · intro w'
    go_simp
    with_reducible rfl
  rotate_left
  · simp only [Act.put, List.setIfInBounds_toArray, List.set_cons_zero, List.set_cons_succ, i64_w, i32_w]
    rfl
  -- 2: Op.fieldAddr 42 t13 0
  refine pure_ (i := 2) (N := (some 14)) (v := ?_) (a' := ?_) #[true, true, true, false, false, false, false, false, false] rfl rfl (by kernel_rfl) (fun _ _ _ h => h) (Or.inl ⟨by rfl, ?_⟩) ?_ ?_
  rotate_left
  · intro w'
    go_simp
    with_reducible rfl
  rotate_left
  · simp only [Act.put, List.setIfInBounds_toArray, List.set_cons_zero, List.set_cons_succ, i64_w, i32_w]
    rfl
  -- 3: Op.load 22 t14
  refine take_ (i := 3) (N := (some 15)) (v := ?_) (a' := ?_) #[true, true, true, true, false, false, false, false, false] rfl rfl (by kernel_rfl) (fun _ _ _ h => h) (Or.inl ⟨by rfl, ?_⟩) hHeld ?_ ?_
  rotate_left
  · rintro w' ⟨s0, s1, s2⟩
    go_simp
    with_reducible rfl
  rotate_left
  · simp only [Act.put, List.setIfInBounds_toArray, List.set_cons_zero, List.set_cons_succ, i64_w, i32_w]
    rfl
  -- 4: Op.fieldAddr 28 t4 0
  refine pure_ (i := 4) (N := (some 16)) (v := ?_) (a' := ?_) #[true, true, true, true, true, false, false, false, false] rfl rfl (by kernel_rfl) (fun _ _ _ h => h) (Or.inl ⟨by rfl, ?_⟩) ?_ ?_
  rotate_left
  · intro w'
    go_simp
    with_reducible rfl
  rotate_left
  · simp only [Act.put, List.setIfInBounds_toArray, List.set_cons_zero, List.set_cons_succ, i64_w, i32_w]
    rfl
  -- 5: Op.load 9 t16
  refine take_ (i := 5) (N := (some 17)) (v := ?_) (a' := ?_) #[true, true, true, true, true, true, false, false, false] rfl rfl (by kernel_rfl) (fun _ _ _ h => h) (Or.inl ⟨by rfl, ?_⟩) hHeld ?_ ?_
  rotate_left
  · rintro w' ⟨s0, s1, s2⟩
    go_simp
    with_reducible rfl
  rotate_left
  · simp only [Act.put, List.setIfInBounds_toArray, List.set_cons_zero, List.set_cons_succ, i64_w, i32_w]
    rfl
  -- 6: Op.fieldAddr 28 t4 1
  refine pure_ (i := 6) (N := (some 18)) (v := ?_) (a' := ?_) #[true, true, true, true, true, true, true, false, false] rfl rfl (by kernel_rfl) (fun _ _ _ h => h) (Or.inl ⟨by rfl, ?_⟩) ?_ ?_
  rotate_left
  · intro w'
    go_simp
    with_reducible rfl
  rotate_left
  · simp only [Act.put, List.setIfInBounds_toArray, List.set_cons_zero, List.set_cons_succ, i64_w, i32_w]
    rfl
  -- 7: Op.load 24 t18
  refine take_ (i := 7) (N := (some 19)) (v := ?_) (a' := ?_) #[true, true, true, true, true, true, true, true, false] rfl rfl (by kernel_rfl) (fun _ _ _ h => h) (Or.inl ⟨by rfl, ?_⟩) hHeld ?_ ?_
  rotate_left
  · rintro w' ⟨s0, s1, s2⟩
    go_simp
    with_reducible rfl
  rotate_left
  · simp only [Act.put, List.setIfInBounds_toArray, List.set_cons_zero, List.set_cons_succ, i64_w, i32_w]
    rfl
  -- 8: Op.call { value (Operand.func 67), args := #[t15, t17, t19], argTypes := #[22, 9, 24] }
  refine one_ (i := 8) (N := (some 20)) #[true, true, true, true, true, true, true, true, true] rfl rfl (by kernel_rfl) (by decide) (fun K hK => ?_)
  have hTH := freshetref08_There.calls _ A1 c1 (l.map (·.1)) r.f0 r.f1 (takenV r l) wd C1.out (by rw [List.length_map]; exact L1.out) HT.out
  rw [List.length_map] at hTH
  refine goes_ Try.func67 (by kernel_rfl) rfl #[.slice A1 l.length c1, .string r.f0, .int .u64 r.f1] (by rfl) rfl rfl (by (try simp only [List.map_toArray, List.map_cons, List.map_nil]); first | done | rfl) ?_
  with_reducible refine (hTH).mono ?_
  clear hTH
  rintro e w3 ⟨rfl, hb⟩
  refine ⟨_, rfl, ?_⟩
  have hOld := hHeld
  clear hHeld
  refine hK.out _ _ (⟨(hb.cell (World.block_lt_of_cell? _ _ hOld.1)).trans hOld.1, (hb.cell (World.block_lt_of_cell? _ _ hOld.2.1)).trans hOld.2.1, (hb.cell (World.block_lt_of_cell? _ _ hOld.2.2)).trans hOld.2.2⟩) (fun hHeld => ?_)
  clear hOld hK K
  refine norm_ (a' := ?_) ?_ ?_
  rotate_left
  · show Act.put _ (some 20) _ = _
    simp only [Act.put, List.setIfInBounds_toArray, List.set_cons_zero, List.set_cons_succ, i64_w, i32_w]
    rfl
  refine done_ (by kernel_rfl) ?_
  have n0_ := Aside0.mk (below_step HB.out hb)
  have n1_ := Aside0.mk (HR.out.below hb)
  have n2_ := Aside0.mk (blk_below BR.out hb)
  clear HB HR BR C1 L1 hHeld hb
  have HB := n0_
  have HR := n1_
  have BR := n2_
  clear n0_ n1_ n2_
  cases htk : takenV r l with
  | true =>
    go_wp2_with fail
    go_ret
    refine ⟨by rw [htk]; rfl, ?_, fun k hk hg => HB.out.block k hk, fun B w0 h1 h2 => h1.trans (HB.out.mono (by have := HGL.out; omega))⟩
    rw [putV, if_pos htk]
    exact HR.out
  | false =>
    go_wp2_with fail
    obtain ⟨A1, c1, A2, c2, hg0, hr1, hr2⟩ := HR.out.ex
    have G0 := Aside0.mk ((blk_cell hg0 0).trans rfl : w3.cell? ⟨g, 0, none⟩ = some (.slice A1 l.length c1))
    have C1 := Aside0.mk (Kd.R_reads' hr1).2.2
    have L1 := Aside0.mk (Kd.R_reads' hr1).2.1
    clear hg0 hr1 hr2
    have q0 : w3.cell? ⟨gr, 0, none⟩ = some (.string r.f0) := (blk_cell BR.out 0).trans rfl
    have q1 : w3.cell? ⟨gr, 1, none⟩ = some (.int .u64 r.f1) := (blk_cell BR.out 1).trans rfl
    have a0 := G0.out
    refine start_ (n := 10) (S := fun w' => w'.cell? ⟨g, 0, none⟩ = some (.slice A1 l.length c1) ∧ w'.cell? ⟨gr, 0, none⟩ = some (.string r.f0) ∧ w'.cell? ⟨gr, 1, none⟩ = some (.int .u64 r.f1)) (ds := []) #[false, false, false, false, false, false, false, false, false, false] (by kernel_rfl) rfl rfl ⟨a0, q0, q1⟩ (fun hHeld => ?_)
    have n0_ := Aside0.mk (below_step HB.out (pw_below_drewN (Below.refl _ _) 1))
    have n1_ := Aside0.mk (HR.out.below (pw_below_drewN (Below.refl _ _) 1))
    have n2_ := Aside0.mk (blk_drew BR.out)
    have n3_ := Aside0.mk (Kd.C_below C1.out (pw_below_drewN (Below.refl _ _) 1))
    replace n0_ : Aside0 (Below w.heap.size w w3.drew) := n0_
    replace n1_ : Aside0 (RL w3.drew base g l) := n1_
    replace n3_ : Aside0 (Kd.C k28 w3.drew A1 (l.map (·.1)).length (l.map (·.1))) := n3_
    clear HB HR BR C1 a0 q0 q1 G0
    generalize w3.drew = wd at *
    have HB := n0_
    have HR := n1_
    have BR := n2_
    have C1 := n3_
    clear n0_ n1_ n2_ n3_
    -- 0: Op.move t0
    refine pure_ (i := 0) (N := (some 21)) (v := ?_) (a' := ?_) #[true, false, false, false, false, false, false, false, false, false] rfl rfl (by kernel_rfl) (fun _ _ _ h => h) (Or.inl ⟨by rfl, ?_⟩) ?_ ?_
    rotate_left
    · intro w'
      go_simp
      with_reducible rfl
    rotate_left
    · simp only [Act.put, List.setIfInBounds_toArray, List.set_cons_zero, List.set_cons_succ, i64_w, i32_w]
      rfl
    -- 1: Op.nilCheck t21
    refine pure_ (i := 1) (N := (some 22)) (v := ?_) (a' := ?_) #[true, true, false, false, false, false, false, false, false, false] rfl rfl (by kernel_rfl) (fun _ _ _ h => h) (Or.inl ⟨by rfl, ?_⟩) ?_ ?_
    rotate_left
    · intro w'
      go_simp
      with_reducible rfl
    rotate_left
    · simp only [Act.put, List.setIfInBounds_toArray, List.set_cons_zero, List.set_cons_succ, i64_w, i32_w]
      rfl
    -- 2: Op.fieldAddr 42 t22 0
    refine pure_ (i := 2) (N := (some 23)) (v := ?_) (a' := ?_) #[true, true, true, false, false, false, false, false, false, false] rfl rfl (by kernel_rfl) (fun _ _ _ h => h) (Or.inl ⟨by rfl, ?_⟩) ?_ ?_
    rotate_left
    · intro w'
      go_simp
      with_reducible rfl
    rotate_left
    · simp only [Act.put, List.setIfInBounds_toArray, List.set_cons_zero, List.set_cons_succ, i64_w, i32_w]
      rfl
    -- 3: Op.load 22 t23
    refine take_ (i := 3) (N := (some 24)) (v := ?_) (a' := ?_) #[true, true, true, true, false, false, false, false, false, false] rfl rfl (by kernel_rfl) (fun _ _ _ h => h) (Or.inl ⟨by rfl, ?_⟩) hHeld ?_ ?_
    rotate_left
    · rintro w' ⟨s0, s1, s2⟩
      go_simp
      with_reducible rfl
    rotate_left
    · simp only [Act.put, List.setIfInBounds_toArray, List.set_cons_zero, List.set_cons_succ, i64_w, i32_w]
      rfl
    -- 4: Op.fieldAddr 28 t4 0
    refine pure_ (i := 4) (N := (some 25)) (v := ?_) (a' := ?_) #[true, true, true, true, true, false, false, false, false, false] rfl rfl (by kernel_rfl) (fun _ _ _ h => h) (Or.inl ⟨by rfl, ?_⟩) ?_ ?_
    rotate_left
    · intro w'
      go_simp
      with_reducible rfl
    rotate_left
    · simp only [Act.put, List.setIfInBounds_toArray, List.set_cons_zero, List.set_cons_succ, i64_w, i32_w]
      rfl
    -- 5: Op.load 9 t25
    refine take_ (i := 5) (N := (some 26)) (v := ?_) (a' := ?_) #[true, true, true, true, true, true, false, false, false, false] rfl rfl (by kernel_rfl) (fun _ _ _ h => h) (Or.inl ⟨by rfl, ?_⟩) hHeld ?_ ?_
    rotate_left
    · rintro w' ⟨s0, s1, s2⟩
      go_simp
      with_reducible rfl
    rotate_left
    · simp only [Act.put, List.setIfInBounds_toArray, List.set_cons_zero, List.set_cons_succ, i64_w, i32_w]
      rfl
    -- 6: Op.fieldAddr 28 t4 1
    refine pure_ (i := 6) (N := (some 27)) (v := ?_) (a' := ?_) #[true, true, true, true, true, true, true, false, false, false] rfl rfl (by kernel_rfl) (fun _ _ _ h => h) (Or.inl ⟨by rfl, ?_⟩) ?_ ?_
    rotate_left
    · intro w'
      go_simp
      with_reducible rfl
    rotate_left
    · simp only [Act.put, List.setIfInBounds_toArray, List.set_cons_zero, List.set_cons_succ, i64_w, i32_w]
      rfl
    -- 7: Op.load 24 t27
    refine take_ (i := 7) (N := (some 28)) (v := ?_) (a' := ?_) #[true, true, true, true, true, true, true, true, false, false] rfl rfl (by kernel_rfl) (fun _ _ _ h => h) (Or.inl ⟨by rfl, ?_⟩) hHeld ?_ ?_
    rotate_left
    · rintro w' ⟨s0, s1, s2⟩
      go_simp
      with_reducible rfl
    rotate_left
    · simp only [Act.put, List.setIfInBounds_toArray, List.set_cons_zero, List.set_cons_succ, i64_w, i32_w]
      rfl
    -- 8: Op.call { value (Operand.func 25), args := #[t24, t26, t28], argTypes := #[22, 9, 24] }
    refine one_ (i := 8) (N := (some 29)) #[true, true, true, true, true, true, true, true, true, false] rfl rfl (by kernel_rfl) (by decide) (fun K hK => ?_)
    have hTH := freshetref08_Place.calls _ A1 c1 (l.map (·.1)) r.f0 r.f1 _ wd C1.out (by rw [List.length_map]; exact L1.out) HP.out
    rw [List.length_map] at hTH
    refine goes_ Try.func25 (by kernel_rfl) rfl #[.slice A1 l.length c1, .string r.f0, .int .u64 r.f1] (by rfl) rfl rfl (by (try simp only [List.map_toArray, List.map_cons, List.map_nil]); first | done | rfl) ?_
    with_reducible refine (hTH).mono ?_
    clear hTH
    rintro e wa ⟨rfl, hb⟩
    refine ⟨_, rfl, ?_⟩
    have hOld := hHeld
    clear hHeld
    refine hK.out _ _ (⟨(hb.cell (World.block_lt_of_cell? _ _ hOld.1)).trans hOld.1, (hb.cell (World.block_lt_of_cell? _ _ hOld.2.1)).trans hOld.2.1, (hb.cell (World.block_lt_of_cell? _ _ hOld.2.2)).trans hOld.2.2⟩) (fun hHeld => ?_)
    clear hOld hK K
    refine norm_ (a' := ?_) ?_ ?_
    rotate_left
    · show Act.put _ (some 29) _ = _
      simp only [Act.put, List.setIfInBounds_toArray, List.set_cons_zero, List.set_cons_succ, i64_w, i32_w]
      rfl
    -- 9: Op.assign t29
    refine pure_ (i := 9) (N := (some 7)) (v := ?_) (a' := ?_) #[true, true, true, true, true, true, true, true, true, true] rfl rfl (by kernel_rfl) (fun _ _ _ h => h) (Or.inl ⟨by rfl, ?_⟩) ?_ ?_
    rotate_left
    · intro w'
      go_simp
      with_reducible rfl
    rotate_left
    · simp only [Act.put, List.setIfInBounds_toArray, List.set_cons_zero, List.set_cons_succ, i64_w, i32_w]
      rfl
    refine done_ (by kernel_rfl) ?_
    have n0_ := Aside0.mk (below_step HB.out hb)
    have n1_ := Aside0.mk (HR.out.below hb)
    have n2_ := Aside0.mk (blk_below BR.out hb)
    clear HB HR BR C1 L1 hHeld hb
    have HB := n0_
    have HR := n1_
    have BR := n2_
    clear n0_ n1_ n2_
    obtain ⟨n, hn⟩ : ∃ n, n = (ahdV r.f0 r.f1 l).length := ⟨_, rfl⟩
    rw [HE.out, ← hn]
    have HN := Aside0.mk hn
    have HNL := Aside0.mk (show n ≤ l.length by rw [hn]; exact (List.takeWhile_prefix _).length_le)
    clear hn
    obtain ⟨A1, c1, A2, c2, hg0, hr1, hr2⟩ := HR.out.ex
    have GB := Aside0.mk hg0
    have G0 := Aside0.mk ((blk_cell hg0 0).trans rfl : wa.cell? ⟨g, 0, none⟩ = some (.slice A1 l.length c1))
    have G1 := Aside0.mk ((blk_cell hg0 1).trans rfl : wa.cell? ⟨g, 1, none⟩ = some (.slice A2 l.length c2))
    have C1 := Aside0.mk (Kd.R_reads' hr1).2.2
    have C2 := Aside0.mk (Kd.R_reads' hr2).2.2
    have Q0 := Aside0.mk ((blk_cell BR.out 0).trans rfl : wa.cell? ⟨gr, 0, none⟩ = some (.string r.f0))
    have Q1 := Aside0.mk ((blk_cell BR.out 1).trans rfl : wa.cell? ⟨gr, 1, none⟩ = some (.int .u64 r.f1))
    have Q2 := Aside0.mk ((blk_cell BR.out 2).trans rfl : wa.cell? ⟨gr, 2, none⟩ = some (.int .i64 r.f2))
    have Q3 := Aside0.mk ((blk_cell BR.out 3).trans rfl : wa.cell? ⟨gr, 3, none⟩ = some (.string r.f3))
    have HBA := HB
    clear hg0 hr1 hr2 HT HP HB
    by_cases c1_ : hgt < 1
    · have k0 : decide (hgt < 1) = true := decide_eq_true c1_
      have hcE : (1 : Int) = ((clampH hgt : Nat) : Int) := by unfold clampH; omega
      have HCE := Aside0.mk hcE
      clear hcE
      go_wp2_with fail
      go_loopg [9, 10, 11] l.length (fun kq v9 v10 v11 w' => ∃ (i : Nat), v11 = .int .i64 (i : Int) ∧ Aside0 (kq + i = l.length) ∧ Aside0 (Kd.R k28 28 w' wa.heap.size (fun _ => True) v9 ((outP l n (r, clampH hgt) i).map (·.1))) ∧ Aside0 (Kd.R (Kd.int .i64) 3 w' wa.heap.size (fun _ => True) v10 ((outP l n (r, clampH hgt) i).map (fun x => (x.2 : Int)))) ∧ Aside0 (Below wa.heap.size wa w'))
      case atStart => exact ⟨0, rfl, ⟨by omega⟩, ⟨Kd.R_nil _ _ _ _ _⟩, ⟨Kd.R_nil _ _ _ _ _⟩, ⟨Below.refl _ _⟩⟩
      case round =>
        obtain ⟨i, rfl, HK, H9, H10, HB⟩ := hrel
        have g0 := (HB.out.cell (World.block_lt_of_cell? wa _ G0.out)).trans G0.out
        have g1 := (HB.out.cell (World.block_lt_of_cell? wa _ G1.out)).trans G1.out
        have q0 := (HB.out.cell (World.block_lt_of_cell? wa _ Q0.out)).trans Q0.out
        have q1 := (HB.out.cell (World.block_lt_of_cell? wa _ Q1.out)).trans Q1.out
        have q2 := (HB.out.cell (World.block_lt_of_cell? wa _ Q2.out)).trans Q2.out
        have q3 := (HB.out.cell (World.block_lt_of_cell? wa _ Q3.out)).trans Q3.out
        have LEN := Aside0.mk (show (outP l n (r, clampH hgt) i).length ≤ 1001 by have h1 := HLN.out; have h2 := HK.out; have h3 := outP_len l n (r, clampH hgt) i; split at h3 <;> omega)
        cases gk with
        | zero =>
          have ei : i = l.length := by have := HK.out; omega
          subst ei
          have d0 : decide ((l.length : Int) < (l.length : Int)) = false := by simp
          have hGB := blk_below GB.out HB.out
          by_cases hnl : n < l.length
          · have d2 : decide ((n : Int) = (l.length : Int)) = false := decide_eq_false (by omega)
            have d3 : decide (n = l.length) = false := decide_eq_false (by omega)
            have d4 : ((n : Int) == (l.length : Int)) = false := beq_eq_false_iff_ne.mpr (by omega)
            have HNLT := Aside0.mk hnl
            clear hnl
            have eP : outP l n (r, clampH hgt) l.length = putV r (clampH hgt) l := by
              rw [putV, if_neg (by rw [htk]; decide), HN.out]
              exact outP_ins (by rw [← HN.out]; exact HNLT.out)
            have h9 := H9.out
            have h10 := H10.out
            rw [eP] at h9 h10
            obtain ⟨A9, c9, hv9⟩ := Kd.R_slice h9
            obtain ⟨A10, c10, hv10⟩ := Kd.R_slice h10
            subst hv9 hv10
            rw [List.length_map] at h9 h10
            obtain ⟨PL, hPL⟩ : ∃ PL, PL = putV r (clampH hgt) l := ⟨_, rfl⟩
            rw [← hPL] at h9 h10
            rw [List.length_map, List.length_map, ← hPL]
            have HPL := Aside0.mk hPL
            have H9p := Aside0.mk h9
            have H10p := Aside0.mk h10
            clear h9 h10 H9 H10 eP hPL
            have hS1 := blk_put hGB 0 (.slice A9 PL.length c9) (cs' := #[.slice A9 PL.length c9, .slice A2 l.length c2]) rfl
            have hc1 : (wr.setCell ⟨g, 0, none⟩ (.slice A9 PL.length c9)).cell? ⟨g, 1, none⟩ = some (.slice A2 l.length c2) := (blk_cell hS1 1).trans rfl
            have hf1 : (wr.setCell ⟨g, 0, none⟩ (.slice A9 PL.length c9)).frozen? ⟨g, 1, none⟩ = false := blk_frozen hS1 1
            have hf0 : wr.frozen? ⟨g, 0, none⟩ = false := blk_frozen hGB 0
            have HGB := Aside0.mk hGB
            clear hS1 hGB
            go_wp2_with fail
            go_ret
            exact ⟨by (try rw [htk]); rfl, (put08_end HPL.out htk HGB.out HB.out HBA.out HB1.out HGL.out HB0.out H9p.out H10p.out).2⟩
          · have d2 : decide ((n : Int) = (l.length : Int)) = true := decide_eq_true (by have := HNL.out; omega)
            have d3 : decide (n = l.length) = true := decide_eq_true (by have := HNL.out; omega)
            have d4 : ((n : Int) == (l.length : Int)) = true := beq_iff_eq.mpr (by have := HNL.out; omega)
            have hne : n = l.length := by have := HNL.out; omega
            have eP : outP l n (r, clampH hgt) l.length ++ [(r, clampH hgt)] = putV r (clampH hgt) l := by
              rw [putV, if_neg (by rw [htk]; decide), HN.out]
              exact outP_end (by rw [← HN.out]; exact hne)
            have EP := Aside0.mk eP
            have HGB := Aside0.mk hGB
            clear hnl hne eP hGB
            have e9 : (outP l n (r, clampH hgt) l.length).map (·.1) ++ [r] = (putV r (clampH hgt) l).map (·.1) := by rw [← EP.out]; simp
            have e10 : (outP l n (r, clampH hgt) l.length).map (fun x => (x.2 : Int)) ++ [(1 : Int)] = (putV r (clampH hgt) l).map (fun x => (x.2 : Int)) := by rw [← EP.out]; simp [← HCE.out]
            have E9 := Aside0.mk e9
            have E10 := Aside0.mk e10
            clear e9 e10
            obtain ⟨PL, hPL⟩ : ∃ PL, PL = putV r (clampH hgt) l := ⟨_, rfl⟩
            have HPL := Aside0.mk hPL
            clear hPL
            go_wp2_with (first | ((with_reducible refine gate_builtin (b := .append) (xs := #[.tmp 82, .tmp 84]) rfl ?_); at_builtin; refine Kd.R_append k28 (w0 := wa) wa.heap.size rfl (.tmp 82) (.tmp 84) 22 28 (.agg #[(.string ⟨#[]⟩), (.int .u64 0), (.int .i64 0), (.string ⟨#[]⟩)]) 48 rfl Try.underlying22 info28 rfl (by decide) (by omega) u9 ((outP l n (r, clampH hgt) l.length).map (·.1)) r [.string r.f0, .int .u64 r.f1, .int .i64 r.f2, .string r.f3] (fun _ => True) (fun _ => False) rfl rfl ?aP (fun _ hk => hk.elim) ?aF ?aO ?aB ?aS ?aL ?_; (case aP => exact k28_mkM _ _ _ r); (case aB => exact HB.out); (case aF => exact (fun _ _ => trivial)); (case aO => exact H9.out); (case aS => exact below_size HB.out); (case aL => exact aL_ LEN.out (by simp)); intro v9a w9a ho hb hg hat; have n0_ := Aside0.mk (R3_grown H10.out H9.out hg); have n1_ := Aside0.mk ho; have n2_ := Aside0.mk hb; clear H9 H10 HB ho hb hg hat g0 g1 q0 q1 q2 q3; have H9 := n1_; have H10 := n0_; have HB := n2_; clear n0_ n1_ n2_; have q0 := (HB.out.cell (World.block_lt_of_cell? wa _ Q0.out)).trans Q0.out; have q1 := (HB.out.cell (World.block_lt_of_cell? wa _ Q1.out)).trans Q1.out; have q2 := (HB.out.cell (World.block_lt_of_cell? wa _ Q2.out)).trans Q2.out; have q3 := (HB.out.cell (World.block_lt_of_cell? wa _ Q3.out)).trans Q3.out; have g0 := (HB.out.cell (World.block_lt_of_cell? wa _ G0.out)).trans G0.out; have g1 := (HB.out.cell (World.block_lt_of_cell? wa _ G1.out)).trans G1.out) | ((with_reducible refine gate_builtin (b := .append) (xs := #[.tmp 86, .tmp 88]) rfl ?_); at_builtin; refine Kd.R_append (Kd.int .i64) (w0 := wa) wa.heap.size rfl (.tmp 86) (.tmp 88) 23 3 (.int .i64 0) 8 rfl Try.underlying23 info3 rfl (by decide) (by omega) u10 ((outP l n (r, clampH hgt) l.length).map (fun x => (x.2 : Int))) (1) [.int .i64 (1)] (fun _ => True) (fun _ => False) rfl rfl ?aP (fun _ hk => hk.elim) ?aF ?aO ?aB ?aS ?aL ?_; (case aP => exact rfl); (case aB => exact HB.out); (case aF => exact (fun _ _ => trivial)); (case aO => exact H10.out); (case aS => exact below_size HB.out); (case aL => exact aL3_ LEN.out (by simp)); intro v10a w10a ho hb hg hat; have n0_ := Aside0.mk (R28_grown H9.out H10.out hg); have n1_ := Aside0.mk ho; have n2_ := Aside0.mk hb; clear H9 H10 HB ho hb hg hat g0 g1 q0 q1 q2 q3; have H10 := n1_; have H9 := n0_; have HB := n2_; clear n0_ n1_ n2_; have q0 := (HB.out.cell (World.block_lt_of_cell? wa _ Q0.out)).trans Q0.out; have q1 := (HB.out.cell (World.block_lt_of_cell? wa _ Q1.out)).trans Q1.out; have q2 := (HB.out.cell (World.block_lt_of_cell? wa _ Q2.out)).trans Q2.out; have q3 := (HB.out.cell (World.block_lt_of_cell? wa _ Q3.out)).trans Q3.out; have g0 := (HB.out.cell (World.block_lt_of_cell? wa _ G0.out)).trans G0.out; have g1 := (HB.out.cell (World.block_lt_of_cell? wa _ G1.out)).trans G1.out; have h9 := H9.out; have h10 := H10.out; rw [E9.out] at h9; rw [E10.out] at h10; obtain ⟨A9, c9, hv9⟩ := Kd.R_slice h9; obtain ⟨A10, c10, hv10⟩ := Kd.R_slice h10; subst hv9 hv10; rw [List.length_map] at h9 h10; rw [← HPL.out] at h9 h10; rw [List.length_map, List.length_map, ← HPL.out]; have H9p := Aside0.mk h9; have H10p := Aside0.mk h10; clear h9 h10 H9 H10; have hGB := blk_below GB.out HB.out; have hS1 := blk_put hGB 0 (.slice A9 PL.length c9) (cs' := #[.slice A9 PL.length c9, .slice A2 l.length c2]) rfl; have hc1 : (w10a.setCell ⟨g, 0, none⟩ (.slice A9 PL.length c9)).cell? ⟨g, 1, none⟩ = some (.slice A2 l.length c2) := (blk_cell hS1 1).trans rfl; have hf1 : (w10a.setCell ⟨g, 0, none⟩ (.slice A9 PL.length c9)).frozen? ⟨g, 1, none⟩ = false := blk_frozen hS1 1; have hf0 : w10a.frozen? ⟨g, 0, none⟩ = false := blk_frozen hGB 0; have HGB := Aside0.mk hGB; clear hS1 hGB) | fail)
            go_ret
            exact ⟨by (try rw [htk]); rfl, (put08_end HPL.out htk HGB.out HB.out HBA.out HB1.out HGL.out HB0.out H9p.out H10p.out).2⟩
        | succ q =>
          have hi : i < l.length := by have := HK.out; omega
          have d0 : decide ((i : Int) < (l.length : Int)) = true := decide_eq_true (by omega)
          have d1 : decide (i < l.length) = true := decide_eq_true hi
          have p0 : 0 ≤ (i : Int) := Int.natCast_nonneg _
          have p1 : (i : Int) < (l.length : Int) := Int.ofNat_lt.mpr hi
          obtain ⟨ad, x, ea, hxx, hx0, hx1, hx2, hx3⟩ := at_row C1.out i (by rw [List.length_map]; exact hi)
          cases ea
          obtain ⟨ad1, ea1, hy⟩ := at_int C2.out i (by rw [List.length_map]; exact hi)
          cases ea1
          rw [l_h hi] at hy
          obtain ⟨hv, hhv⟩ : ∃ hv, hv = ((l.getD i zRH).2 : Int) := ⟨_, rfl⟩
          rw [← hhv] at hy
          have HV := Aside0.mk hhv
          clear hhv
          have XE := Aside0.mk hxx
          have X0 := Aside0.mk hx0
          have X1 := Aside0.mk hx1
          have X2 := Aside0.mk hx2
          have X3 := Aside0.mk hx3
          have Y0 := Aside0.mk hy
          clear hxx hx0 hx1 hx2 hx3 hy
          have x0 := (HB.out.cell (World.block_lt_of_cell? wa _ X0.out)).trans X0.out
          have x1 := (HB.out.cell (World.block_lt_of_cell? wa _ X1.out)).trans X1.out
          have x2 := (HB.out.cell (World.block_lt_of_cell? wa _ X2.out)).trans X2.out
          have x3 := (HB.out.cell (World.block_lt_of_cell? wa _ X3.out)).trans X3.out
          have y0 := (HB.out.cell (World.block_lt_of_cell? wa _ Y0.out)).trans Y0.out
          by_cases hin : i = n
          · have HIN := Aside0.mk hin
            have d2 : decide ((i : Int) = (n : Int)) = true := decide_eq_true (by omega)
            have d3 : decide (i = n) = true := decide_eq_true hin
            have d4 : ((i : Int) == (n : Int)) = true := beq_iff_eq.mpr (by omega)
            clear hin
            go_wp2_with (first | ((with_reducible refine gate_builtin (b := .append) (xs := #[.tmp 47, .tmp 49]) rfl ?_); at_builtin; refine Kd.R_append k28 (w0 := wa) wa.heap.size rfl (.tmp 47) (.tmp 49) 22 28 (.agg #[(.string ⟨#[]⟩), (.int .u64 0), (.int .i64 0), (.string ⟨#[]⟩)]) 48 rfl Try.underlying22 info28 rfl (by decide) (by omega) u9 ((outP l n (r, clampH hgt) i).map (·.1)) r [.string r.f0, .int .u64 r.f1, .int .i64 r.f2, .string r.f3] (fun _ => True) (fun _ => False) rfl rfl ?aP (fun _ hk => hk.elim) ?aF ?aO ?aB ?aS ?aL ?_; (case aP => exact k28_mkM _ _ _ r); (case aB => exact HB.out); (case aF => exact (fun _ _ => trivial)); (case aO => exact H9.out); (case aS => exact below_size HB.out); (case aL => exact aL_ LEN.out (by simp)); intro v9a w9a ho hb hg hat; have n0_ := Aside0.mk (R3_grown H10.out H9.out hg); have n1_ := Aside0.mk ho; have n2_ := Aside0.mk hb; clear H9 H10 HB ho hb hg hat g0 x0 x1 x2 x3 q0 q1 q2 q3 y0 g1; have H9 := n1_; have H10 := n0_; have HB := n2_; clear n0_ n1_ n2_; have g0 := (HB.out.cell (World.block_lt_of_cell? wa _ G0.out)).trans G0.out; have g1 := (HB.out.cell (World.block_lt_of_cell? wa _ G1.out)).trans G1.out; have y0 := (HB.out.cell (World.block_lt_of_cell? wa _ Y0.out)).trans Y0.out; have x0 := (HB.out.cell (World.block_lt_of_cell? wa _ X0.out)).trans X0.out; have x1 := (HB.out.cell (World.block_lt_of_cell? wa _ X1.out)).trans X1.out; have x2 := (HB.out.cell (World.block_lt_of_cell? wa _ X2.out)).trans X2.out; have x3 := (HB.out.cell (World.block_lt_of_cell? wa _ X3.out)).trans X3.out; have q0 := (HB.out.cell (World.block_lt_of_cell? wa _ Q0.out)).trans Q0.out; have q1 := (HB.out.cell (World.block_lt_of_cell? wa _ Q1.out)).trans Q1.out; have q2 := (HB.out.cell (World.block_lt_of_cell? wa _ Q2.out)).trans Q2.out; have q3 := (HB.out.cell (World.block_lt_of_cell? wa _ Q3.out)).trans Q3.out) | ((with_reducible refine gate_builtin (b := .append) (xs := #[.tmp 51, .tmp 53]) rfl ?_); at_builtin; refine Kd.R_append (Kd.int .i64) (w0 := wa) wa.heap.size rfl (.tmp 51) (.tmp 53) 23 3 (.int .i64 0) 8 rfl Try.underlying23 info3 rfl (by decide) (by omega) u10 ((outP l n (r, clampH hgt) i).map (fun x => (x.2 : Int))) (1) [.int .i64 (1)] (fun _ => True) (fun _ => False) rfl rfl ?aP (fun _ hk => hk.elim) ?aF ?aO ?aB ?aS ?aL ?_; (case aP => exact rfl); (case aB => exact HB.out); (case aF => exact (fun _ _ => trivial)); (case aO => exact H10.out); (case aS => exact below_size HB.out); (case aL => exact aL3_ LEN.out (by simp)); intro v10a w10a ho hb hg hat; have n0_ := Aside0.mk (R28_grown H9.out H10.out hg); have n1_ := Aside0.mk ho; have n2_ := Aside0.mk hb; clear H9 H10 HB ho hb hg hat g0 x0 x1 x2 x3 q0 q1 q2 q3 y0 g1; have H10 := n1_; have H9 := n0_; have HB := n2_; clear n0_ n1_ n2_; have g0 := (HB.out.cell (World.block_lt_of_cell? wa _ G0.out)).trans G0.out; have g1 := (HB.out.cell (World.block_lt_of_cell? wa _ G1.out)).trans G1.out; have y0 := (HB.out.cell (World.block_lt_of_cell? wa _ Y0.out)).trans Y0.out; have x0 := (HB.out.cell (World.block_lt_of_cell? wa _ X0.out)).trans X0.out; have x1 := (HB.out.cell (World.block_lt_of_cell? wa _ X1.out)).trans X1.out; have x2 := (HB.out.cell (World.block_lt_of_cell? wa _ X2.out)).trans X2.out; have x3 := (HB.out.cell (World.block_lt_of_cell? wa _ X3.out)).trans X3.out; have q0 := (HB.out.cell (World.block_lt_of_cell? wa _ Q0.out)).trans Q0.out; have q1 := (HB.out.cell (World.block_lt_of_cell? wa _ Q1.out)).trans Q1.out; have q2 := (HB.out.cell (World.block_lt_of_cell? wa _ Q2.out)).trans Q2.out; have q3 := (HB.out.cell (World.block_lt_of_cell? wa _ Q3.out)).trans Q3.out) | ((with_reducible refine gate_builtin (b := .append) (xs := #[.tmp 55, .tmp 63]) rfl ?_); at_builtin; refine Kd.R_append k28 (w0 := wa) wa.heap.size rfl (.tmp 55) (.tmp 63) 22 28 (.agg #[(.string ⟨#[]⟩), (.int .u64 0), (.int .i64 0), (.string ⟨#[]⟩)]) 48 rfl Try.underlying22 info28 rfl (by decide) (by omega) v9a ((outP l n (r, clampH hgt) i).map (·.1) ++ [r]) x [.string x.f0, .int .u64 x.f1, .int .i64 x.f2, .string x.f3] (fun _ => True) (fun _ => False) rfl rfl ?aP (fun _ hk => hk.elim) ?aF ?aO ?aB ?aS ?aL ?_; (case aP => exact k28_mkM _ _ _ x); (case aB => exact HB.out); (case aF => exact (fun _ _ => trivial)); (case aO => exact H9.out); (case aS => exact below_size HB.out); (case aL => exact aL_ LEN.out (by simp)); intro v9b w9b ho hb hg hat; have n0_ := Aside0.mk (R3_grown H10.out H9.out hg); have n1_ := Aside0.mk ho; have n2_ := Aside0.mk hb; clear H9 H10 HB ho hb hg hat g0 x0 x1 x2 x3 q0 q1 q2 q3 y0 g1; have H9 := n1_; have H10 := n0_; have HB := n2_; clear n0_ n1_ n2_; have g0 := (HB.out.cell (World.block_lt_of_cell? wa _ G0.out)).trans G0.out; have g1 := (HB.out.cell (World.block_lt_of_cell? wa _ G1.out)).trans G1.out; have y0 := (HB.out.cell (World.block_lt_of_cell? wa _ Y0.out)).trans Y0.out; have x0 := (HB.out.cell (World.block_lt_of_cell? wa _ X0.out)).trans X0.out; have x1 := (HB.out.cell (World.block_lt_of_cell? wa _ X1.out)).trans X1.out; have x2 := (HB.out.cell (World.block_lt_of_cell? wa _ X2.out)).trans X2.out; have x3 := (HB.out.cell (World.block_lt_of_cell? wa _ X3.out)).trans X3.out; have q0 := (HB.out.cell (World.block_lt_of_cell? wa _ Q0.out)).trans Q0.out; have q1 := (HB.out.cell (World.block_lt_of_cell? wa _ Q1.out)).trans Q1.out; have q2 := (HB.out.cell (World.block_lt_of_cell? wa _ Q2.out)).trans Q2.out; have q3 := (HB.out.cell (World.block_lt_of_cell? wa _ Q3.out)).trans Q3.out) | ((with_reducible refine gate_builtin (b := .append) (xs := #[.tmp 65, .tmp 73]) rfl ?_); at_builtin; refine Kd.R_append (Kd.int .i64) (w0 := wa) wa.heap.size rfl (.tmp 65) (.tmp 73) 23 3 (.int .i64 0) 8 rfl Try.underlying23 info3 rfl (by decide) (by omega) v10a ((outP l n (r, clampH hgt) i).map (fun x => (x.2 : Int)) ++ [(1 : Int)]) hv [.int .i64 hv] (fun _ => True) (fun _ => False) rfl rfl ?aP (fun _ hk => hk.elim) ?aF ?aO ?aB ?aS ?aL ?_; (case aP => exact rfl); (case aB => exact HB.out); (case aF => exact (fun _ _ => trivial)); (case aO => exact H10.out); (case aS => exact below_size HB.out); (case aL => exact aL3_ LEN.out (by simp)); intro v10b w10b ho hb hg hat; have n0_ := Aside0.mk (R28_grown H9.out H10.out hg); have n1_ := Aside0.mk ho; have n2_ := Aside0.mk hb; clear H9 H10 HB ho hb hg hat g0 x0 x1 x2 x3 q0 q1 q2 q3 y0 g1; have H10 := n1_; have H9 := n0_; have HB := n2_; clear n0_ n1_ n2_; have g0 := (HB.out.cell (World.block_lt_of_cell? wa _ G0.out)).trans G0.out; have g1 := (HB.out.cell (World.block_lt_of_cell? wa _ G1.out)).trans G1.out; have y0 := (HB.out.cell (World.block_lt_of_cell? wa _ Y0.out)).trans Y0.out; have x0 := (HB.out.cell (World.block_lt_of_cell? wa _ X0.out)).trans X0.out; have x1 := (HB.out.cell (World.block_lt_of_cell? wa _ X1.out)).trans X1.out; have x2 := (HB.out.cell (World.block_lt_of_cell? wa _ X2.out)).trans X2.out; have x3 := (HB.out.cell (World.block_lt_of_cell? wa _ X3.out)).trans X3.out; have q0 := (HB.out.cell (World.block_lt_of_cell? wa _ Q0.out)).trans Q0.out; have q1 := (HB.out.cell (World.block_lt_of_cell? wa _ Q1.out)).trans Q1.out; have q2 := (HB.out.cell (World.block_lt_of_cell? wa _ Q2.out)).trans Q2.out; have q3 := (HB.out.cell (World.block_lt_of_cell? wa _ Q3.out)).trans Q3.out) | fail)
            have e9 : (outP l n (r, clampH hgt) i).map (·.1) ++ [r] ++ [x] = (outP l n (r, clampH hgt) (i + 1)).map (·.1) := by rw [outP, if_pos HIN.out, ← XE.out, l_row hi]; simp
            have e10 : (outP l n (r, clampH hgt) i).map (fun x => (x.2 : Int)) ++ [(1 : Int)] ++ [hv] = (outP l n (r, clampH hgt) (i + 1)).map (fun x => (x.2 : Int)) := by rw [outP, if_pos HIN.out, HV.out]; simp [← HCE.out]
            replace H9 := H9.out
            replace H10 := H10.out
            rw [e9] at H9
            rw [e10] at H10
            have hl1000 := HLN.out
            have ew : wrap64 ((i : Int) + 1) = ((i + 1 : Nat) : Int) := by unfold wrap64; omega
            try rw [ew]
            go_roundg q
            case measure => omega
            case rel => exact ⟨i + 1, rfl, ⟨by have := HK.out; omega⟩, ⟨H9⟩, ⟨H10⟩, HB⟩
          · have HIN := Aside0.mk hin
            have d2 : decide ((i : Int) = (n : Int)) = false := decide_eq_false (by omega)
            have d3 : decide (i = n) = false := decide_eq_false hin
            have d4 : ((i : Int) == (n : Int)) = false := beq_eq_false_iff_ne.mpr (by omega)
            clear hin
            go_wp2_with (first | ((with_reducible refine gate_builtin (b := .append) (xs := #[.tmp 55, .tmp 63]) rfl ?_); at_builtin; refine Kd.R_append k28 (w0 := wa) wa.heap.size rfl (.tmp 55) (.tmp 63) 22 28 (.agg #[(.string ⟨#[]⟩), (.int .u64 0), (.int .i64 0), (.string ⟨#[]⟩)]) 48 rfl Try.underlying22 info28 rfl (by decide) (by omega) u9 ((outP l n (r, clampH hgt) i).map (·.1)) x [.string x.f0, .int .u64 x.f1, .int .i64 x.f2, .string x.f3] (fun _ => True) (fun _ => False) rfl rfl ?aP (fun _ hk => hk.elim) ?aF ?aO ?aB ?aS ?aL ?_; (case aP => exact k28_mkM _ _ _ x); (case aB => exact HB.out); (case aF => exact (fun _ _ => trivial)); (case aO => exact H9.out); (case aS => exact below_size HB.out); (case aL => exact aL_ LEN.out (by simp)); intro v9b w9b ho hb hg hat; have n0_ := Aside0.mk (R3_grown H10.out H9.out hg); have n1_ := Aside0.mk ho; have n2_ := Aside0.mk hb; clear H9 H10 HB ho hb hg hat g0 x0 x1 x2 x3 q0 q1 q2 q3 y0 g1; have H9 := n1_; have H10 := n0_; have HB := n2_; clear n0_ n1_ n2_; have g0 := (HB.out.cell (World.block_lt_of_cell? wa _ G0.out)).trans G0.out; have g1 := (HB.out.cell (World.block_lt_of_cell? wa _ G1.out)).trans G1.out; have y0 := (HB.out.cell (World.block_lt_of_cell? wa _ Y0.out)).trans Y0.out; have x0 := (HB.out.cell (World.block_lt_of_cell? wa _ X0.out)).trans X0.out; have x1 := (HB.out.cell (World.block_lt_of_cell? wa _ X1.out)).trans X1.out; have x2 := (HB.out.cell (World.block_lt_of_cell? wa _ X2.out)).trans X2.out; have x3 := (HB.out.cell (World.block_lt_of_cell? wa _ X3.out)).trans X3.out; have q0 := (HB.out.cell (World.block_lt_of_cell? wa _ Q0.out)).trans Q0.out; have q1 := (HB.out.cell (World.block_lt_of_cell? wa _ Q1.out)).trans Q1.out; have q2 := (HB.out.cell (World.block_lt_of_cell? wa _ Q2.out)).trans Q2.out; have q3 := (HB.out.cell (World.block_lt_of_cell? wa _ Q3.out)).trans Q3.out) | ((with_reducible refine gate_builtin (b := .append) (xs := #[.tmp 65, .tmp 73]) rfl ?_); at_builtin; refine Kd.R_append (Kd.int .i64) (w0 := wa) wa.heap.size rfl (.tmp 65) (.tmp 73) 23 3 (.int .i64 0) 8 rfl Try.underlying23 info3 rfl (by decide) (by omega) u10 ((outP l n (r, clampH hgt) i).map (fun x => (x.2 : Int))) hv [.int .i64 hv] (fun _ => True) (fun _ => False) rfl rfl ?aP (fun _ hk => hk.elim) ?aF ?aO ?aB ?aS ?aL ?_; (case aP => exact rfl); (case aB => exact HB.out); (case aF => exact (fun _ _ => trivial)); (case aO => exact H10.out); (case aS => exact below_size HB.out); (case aL => exact aL3_ LEN.out (by simp)); intro v10b w10b ho hb hg hat; have n0_ := Aside0.mk (R28_grown H9.out H10.out hg); have n1_ := Aside0.mk ho; have n2_ := Aside0.mk hb; clear H9 H10 HB ho hb hg hat g0 x0 x1 x2 x3 q0 q1 q2 q3 y0 g1; have H10 := n1_; have H9 := n0_; have HB := n2_; clear n0_ n1_ n2_; have g0 := (HB.out.cell (World.block_lt_of_cell? wa _ G0.out)).trans G0.out; have g1 := (HB.out.cell (World.block_lt_of_cell? wa _ G1.out)).trans G1.out; have y0 := (HB.out.cell (World.block_lt_of_cell? wa _ Y0.out)).trans Y0.out; have x0 := (HB.out.cell (World.block_lt_of_cell? wa _ X0.out)).trans X0.out; have x1 := (HB.out.cell (World.block_lt_of_cell? wa _ X1.out)).trans X1.out; have x2 := (HB.out.cell (World.block_lt_of_cell? wa _ X2.out)).trans X2.out; have x3 := (HB.out.cell (World.block_lt_of_cell? wa _ X3.out)).trans X3.out; have q0 := (HB.out.cell (World.block_lt_of_cell? wa _ Q0.out)).trans Q0.out; have q1 := (HB.out.cell (World.block_lt_of_cell? wa _ Q1.out)).trans Q1.out; have q2 := (HB.out.cell (World.block_lt_of_cell? wa _ Q2.out)).trans Q2.out; have q3 := (HB.out.cell (World.block_lt_of_cell? wa _ Q3.out)).trans Q3.out) | fail)
            have e9 : (outP l n (r, clampH hgt) i).map (·.1) ++ [x] = (outP l n (r, clampH hgt) (i + 1)).map (·.1) := by rw [outP, if_neg HIN.out, ← XE.out, l_row hi]; simp
            have e10 : (outP l n (r, clampH hgt) i).map (fun x => (x.2 : Int)) ++ [hv] = (outP l n (r, clampH hgt) (i + 1)).map (fun x => (x.2 : Int)) := by rw [outP, if_neg HIN.out, HV.out]; simp
            replace H9 := H9.out
            replace H10 := H10.out
            rw [e9] at H9
            rw [e10] at H10
            have hl1000 := HLN.out
            have ew : wrap64 ((i : Int) + 1) = ((i + 1 : Nat) : Int) := by unfold wrap64; omega
            try rw [ew]
            go_roundg q
            case measure => omega
            case rel => exact ⟨i + 1, rfl, ⟨by have := HK.out; omega⟩, ⟨H9⟩, ⟨H10⟩, HB⟩
    · have k0 : decide (hgt < 1) = false := decide_eq_false c1_
      by_cases c2_ : hgt > 12
      · have k1 : decide (hgt > 12) = true := decide_eq_true c2_
        have k2 : decide (12 < hgt) = true := decide_eq_true c2_
        have hcE : (12 : Int) = ((clampH hgt : Nat) : Int) := by unfold clampH; omega
        have HCE := Aside0.mk hcE
        clear hcE
        go_wp2_with fail
        go_loopg [9, 10, 11] l.length (fun kq v9 v10 v11 w' => ∃ (i : Nat), v11 = .int .i64 (i : Int) ∧ Aside0 (kq + i = l.length) ∧ Aside0 (Kd.R k28 28 w' wa.heap.size (fun _ => True) v9 ((outP l n (r, clampH hgt) i).map (·.1))) ∧ Aside0 (Kd.R (Kd.int .i64) 3 w' wa.heap.size (fun _ => True) v10 ((outP l n (r, clampH hgt) i).map (fun x => (x.2 : Int)))) ∧ Aside0 (Below wa.heap.size wa w'))
        case atStart => exact ⟨0, rfl, ⟨by omega⟩, ⟨Kd.R_nil _ _ _ _ _⟩, ⟨Kd.R_nil _ _ _ _ _⟩, ⟨Below.refl _ _⟩⟩
        case round =>
          obtain ⟨i, rfl, HK, H9, H10, HB⟩ := hrel
          have g0 := (HB.out.cell (World.block_lt_of_cell? wa _ G0.out)).trans G0.out
          have g1 := (HB.out.cell (World.block_lt_of_cell? wa _ G1.out)).trans G1.out
          have q0 := (HB.out.cell (World.block_lt_of_cell? wa _ Q0.out)).trans Q0.out
          have q1 := (HB.out.cell (World.block_lt_of_cell? wa _ Q1.out)).trans Q1.out
          have q2 := (HB.out.cell (World.block_lt_of_cell? wa _ Q2.out)).trans Q2.out
          have q3 := (HB.out.cell (World.block_lt_of_cell? wa _ Q3.out)).trans Q3.out
          have LEN := Aside0.mk (show (outP l n (r, clampH hgt) i).length ≤ 1001 by have h1 := HLN.out; have h2 := HK.out; have h3 := outP_len l n (r, clampH hgt) i; split at h3 <;> omega)
          cases gk with
          | zero =>
            have ei : i = l.length := by have := HK.out; omega
            subst ei
            have d0 : decide ((l.length : Int) < (l.length : Int)) = false := by simp
            have hGB := blk_below GB.out HB.out
            by_cases hnl : n < l.length
            · have d2 : decide ((n : Int) = (l.length : Int)) = false := decide_eq_false (by omega)
              have d3 : decide (n = l.length) = false := decide_eq_false (by omega)
              have d4 : ((n : Int) == (l.length : Int)) = false := beq_eq_false_iff_ne.mpr (by omega)
              have HNLT := Aside0.mk hnl
              clear hnl
              have eP : outP l n (r, clampH hgt) l.length = putV r (clampH hgt) l := by
                rw [putV, if_neg (by rw [htk]; decide), HN.out]
                exact outP_ins (by rw [← HN.out]; exact HNLT.out)
              have h9 := H9.out
              have h10 := H10.out
              rw [eP] at h9 h10
              obtain ⟨A9, c9, hv9⟩ := Kd.R_slice h9
              obtain ⟨A10, c10, hv10⟩ := Kd.R_slice h10
              subst hv9 hv10
              rw [List.length_map] at h9 h10
              obtain ⟨PL, hPL⟩ : ∃ PL, PL = putV r (clampH hgt) l := ⟨_, rfl⟩
              rw [← hPL] at h9 h10
              rw [List.length_map, List.length_map, ← hPL]
              have HPL := Aside0.mk hPL
              have H9p := Aside0.mk h9
              have H10p := Aside0.mk h10
              clear h9 h10 H9 H10 eP hPL
              have hS1 := blk_put hGB 0 (.slice A9 PL.length c9) (cs' := #[.slice A9 PL.length c9, .slice A2 l.length c2]) rfl
              have hc1 : (wr.setCell ⟨g, 0, none⟩ (.slice A9 PL.length c9)).cell? ⟨g, 1, none⟩ = some (.slice A2 l.length c2) := (blk_cell hS1 1).trans rfl
              have hf1 : (wr.setCell ⟨g, 0, none⟩ (.slice A9 PL.length c9)).frozen? ⟨g, 1, none⟩ = false := blk_frozen hS1 1
              have hf0 : wr.frozen? ⟨g, 0, none⟩ = false := blk_frozen hGB 0
              have HGB := Aside0.mk hGB
              clear hS1 hGB
              go_wp2_with fail
              go_ret
              exact ⟨by (try rw [htk]); rfl, (put08_end HPL.out htk HGB.out HB.out HBA.out HB1.out HGL.out HB0.out H9p.out H10p.out).2⟩
            · have d2 : decide ((n : Int) = (l.length : Int)) = true := decide_eq_true (by have := HNL.out; omega)
              have d3 : decide (n = l.length) = true := decide_eq_true (by have := HNL.out; omega)
              have d4 : ((n : Int) == (l.length : Int)) = true := beq_iff_eq.mpr (by have := HNL.out; omega)
              have hne : n = l.length := by have := HNL.out; omega
              have eP : outP l n (r, clampH hgt) l.length ++ [(r, clampH hgt)] = putV r (clampH hgt) l := by
                rw [putV, if_neg (by rw [htk]; decide), HN.out]
                exact outP_end (by rw [← HN.out]; exact hne)
              have EP := Aside0.mk eP
              have HGB := Aside0.mk hGB
              clear hnl hne eP hGB
              have e9 : (outP l n (r, clampH hgt) l.length).map (·.1) ++ [r] = (putV r (clampH hgt) l).map (·.1) := by rw [← EP.out]; simp
              have e10 : (outP l n (r, clampH hgt) l.length).map (fun x => (x.2 : Int)) ++ [(12 : Int)] = (putV r (clampH hgt) l).map (fun x => (x.2 : Int)) := by rw [← EP.out]; simp [← HCE.out]
              have E9 := Aside0.mk e9
              have E10 := Aside0.mk e10
              clear e9 e10
              obtain ⟨PL, hPL⟩ : ∃ PL, PL = putV r (clampH hgt) l := ⟨_, rfl⟩
              have HPL := Aside0.mk hPL
              clear hPL
              go_wp2_with (first | ((with_reducible refine gate_builtin (b := .append) (xs := #[.tmp 82, .tmp 84]) rfl ?_); at_builtin; refine Kd.R_append k28 (w0 := wa) wa.heap.size rfl (.tmp 82) (.tmp 84) 22 28 (.agg #[(.string ⟨#[]⟩), (.int .u64 0), (.int .i64 0), (.string ⟨#[]⟩)]) 48 rfl Try.underlying22 info28 rfl (by decide) (by omega) u9 ((outP l n (r, clampH hgt) l.length).map (·.1)) r [.string r.f0, .int .u64 r.f1, .int .i64 r.f2, .string r.f3] (fun _ => True) (fun _ => False) rfl rfl ?aP (fun _ hk => hk.elim) ?aF ?aO ?aB ?aS ?aL ?_; (case aP => exact k28_mkM _ _ _ r); (case aB => exact HB.out); (case aF => exact (fun _ _ => trivial)); (case aO => exact H9.out); (case aS => exact below_size HB.out); (case aL => exact aL_ LEN.out (by simp)); intro v9a w9a ho hb hg hat; have n0_ := Aside0.mk (R3_grown H10.out H9.out hg); have n1_ := Aside0.mk ho; have n2_ := Aside0.mk hb; clear H9 H10 HB ho hb hg hat g0 g1 q0 q1 q2 q3; have H9 := n1_; have H10 := n0_; have HB := n2_; clear n0_ n1_ n2_; have q0 := (HB.out.cell (World.block_lt_of_cell? wa _ Q0.out)).trans Q0.out; have q1 := (HB.out.cell (World.block_lt_of_cell? wa _ Q1.out)).trans Q1.out; have q2 := (HB.out.cell (World.block_lt_of_cell? wa _ Q2.out)).trans Q2.out; have q3 := (HB.out.cell (World.block_lt_of_cell? wa _ Q3.out)).trans Q3.out; have g0 := (HB.out.cell (World.block_lt_of_cell? wa _ G0.out)).trans G0.out; have g1 := (HB.out.cell (World.block_lt_of_cell? wa _ G1.out)).trans G1.out) | ((with_reducible refine gate_builtin (b := .append) (xs := #[.tmp 86, .tmp 88]) rfl ?_); at_builtin; refine Kd.R_append (Kd.int .i64) (w0 := wa) wa.heap.size rfl (.tmp 86) (.tmp 88) 23 3 (.int .i64 0) 8 rfl Try.underlying23 info3 rfl (by decide) (by omega) u10 ((outP l n (r, clampH hgt) l.length).map (fun x => (x.2 : Int))) (12) [.int .i64 (12)] (fun _ => True) (fun _ => False) rfl rfl ?aP (fun _ hk => hk.elim) ?aF ?aO ?aB ?aS ?aL ?_; (case aP => exact rfl); (case aB => exact HB.out); (case aF => exact (fun _ _ => trivial)); (case aO => exact H10.out); (case aS => exact below_size HB.out); (case aL => exact aL3_ LEN.out (by simp)); intro v10a w10a ho hb hg hat; have n0_ := Aside0.mk (R28_grown H9.out H10.out hg); have n1_ := Aside0.mk ho; have n2_ := Aside0.mk hb; clear H9 H10 HB ho hb hg hat g0 g1 q0 q1 q2 q3; have H10 := n1_; have H9 := n0_; have HB := n2_; clear n0_ n1_ n2_; have q0 := (HB.out.cell (World.block_lt_of_cell? wa _ Q0.out)).trans Q0.out; have q1 := (HB.out.cell (World.block_lt_of_cell? wa _ Q1.out)).trans Q1.out; have q2 := (HB.out.cell (World.block_lt_of_cell? wa _ Q2.out)).trans Q2.out; have q3 := (HB.out.cell (World.block_lt_of_cell? wa _ Q3.out)).trans Q3.out; have g0 := (HB.out.cell (World.block_lt_of_cell? wa _ G0.out)).trans G0.out; have g1 := (HB.out.cell (World.block_lt_of_cell? wa _ G1.out)).trans G1.out; have h9 := H9.out; have h10 := H10.out; rw [E9.out] at h9; rw [E10.out] at h10; obtain ⟨A9, c9, hv9⟩ := Kd.R_slice h9; obtain ⟨A10, c10, hv10⟩ := Kd.R_slice h10; subst hv9 hv10; rw [List.length_map] at h9 h10; rw [← HPL.out] at h9 h10; rw [List.length_map, List.length_map, ← HPL.out]; have H9p := Aside0.mk h9; have H10p := Aside0.mk h10; clear h9 h10 H9 H10; have hGB := blk_below GB.out HB.out; have hS1 := blk_put hGB 0 (.slice A9 PL.length c9) (cs' := #[.slice A9 PL.length c9, .slice A2 l.length c2]) rfl; have hc1 : (w10a.setCell ⟨g, 0, none⟩ (.slice A9 PL.length c9)).cell? ⟨g, 1, none⟩ = some (.slice A2 l.length c2) := (blk_cell hS1 1).trans rfl; have hf1 : (w10a.setCell ⟨g, 0, none⟩ (.slice A9 PL.length c9)).frozen? ⟨g, 1, none⟩ = false := blk_frozen hS1 1; have hf0 : w10a.frozen? ⟨g, 0, none⟩ = false := blk_frozen hGB 0; have HGB := Aside0.mk hGB; clear hS1 hGB) | fail)
              go_ret
              exact ⟨by (try rw [htk]); rfl, (put08_end HPL.out htk HGB.out HB.out HBA.out HB1.out HGL.out HB0.out H9p.out H10p.out).2⟩
          | succ q =>
            have hi : i < l.length := by have := HK.out; omega
            have d0 : decide ((i : Int) < (l.length : Int)) = true := decide_eq_true (by omega)
            have d1 : decide (i < l.length) = true := decide_eq_true hi
            have p0 : 0 ≤ (i : Int) := Int.natCast_nonneg _
            have p1 : (i : Int) < (l.length : Int) := Int.ofNat_lt.mpr hi
            obtain ⟨ad, x, ea, hxx, hx0, hx1, hx2, hx3⟩ := at_row C1.out i (by rw [List.length_map]; exact hi)
            cases ea
            obtain ⟨ad1, ea1, hy⟩ := at_int C2.out i (by rw [List.length_map]; exact hi)
            cases ea1
            rw [l_h hi] at hy
            obtain ⟨hv, hhv⟩ : ∃ hv, hv = ((l.getD i zRH).2 : Int) := ⟨_, rfl⟩
            rw [← hhv] at hy
            have HV := Aside0.mk hhv
            clear hhv
            have XE := Aside0.mk hxx
            have X0 := Aside0.mk hx0
            have X1 := Aside0.mk hx1
            have X2 := Aside0.mk hx2
            have X3 := Aside0.mk hx3
            have Y0 := Aside0.mk hy
            clear hxx hx0 hx1 hx2 hx3 hy
            have x0 := (HB.out.cell (World.block_lt_of_cell? wa _ X0.out)).trans X0.out
            have x1 := (HB.out.cell (World.block_lt_of_cell? wa _ X1.out)).trans X1.out
            have x2 := (HB.out.cell (World.block_lt_of_cell? wa _ X2.out)).trans X2.out
            have x3 := (HB.out.cell (World.block_lt_of_cell? wa _ X3.out)).trans X3.out
            have y0 := (HB.out.cell (World.block_lt_of_cell? wa _ Y0.out)).trans Y0.out
            by_cases hin : i = n
            · have HIN := Aside0.mk hin
              have d2 : decide ((i : Int) = (n : Int)) = true := decide_eq_true (by omega)
              have d3 : decide (i = n) = true := decide_eq_true hin
              have d4 : ((i : Int) == (n : Int)) = true := beq_iff_eq.mpr (by omega)
              clear hin
              go_wp2_with (first | ((with_reducible refine gate_builtin (b := .append) (xs := #[.tmp 47, .tmp 49]) rfl ?_); at_builtin; refine Kd.R_append k28 (w0 := wa) wa.heap.size rfl (.tmp 47) (.tmp 49) 22 28 (.agg #[(.string ⟨#[]⟩), (.int .u64 0), (.int .i64 0), (.string ⟨#[]⟩)]) 48 rfl Try.underlying22 info28 rfl (by decide) (by omega) u9 ((outP l n (r, clampH hgt) i).map (·.1)) r [.string r.f0, .int .u64 r.f1, .int .i64 r.f2, .string r.f3] (fun _ => True) (fun _ => False) rfl rfl ?aP (fun _ hk => hk.elim) ?aF ?aO ?aB ?aS ?aL ?_; (case aP => exact k28_mkM _ _ _ r); (case aB => exact HB.out); (case aF => exact (fun _ _ => trivial)); (case aO => exact H9.out); (case aS => exact below_size HB.out); (case aL => exact aL_ LEN.out (by simp)); intro v9a w9a ho hb hg hat; have n0_ := Aside0.mk (R3_grown H10.out H9.out hg); have n1_ := Aside0.mk ho; have n2_ := Aside0.mk hb; clear H9 H10 HB ho hb hg hat g0 x0 x1 x2 x3 q0 q1 q2 q3 y0 g1; have H9 := n1_; have H10 := n0_; have HB := n2_; clear n0_ n1_ n2_; have g0 := (HB.out.cell (World.block_lt_of_cell? wa _ G0.out)).trans G0.out; have g1 := (HB.out.cell (World.block_lt_of_cell? wa _ G1.out)).trans G1.out; have y0 := (HB.out.cell (World.block_lt_of_cell? wa _ Y0.out)).trans Y0.out; have x0 := (HB.out.cell (World.block_lt_of_cell? wa _ X0.out)).trans X0.out; have x1 := (HB.out.cell (World.block_lt_of_cell? wa _ X1.out)).trans X1.out; have x2 := (HB.out.cell (World.block_lt_of_cell? wa _ X2.out)).trans X2.out; have x3 := (HB.out.cell (World.block_lt_of_cell? wa _ X3.out)).trans X3.out; have q0 := (HB.out.cell (World.block_lt_of_cell? wa _ Q0.out)).trans Q0.out; have q1 := (HB.out.cell (World.block_lt_of_cell? wa _ Q1.out)).trans Q1.out; have q2 := (HB.out.cell (World.block_lt_of_cell? wa _ Q2.out)).trans Q2.out; have q3 := (HB.out.cell (World.block_lt_of_cell? wa _ Q3.out)).trans Q3.out) | ((with_reducible refine gate_builtin (b := .append) (xs := #[.tmp 51, .tmp 53]) rfl ?_); at_builtin; refine Kd.R_append (Kd.int .i64) (w0 := wa) wa.heap.size rfl (.tmp 51) (.tmp 53) 23 3 (.int .i64 0) 8 rfl Try.underlying23 info3 rfl (by decide) (by omega) u10 ((outP l n (r, clampH hgt) i).map (fun x => (x.2 : Int))) (12) [.int .i64 (12)] (fun _ => True) (fun _ => False) rfl rfl ?aP (fun _ hk => hk.elim) ?aF ?aO ?aB ?aS ?aL ?_; (case aP => exact rfl); (case aB => exact HB.out); (case aF => exact (fun _ _ => trivial)); (case aO => exact H10.out); (case aS => exact below_size HB.out); (case aL => exact aL3_ LEN.out (by simp)); intro v10a w10a ho hb hg hat; have n0_ := Aside0.mk (R28_grown H9.out H10.out hg); have n1_ := Aside0.mk ho; have n2_ := Aside0.mk hb; clear H9 H10 HB ho hb hg hat g0 x0 x1 x2 x3 q0 q1 q2 q3 y0 g1; have H10 := n1_; have H9 := n0_; have HB := n2_; clear n0_ n1_ n2_; have g0 := (HB.out.cell (World.block_lt_of_cell? wa _ G0.out)).trans G0.out; have g1 := (HB.out.cell (World.block_lt_of_cell? wa _ G1.out)).trans G1.out; have y0 := (HB.out.cell (World.block_lt_of_cell? wa _ Y0.out)).trans Y0.out; have x0 := (HB.out.cell (World.block_lt_of_cell? wa _ X0.out)).trans X0.out; have x1 := (HB.out.cell (World.block_lt_of_cell? wa _ X1.out)).trans X1.out; have x2 := (HB.out.cell (World.block_lt_of_cell? wa _ X2.out)).trans X2.out; have x3 := (HB.out.cell (World.block_lt_of_cell? wa _ X3.out)).trans X3.out; have q0 := (HB.out.cell (World.block_lt_of_cell? wa _ Q0.out)).trans Q0.out; have q1 := (HB.out.cell (World.block_lt_of_cell? wa _ Q1.out)).trans Q1.out; have q2 := (HB.out.cell (World.block_lt_of_cell? wa _ Q2.out)).trans Q2.out; have q3 := (HB.out.cell (World.block_lt_of_cell? wa _ Q3.out)).trans Q3.out) | ((with_reducible refine gate_builtin (b := .append) (xs := #[.tmp 55, .tmp 63]) rfl ?_); at_builtin; refine Kd.R_append k28 (w0 := wa) wa.heap.size rfl (.tmp 55) (.tmp 63) 22 28 (.agg #[(.string ⟨#[]⟩), (.int .u64 0), (.int .i64 0), (.string ⟨#[]⟩)]) 48 rfl Try.underlying22 info28 rfl (by decide) (by omega) v9a ((outP l n (r, clampH hgt) i).map (·.1) ++ [r]) x [.string x.f0, .int .u64 x.f1, .int .i64 x.f2, .string x.f3] (fun _ => True) (fun _ => False) rfl rfl ?aP (fun _ hk => hk.elim) ?aF ?aO ?aB ?aS ?aL ?_; (case aP => exact k28_mkM _ _ _ x); (case aB => exact HB.out); (case aF => exact (fun _ _ => trivial)); (case aO => exact H9.out); (case aS => exact below_size HB.out); (case aL => exact aL_ LEN.out (by simp)); intro v9b w9b ho hb hg hat; have n0_ := Aside0.mk (R3_grown H10.out H9.out hg); have n1_ := Aside0.mk ho; have n2_ := Aside0.mk hb; clear H9 H10 HB ho hb hg hat g0 x0 x1 x2 x3 q0 q1 q2 q3 y0 g1; have H9 := n1_; have H10 := n0_; have HB := n2_; clear n0_ n1_ n2_; have g0 := (HB.out.cell (World.block_lt_of_cell? wa _ G0.out)).trans G0.out; have g1 := (HB.out.cell (World.block_lt_of_cell? wa _ G1.out)).trans G1.out; have y0 := (HB.out.cell (World.block_lt_of_cell? wa _ Y0.out)).trans Y0.out; have x0 := (HB.out.cell (World.block_lt_of_cell? wa _ X0.out)).trans X0.out; have x1 := (HB.out.cell (World.block_lt_of_cell? wa _ X1.out)).trans X1.out; have x2 := (HB.out.cell (World.block_lt_of_cell? wa _ X2.out)).trans X2.out; have x3 := (HB.out.cell (World.block_lt_of_cell? wa _ X3.out)).trans X3.out; have q0 := (HB.out.cell (World.block_lt_of_cell? wa _ Q0.out)).trans Q0.out; have q1 := (HB.out.cell (World.block_lt_of_cell? wa _ Q1.out)).trans Q1.out; have q2 := (HB.out.cell (World.block_lt_of_cell? wa _ Q2.out)).trans Q2.out; have q3 := (HB.out.cell (World.block_lt_of_cell? wa _ Q3.out)).trans Q3.out) | ((with_reducible refine gate_builtin (b := .append) (xs := #[.tmp 65, .tmp 73]) rfl ?_); at_builtin; refine Kd.R_append (Kd.int .i64) (w0 := wa) wa.heap.size rfl (.tmp 65) (.tmp 73) 23 3 (.int .i64 0) 8 rfl Try.underlying23 info3 rfl (by decide) (by omega) v10a ((outP l n (r, clampH hgt) i).map (fun x => (x.2 : Int)) ++ [(12 : Int)]) hv [.int .i64 hv] (fun _ => True) (fun _ => False) rfl rfl ?aP (fun _ hk => hk.elim) ?aF ?aO ?aB ?aS ?aL ?_; (case aP => exact rfl); (case aB => exact HB.out); (case aF => exact (fun _ _ => trivial)); (case aO => exact H10.out); (case aS => exact below_size HB.out); (case aL => exact aL3_ LEN.out (by simp)); intro v10b w10b ho hb hg hat; have n0_ := Aside0.mk (R28_grown H9.out H10.out hg); have n1_ := Aside0.mk ho; have n2_ := Aside0.mk hb; clear H9 H10 HB ho hb hg hat g0 x0 x1 x2 x3 q0 q1 q2 q3 y0 g1; have H10 := n1_; have H9 := n0_; have HB := n2_; clear n0_ n1_ n2_; have g0 := (HB.out.cell (World.block_lt_of_cell? wa _ G0.out)).trans G0.out; have g1 := (HB.out.cell (World.block_lt_of_cell? wa _ G1.out)).trans G1.out; have y0 := (HB.out.cell (World.block_lt_of_cell? wa _ Y0.out)).trans Y0.out; have x0 := (HB.out.cell (World.block_lt_of_cell? wa _ X0.out)).trans X0.out; have x1 := (HB.out.cell (World.block_lt_of_cell? wa _ X1.out)).trans X1.out; have x2 := (HB.out.cell (World.block_lt_of_cell? wa _ X2.out)).trans X2.out; have x3 := (HB.out.cell (World.block_lt_of_cell? wa _ X3.out)).trans X3.out; have q0 := (HB.out.cell (World.block_lt_of_cell? wa _ Q0.out)).trans Q0.out; have q1 := (HB.out.cell (World.block_lt_of_cell? wa _ Q1.out)).trans Q1.out; have q2 := (HB.out.cell (World.block_lt_of_cell? wa _ Q2.out)).trans Q2.out; have q3 := (HB.out.cell (World.block_lt_of_cell? wa _ Q3.out)).trans Q3.out) | fail)
              have e9 : (outP l n (r, clampH hgt) i).map (·.1) ++ [r] ++ [x] = (outP l n (r, clampH hgt) (i + 1)).map (·.1) := by rw [outP, if_pos HIN.out, ← XE.out, l_row hi]; simp
              have e10 : (outP l n (r, clampH hgt) i).map (fun x => (x.2 : Int)) ++ [(12 : Int)] ++ [hv] = (outP l n (r, clampH hgt) (i + 1)).map (fun x => (x.2 : Int)) := by rw [outP, if_pos HIN.out, HV.out]; simp [← HCE.out]
              replace H9 := H9.out
              replace H10 := H10.out
              rw [e9] at H9
              rw [e10] at H10
              have hl1000 := HLN.out
              have ew : wrap64 ((i : Int) + 1) = ((i + 1 : Nat) : Int) := by unfold wrap64; omega
              try rw [ew]
              go_roundg q
              case measure => omega
              case rel => exact ⟨i + 1, rfl, ⟨by have := HK.out; omega⟩, ⟨H9⟩, ⟨H10⟩, HB⟩
            · have HIN := Aside0.mk hin
              have d2 : decide ((i : Int) = (n : Int)) = false := decide_eq_false (by omega)
              have d3 : decide (i = n) = false := decide_eq_false hin
              have d4 : ((i : Int) == (n : Int)) = false := beq_eq_false_iff_ne.mpr (by omega)
              clear hin
              go_wp2_with (first | ((with_reducible refine gate_builtin (b := .append) (xs := #[.tmp 55, .tmp 63]) rfl ?_); at_builtin; refine Kd.R_append k28 (w0 := wa) wa.heap.size rfl (.tmp 55) (.tmp 63) 22 28 (.agg #[(.string ⟨#[]⟩), (.int .u64 0), (.int .i64 0), (.string ⟨#[]⟩)]) 48 rfl Try.underlying22 info28 rfl (by decide) (by omega) u9 ((outP l n (r, clampH hgt) i).map (·.1)) x [.string x.f0, .int .u64 x.f1, .int .i64 x.f2, .string x.f3] (fun _ => True) (fun _ => False) rfl rfl ?aP (fun _ hk => hk.elim) ?aF ?aO ?aB ?aS ?aL ?_; (case aP => exact k28_mkM _ _ _ x); (case aB => exact HB.out); (case aF => exact (fun _ _ => trivial)); (case aO => exact H9.out); (case aS => exact below_size HB.out); (case aL => exact aL_ LEN.out (by simp)); intro v9b w9b ho hb hg hat; have n0_ := Aside0.mk (R3_grown H10.out H9.out hg); have n1_ := Aside0.mk ho; have n2_ := Aside0.mk hb; clear H9 H10 HB ho hb hg hat g0 x0 x1 x2 x3 q0 q1 q2 q3 y0 g1; have H9 := n1_; have H10 := n0_; have HB := n2_; clear n0_ n1_ n2_; have g0 := (HB.out.cell (World.block_lt_of_cell? wa _ G0.out)).trans G0.out; have g1 := (HB.out.cell (World.block_lt_of_cell? wa _ G1.out)).trans G1.out; have y0 := (HB.out.cell (World.block_lt_of_cell? wa _ Y0.out)).trans Y0.out; have x0 := (HB.out.cell (World.block_lt_of_cell? wa _ X0.out)).trans X0.out; have x1 := (HB.out.cell (World.block_lt_of_cell? wa _ X1.out)).trans X1.out; have x2 := (HB.out.cell (World.block_lt_of_cell? wa _ X2.out)).trans X2.out; have x3 := (HB.out.cell (World.block_lt_of_cell? wa _ X3.out)).trans X3.out; have q0 := (HB.out.cell (World.block_lt_of_cell? wa _ Q0.out)).trans Q0.out; have q1 := (HB.out.cell (World.block_lt_of_cell? wa _ Q1.out)).trans Q1.out; have q2 := (HB.out.cell (World.block_lt_of_cell? wa _ Q2.out)).trans Q2.out; have q3 := (HB.out.cell (World.block_lt_of_cell? wa _ Q3.out)).trans Q3.out) | ((with_reducible refine gate_builtin (b := .append) (xs := #[.tmp 65, .tmp 73]) rfl ?_); at_builtin; refine Kd.R_append (Kd.int .i64) (w0 := wa) wa.heap.size rfl (.tmp 65) (.tmp 73) 23 3 (.int .i64 0) 8 rfl Try.underlying23 info3 rfl (by decide) (by omega) u10 ((outP l n (r, clampH hgt) i).map (fun x => (x.2 : Int))) hv [.int .i64 hv] (fun _ => True) (fun _ => False) rfl rfl ?aP (fun _ hk => hk.elim) ?aF ?aO ?aB ?aS ?aL ?_; (case aP => exact rfl); (case aB => exact HB.out); (case aF => exact (fun _ _ => trivial)); (case aO => exact H10.out); (case aS => exact below_size HB.out); (case aL => exact aL3_ LEN.out (by simp)); intro v10b w10b ho hb hg hat; have n0_ := Aside0.mk (R28_grown H9.out H10.out hg); have n1_ := Aside0.mk ho; have n2_ := Aside0.mk hb; clear H9 H10 HB ho hb hg hat g0 x0 x1 x2 x3 q0 q1 q2 q3 y0 g1; have H10 := n1_; have H9 := n0_; have HB := n2_; clear n0_ n1_ n2_; have g0 := (HB.out.cell (World.block_lt_of_cell? wa _ G0.out)).trans G0.out; have g1 := (HB.out.cell (World.block_lt_of_cell? wa _ G1.out)).trans G1.out; have y0 := (HB.out.cell (World.block_lt_of_cell? wa _ Y0.out)).trans Y0.out; have x0 := (HB.out.cell (World.block_lt_of_cell? wa _ X0.out)).trans X0.out; have x1 := (HB.out.cell (World.block_lt_of_cell? wa _ X1.out)).trans X1.out; have x2 := (HB.out.cell (World.block_lt_of_cell? wa _ X2.out)).trans X2.out; have x3 := (HB.out.cell (World.block_lt_of_cell? wa _ X3.out)).trans X3.out; have q0 := (HB.out.cell (World.block_lt_of_cell? wa _ Q0.out)).trans Q0.out; have q1 := (HB.out.cell (World.block_lt_of_cell? wa _ Q1.out)).trans Q1.out; have q2 := (HB.out.cell (World.block_lt_of_cell? wa _ Q2.out)).trans Q2.out; have q3 := (HB.out.cell (World.block_lt_of_cell? wa _ Q3.out)).trans Q3.out) | fail)
              have e9 : (outP l n (r, clampH hgt) i).map (·.1) ++ [x] = (outP l n (r, clampH hgt) (i + 1)).map (·.1) := by rw [outP, if_neg HIN.out, ← XE.out, l_row hi]; simp
              have e10 : (outP l n (r, clampH hgt) i).map (fun x => (x.2 : Int)) ++ [hv] = (outP l n (r, clampH hgt) (i + 1)).map (fun x => (x.2 : Int)) := by rw [outP, if_neg HIN.out, HV.out]; simp
              replace H9 := H9.out
              replace H10 := H10.out
              rw [e9] at H9
              rw [e10] at H10
              have hl1000 := HLN.out
              have ew : wrap64 ((i : Int) + 1) = ((i + 1 : Nat) : Int) := by unfold wrap64; omega
              try rw [ew]
              go_roundg q
              case measure => omega
              case rel => exact ⟨i + 1, rfl, ⟨by have := HK.out; omega⟩, ⟨H9⟩, ⟨H10⟩, HB⟩
      · have k1 : decide (hgt > 12) = false := decide_eq_false c2_
        have k2 : decide (12 < hgt) = false := decide_eq_false c2_
        have hcE : hgt = ((clampH hgt : Nat) : Int) := by unfold clampH; omega
        have HCE := Aside0.mk hcE
        clear hcE
        go_wp2_with fail
        go_loopg [9, 10, 11] l.length (fun kq v9 v10 v11 w' => ∃ (i : Nat), v11 = .int .i64 (i : Int) ∧ Aside0 (kq + i = l.length) ∧ Aside0 (Kd.R k28 28 w' wa.heap.size (fun _ => True) v9 ((outP l n (r, clampH hgt) i).map (·.1))) ∧ Aside0 (Kd.R (Kd.int .i64) 3 w' wa.heap.size (fun _ => True) v10 ((outP l n (r, clampH hgt) i).map (fun x => (x.2 : Int)))) ∧ Aside0 (Below wa.heap.size wa w'))
        case atStart => exact ⟨0, rfl, ⟨by omega⟩, ⟨Kd.R_nil _ _ _ _ _⟩, ⟨Kd.R_nil _ _ _ _ _⟩, ⟨Below.refl _ _⟩⟩
        case round =>
          obtain ⟨i, rfl, HK, H9, H10, HB⟩ := hrel
          have g0 := (HB.out.cell (World.block_lt_of_cell? wa _ G0.out)).trans G0.out
          have g1 := (HB.out.cell (World.block_lt_of_cell? wa _ G1.out)).trans G1.out
          have q0 := (HB.out.cell (World.block_lt_of_cell? wa _ Q0.out)).trans Q0.out
          have q1 := (HB.out.cell (World.block_lt_of_cell? wa _ Q1.out)).trans Q1.out
          have q2 := (HB.out.cell (World.block_lt_of_cell? wa _ Q2.out)).trans Q2.out
          have q3 := (HB.out.cell (World.block_lt_of_cell? wa _ Q3.out)).trans Q3.out
          have LEN := Aside0.mk (show (outP l n (r, clampH hgt) i).length ≤ 1001 by have h1 := HLN.out; have h2 := HK.out; have h3 := outP_len l n (r, clampH hgt) i; split at h3 <;> omega)
          cases gk with
          | zero =>
            have ei : i = l.length := by have := HK.out; omega
            subst ei
            have d0 : decide ((l.length : Int) < (l.length : Int)) = false := by simp
            have hGB := blk_below GB.out HB.out
            by_cases hnl : n < l.length
            · have d2 : decide ((n : Int) = (l.length : Int)) = false := decide_eq_false (by omega)
              have d3 : decide (n = l.length) = false := decide_eq_false (by omega)
              have d4 : ((n : Int) == (l.length : Int)) = false := beq_eq_false_iff_ne.mpr (by omega)
              have HNLT := Aside0.mk hnl
              clear hnl
              have eP : outP l n (r, clampH hgt) l.length = putV r (clampH hgt) l := by
                rw [putV, if_neg (by rw [htk]; decide), HN.out]
                exact outP_ins (by rw [← HN.out]; exact HNLT.out)
              have h9 := H9.out
              have h10 := H10.out
              rw [eP] at h9 h10
              obtain ⟨A9, c9, hv9⟩ := Kd.R_slice h9
              obtain ⟨A10, c10, hv10⟩ := Kd.R_slice h10
              subst hv9 hv10
              rw [List.length_map] at h9 h10
              obtain ⟨PL, hPL⟩ : ∃ PL, PL = putV r (clampH hgt) l := ⟨_, rfl⟩
              rw [← hPL] at h9 h10
              rw [List.length_map, List.length_map, ← hPL]
              have HPL := Aside0.mk hPL
              have H9p := Aside0.mk h9
              have H10p := Aside0.mk h10
              clear h9 h10 H9 H10 eP hPL
              have hS1 := blk_put hGB 0 (.slice A9 PL.length c9) (cs' := #[.slice A9 PL.length c9, .slice A2 l.length c2]) rfl
              have hc1 : (wr.setCell ⟨g, 0, none⟩ (.slice A9 PL.length c9)).cell? ⟨g, 1, none⟩ = some (.slice A2 l.length c2) := (blk_cell hS1 1).trans rfl
              have hf1 : (wr.setCell ⟨g, 0, none⟩ (.slice A9 PL.length c9)).frozen? ⟨g, 1, none⟩ = false := blk_frozen hS1 1
              have hf0 : wr.frozen? ⟨g, 0, none⟩ = false := blk_frozen hGB 0
              have HGB := Aside0.mk hGB
              clear hS1 hGB
              go_wp2_with fail
              go_ret
              exact ⟨by (try rw [htk]); rfl, (put08_end HPL.out htk HGB.out HB.out HBA.out HB1.out HGL.out HB0.out H9p.out H10p.out).2⟩
            · have d2 : decide ((n : Int) = (l.length : Int)) = true := decide_eq_true (by have := HNL.out; omega)
              have d3 : decide (n = l.length) = true := decide_eq_true (by have := HNL.out; omega)
              have d4 : ((n : Int) == (l.length : Int)) = true := beq_iff_eq.mpr (by have := HNL.out; omega)
              have hne : n = l.length := by have := HNL.out; omega
              have eP : outP l n (r, clampH hgt) l.length ++ [(r, clampH hgt)] = putV r (clampH hgt) l := by
                rw [putV, if_neg (by rw [htk]; decide), HN.out]
                exact outP_end (by rw [← HN.out]; exact hne)
              have EP := Aside0.mk eP
              have HGB := Aside0.mk hGB
              clear hnl hne eP hGB
              have e9 : (outP l n (r, clampH hgt) l.length).map (·.1) ++ [r] = (putV r (clampH hgt) l).map (·.1) := by rw [← EP.out]; simp
              have e10 : (outP l n (r, clampH hgt) l.length).map (fun x => (x.2 : Int)) ++ [(hgt : Int)] = (putV r (clampH hgt) l).map (fun x => (x.2 : Int)) := by rw [← EP.out]; simp [← HCE.out]
              have E9 := Aside0.mk e9
              have E10 := Aside0.mk e10
              clear e9 e10
              obtain ⟨PL, hPL⟩ : ∃ PL, PL = putV r (clampH hgt) l := ⟨_, rfl⟩
              have HPL := Aside0.mk hPL
              clear hPL
              go_wp2_with (first | ((with_reducible refine gate_builtin (b := .append) (xs := #[.tmp 82, .tmp 84]) rfl ?_); at_builtin; refine Kd.R_append k28 (w0 := wa) wa.heap.size rfl (.tmp 82) (.tmp 84) 22 28 (.agg #[(.string ⟨#[]⟩), (.int .u64 0), (.int .i64 0), (.string ⟨#[]⟩)]) 48 rfl Try.underlying22 info28 rfl (by decide) (by omega) u9 ((outP l n (r, clampH hgt) l.length).map (·.1)) r [.string r.f0, .int .u64 r.f1, .int .i64 r.f2, .string r.f3] (fun _ => True) (fun _ => False) rfl rfl ?aP (fun _ hk => hk.elim) ?aF ?aO ?aB ?aS ?aL ?_; (case aP => exact k28_mkM _ _ _ r); (case aB => exact HB.out); (case aF => exact (fun _ _ => trivial)); (case aO => exact H9.out); (case aS => exact below_size HB.out); (case aL => exact aL_ LEN.out (by simp)); intro v9a w9a ho hb hg hat; have n0_ := Aside0.mk (R3_grown H10.out H9.out hg); have n1_ := Aside0.mk ho; have n2_ := Aside0.mk hb; clear H9 H10 HB ho hb hg hat g0 g1 q0 q1 q2 q3; have H9 := n1_; have H10 := n0_; have HB := n2_; clear n0_ n1_ n2_; have q0 := (HB.out.cell (World.block_lt_of_cell? wa _ Q0.out)).trans Q0.out; have q1 := (HB.out.cell (World.block_lt_of_cell? wa _ Q1.out)).trans Q1.out; have q2 := (HB.out.cell (World.block_lt_of_cell? wa _ Q2.out)).trans Q2.out; have q3 := (HB.out.cell (World.block_lt_of_cell? wa _ Q3.out)).trans Q3.out; have g0 := (HB.out.cell (World.block_lt_of_cell? wa _ G0.out)).trans G0.out; have g1 := (HB.out.cell (World.block_lt_of_cell? wa _ G1.out)).trans G1.out) | ((with_reducible refine gate_builtin (b := .append) (xs := #[.tmp 86, .tmp 88]) rfl ?_); at_builtin; refine Kd.R_append (Kd.int .i64) (w0 := wa) wa.heap.size rfl (.tmp 86) (.tmp 88) 23 3 (.int .i64 0) 8 rfl Try.underlying23 info3 rfl (by decide) (by omega) u10 ((outP l n (r, clampH hgt) l.length).map (fun x => (x.2 : Int))) (hgt) [.int .i64 (hgt)] (fun _ => True) (fun _ => False) rfl rfl ?aP (fun _ hk => hk.elim) ?aF ?aO ?aB ?aS ?aL ?_; (case aP => exact rfl); (case aB => exact HB.out); (case aF => exact (fun _ _ => trivial)); (case aO => exact H10.out); (case aS => exact below_size HB.out); (case aL => exact aL3_ LEN.out (by simp)); intro v10a w10a ho hb hg hat; have n0_ := Aside0.mk (R28_grown H9.out H10.out hg); have n1_ := Aside0.mk ho; have n2_ := Aside0.mk hb; clear H9 H10 HB ho hb hg hat g0 g1 q0 q1 q2 q3; have H10 := n1_; have H9 := n0_; have HB := n2_; clear n0_ n1_ n2_; have q0 := (HB.out.cell (World.block_lt_of_cell? wa _ Q0.out)).trans Q0.out; have q1 := (HB.out.cell (World.block_lt_of_cell? wa _ Q1.out)).trans Q1.out; have q2 := (HB.out.cell (World.block_lt_of_cell? wa _ Q2.out)).trans Q2.out; have q3 := (HB.out.cell (World.block_lt_of_cell? wa _ Q3.out)).trans Q3.out; have g0 := (HB.out.cell (World.block_lt_of_cell? wa _ G0.out)).trans G0.out; have g1 := (HB.out.cell (World.block_lt_of_cell? wa _ G1.out)).trans G1.out; have h9 := H9.out; have h10 := H10.out; rw [E9.out] at h9; rw [E10.out] at h10; obtain ⟨A9, c9, hv9⟩ := Kd.R_slice h9; obtain ⟨A10, c10, hv10⟩ := Kd.R_slice h10; subst hv9 hv10; rw [List.length_map] at h9 h10; rw [← HPL.out] at h9 h10; rw [List.length_map, List.length_map, ← HPL.out]; have H9p := Aside0.mk h9; have H10p := Aside0.mk h10; clear h9 h10 H9 H10; have hGB := blk_below GB.out HB.out; have hS1 := blk_put hGB 0 (.slice A9 PL.length c9) (cs' := #[.slice A9 PL.length c9, .slice A2 l.length c2]) rfl; have hc1 : (w10a.setCell ⟨g, 0, none⟩ (.slice A9 PL.length c9)).cell? ⟨g, 1, none⟩ = some (.slice A2 l.length c2) := (blk_cell hS1 1).trans rfl; have hf1 : (w10a.setCell ⟨g, 0, none⟩ (.slice A9 PL.length c9)).frozen? ⟨g, 1, none⟩ = false := blk_frozen hS1 1; have hf0 : w10a.frozen? ⟨g, 0, none⟩ = false := blk_frozen hGB 0; have HGB := Aside0.mk hGB; clear hS1 hGB) | fail)
              go_ret
              exact ⟨by (try rw [htk]); rfl, (put08_end HPL.out htk HGB.out HB.out HBA.out HB1.out HGL.out HB0.out H9p.out H10p.out).2⟩
          | succ q =>
            have hi : i < l.length := by have := HK.out; omega
            have d0 : decide ((i : Int) < (l.length : Int)) = true := decide_eq_true (by omega)
            have d1 : decide (i < l.length) = true := decide_eq_true hi
            have p0 : 0 ≤ (i : Int) := Int.natCast_nonneg _
            have p1 : (i : Int) < (l.length : Int) := Int.ofNat_lt.mpr hi
            obtain ⟨ad, x, ea, hxx, hx0, hx1, hx2, hx3⟩ := at_row C1.out i (by rw [List.length_map]; exact hi)
            cases ea
            obtain ⟨ad1, ea1, hy⟩ := at_int C2.out i (by rw [List.length_map]; exact hi)
            cases ea1
            rw [l_h hi] at hy
            obtain ⟨hv, hhv⟩ : ∃ hv, hv = ((l.getD i zRH).2 : Int) := ⟨_, rfl⟩
            rw [← hhv] at hy
            have HV := Aside0.mk hhv
            clear hhv
            have XE := Aside0.mk hxx
            have X0 := Aside0.mk hx0
            have X1 := Aside0.mk hx1
            have X2 := Aside0.mk hx2
            have X3 := Aside0.mk hx3
            have Y0 := Aside0.mk hy
            clear hxx hx0 hx1 hx2 hx3 hy
            have x0 := (HB.out.cell (World.block_lt_of_cell? wa _ X0.out)).trans X0.out
            have x1 := (HB.out.cell (World.block_lt_of_cell? wa _ X1.out)).trans X1.out
            have x2 := (HB.out.cell (World.block_lt_of_cell? wa _ X2.out)).trans X2.out
            have x3 := (HB.out.cell (World.block_lt_of_cell? wa _ X3.out)).trans X3.out
            have y0 := (HB.out.cell (World.block_lt_of_cell? wa _ Y0.out)).trans Y0.out
            by_cases hin : i = n
            · have HIN := Aside0.mk hin
              have d2 : decide ((i : Int) = (n : Int)) = true := decide_eq_true (by omega)
              have d3 : decide (i = n) = true := decide_eq_true hin
              have d4 : ((i : Int) == (n : Int)) = true := beq_iff_eq.mpr (by omega)
              clear hin
              go_wp2_with (first | ((with_reducible refine gate_builtin (b := .append) (xs := #[.tmp 47, .tmp 49]) rfl ?_); at_builtin; refine Kd.R_append k28 (w0 := wa) wa.heap.size rfl (.tmp 47) (.tmp 49) 22 28 (.agg #[(.string ⟨#[]⟩), (.int .u64 0), (.int .i64 0), (.string ⟨#[]⟩)]) 48 rfl Try.underlying22 info28 rfl (by decide) (by omega) u9 ((outP l n (r, clampH hgt) i).map (·.1)) r [.string r.f0, .int .u64 r.f1, .int .i64 r.f2, .string r.f3] (fun _ => True) (fun _ => False) rfl rfl ?aP (fun _ hk => hk.elim) ?aF ?aO ?aB ?aS ?aL ?_; (case aP => exact k28_mkM _ _ _ r); (case aB => exact HB.out); (case aF => exact (fun _ _ => trivial)); (case aO => exact H9.out); (case aS => exact below_size HB.out); (case aL => exact aL_ LEN.out (by simp)); intro v9a w9a ho hb hg hat; have n0_ := Aside0.mk (R3_grown H10.out H9.out hg); have n1_ := Aside0.mk ho; have n2_ := Aside0.mk hb; clear H9 H10 HB ho hb hg hat g0 x0 x1 x2 x3 q0 q1 q2 q3 y0 g1; have H9 := n1_; have H10 := n0_; have HB := n2_; clear n0_ n1_ n2_; have g0 := (HB.out.cell (World.block_lt_of_cell? wa _ G0.out)).trans G0.out; have g1 := (HB.out.cell (World.block_lt_of_cell? wa _ G1.out)).trans G1.out; have y0 := (HB.out.cell (World.block_lt_of_cell? wa _ Y0.out)).trans Y0.out; have x0 := (HB.out.cell (World.block_lt_of_cell? wa _ X0.out)).trans X0.out; have x1 := (HB.out.cell (World.block_lt_of_cell? wa _ X1.out)).trans X1.out; have x2 := (HB.out.cell (World.block_lt_of_cell? wa _ X2.out)).trans X2.out; have x3 := (HB.out.cell (World.block_lt_of_cell? wa _ X3.out)).trans X3.out; have q0 := (HB.out.cell (World.block_lt_of_cell? wa _ Q0.out)).trans Q0.out; have q1 := (HB.out.cell (World.block_lt_of_cell? wa _ Q1.out)).trans Q1.out; have q2 := (HB.out.cell (World.block_lt_of_cell? wa _ Q2.out)).trans Q2.out; have q3 := (HB.out.cell (World.block_lt_of_cell? wa _ Q3.out)).trans Q3.out) | ((with_reducible refine gate_builtin (b := .append) (xs := #[.tmp 51, .tmp 53]) rfl ?_); at_builtin; refine Kd.R_append (Kd.int .i64) (w0 := wa) wa.heap.size rfl (.tmp 51) (.tmp 53) 23 3 (.int .i64 0) 8 rfl Try.underlying23 info3 rfl (by decide) (by omega) u10 ((outP l n (r, clampH hgt) i).map (fun x => (x.2 : Int))) (hgt) [.int .i64 (hgt)] (fun _ => True) (fun _ => False) rfl rfl ?aP (fun _ hk => hk.elim) ?aF ?aO ?aB ?aS ?aL ?_; (case aP => exact rfl); (case aB => exact HB.out); (case aF => exact (fun _ _ => trivial)); (case aO => exact H10.out); (case aS => exact below_size HB.out); (case aL => exact aL3_ LEN.out (by simp)); intro v10a w10a ho hb hg hat; have n0_ := Aside0.mk (R28_grown H9.out H10.out hg); have n1_ := Aside0.mk ho; have n2_ := Aside0.mk hb; clear H9 H10 HB ho hb hg hat g0 x0 x1 x2 x3 q0 q1 q2 q3 y0 g1; have H10 := n1_; have H9 := n0_; have HB := n2_; clear n0_ n1_ n2_; have g0 := (HB.out.cell (World.block_lt_of_cell? wa _ G0.out)).trans G0.out; have g1 := (HB.out.cell (World.block_lt_of_cell? wa _ G1.out)).trans G1.out; have y0 := (HB.out.cell (World.block_lt_of_cell? wa _ Y0.out)).trans Y0.out; have x0 := (HB.out.cell (World.block_lt_of_cell? wa _ X0.out)).trans X0.out; have x1 := (HB.out.cell (World.block_lt_of_cell? wa _ X1.out)).trans X1.out; have x2 := (HB.out.cell (World.block_lt_of_cell? wa _ X2.out)).trans X2.out; have x3 := (HB.out.cell (World.block_lt_of_cell? wa _ X3.out)).trans X3.out; have q0 := (HB.out.cell (World.block_lt_of_cell? wa _ Q0.out)).trans Q0.out; have q1 := (HB.out.cell (World.block_lt_of_cell? wa _ Q1.out)).trans Q1.out; have q2 := (HB.out.cell (World.block_lt_of_cell? wa _ Q2.out)).trans Q2.out; have q3 := (HB.out.cell (World.block_lt_of_cell? wa _ Q3.out)).trans Q3.out) | ((with_reducible refine gate_builtin (b := .append) (xs := #[.tmp 55, .tmp 63]) rfl ?_); at_builtin; refine Kd.R_append k28 (w0 := wa) wa.heap.size rfl (.tmp 55) (.tmp 63) 22 28 (.agg #[(.string ⟨#[]⟩), (.int .u64 0), (.int .i64 0), (.string ⟨#[]⟩)]) 48 rfl Try.underlying22 info28 rfl (by decide) (by omega) v9a ((outP l n (r, clampH hgt) i).map (·.1) ++ [r]) x [.string x.f0, .int .u64 x.f1, .int .i64 x.f2, .string x.f3] (fun _ => True) (fun _ => False) rfl rfl ?aP (fun _ hk => hk.elim) ?aF ?aO ?aB ?aS ?aL ?_; (case aP => exact k28_mkM _ _ _ x); (case aB => exact HB.out); (case aF => exact (fun _ _ => trivial)); (case aO => exact H9.out); (case aS => exact below_size HB.out); (case aL => exact aL_ LEN.out (by simp)); intro v9b w9b ho hb hg hat; have n0_ := Aside0.mk (R3_grown H10.out H9.out hg); have n1_ := Aside0.mk ho; have n2_ := Aside0.mk hb; clear H9 H10 HB ho hb hg hat g0 x0 x1 x2 x3 q0 q1 q2 q3 y0 g1; have H9 := n1_; have H10 := n0_; have HB := n2_; clear n0_ n1_ n2_; have g0 := (HB.out.cell (World.block_lt_of_cell? wa _ G0.out)).trans G0.out; have g1 := (HB.out.cell (World.block_lt_of_cell? wa _ G1.out)).trans G1.out; have y0 := (HB.out.cell (World.block_lt_of_cell? wa _ Y0.out)).trans Y0.out; have x0 := (HB.out.cell (World.block_lt_of_cell? wa _ X0.out)).trans X0.out; have x1 := (HB.out.cell (World.block_lt_of_cell? wa _ X1.out)).trans X1.out; have x2 := (HB.out.cell (World.block_lt_of_cell? wa _ X2.out)).trans X2.out; have x3 := (HB.out.cell (World.block_lt_of_cell? wa _ X3.out)).trans X3.out; have q0 := (HB.out.cell (World.block_lt_of_cell? wa _ Q0.out)).trans Q0.out; have q1 := (HB.out.cell (World.block_lt_of_cell? wa _ Q1.out)).trans Q1.out; have q2 := (HB.out.cell (World.block_lt_of_cell? wa _ Q2.out)).trans Q2.out; have q3 := (HB.out.cell (World.block_lt_of_cell? wa _ Q3.out)).trans Q3.out) | ((with_reducible refine gate_builtin (b := .append) (xs := #[.tmp 65, .tmp 73]) rfl ?_); at_builtin; refine Kd.R_append (Kd.int .i64) (w0 := wa) wa.heap.size rfl (.tmp 65) (.tmp 73) 23 3 (.int .i64 0) 8 rfl Try.underlying23 info3 rfl (by decide) (by omega) v10a ((outP l n (r, clampH hgt) i).map (fun x => (x.2 : Int)) ++ [(hgt : Int)]) hv [.int .i64 hv] (fun _ => True) (fun _ => False) rfl rfl ?aP (fun _ hk => hk.elim) ?aF ?aO ?aB ?aS ?aL ?_; (case aP => exact rfl); (case aB => exact HB.out); (case aF => exact (fun _ _ => trivial)); (case aO => exact H10.out); (case aS => exact below_size HB.out); (case aL => exact aL3_ LEN.out (by simp)); intro v10b w10b ho hb hg hat; have n0_ := Aside0.mk (R28_grown H9.out H10.out hg); have n1_ := Aside0.mk ho; have n2_ := Aside0.mk hb; clear H9 H10 HB ho hb hg hat g0 x0 x1 x2 x3 q0 q1 q2 q3 y0 g1; have H10 := n1_; have H9 := n0_; have HB := n2_; clear n0_ n1_ n2_; have g0 := (HB.out.cell (World.block_lt_of_cell? wa _ G0.out)).trans G0.out; have g1 := (HB.out.cell (World.block_lt_of_cell? wa _ G1.out)).trans G1.out; have y0 := (HB.out.cell (World.block_lt_of_cell? wa _ Y0.out)).trans Y0.out; have x0 := (HB.out.cell (World.block_lt_of_cell? wa _ X0.out)).trans X0.out; have x1 := (HB.out.cell (World.block_lt_of_cell? wa _ X1.out)).trans X1.out; have x2 := (HB.out.cell (World.block_lt_of_cell? wa _ X2.out)).trans X2.out; have x3 := (HB.out.cell (World.block_lt_of_cell? wa _ X3.out)).trans X3.out; have q0 := (HB.out.cell (World.block_lt_of_cell? wa _ Q0.out)).trans Q0.out; have q1 := (HB.out.cell (World.block_lt_of_cell? wa _ Q1.out)).trans Q1.out; have q2 := (HB.out.cell (World.block_lt_of_cell? wa _ Q2.out)).trans Q2.out; have q3 := (HB.out.cell (World.block_lt_of_cell? wa _ Q3.out)).trans Q3.out) | fail)
              have e9 : (outP l n (r, clampH hgt) i).map (·.1) ++ [r] ++ [x] = (outP l n (r, clampH hgt) (i + 1)).map (·.1) := by rw [outP, if_pos HIN.out, ← XE.out, l_row hi]; simp
              have e10 : (outP l n (r, clampH hgt) i).map (fun x => (x.2 : Int)) ++ [(hgt : Int)] ++ [hv] = (outP l n (r, clampH hgt) (i + 1)).map (fun x => (x.2 : Int)) := by rw [outP, if_pos HIN.out, HV.out]; simp [← HCE.out]
              replace H9 := H9.out
              replace H10 := H10.out
              rw [e9] at H9
              rw [e10] at H10
              have hl1000 := HLN.out
              have ew : wrap64 ((i : Int) + 1) = ((i + 1 : Nat) : Int) := by unfold wrap64; omega
              try rw [ew]
              go_roundg q
              case measure => omega
              case rel => exact ⟨i + 1, rfl, ⟨by have := HK.out; omega⟩, ⟨H9⟩, ⟨H10⟩, HB⟩
            · have HIN := Aside0.mk hin
              have d2 : decide ((i : Int) = (n : Int)) = false := decide_eq_false (by omega)
              have d3 : decide (i = n) = false := decide_eq_false hin
              have d4 : ((i : Int) == (n : Int)) = false := beq_eq_false_iff_ne.mpr (by omega)
              clear hin
              go_wp2_with (first | ((with_reducible refine gate_builtin (b := .append) (xs := #[.tmp 55, .tmp 63]) rfl ?_); at_builtin; refine Kd.R_append k28 (w0 := wa) wa.heap.size rfl (.tmp 55) (.tmp 63) 22 28 (.agg #[(.string ⟨#[]⟩), (.int .u64 0), (.int .i64 0), (.string ⟨#[]⟩)]) 48 rfl Try.underlying22 info28 rfl (by decide) (by omega) u9 ((outP l n (r, clampH hgt) i).map (·.1)) x [.string x.f0, .int .u64 x.f1, .int .i64 x.f2, .string x.f3] (fun _ => True) (fun _ => False) rfl rfl ?aP (fun _ hk => hk.elim) ?aF ?aO ?aB ?aS ?aL ?_; (case aP => exact k28_mkM _ _ _ x); (case aB => exact HB.out); (case aF => exact (fun _ _ => trivial)); (case aO => exact H9.out); (case aS => exact below_size HB.out); (case aL => exact aL_ LEN.out (by simp)); intro v9b w9b ho hb hg hat; have n0_ := Aside0.mk (R3_grown H10.out H9.out hg); have n1_ := Aside0.mk ho; have n2_ := Aside0.mk hb; clear H9 H10 HB ho hb hg hat g0 x0 x1 x2 x3 q0 q1 q2 q3 y0 g1; have H9 := n1_; have H10 := n0_; have HB := n2_; clear n0_ n1_ n2_; have g0 := (HB.out.cell (World.block_lt_of_cell? wa _ G0.out)).trans G0.out; have g1 := (HB.out.cell (World.block_lt_of_cell? wa _ G1.out)).trans G1.out; have y0 := (HB.out.cell (World.block_lt_of_cell? wa _ Y0.out)).trans Y0.out; have x0 := (HB.out.cell (World.block_lt_of_cell? wa _ X0.out)).trans X0.out; have x1 := (HB.out.cell (World.block_lt_of_cell? wa _ X1.out)).trans X1.out; have x2 := (HB.out.cell (World.block_lt_of_cell? wa _ X2.out)).trans X2.out; have x3 := (HB.out.cell (World.block_lt_of_cell? wa _ X3.out)).trans X3.out; have q0 := (HB.out.cell (World.block_lt_of_cell? wa _ Q0.out)).trans Q0.out; have q1 := (HB.out.cell (World.block_lt_of_cell? wa _ Q1.out)).trans Q1.out; have q2 := (HB.out.cell (World.block_lt_of_cell? wa _ Q2.out)).trans Q2.out; have q3 := (HB.out.cell (World.block_lt_of_cell? wa _ Q3.out)).trans Q3.out) | ((with_reducible refine gate_builtin (b := .append) (xs := #[.tmp 65, .tmp 73]) rfl ?_); at_builtin; refine Kd.R_append (Kd.int .i64) (w0 := wa) wa.heap.size rfl (.tmp 65) (.tmp 73) 23 3 (.int .i64 0) 8 rfl Try.underlying23 info3 rfl (by decide) (by omega) u10 ((outP l n (r, clampH hgt) i).map (fun x => (x.2 : Int))) hv [.int .i64 hv] (fun _ => True) (fun _ => False) rfl rfl ?aP (fun _ hk => hk.elim) ?aF ?aO ?aB ?aS ?aL ?_; (case aP => exact rfl); (case aB => exact HB.out); (case aF => exact (fun _ _ => trivial)); (case aO => exact H10.out); (case aS => exact below_size HB.out); (case aL => exact aL3_ LEN.out (by simp)); intro v10b w10b ho hb hg hat; have n0_ := Aside0.mk (R28_grown H9.out H10.out hg); have n1_ := Aside0.mk ho; have n2_ := Aside0.mk hb; clear H9 H10 HB ho hb hg hat g0 x0 x1 x2 x3 q0 q1 q2 q3 y0 g1; have H10 := n1_; have H9 := n0_; have HB := n2_; clear n0_ n1_ n2_; have g0 := (HB.out.cell (World.block_lt_of_cell? wa _ G0.out)).trans G0.out; have g1 := (HB.out.cell (World.block_lt_of_cell? wa _ G1.out)).trans G1.out; have y0 := (HB.out.cell (World.block_lt_of_cell? wa _ Y0.out)).trans Y0.out; have x0 := (HB.out.cell (World.block_lt_of_cell? wa _ X0.out)).trans X0.out; have x1 := (HB.out.cell (World.block_lt_of_cell? wa _ X1.out)).trans X1.out; have x2 := (HB.out.cell (World.block_lt_of_cell? wa _ X2.out)).trans X2.out; have x3 := (HB.out.cell (World.block_lt_of_cell? wa _ X3.out)).trans X3.out; have q0 := (HB.out.cell (World.block_lt_of_cell? wa _ Q0.out)).trans Q0.out; have q1 := (HB.out.cell (World.block_lt_of_cell? wa _ Q1.out)).trans Q1.out; have q2 := (HB.out.cell (World.block_lt_of_cell? wa _ Q2.out)).trans Q2.out; have q3 := (HB.out.cell (World.block_lt_of_cell? wa _ Q3.out)).trans Q3.out) | fail)
              have e9 : (outP l n (r, clampH hgt) i).map (·.1) ++ [x] = (outP l n (r, clampH hgt) (i + 1)).map (·.1) := by rw [outP, if_neg HIN.out, ← XE.out, l_row hi]; simp
              have e10 : (outP l n (r, clampH hgt) i).map (fun x => (x.2 : Int)) ++ [hv] = (outP l n (r, clampH hgt) (i + 1)).map (fun x => (x.2 : Int)) := by rw [outP, if_neg HIN.out, HV.out]; simp
              replace H9 := H9.out
              replace H10 := H10.out
              rw [e9] at H9
              rw [e10] at H10
              have hl1000 := HLN.out
              have ew : wrap64 ((i : Int) + 1) = ((i + 1 : Nat) : Int) := by unfold wrap64; omega
              try rw [ew]
              go_roundg q
              case measure => omega
              case rel => exact ⟨i + 1, rfl, ⟨by have := HK.out; omega⟩, ⟨H9⟩, ⟨H10⟩, HB⟩
end Go.Proofs.Ytfemebenkbobnaa.SK
