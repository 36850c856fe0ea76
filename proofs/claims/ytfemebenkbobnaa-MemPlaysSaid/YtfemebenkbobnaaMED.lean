import Derived.Test.YtfemebenkbobnaaMEC
/- The law MemPlays, walked. Conditions: none. -/
namespace Go.Proofs.Ytfemebenkbobnaa.SM
set_option linter.unusedVariables false
set_option linter.unusedSimpArgs false
open Go.RowKit Go.Shelf Go.Proofs.YtfemebenkbobnaaW.PrintWords Go.Proofs.YtfemebenkbobnaaW.PrintLast Go.Proofs.YtfemebenkbobnaaW.PrintMore Go.Proofs.Ytfemebenkbobnaa.PB06
open Go.Proofs.Ytfemebenkbobnaa.H (S84 k84 z84 at_T84)
theorem below_none {w w1 : World} (h : w.grownBy w1 none) : Below w.heap.size w w1 := ⟨h.os, h.tape, h.output, h.size, fun i hi => h.block i hi (by simp)⟩
section
variable {w0 w w1 : World} {ga : Nat} {rs : List Nd} {t : Ts} {A : Option Addr} {c i : Nat}
/-- A row of writes of one's own has been written. -/
theorem St.row72 {v : Value} {ys : List S72} (h : St w0 w ga rs t A c i) (hR : Kd.R k72 72 w w0.heap.size (fun _ => True) v ys) (hgr : w.grownBy w1 v.ownBlock) : St w0 w1 ga rs t A c i := by
  cases hv : v.ownBlock with
  | none => rw [hv] at hgr; exact h.below (below_none hgr)
  | some g =>
    obtain ⟨inner, ho⟩ := Kd.R_own hR
    obtain ⟨cs, hc⟩ := own_typed ho g hv
    rw [hv] at hgr
    exact h.grown hc (.inr rfl) hgr (own_base ho g hv)
theorem blk72 {go q : Nat} {cs : Array Value} {base : Nat} {ok : Nat → Prop} {v : Value} {ys : List S72} (hc : w.heap[go]? = some (.cells cs q (0, 0))) (hR : Kd.R k72 72 w base ok v ys) (hq : 72 ≠ q) (hgr : w.grownBy w1 v.ownBlock) : w1.heap[go]? = some (.cells cs q (0, 0)) := blk_grown hc hgr (Kd.R_ne hR hc hq)
end
theorem addr_add (g n : Nat) : (⟨g, 0, none⟩ : Addr).add n = ⟨g, n, none⟩ := by
  unfold Addr.add
  by_cases h : n = 0 <;> simp [h]
theorem own_addr {α : Type} {d : Kd α} {e : Nat} {w : World} {base : Nat} {ok : Nat → Prop} {A : Option Addr} {n c : Nat} {xs : List α} (h : d.R e w base ok (.slice A n c) xs) (hn : 0 < n) : ∃ g, A = some ⟨g, 0, none⟩ ∧ base ≤ g := by
  obtain ⟨inner, ho⟩ := Kd.R_own h
  rcases ho.2 with ⟨hv, _⟩ | ⟨g, cap', cur, hv, hb, hh⟩
  · injection hv with _ h2
    omega
  · injection hv with h1
    exact ⟨g, h1, hb⟩
theorem at_own {α : Type} {d : Kd α} {e : Nat} {w : World} {base : Nat} {ok : Nat → Prop} {g n c : Nat} {xs : List α} (h : d.R e w base ok (.slice (some ⟨g, 0, none⟩) n c) xs) (z : α) (j : Nat) (hj : j < n) : ∃ cs : List Value, cs.length = d.sz ∧ ∀ q u, cs[q]? = some u → w.cell? ⟨g, (j : Int).toNat * d.sz + q, none⟩ = some u := by
  have h1 := Kd.R_reads' h
  obtain ⟨ad, cs, e, hl, _, hc⟩ := Kd.C_get h1.2.2 z (j : Int) (by omega) (by have := h1.1; omega)
  injection e with e
  subst e
  refine ⟨cs, hl, fun q u hq => ?_⟩
  have := hc q u hq
  rw [addr_add] at this
  exact this
theorem size72 : (Try.prog.info? 72).map (·.size) = some 3 := by kernel_rfl
section
variable {ops : Array Oper} {rest : List Oper} {o : Oper} {a : Act} {Q : Exit → Act → World → Prop}
/-- l[j] = Row{}: a row of one's own is blanked, one place. -/
theorem blank28 {w0 W : World} (base : Nat) (hN : o.dst = none) (hgd : o.guard = none) (p x : Operand) (ho : o.op = .store 28 p x) {g n cap : Nat} (j : Nat) (xs : List S28) (haddr : a.eval p = .pointer (some ((⟨g, 0, none⟩ : Addr).add (j * 4)))) (hx : a.eval x = .agg #[.string ⟨#[]⟩, .int .u64 0, .int .i64 0, .string ⟨#[]⟩])
    (HO : Kd.R k28 28 W base (fun _ => True) (.slice (some ⟨g, 0, none⟩) n cap) xs) (hj : j < n) (HB : Below base w0 W) (h : ∀ w1, Kd.R k28 28 w1 base (fun _ => True) (.slice (some ⟨g, 0, none⟩) n cap) (xs.set j z28) → Below base w0 w1 → W.grownBy w1 (some g) → wpList Try.prog ops Q rest a w1) : wpList Try.prog ops Q (o :: rest) a W := by
  obtain ⟨cs, hl, hc⟩ := at_own HO z28 j hj
  rw [addr_add] at haddr
  refine Kd.R_store k28 (w0 := w0) base hN hgd 28 p x ho 28 (g := g) (n := n) (cap := cap) (o' := j * 4) (j : Int) 0 xs z28 _ [.string ⟨#[]⟩, .int .u64 0, .int .i64 0, .string ⟨#[]⟩] cs (fun _ => True) (fun _ => False) haddr rfl hx rfl size28 (by decide) HO (by omega) (by omega) hl hc (by decide) ?_ (fun _ hk => hk.elim) HB h
  have e : cs.drop (0 + [Value.string ⟨#[]⟩, .int .u64 0, .int .i64 0, .string ⟨#[]⟩].length) = [] := List.drop_eq_nil_of_le (by rw [hl]; exact Nat.le_refl _)
  rw [e, List.take_zero, List.nil_append, List.append_nil]
  exact k28_mkM W base _ z28
/-- l[j] = Write{}. -/
theorem blank72 {w0 W : World} (base : Nat) (hN : o.dst = none) (hgd : o.guard = none) (p x : Operand) (ho : o.op = .store 72 p x) {g n cap : Nat} (j : Nat) (xs : List S72) (haddr : a.eval p = .pointer (some ((⟨g, 0, none⟩ : Addr).add (j * 3)))) (hx : a.eval x = .agg #[.int .i64 0, .string ⟨#[]⟩, .string ⟨#[]⟩])
    (HO : Kd.R k72 72 W base (fun _ => True) (.slice (some ⟨g, 0, none⟩) n cap) xs) (hj : j < n) (HB : Below base w0 W) (h : ∀ w1, Kd.R k72 72 w1 base (fun _ => True) (.slice (some ⟨g, 0, none⟩) n cap) (xs.set j z72) → Below base w0 w1 → W.grownBy w1 (some g) → wpList Try.prog ops Q rest a w1) : wpList Try.prog ops Q (o :: rest) a W := by
  obtain ⟨cs, hl, hc⟩ := at_own HO z72 j hj
  rw [addr_add] at haddr
  refine Kd.R_store k72 (w0 := w0) base hN hgd 72 p x ho 72 (g := g) (n := n) (cap := cap) (o' := j * 3) (j : Int) 0 xs z72 _ [.int .i64 0, .string ⟨#[]⟩, .string ⟨#[]⟩] cs (fun _ => True) (fun _ => False) haddr rfl hx rfl size72 (by decide) HO (by omega) (by omega) hl hc (by decide) ?_ (fun _ hk => hk.elim) HB h
  have e : cs.drop (0 + [Value.int .i64 0, .string ⟨#[]⟩, .string ⟨#[]⟩].length) = [] := List.drop_eq_nil_of_le (by rw [hl]; exact Nat.le_refl _)
  rw [e, List.take_zero, List.nil_append, List.append_nil]
  exact k72_mkM W base _ z72
end
theorem grown_set (w : World) (g j : Nat) (u : Value) : w.grownBy (w.setCell ⟨g, j, none⟩ u) (some g) := ⟨rfl, rfl, rfl, by simp [World.setCell], fun k _ hk => Below.heap_setCell w _ u k (fun e => hk (by rw [e]))⟩
theorem St.set58 {w0 w : World} {ga : Nat} {rs : List Nd} {t : Ts} {A : Option Addr} {c i : Nat} {gp : Nat} {cs : Array Value} (h : St w0 w ga rs t A c i) (hP : w.heap[gp]? = some (.cells cs 58 (0, 0))) (hlo : w0.heap.size ≤ gp) (j : Nat) (u : Value) : St w0 (w.setCell ⟨gp, j, none⟩ u) ga rs t A c i := h.grown hP (.inl rfl) (grown_set w gp j u) hlo
theorem ne58 {w : World} {go gp : Nat} {cs cs' : Array Value} (h1 : w.heap[go]? = some (.cells cs 84 (0, 0))) (h2 : w.heap[gp]? = some (.cells cs' 58 (0, 0))) : go ≠ gp := fun e => by
  subst e
  rw [h1] at h2
  cases h2
attribute [local go_sem high] eqA28
set_option maxHeartbeats 8000000 in
set_option maxRecDepth 100000 in
theorem memPlays_calls (w : World) (A0 : Option Addr) (c0 : Nat) (xs : List S84) (hr0 : k84.C w A0 xs.length xs) (hc0 : xs.length ≤ c0) :
    Calls Try.prog 16 #[.slice A0 xs.length c0] w fun e w' => e = .returned (.bool true) ∧ Below w.heap.size w w' := by
  have HR0 := Aside0.mk hr0
  have HC0 := Aside0.mk hc0
  clear hr0 hc0
  go_enter Try.func16, Try.ntmps16
  go_wp2_with fail
  refine (long_calls w A0 c0 xs HR0.out).mono ?_
  rintro e w1 ⟨b, rfl, hF, hb⟩
  have HB := Aside0.mk hb
  clear hb
  cases b with
  | true =>
    clear hF
    go_wp2_with fail
    refine (awake09_calls _).mono ?_
    rintro e w2 ⟨rfl, hb⟩
    have HB2 := Aside0.mk (below_step HB.out hb)
    clear hb HB
    go_wp2_with fail
    go_ret
    exact ⟨rfl, HB2.out⟩
  | false =>
    have FT := Aside0.mk (hF.mp rfl)
    clear hF
    go_wp2_with fail
    refine (new_calls _).mono ?_
    rintro e w2 ⟨ga, rfl, hs, hg, hb⟩
    have ST := Aside0.mk (show St w w2 ga [] ⟨[], 0, 0, 0⟩ none 0 0 from ⟨hs, rfl, Kd.R_nil _ _ _ _ _, fun k hk => by rw [fp_mem] at hk; simp at hk; rw [hk]; exact Nat.le_trans HB.out.size hg, below_step HB.out hb, told_nil, ⟨by simp, by simp, by simp, fun p hp => by simp at hp⟩⟩)
    clear hs hg hb HB
    go_wp2_with fail
    go_loopg [4, 5, 6, 7, 8, 9, 10, 11, 12, 13, 14, 15, 16] xs.length (fun kq v4 v5 v6 v7 v8 v9 v10 v11 v12 v13 v14 v15 v16 w' => ∃ (i : Nat) (rs : List Nd) (t : Ts) (A : Option Addr) (c : Nat), v4 = .slice A t.l.length c ∧ v5 = .int .i64 (i : Int) ∧ Aside0 (kq + i = xs.length) ∧ Aside0 (St w w' ga rs t A c i))
    case atStart => exact ⟨0, [], ⟨[], 0, 0, 0⟩, none, 0, rfl, rfl, ⟨by omega⟩, ST⟩
    case round =>
      clear ST
      obtain ⟨i, rs, t, A, c, rfl, rfl, HK, ST⟩ := hrel
      have HI := Aside0.mk (show i ≤ 60 by have := HK.out; have := FT.out.1; omega)
      cases gk with
      | zero =>
        have ei : i = xs.length := by have := HK.out; omega
        subst ei
        have d0 : decide ((xs.length : Int) < (xs.length : Int)) = false := by simp
        go_wp2_with fail
        refine (rows_c ST.out (by have := HI.out; omega)).mono ?_
        rintro e w5 ⟨v, rfl, hR, hb⟩
        obtain ⟨Al, cl, hv⟩ := Kd.R_slice hR
        subst hv
        have CA := Aside0.mk (Kd.R_reads' hR).2.2
        have CAc := Aside0.mk (Kd.R_reads' hR).2.1
        have n0_ := Aside0.mk (ST.out.below hb)
        clear hR ST hb
        have ST := n0_
        clear n0_
        go_wp2_with fail
        have hsm := same_true w5 Al cl A c (t.l.map (·.1)) CA.out CAc.out ST.out.reads.2 (by rw [List.length_map]; exact ST.out.reads.1) (by rw [List.length_map]; have := ST.out.len (by have := HI.out; omega); omega)
        rw [List.length_map] at hsm
        refine (hsm).mono ?_
        rintro e w6 ⟨rfl, hb⟩
        have n0_ := Aside0.mk (ST.out.below hb)
        clear hsm ST hb CA CAc
        have ST := n0_
        clear n0_
        go_wp2_with fail
        refine (awake09_calls _).mono ?_
        rintro e w7 ⟨rfl, hb⟩
        have HB2 := Aside0.mk (below_step ST.out.bel hb)
        clear hb ST
        go_wp2_with fail
        go_ret
        exact ⟨rfl, HB2.out⟩
      | succ q =>
        have hi : i < xs.length := by have := HK.out; omega
        have d0 : decide ((i : Int) < (xs.length : Int)) = true := decide_eq_true (by omega)
        have d1_ : decide (i < xs.length) = true := decide_eq_true hi
        have p0 : 0 ≤ (i : Int) := Int.natCast_nonneg _
        have p1 : (i : Int) < (xs.length : Int) := Int.ofNat_lt.mpr hi
        obtain ⟨ad, x, X1, d1, X2, d2, ea, hxm, hx0, hx1, hx2, hx3, hx4, hx5, hx6, hl1, hC1, hl2, hC2⟩ := at_T84 HR0.out i hi
        cases ea
        have FX := Aside0.mk (FT.out.2 x hxm)
        have L1 := Aside0.mk hl1
        have C1 := Aside0.mk hC1
        have L2 := Aside0.mk hl2
        have C2 := Aside0.mk hC2
        have HB := Aside0.mk ST.out.bel
        have x0 := (HB.out.cell (World.block_lt_of_cell? w _ hx0)).trans hx0
        have x1 := (HB.out.cell (World.block_lt_of_cell? w _ hx1)).trans hx1
        have x2 := (HB.out.cell (World.block_lt_of_cell? w _ hx2)).trans hx2
        have x3 := (HB.out.cell (World.block_lt_of_cell? w _ hx3)).trans hx3
        have x4 := (HB.out.cell (World.block_lt_of_cell? w _ hx4)).trans hx4
        have x5 := (HB.out.cell (World.block_lt_of_cell? w _ hx5)).trans hx5
        have x6 := (HB.out.cell (World.block_lt_of_cell? w _ hx6)).trans hx6
        clear hxm hx0 hx1 hx2 hx3 hx4 hx5 hx6 HB hl1 hC1 hl2 hC2
        have n0_ : Aside0 (St w (wr.alloc (.cells #[.int .i64 x.d, .int .u64 x.b.f0, .slice X1 x.b.f1.length d1, .slice X2 x.hs.length d2, .string x.fr, .string x.to_, .int .u64 x.at_] 84)) ga rs t A c i) := Aside0.mk (ST.out.below ((Below.refl wr.heap.size wr).alloc (Nat.le_refl _) (.cells #[.int .i64 x.d, .int .u64 x.b.f0, .slice X1 x.b.f1.length d1, .slice X2 x.hs.length d2, .string x.fr, .string x.to_, .int .u64 x.at_] 84)))
        have BO := Aside0.mk (blk_new wr (.cells #[.int .i64 x.d, .int .u64 x.b.f0, .slice X1 x.b.f1.length d1, .slice X2 x.hs.length d2, .string x.fr, .string x.to_, .int .u64 x.at_] 84))
        clear ST
        have ST := n0_
        clear n0_
        by_cases k1 : x.d = 1
        · have e1 : (x.d == 1) = true := beq_iff_eq.mpr k1
          have e2 : decide (x.d = 1) = true := decide_eq_true k1
          clear k1
          have z0 : (wr.alloc (.cells #[.int .i64 x.d, .int .u64 x.b.f0, .slice X1 x.b.f1.length d1, .slice X2 x.hs.length d2, .string x.fr, .string x.to_, .int .u64 x.at_] 84)).cell? ⟨wr.heap.size, 0, none⟩ = some (.int .i64 x.d) := (blk_cell BO.out 0).trans rfl
          go_wp2_with fail
          clear z0 e1 e2
          clear x0 x1 x2 x3 x4 x5 x6
          generalize wr.heap.size = go at *
          generalize wr.alloc (.cells #[.int .i64 x.d, .int .u64 x.b.f0, .slice X1 x.b.f1.length d1, .slice X2 x.hs.length d2, .string x.fr, .string x.to_, .int .u64 x.at_] 84) = w4 at *
          refine start_ (n := 11) (S := fun w' => w'.heap[go]? = some (.cells #[.int .i64 x.d, .int .u64 x.b.f0, .slice X1 x.b.f1.length d1, .slice X2 x.hs.length d2, .string x.fr, .string x.to_, .int .u64 x.at_] 84 (0, 0))) (ds := []) #[false, false, false, false, false, false, false, false, false, false, false] (by kernel_rfl) rfl rfl (blk_drew BO.out) (fun hHeld => ?_)
          have n0_ : Aside0 (St w w4.drew ga rs t A c i) := Aside0.mk (ST.out.below (pw_below_drewN (Below.refl _ _) 1))
          clear ST BO
          generalize w4.drew = wd at *
          have ST := n0_
          clear n0_
          -- 0: Op.fieldAddr 84 t6 1
          refine pure_ (i := 0) (N := (some 35)) (v := ?_) (a' := ?_) #[true, false, false, false, false, false, false, false, false, false, false] rfl rfl (by kernel_rfl) (fun _ _ _ h => h) (Or.inl ⟨by rfl, ?_⟩) ?_ ?_
          rotate_left
          · intro w'
            go_simp
            with_reducible rfl
          rotate_left
          · simp only [Act.put, List.setIfInBounds_toArray, List.set_cons_zero, List.set_cons_succ, i64_w, i32_w]
            rfl
          -- 1: Op.fieldAddr 58 t35 0
          refine pure_ (i := 1) (N := (some 36)) (v := ?_) (a' := ?_) #[true, true, false, false, false, false, false, false, false, false, false] rfl rfl (by kernel_rfl) (fun _ _ _ h => h) (Or.inl ⟨by rfl, ?_⟩) ?_ ?_
          rotate_left
          · intro w'
            go_simp
            with_reducible rfl
          rotate_left
          · simp only [Act.put, List.setIfInBounds_toArray, List.set_cons_zero, List.set_cons_succ, i64_w, i32_w]
            rfl
          -- 2: Op.load 24 t36
          refine take_ (i := 2) (N := (some 37)) (v := ?_) (a' := ?_) #[true, true, true, false, false, false, false, false, false, false, false] rfl rfl (by kernel_rfl) (fun _ _ _ h => h) (Or.inl ⟨by rfl, ?_⟩) hHeld ?_ ?_
          rotate_left
          · rintro w' s0
            have z1 : w'.cell? ⟨go, 1, none⟩ = some (.int .u64 x.b.f0) := (blk_cell s0 1).trans rfl
            have z2 : w'.cell? ⟨go, 2, none⟩ = some (.slice X1 x.b.f1.length d1) := (blk_cell s0 2).trans rfl
            go_simp
            with_reducible rfl
          rotate_left
          · simp only [Act.put, List.setIfInBounds_toArray, List.set_cons_zero, List.set_cons_succ, i64_w, i32_w]
            rfl
          -- 4: Op.fieldAddr 84 t6 1
          refine pure_ (i := 4) (N := (some 39)) (v := ?_) (a' := ?_) #[true, true, true, false, true, false, false, false, false, false, false] rfl rfl (by kernel_rfl) (fun _ _ _ h => h) (Or.inl ⟨by rfl, ?_⟩) ?_ ?_
          rotate_left
          · intro w'
            go_simp
            with_reducible rfl
          rotate_left
          · simp only [Act.put, List.setIfInBounds_toArray, List.set_cons_zero, List.set_cons_succ, i64_w, i32_w]
            rfl
          -- 5: Op.fieldAddr 58 t39 1
          refine pure_ (i := 5) (N := (some 40)) (v := ?_) (a' := ?_) #[true, true, true, false, true, true, false, false, false, false, false] rfl rfl (by kernel_rfl) (fun _ _ _ h => h) (Or.inl ⟨by rfl, ?_⟩) ?_ ?_
          rotate_left
          · intro w'
            go_simp
            with_reducible rfl
          rotate_left
          · simp only [Act.put, List.setIfInBounds_toArray, List.set_cons_zero, List.set_cons_succ, i64_w, i32_w]
            rfl
          -- 6: Op.load 56 t40
          refine take_ (i := 6) (N := (some 41)) (v := ?_) (a' := ?_) #[true, true, true, false, true, true, true, false, false, false, false] rfl rfl (by kernel_rfl) (fun _ _ _ h => h) (Or.inl ⟨by rfl, ?_⟩) hHeld ?_ ?_
          rotate_left
          · rintro w' s0
            have z1 : w'.cell? ⟨go, 1, none⟩ = some (.int .u64 x.b.f0) := (blk_cell s0 1).trans rfl
            have z2 : w'.cell? ⟨go, 2, none⟩ = some (.slice X1 x.b.f1.length d1) := (blk_cell s0 2).trans rfl
            go_simp
            with_reducible rfl
          rotate_left
          · simp only [Act.put, List.setIfInBounds_toArray, List.set_cons_zero, List.set_cons_succ, i64_w, i32_w]
            rfl
          refine join_ (σ := Value × Option Addr × Nat × Nat) 1 #[true, true, true, true, true, true, true, true, true, true, false] (fun s : Value × Option Addr × Nat × Nat => [(38, s.1), (42, .slice s.2.1 x.b.f1.length s.2.2.1), (43, .agg #[.int .u64 x.b.f0, .slice s.2.1 x.b.f1.length s.2.2.1]), (7, .pointer (some ⟨s.2.2.2, 0, none⟩))]) (fun (s : Value × Option Addr × Nat × Nat) w' => St w w' ga rs t A c i ∧ Kd.R k72 72 w' w.heap.size (fun _ => True) (.slice s.2.1 x.b.f1.length s.2.2.1) x.b.f1 ∧ w'.heap[s.2.2.2]? = some (.cells #[.int .u64 0, .slice none 0 0] 58 (0, 0)) ∧ w'.heap[go]? = some (.cells #[.int .i64 x.d, .int .u64 x.b.f0, .slice X1 x.b.f1.length d1, .slice X2 x.hs.length d2, .string x.fr, .string x.to_, .int .u64 x.at_] 84 (0, 0)) ∧ w.heap.size ≤ s.2.2.2 ∧ go ≠ s.2.2.2) ?_ (fun hcont => ?_)
          rotate_left
          · refine two_ (i := 3) (j := 9) (Ni := (some 38)) (Nj := (some 7)) #[true, true, true, true, true, true, true, false, false, false, false] #[true, true, true, false, true, true, true, false, false, true, false] rfl rfl rfl rfl (by kernel_rfl) (by decide) (by decide) (fun K hK => ?_) (fun K hK => ?_)
            · refine Kd.R_lit_step k72 (w0 := w) w.heap.size 72 ?hg (N := 38) ?hd (xs := ([] : List S72)) (inner := []) (ok := fun _ => True) (okp := fun _ => True) ?hr ?hp (fun _ hk => hk) trivial ST.out.bel ST.out.bel.size (by simp) ?_; (case hd => rfl); (case hg => rfl); (case hr => first | (go_simp; done) | (go_simp; rfl)); (case hp => exact (Reps.none _ _))
              intro v38 wn1 hR38 hbb hgb hnb
              have hOld := hHeld
              clear hHeld
              refine hK.out _ _ (blk_below hOld (below_none hgb)) (fun hHeld => ?_)
              clear hOld hK K
              refine norm_ (a' := ?_) ?_ ?_
              rotate_left
              · show Act.put _ (some 38) _ = _
                simp only [Act.put, List.setIfInBounds_toArray, List.set_cons_zero, List.set_cons_succ, i64_w, i32_w]
                rfl
              have n0_ := Aside0.mk (ST.out.below (below_none hgb))
              have R3 := Aside0.mk hR38
              clear ST hR38 hbb hgb hnb
              have ST := n0_
              clear n0_
              refine two_ (i := 7) (j := 9) (Ni := (some 42)) (Nj := (some 7)) #[true, true, true, true, true, true, true, true, false, false, false] #[true, true, true, true, true, true, true, false, false, true, false] rfl rfl rfl rfl (by kernel_rfl) (by decide) (by decide) (fun K hK => ?_) (fun K hK => ?_)
              · refine Kd.R_append_rows_step k72 (w0 := w) w.heap.size (by rfl) (.tmp 38) (.tmp 41) 56 72 (.agg #[(.int .i64 0), (.string ⟨#[]⟩), (.string ⟨#[]⟩)]) 40 rfl Try.underlying56 info72 rfl (by decide) (by omega) v38 [] x.b.f1 X1 x.b.f1.length d1 (fun _ => True) (fun _ => False) rfl rfl ?aO ?aR (fun _ _ h => h) (fun _ h => h.elim) ?aF ?aB ?aS ?aL ?_; (case aR => exact (Kd.C_below C1.out ST.out.bel)); (case aB => exact ST.out.bel); (case aF => exact (fun _ _ => trivial)); (case aO => exact R3.out); (case aS => exact ST.out.bel.size); (case aL => (have h1 := FX.out.1; simp; omega))
                intro v42 wn2 ho hb_ hgr hat
                rw [List.nil_append] at ho
                obtain ⟨B, cB, hv42⟩ := Kd.R_slice ho
                subst hv42
                have hOld := hHeld
                clear hHeld
                refine hK.out _ _ (blk72 hOld R3.out (by decide) hgr) (fun hHeld => ?_)
                clear hOld hK K
                refine norm_ (a' := ?_) ?_ ?_
                rotate_left
                · show Act.put _ (some 42) _ = _
                  simp only [Act.put, List.setIfInBounds_toArray, List.set_cons_zero, List.set_cons_succ, i64_w, i32_w]
                  rfl
                have n0_ := Aside0.mk (ST.out.row72 R3.out hgr)
                have R4 := Aside0.mk ho
                clear ST ho hb_ hgr hat R3
                have ST := n0_
                clear n0_
                -- 8: Op.build 58 #[(0, t37), (1, t42)]
                refine pure_ (i := 8) (N := (some 43)) (v := ?_) (a' := ?_) #[true, true, true, true, true, true, true, true, true, false, false] rfl rfl (by kernel_rfl) (fun _ _ _ h => h) (Or.inl ⟨by rfl, ?_⟩) ?_ ?_
                rotate_left
                · intro w'
                  go_simp
                  with_reducible rfl
                rotate_left
                · simp only [Act.put, List.setIfInBounds_toArray, List.set_cons_zero, List.set_cons_succ, i64_w, i32_w]
                  rfl
                -- 9: Op.alloc 58
                refine one_ (i := 9) (N := (some 7)) #[true, true, true, true, true, true, true, true, true, true, false] rfl rfl (by kernel_rfl) (by decide) (fun K hK => ?_)
                refine box_step ?hg (N := 7) ?hd (cs := #[.int .u64 0, .slice none 0 0]) (t := 58) ?hr ?_; (case hd => rfl); (case hg => rfl); (case hr => first | (go_simp; done) | (go_simp; rfl))
                intro gp hgp wn3 hP hbP
                have hOld := hHeld
                clear hHeld
                refine hK.out _ _ (blk_below hOld hbP) (fun hHeld => ?_)
                clear hOld hK K
                refine norm_ (a' := ?_) ?_ ?_
                rotate_left
                · show Act.put _ (some 7) _ = _
                  simp only [Act.put, List.setIfInBounds_toArray, List.set_cons_zero, List.set_cons_succ, i64_w, i32_w]
                  rfl
                have GP := Aside0.mk (show w.heap.size ≤ gp by rw [hgp]; exact ST.out.bel.size)
                skip
                have n0_ := Aside0.mk (ST.out.below hbP)
                have n1_ := Aside0.mk (Kd.R_below R4.out hbP)
                clear R4
                have R4 := n1_
                clear n1_
                have HP := Aside0.mk hP
                clear ST hP hbP
                have ST := n0_
                clear n0_
                clear hgp
                exact hcont ⟨v38, B, cB, gp⟩ _ ⟨ST.out, R4.out, HP.out, hHeld, GP.out, ne58 hHeld HP.out⟩
              · refine box_step ?hg (N := 7) ?hd (cs := #[.int .u64 0, .slice none 0 0]) (t := 58) ?hr ?_; (case hd => rfl); (case hg => rfl); (case hr => first | (go_simp; done) | (go_simp; rfl))
                intro gp hgp wn2 hP hbP
                have hOld := hHeld
                clear hHeld
                refine hK.out _ _ (blk_below hOld hbP) (fun hHeld => ?_)
                clear hOld hK K
                refine norm_ (a' := ?_) ?_ ?_
                rotate_left
                · show Act.put _ (some 7) _ = _
                  simp only [Act.put, List.setIfInBounds_toArray, List.set_cons_zero, List.set_cons_succ, i64_w, i32_w]
                  rfl
                have GP := Aside0.mk (show w.heap.size ≤ gp by rw [hgp]; exact ST.out.bel.size)
                skip
                have n0_ := Aside0.mk (ST.out.below hbP)
                have n1_ := Aside0.mk (Kd.R_below R3.out hbP)
                clear R3
                have R3 := n1_
                clear n1_
                have HP := Aside0.mk hP
                clear ST hP hbP
                have ST := n0_
                clear n0_
                clear hgp
                -- 7: Op.call { builtin append, args := #[t38, t41], argTypes := #[56, 56] }
                refine one_ (i := 7) (N := (some 42)) #[true, true, true, true, true, true, true, true, false, true, false] rfl rfl (by kernel_rfl) (by decide) (fun K hK => ?_)
                refine Kd.R_append_rows_step k72 (w0 := w) w.heap.size (by rfl) (.tmp 38) (.tmp 41) 56 72 (.agg #[(.int .i64 0), (.string ⟨#[]⟩), (.string ⟨#[]⟩)]) 40 rfl Try.underlying56 info72 rfl (by decide) (by omega) v38 [] x.b.f1 X1 x.b.f1.length d1 (fun _ => True) (fun _ => False) rfl rfl ?aO ?aR (fun _ _ h => h) (fun _ h => h.elim) ?aF ?aB ?aS ?aL ?_; (case aR => exact (Kd.C_below C1.out ST.out.bel)); (case aB => exact ST.out.bel); (case aF => exact (fun _ _ => trivial)); (case aO => exact R3.out); (case aS => exact ST.out.bel.size); (case aL => (have h1 := FX.out.1; simp; omega))
                intro v42 wn3 ho hb_ hgr hat
                rw [List.nil_append] at ho
                obtain ⟨B, cB, hv42⟩ := Kd.R_slice ho
                subst hv42
                have hOld := hHeld
                clear hHeld
                refine hK.out _ _ (blk72 hOld R3.out (by decide) hgr) (fun hHeld => ?_)
                clear hOld hK K
                refine norm_ (a' := ?_) ?_ ?_
                rotate_left
                · show Act.put _ (some 42) _ = _
                  simp only [Act.put, List.setIfInBounds_toArray, List.set_cons_zero, List.set_cons_succ, i64_w, i32_w]
                  rfl
                have n0_ := Aside0.mk (ST.out.row72 R3.out hgr)
                have n1_ := Aside0.mk (blk72 HP.out R3.out (by decide) hgr)
                clear HP
                have HP := n1_
                clear n1_
                have R4 := Aside0.mk ho
                clear ST ho hb_ hgr hat R3
                have ST := n0_
                clear n0_
                -- 8: Op.build 58 #[(0, t37), (1, t42)]
                refine pure_ (i := 8) (N := (some 43)) (v := ?_) (a' := ?_) #[true, true, true, true, true, true, true, true, true, true, false] rfl rfl (by kernel_rfl) (fun _ _ _ h => h) (Or.inl ⟨by rfl, ?_⟩) ?_ ?_
                rotate_left
                · intro w'
                  go_simp
                  with_reducible rfl
                rotate_left
                · simp only [Act.put, List.setIfInBounds_toArray, List.set_cons_zero, List.set_cons_succ, i64_w, i32_w]
                  rfl
                exact hcont ⟨v38, B, cB, gp⟩ _ ⟨ST.out, R4.out, HP.out, hHeld, GP.out, ne58 hHeld HP.out⟩
            · refine box_step ?hg (N := 7) ?hd (cs := #[.int .u64 0, .slice none 0 0]) (t := 58) ?hr ?_; (case hd => rfl); (case hg => rfl); (case hr => first | (go_simp; done) | (go_simp; rfl))
              intro gp hgp wn1 hP hbP
              have hOld := hHeld
              clear hHeld
              refine hK.out _ _ (blk_below hOld hbP) (fun hHeld => ?_)
              clear hOld hK K
              refine norm_ (a' := ?_) ?_ ?_
              rotate_left
              · show Act.put _ (some 7) _ = _
                simp only [Act.put, List.setIfInBounds_toArray, List.set_cons_zero, List.set_cons_succ, i64_w, i32_w]
                rfl
              have GP := Aside0.mk (show w.heap.size ≤ gp by rw [hgp]; exact ST.out.bel.size)
              skip
              have n0_ := Aside0.mk (ST.out.below hbP)
              have HP := Aside0.mk hP
              clear ST hP hbP
              have ST := n0_
              clear n0_
              clear hgp
              -- 3: Op.buildSlice 56 0 #[]
              refine one_ (i := 3) (N := (some 38)) #[true, true, true, true, true, true, true, false, false, true, false] rfl rfl (by kernel_rfl) (by decide) (fun K hK => ?_)
              refine Kd.R_lit_step k72 (w0 := w) w.heap.size 72 ?hg (N := 38) ?hd (xs := ([] : List S72)) (inner := []) (ok := fun _ => True) (okp := fun _ => True) ?hr ?hp (fun _ hk => hk) trivial ST.out.bel ST.out.bel.size (by simp) ?_; (case hd => rfl); (case hg => rfl); (case hr => first | (go_simp; done) | (go_simp; rfl)); (case hp => exact (Reps.none _ _))
              intro v38 wn2 hR38 hbb hgb hnb
              have hOld := hHeld
              clear hHeld
              refine hK.out _ _ (blk_below hOld (below_none hgb)) (fun hHeld => ?_)
              clear hOld hK K
              refine norm_ (a' := ?_) ?_ ?_
              rotate_left
              · show Act.put _ (some 38) _ = _
                simp only [Act.put, List.setIfInBounds_toArray, List.set_cons_zero, List.set_cons_succ, i64_w, i32_w]
                rfl
              have n0_ := Aside0.mk (ST.out.below (below_none hgb))
              have R3 := Aside0.mk hR38
              have n1_ := Aside0.mk (blk_below HP.out (below_none hgb))
              clear HP
              have HP := n1_
              clear n1_
              clear ST hR38 hbb hgb hnb
              have ST := n0_
              clear n0_
              -- 7: Op.call { builtin append, args := #[t38, t41], argTypes := #[56, 56] }
              refine one_ (i := 7) (N := (some 42)) #[true, true, true, true, true, true, true, true, false, true, false] rfl rfl (by kernel_rfl) (by decide) (fun K hK => ?_)
              refine Kd.R_append_rows_step k72 (w0 := w) w.heap.size (by rfl) (.tmp 38) (.tmp 41) 56 72 (.agg #[(.int .i64 0), (.string ⟨#[]⟩), (.string ⟨#[]⟩)]) 40 rfl Try.underlying56 info72 rfl (by decide) (by omega) v38 [] x.b.f1 X1 x.b.f1.length d1 (fun _ => True) (fun _ => False) rfl rfl ?aO ?aR (fun _ _ h => h) (fun _ h => h.elim) ?aF ?aB ?aS ?aL ?_; (case aR => exact (Kd.C_below C1.out ST.out.bel)); (case aB => exact ST.out.bel); (case aF => exact (fun _ _ => trivial)); (case aO => exact R3.out); (case aS => exact ST.out.bel.size); (case aL => (have h1 := FX.out.1; simp; omega))
              intro v42 wn3 ho hb_ hgr hat
              rw [List.nil_append] at ho
              obtain ⟨B, cB, hv42⟩ := Kd.R_slice ho
              subst hv42
              have hOld := hHeld
              clear hHeld
              refine hK.out _ _ (blk72 hOld R3.out (by decide) hgr) (fun hHeld => ?_)
              clear hOld hK K
              refine norm_ (a' := ?_) ?_ ?_
              rotate_left
              · show Act.put _ (some 42) _ = _
                simp only [Act.put, List.setIfInBounds_toArray, List.set_cons_zero, List.set_cons_succ, i64_w, i32_w]
                rfl
              have n0_ := Aside0.mk (ST.out.row72 R3.out hgr)
              have n1_ := Aside0.mk (blk72 HP.out R3.out (by decide) hgr)
              clear HP
              have HP := n1_
              clear n1_
              have R4 := Aside0.mk ho
              clear ST ho hb_ hgr hat R3
              have ST := n0_
              clear n0_
              -- 8: Op.build 58 #[(0, t37), (1, t42)]
              refine pure_ (i := 8) (N := (some 43)) (v := ?_) (a' := ?_) #[true, true, true, true, true, true, true, true, true, true, false] rfl rfl (by kernel_rfl) (fun _ _ _ h => h) (Or.inl ⟨by rfl, ?_⟩) ?_ ?_
              rotate_left
              · intro w'
                go_simp
                with_reducible rfl
              rotate_left
              · simp only [Act.put, List.setIfInBounds_toArray, List.set_cons_zero, List.set_cons_succ, i64_w, i32_w]
                rfl
              exact hcont ⟨v38, B, cB, gp⟩ _ ⟨ST.out, R4.out, HP.out, hHeld, GP.out, ne58 hHeld HP.out⟩
          rintro ⟨v38, B, cB, gp⟩ wj ⟨hST, hRB, hP, hHeld, hGP, hNE⟩
          skip
          clear ST
          have ST := Aside0.mk hST
          have R4 := Aside0.mk hRB
          have HP := Aside0.mk hP
          have GP := Aside0.mk hGP
          have NE := Aside0.mk hNE
          clear hST hRB hP hGP hNE
          refine norm_ (a' := ?_) ?_ ?_
          rotate_left
          · simp only [putAll, Act.put, List.setIfInBounds_toArray, List.set_cons_zero, List.set_cons_succ, i64_w, i32_w]
            rfl
          -- 10: Op.store 58 t7 t43
          refine one_ (i := 10) (N := none) #[true, true, true, true, true, true, true, true, true, true, true] rfl rfl (by kernel_rfl) (by decide) (fun K hK => ?_)
          have hs0 : wj.cell? ⟨gp, 0, none⟩ = some (.int .u64 0) := (blk_cell HP.out 0).trans rfl
          have hs1 : wj.cell? ⟨gp, 1, none⟩ = some (.slice none 0 0) := (blk_cell HP.out 1).trans rfl
          have hf0 := blk_frozen HP.out 0
          have hf1 := blk_frozen HP.out 1
          refine skip_ (w1 := ?_) (by rfl) rfl ?_ ?_
          rotate_left
          · go_simp
            rfl
          clear hs0 hs1 hf0 hf1
          have hOld := hHeld
          clear hHeld
          refine hK.out _ _ (blk_setOther (blk_setOther hOld NE.out) NE.out) (fun hHeld => ?_)
          clear hOld hK K
          refine done_ (by kernel_rfl) ?_
          have h0_ := Aside0.mk (blk_put (cs' := #[.int .u64 x.b.f0, .slice none 0 0]) HP.out 0 (.int .u64 x.b.f0) rfl)
          have BP := Aside0.mk (blk_put (cs' := #[.int .u64 x.b.f0, .slice B x.b.f1.length cB]) h0_.out 1 (.slice B x.b.f1.length cB) rfl)
          have n0_ := Aside0.mk ((ST.out.set58 HP.out GP.out 0 (.int .u64 x.b.f0)).set58 h0_.out GP.out 1 (.slice B x.b.f1.length cB))
          have n1_ := Aside0.mk (Kd.R_set (Kd.R_set R4.out HP.out (by decide) 0 (.int .u64 x.b.f0)) h0_.out (by decide) 1 (.slice B x.b.f1.length cB))
          have BO := Aside0.mk hHeld
          clear hHeld ST R4 h0_ HP NE GP
          generalize (wj.setCell ⟨gp, 0, none⟩ (.int .u64 x.b.f0)).setCell ⟨gp, 1, none⟩ (.slice B x.b.f1.length cB) = w5 at *
          have ST := n0_
          have RB := n1_
          clear n0_ n1_
          have z1 : w5.cell? ⟨go, 1, none⟩ = some (.int .u64 x.b.f0) := (blk_cell BO.out 1).trans rfl
          have z2 : w5.cell? ⟨go, 2, none⟩ = some (.slice X1 x.b.f1.length d1) := (blk_cell BO.out 2).trans rfl
          go_wp2_with fail
          clear z1 z2
          refine (refadd_c x.hs ST.out (by have := HI.out; omega) x.b.f0 (Kd.C_below C1.out ST.out.bel) L1.out FX.out.1).mono ?_
          rintro e w6 ⟨A', c', rfl, hR, hb⟩
          obtain ⟨t', ht'⟩ : ∃ t', t' = addT x.hs x.b.f0 x.b.f1 t := ⟨_, rfl⟩
          obtain ⟨f, hf⟩ : ∃ f, f = (refAddR x.b.f0 x.b.f1 (t.l.map (·.1))).2 := ⟨_, rfl⟩
          rw [← ht'] at hR
          rw [← ht', ← hf]
          have HT := Aside0.mk ht'
          have HF := Aside0.mk hf
          have RM := Aside0.mk hR
          have n0_ := Aside0.mk (ST.out.below hb)
          have n1_ := Aside0.mk (blk_below BO.out hb)
          have n2_ := Aside0.mk (blk_below BP.out hb)
          have n3_ := Aside0.mk (Kd.R_below RB.out hb)
          clear ht' hf hR hb ST BO BP RB
          have ST := n0_
          have BO := n1_
          have BP := n2_
          have RB := n3_
          clear n0_ n1_ n2_ n3_
          have z3 : w6.cell? ⟨go, 3, none⟩ = some (.slice X2 x.hs.length d2) := (blk_cell BO.out 3).trans rfl
          have p0_ : w6.cell? ⟨gp, 0, none⟩ = some (.int .u64 x.b.f0) := (blk_cell BP.out 0).trans rfl
          have p1_ : w6.cell? ⟨gp, 1, none⟩ = some (.slice B x.b.f1.length cB) := (blk_cell BP.out 1).trans rfl
          go_wp2_with fail
          clear z3 p0_ p1_
          have hcall := add_c ST.out (by have := HI.out; omega) x.b.f0 (Kd.R_reads' RB.out).2.2 (Kd.R_reads' RB.out).2.1 FX.out.1 (d := d2) C2.out
          rw [← HT.out, ← HF.out] at hcall
          refine (hcall).mono ?_
          rintro e w7 ⟨rs', rfl, ha⟩
          clear hcall
          have n0_ := Aside0.mk (show St w w7 ga rs' t' A' c' (i + 1) by rw [HT.out] at RM ha ⊢; exact ST.out.add ST.out.sk ST.out.bel RM.out ha FX.out.1)
          have n1_ := Aside0.mk (add_blk ST.out.sk ha BO.out (.inr (.inr (.inr rfl))))
          have n2_ := Aside0.mk (add_blk ST.out.sk ha BP.out (.inr (.inl rfl)))
          have n3_ := Aside0.mk (R72_keep RB.out (fun k cs hc => (add_blk ST.out.sk ha hc (.inr (.inr (.inl rfl)))).trans hc.symm))
          clear ha ST BO BP RB RM
          have ST := n0_
          have BO := n1_
          have BP := n2_
          have RB := n3_
          clear n0_ n1_ n2_ n3_
          have z1 : w7.cell? ⟨go, 1, none⟩ = some (.int .u64 x.b.f0) := (blk_cell BO.out 1).trans rfl
          have z2 : w7.cell? ⟨go, 2, none⟩ = some (.slice X1 x.b.f1.length d1) := (blk_cell BO.out 2).trans rfl
          have p0_ : w7.cell? ⟨gp, 0, none⟩ = some (.int .u64 x.b.f0) := (blk_cell BP.out 0).trans rfl
          have p1_ : w7.cell? ⟨gp, 1, none⟩ = some (.slice B x.b.f1.length cB) := (blk_cell BP.out 1).trans rfl
          go_wp2_with fail
          clear z1 z2 p0_ p1_
          refine (samew_true w7 x.b.f0 B cB X1 d1 x.b.f1 (Kd.R_reads' RB.out).2.2 (Kd.R_reads' RB.out).2.1 (Kd.C_below C1.out ST.out.bel) L1.out (by have := FX.out.1; omega)).mono ?_
          rintro e w8 ⟨rfl, hb⟩
          have n0_ := Aside0.mk (ST.out.below hb)
          have n2_ := Aside0.mk (blk_below BP.out hb)
          have n3_ := Aside0.mk (Kd.R_below RB.out hb)
          clear hb ST BO BP RB
          have ST := n0_
          have BP := n2_
          have RB := n3_
          clear n0_ n2_ n3_
          clear HT HF
          go_wp2_with fail
          go_loopg [10] x.b.f1.length (fun kq v10 w' => ∃ (j : Nat) (Lj : List S72), v10 = .int .i64 (j : Int) ∧ Aside0 (kq + j = x.b.f1.length) ∧ Aside0 (Kd.R k72 72 w' w.heap.size (fun _ => True) (.slice B x.b.f1.length cB) Lj) ∧ Aside0 (St w w' ga rs' t' A' c' (i + 1)) ∧ Aside0 (w'.heap[gp]? = some (.cells #[.int .u64 x.b.f0, .slice B x.b.f1.length cB] 58 (0, 0))))
          case atStart => exact ⟨0, _, rfl, ⟨by omega⟩, RB, ST, BP⟩
          case round =>
            clear RB ST BP
            obtain ⟨j, Lj, rfl, HJ, RB, ST, BP⟩ := hrel
            have p1_ : wr.cell? ⟨gp, 1, none⟩ = some (.slice B x.b.f1.length cB) := (blk_cell BP.out 1).trans rfl
            cases gk with
            | zero =>
              have ej : j = x.b.f1.length := by have := HJ.out; omega
              subst ej
              have f0 : decide ((x.b.f1.length : Int) < (x.b.f1.length : Int)) = false := by simp
              go_wp2_with fail
              clear f0 p1_ RB BP HJ
              refine (tells_c ST.out (by have := HI.out; omega)).mono ?_
              rintro e wz ⟨rfl, hb⟩
              have n0_ := Aside0.mk (ST.out.below hb)
              clear ST hb
              have ST := n0_
              clear n0_
              go_wp2_with fail
              have hi100 := HI.out
              have ew : wrap64 ((i : Int) + 1) = ((i + 1 : Nat) : Int) := by unfold wrap64; omega
              try rw [ew]
              go_roundg q
              case measure => omega
              case rel => exact ⟨i + 1, _, _, _, _, rfl, rfl, ⟨by have := HK.out; omega⟩, ST⟩
            | succ q2 =>
              have hj : j < x.b.f1.length := by have := HJ.out; omega
              have f0 : decide ((j : Int) < (x.b.f1.length : Int)) = true := decide_eq_true (by omega)
              have f1 : decide (j < x.b.f1.length) = true := decide_eq_true hj
              have p2 : 0 ≤ (j : Int) := Int.natCast_nonneg _
              have p3 : (j : Int) < (x.b.f1.length : Int) := Int.ofNat_lt.mpr hj
              obtain ⟨g, rfl, hg4⟩ := own_addr RB.out (by omega)
              go_wp2_with (first | ((with_reducible refine gate_store (t := 72) (p := 77) rfl ?_); refine blank72 (w0 := w) w.heap.size rfl rfl (.tmp 77) (.tmp 76) rfl (g := g) (n := x.b.f1.length) (cap := cB) j Lj ?ha ?hx RB.out hj ST.out.bel ?_; (case ha => first | rfl | (go_simp; done) | (go_simp; rfl)); (case hx => first | rfl | (go_simp; done) | (go_simp; rfl)); intro w9 hR hb hgr; have n0_ := Aside0.mk (ST.out.row72 RB.out hgr); have n1_ := Aside0.mk (blk72 BP.out RB.out (by decide) hgr); clear RB ST BP p1_; have RB := Aside0.mk hR; have ST := n0_; have BP := n1_; clear hR hb hgr n0_ n1_) | fail)
              have hj100 := FX.out.1
              have ew : wrap64 ((j : Int) + 1) = ((j + 1 : Nat) : Int) := by unfold wrap64; omega
              try rw [ew]
              go_roundg q2
              case measure => omega
              case rel => exact ⟨j + 1, _, rfl, ⟨by have := HJ.out; omega⟩, RB, ST, BP⟩
        · have e1 : (x.d == 1) = false := beq_eq_false_iff_ne.mpr k1
          have e2 : decide (x.d = 1) = false := decide_eq_false k1
          by_cases k2 : x.d = 2
          · have e3 : (x.d == 2) = true := beq_iff_eq.mpr k2
            have e4 : decide (x.d = 2) = true := decide_eq_true k2
            clear k1 k2
            have z0 : (wr.alloc (.cells #[.int .i64 x.d, .int .u64 x.b.f0, .slice X1 x.b.f1.length d1, .slice X2 x.hs.length d2, .string x.fr, .string x.to_, .int .u64 x.at_] 84)).cell? ⟨wr.heap.size, 0, none⟩ = some (.int .i64 x.d) := (blk_cell BO.out 0).trans rfl
            have z4 : (wr.alloc (.cells #[.int .i64 x.d, .int .u64 x.b.f0, .slice X1 x.b.f1.length d1, .slice X2 x.hs.length d2, .string x.fr, .string x.to_, .int .u64 x.at_] 84)).cell? ⟨wr.heap.size, 4, none⟩ = some (.string x.fr) := (blk_cell BO.out 4).trans rfl
            have z6 : (wr.alloc (.cells #[.int .i64 x.d, .int .u64 x.b.f0, .slice X1 x.b.f1.length d1, .slice X2 x.hs.length d2, .string x.fr, .string x.to_, .int .u64 x.at_] 84)).cell? ⟨wr.heap.size, 6, none⟩ = some (.int .u64 x.at_) := (blk_cell BO.out 6).trans rfl
            go_wp2_with fail
            clear z0 z4 z6 e1 e2 e3 e4
            clear x0 x1 x2 x3 x4 x5 x6
            generalize wr.heap.size = go at *
            generalize wr.alloc (.cells #[.int .i64 x.d, .int .u64 x.b.f0, .slice X1 x.b.f1.length d1, .slice X2 x.hs.length d2, .string x.fr, .string x.to_, .int .u64 x.at_] 84) = w4 at *
            refine (get_c ST.out (by have := HI.out; omega) x.fr x.at_).mono ?_
            rintro e w5 ⟨rfl, hb⟩
            have n0_ := Aside0.mk (ST.out.below hb)
            have n1_ := Aside0.mk (blk_below BO.out hb)
            clear ST BO hb
            have ST := n0_
            have BO := n1_
            clear n0_ n1_
            obtain ⟨y, hy⟩ : ∃ y, y = getRow x.fr x.at_ rs := ⟨_, rfl⟩
            obtain ⟨b, hb_⟩ : ∃ b, b = getIs x.fr x.at_ rs := ⟨_, rfl⟩
            rw [← hy, ← hb_]
            have HY := Aside0.mk hy
            have HBB := Aside0.mk hb_
            clear hy hb_
            have hal := (Below.refl w5.heap.size w5).alloc (Nat.le_refl _) (.cells #[.string y.f0, .int .u64 y.f1, .int .i64 y.f2, .string y.f3] 28)
            have n0_ := Aside0.mk (ST.out.below hal)
            have n1_ := Aside0.mk (blk_below BO.out hal)
            have BX := Aside0.mk (blk_new w5 (.cells #[.string y.f0, .int .u64 y.f1, .int .i64 y.f2, .string y.f3] 28))
            clear ST BO hal
            have ST := n0_
            have BO := n1_
            clear n0_ n1_
            have z4 : (w5.alloc (.cells #[.string y.f0, .int .u64 y.f1, .int .i64 y.f2, .string y.f3] 28)).cell? ⟨go, 4, none⟩ = some (.string x.fr) := (blk_cell BO.out 4).trans rfl
            have z6 : (w5.alloc (.cells #[.string y.f0, .int .u64 y.f1, .int .i64 y.f2, .string y.f3] 28)).cell? ⟨go, 6, none⟩ = some (.int .u64 x.at_) := (blk_cell BO.out 6).trans rfl
            go_wp2_with fail
            clear z4 z6
            generalize w5.heap.size = gx at *
            generalize w5.alloc (.cells #[.string y.f0, .int .u64 y.f1, .int .i64 y.f2, .string y.f3] 28) = w6 at *
            have hcall := refget_c ST.out (by have := HI.out; omega) x.fr x.at_
            rw [← HY.out, ← HBB.out] at hcall
            refine (hcall).mono ?_
            rintro e w7 ⟨rfl, hb⟩
            clear hcall
            have hal := hb.alloc hb.size (.cells #[.string y.f0, .int .u64 y.f1, .int .i64 y.f2, .string y.f3] 28)
            have n0_ := Aside0.mk (ST.out.below hal)
            have n1_ := Aside0.mk (blk_below BX.out hal)
            have BY := Aside0.mk (blk_new w7 (.cells #[.string y.f0, .int .u64 y.f1, .int .i64 y.f2, .string y.f3] 28))
            clear ST BO BX hb hal
            have ST := n0_
            have BX := n1_
            clear n0_ n1_
            have b0 : (w7.alloc (.cells #[.string y.f0, .int .u64 y.f1, .int .i64 y.f2, .string y.f3] 28)).cell? ⟨gx, 0, none⟩ = some (.string y.f0) := (blk_cell BX.out 0).trans rfl
            have b1 : (w7.alloc (.cells #[.string y.f0, .int .u64 y.f1, .int .i64 y.f2, .string y.f3] 28)).cell? ⟨gx, 1, none⟩ = some (.int .u64 y.f1) := (blk_cell BX.out 1).trans rfl
            have b2 : (w7.alloc (.cells #[.string y.f0, .int .u64 y.f1, .int .i64 y.f2, .string y.f3] 28)).cell? ⟨gx, 2, none⟩ = some (.int .i64 y.f2) := (blk_cell BX.out 2).trans rfl
            have b3 : (w7.alloc (.cells #[.string y.f0, .int .u64 y.f1, .int .i64 y.f2, .string y.f3] 28)).cell? ⟨gx, 3, none⟩ = some (.string y.f3) := (blk_cell BX.out 3).trans rfl
            have a0 : (w7.alloc (.cells #[.string y.f0, .int .u64 y.f1, .int .i64 y.f2, .string y.f3] 28)).cell? ⟨w7.heap.size, 0, none⟩ = some (.string y.f0) := (blk_cell BY.out 0).trans rfl
            have a1 : (w7.alloc (.cells #[.string y.f0, .int .u64 y.f1, .int .i64 y.f2, .string y.f3] 28)).cell? ⟨w7.heap.size, 1, none⟩ = some (.int .u64 y.f1) := (blk_cell BY.out 1).trans rfl
            have a2 : (w7.alloc (.cells #[.string y.f0, .int .u64 y.f1, .int .i64 y.f2, .string y.f3] 28)).cell? ⟨w7.heap.size, 2, none⟩ = some (.int .i64 y.f2) := (blk_cell BY.out 2).trans rfl
            have a3 : (w7.alloc (.cells #[.string y.f0, .int .u64 y.f1, .int .i64 y.f2, .string y.f3] 28)).cell? ⟨w7.heap.size, 3, none⟩ = some (.string y.f3) := (blk_cell BY.out 3).trans rfl
            go_wp2_with fail
            clear a0 a1 a2 a3 b0 b1 b2 b3
            generalize w7.alloc (.cells #[.string y.f0, .int .u64 y.f1, .int .i64 y.f2, .string y.f3] 28) = w8 at *
            refine (tells_c ST.out (by have := HI.out; omega)).mono ?_
            rintro e wz ⟨rfl, hb⟩
            have n0_ := Aside0.mk (ST.out.below hb)
            clear ST hb
            have ST := n0_
            clear n0_
            go_wp2_with fail
            have hi100 := HI.out
            have ew : wrap64 ((i : Int) + 1) = ((i + 1 : Nat) : Int) := by unfold wrap64; omega
            try rw [ew]
            go_roundg q
            case measure => omega
            case rel => exact ⟨i + 1, _, _, _, _, rfl, rfl, ⟨by have := HK.out; omega⟩, ⟨ST.out.more⟩⟩
          · have e3 : (x.d == 2) = false := beq_eq_false_iff_ne.mpr k2
            have e4 : decide (x.d = 2) = false := decide_eq_false k2
            by_cases k3 : x.d = 3
            · have e5 : (x.d == 3) = true := beq_iff_eq.mpr k3
              have e6 : decide (x.d = 3) = true := decide_eq_true k3
              clear k1 k2 k3
              have z0 : (wr.alloc (.cells #[.int .i64 x.d, .int .u64 x.b.f0, .slice X1 x.b.f1.length d1, .slice X2 x.hs.length d2, .string x.fr, .string x.to_, .int .u64 x.at_] 84)).cell? ⟨wr.heap.size, 0, none⟩ = some (.int .i64 x.d) := (blk_cell BO.out 0).trans rfl
              have z4 : (wr.alloc (.cells #[.int .i64 x.d, .int .u64 x.b.f0, .slice X1 x.b.f1.length d1, .slice X2 x.hs.length d2, .string x.fr, .string x.to_, .int .u64 x.at_] 84)).cell? ⟨wr.heap.size, 4, none⟩ = some (.string x.fr) := (blk_cell BO.out 4).trans rfl
              have z5 : (wr.alloc (.cells #[.int .i64 x.d, .int .u64 x.b.f0, .slice X1 x.b.f1.length d1, .slice X2 x.hs.length d2, .string x.fr, .string x.to_, .int .u64 x.at_] 84)).cell? ⟨wr.heap.size, 5, none⟩ = some (.string x.to_) := (blk_cell BO.out 5).trans rfl
              go_wp2_with fail
              clear z0 z4 z5 e1 e2 e3 e4 e5 e6
              clear x0 x1 x2 x3 x4 x5 x6
              generalize wr.heap.size = go at *
              generalize wr.alloc (.cells #[.int .i64 x.d, .int .u64 x.b.f0, .slice X1 x.b.f1.length d1, .slice X2 x.hs.length d2, .string x.fr, .string x.to_, .int .u64 x.at_] 84) = w4 at *
              refine (range_c ST.out (by have := HI.out; omega) x.fr x.to_).mono ?_
              rintro e w5 ⟨v, rfl, hR, hb⟩
              obtain ⟨L, hL⟩ : ∃ L, L = rangeF x.fr x.to_ (t.l.map (·.1)) := ⟨_, rfl⟩
              rw [← hL] at hR
              have HL := Aside0.mk hL
              have LL := Aside0.mk (show L.length ≤ 7000 by rw [hL]; have h1 := rangeF_len x.fr x.to_ (t.l.map (·.1)); rw [List.length_map] at h1; have := ST.out.len (by have := HI.out; omega); omega)
              obtain ⟨Ag, cg, hv⟩ := Kd.R_slice hR
              subst hv
              have RG := Aside0.mk hR
              have BG := Aside0.mk hb
              have BO5 := Aside0.mk (blk_below BO.out hb)
              have ST5 := Aside0.mk (ST.out.below hb)
              clear hL hR hb BO
              have z4 : w5.cell? ⟨go, 4, none⟩ = some (.string x.fr) := (blk_cell BO5.out 4).trans rfl
              have z5 : w5.cell? ⟨go, 5, none⟩ = some (.string x.to_) := (blk_cell BO5.out 5).trans rfl
              go_wp2_with fail
              clear z4 z5
              refine (refrange_c ST5.out (by have := HI.out; omega) x.fr x.to_).mono ?_
              rw [← HL.out]
              rintro e w6 ⟨v, rfl, hR, hb⟩
              obtain ⟨Ah, ch, hv⟩ := Kd.R_slice hR
              subst hv
              have n0_ := Aside0.mk (Kd.R_below RG.out hb)
              have n1_ := Aside0.mk (below_step BG.out hb)
              have CH := Aside0.mk (Kd.R_reads' hR).2.2
              have CHc := Aside0.mk (Kd.R_reads' hR).2.1
              clear RG BG ST5 BO5 hR hb HL
              have RG := n0_
              have BG := n1_
              clear n0_ n1_
              go_wp2_with fail
              refine (same_true w6 Ag cg Ah ch L (Kd.R_reads' RG.out).2.2 (Kd.R_reads' RG.out).2.1 CH.out CHc.out (by have := LL.out; omega)).mono ?_
              rintro e w7 ⟨rfl, hb⟩
              have n0_ := Aside0.mk (Kd.R_below RG.out hb)
              have n1_ := Aside0.mk (below_step BG.out hb)
              clear RG BG CH CHc hb
              have RG := n0_
              have BG := n1_
              clear n0_ n1_
              go_wp2_with fail
              go_loopg [16] L.length (fun kq v16 w' => ∃ (j : Nat) (Lj : List S28), v16 = .int .i64 (j : Int) ∧ Aside0 (kq + j = L.length) ∧ Aside0 (Kd.R k28 28 w' w4.heap.size (fun _ => True) (.slice Ag L.length cg) Lj) ∧ Aside0 (Below w4.heap.size w4 w'))
              case atStart => exact ⟨0, L, rfl, ⟨by omega⟩, RG, BG⟩
              case round =>
                clear RG BG
                obtain ⟨j, Lj, rfl, HJ, RG, BG⟩ := hrel
                cases gk with
                | zero =>
                  have ej : j = L.length := by have := HJ.out; omega
                  subst ej
                  have f0 : decide ((L.length : Int) < (L.length : Int)) = false := by simp
                  have n0_ := Aside0.mk (ST.out.below BG.out)
                  clear ST BG RG HJ
                  have ST := n0_
                  clear n0_
                  go_wp2_with fail
                  clear f0
                  refine (tells_c ST.out (by have := HI.out; omega)).mono ?_
                  rintro e wz ⟨rfl, hb⟩
                  have n0_ := Aside0.mk (ST.out.below hb)
                  clear ST hb
                  have ST := n0_
                  clear n0_
                  go_wp2_with fail
                  have hi100 := HI.out
                  have ew : wrap64 ((i : Int) + 1) = ((i + 1 : Nat) : Int) := by unfold wrap64; omega
                  try rw [ew]
                  go_roundg q
                  case measure => omega
                  case rel => exact ⟨i + 1, _, _, _, _, rfl, rfl, ⟨by have := HK.out; omega⟩, ⟨ST.out.more⟩⟩
                | succ q2 =>
                  have hj : j < L.length := by have := HJ.out; omega
                  have f0 : decide ((j : Int) < (L.length : Int)) = true := decide_eq_true (by omega)
                  have f1 : decide (j < L.length) = true := decide_eq_true hj
                  have p2 : 0 ≤ (j : Int) := Int.natCast_nonneg _
                  have p3 : (j : Int) < (L.length : Int) := Int.ofNat_lt.mpr hj
                  obtain ⟨g, rfl, hg4⟩ := own_addr RG.out (by omega)
                  go_wp2_with (first | ((with_reducible refine gate_store (t := 28) (p := 132) rfl ?_); refine blank28 (w0 := w4) w4.heap.size rfl rfl (.tmp 132) (.tmp 131) rfl (g := g) (n := L.length) (cap := cg) j Lj ?ha ?hx RG.out hj BG.out ?_; (case ha => first | rfl | (go_simp; done) | (go_simp; rfl)); (case hx => first | rfl | (go_simp; done) | (go_simp; rfl)); intro w8 hR hb hgr; clear RG BG; have RG := Aside0.mk hR; have BG := Aside0.mk hb; clear hR hb hgr) | fail)
                  have hj100 := LL.out
                  have ew : wrap64 ((j : Int) + 1) = ((j + 1 : Nat) : Int) := by unfold wrap64; omega
                  try rw [ew]
                  go_roundg q2
                  case measure => omega
                  case rel => exact ⟨j + 1, _, rfl, ⟨by have := HJ.out; omega⟩, RG, BG⟩
            · have e5 : (x.d == 3) = false := beq_eq_false_iff_ne.mpr k3
              have e6 : decide (x.d = 3) = false := decide_eq_false k3
              clear k1 k2 k3
              have z0 : (wr.alloc (.cells #[.int .i64 x.d, .int .u64 x.b.f0, .slice X1 x.b.f1.length d1, .slice X2 x.hs.length d2, .string x.fr, .string x.to_, .int .u64 x.at_] 84)).cell? ⟨wr.heap.size, 0, none⟩ = some (.int .i64 x.d) := (blk_cell BO.out 0).trans rfl
              go_wp2_with fail
              clear z0 e1 e2 e3 e4 e5 e6
              clear x0 x1 x2 x3 x4 x5 x6
              generalize wr.heap.size = go at *
              generalize wr.alloc (.cells #[.int .i64 x.d, .int .u64 x.b.f0, .slice X1 x.b.f1.length d1, .slice X2 x.hs.length d2, .string x.fr, .string x.to_, .int .u64 x.at_] 84) = w4 at *
              refine (tells_c ST.out (by have := HI.out; omega)).mono ?_
              rintro e wz ⟨rfl, hb⟩
              have n0_ := Aside0.mk (ST.out.below hb)
              clear ST hb
              have ST := n0_
              clear n0_
              go_wp2_with fail
              have hi100 := HI.out
              have ew : wrap64 ((i : Int) + 1) = ((i + 1 : Nat) : Int) := by unfold wrap64; omega
              try rw [ew]
              go_roundg q
              case measure => omega
              case rel => exact ⟨i + 1, _, _, _, _, rfl, rfl, ⟨by have := HK.out; omega⟩, ⟨ST.out.more⟩⟩
end Go.Proofs.Ytfemebenkbobnaa.SM
