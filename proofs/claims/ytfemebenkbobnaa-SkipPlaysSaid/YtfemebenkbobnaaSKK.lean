import Derived.Test.YtfemebenkbobnaaSKJ
import Derived.Test.YtfemebenkbobnaaHOp3
import Derived.Laws.Cover1
/- The law SkipPlays, walked. Conditions: the script's numbers are uint64s. -/
namespace Go.Proofs.Ytfemebenkbobnaa.SK
set_option linter.unusedVariables false
set_option linter.unusedSimpArgs false
open Go.RowKit Go.Shelf Go.Proofs.YtfemebenkbobnaaW.PrintWords Go.Proofs.YtfemebenkbobnaaW.PrintLast Go.Proofs.YtfemebenkbobnaaW.PrintMore Go.Proofs.Ytfemebenkbobnaa.PB06
open Go.Proofs.Ytfemebenkbobnaa.H (S44 k44 z44 at_T44)
theorem RL.nil {w : World} {g : Nat} (base : Nat) (h : w.heap[g]? = some (.cells #[.slice none 0 0, .slice none 0 0] 42 (0, 0))) : RL w base g [] := ⟨none, 0, none, 0, h, Kd.R_nil _ _ _ _ _, Kd.R_nil _ _ _ _ _⟩
/-- The two lists side by side: the program's at ga, the document's at gw. -/
structure St (w0 w : World) (ga gw : Nat) (rs : List Nd) (l : List RH) : Prop where
  sk : Sk w ga rs
  vl : vals rs = l
  rl : RL w w0.heap.size gw l
  lo : ∀ k, k ∈ fp ga rs → w0.heap.size ≤ k
  hi : w0.heap.size ≤ gw
  bel : Below w0.heap.size w0 w
  u64 : ∀ p, p ∈ l → p.1.f1 ≤ 18446744073709551615
  len : l.length ≤ 1000
section
variable {w0 w w' w1 w2 : World} {ga gw : Nat} {rs rs' : List Nd} {l : List RH} {r : S28} {c : Nat}
theorem St.below (h : St w0 w ga gw rs l) (hb : Below w.heap.size w w') : St w0 w' ga gw rs l := ⟨h.sk.below hb, h.vl, h.rl.below hb, h.lo, h.hi, below_step h.bel hb, h.u64, h.len⟩
theorem St.rows (h : St w0 w ga gw rs l) : rowsN rs = l.map (·.1) := by rw [← h.vl, rowsN_vals]
theorem St.sorted (h : St w0 w ga gw rs l) : SortedR (l.map (·.1)) := by rw [← h.rows]; exact h.sk.sorted
theorem St.size (h : St w0 w ga gw rs l) : rs.length = l.length := by rw [← h.vl, vals_len]
theorem putV_mem {p : RH} (h : p ∈ putV r c l) : p ∈ l ∨ p = (r, c) := by
  unfold putV at h
  split at h
  · exact .inl h
  · unfold insV at h
    rcases List.mem_append.mp h with h | h
    · exact .inl ((List.takeWhile_prefix _).subset h)
    · rcases List.mem_cons.mp h with h | h
      · exact .inr h
      · exact .inl ((List.dropWhile_suffix _).subset h)
theorem St.both_ab (h : St w0 w ga gw rs l) (hp : Put w w1 ga rs r c rs') (hRL : RL w2 w0.heap.size gw (putV r c l)) (hsame : ∀ k, k < w1.heap.size → k ≠ gw → w2.heap[k]? = w1.heap[k]?) (hbel : ∀ B w0', Below B w0' w1 → B ≤ gw → Below B w0' w2) (hu : r.f1 ≤ 18446744073709551615) (hl : l.length ≤ 999) : St w0 w2 ga gw rs' (putV r c l) := by
  obtain ⟨_, _, _, _, hg, _⟩ := (h.rl.put h.sk hp).ex
  have hlow := hp.low h.bel h.bel.size h.lo
  refine ⟨hp.sk.far hg hsame, by rw [hp.val, h.vl], hRL, hlow.2, h.hi, hbel _ _ hlow.1 h.hi, fun p hp' => ?_, by have := putV_len r c l; omega⟩
  rcases putV_mem hp' with h1 | rfl
  · exact h.u64 p h1
  · exact hu
theorem St.both_ba (h : St w0 w ga gw rs l) (hRL : RL w1 w0.heap.size gw (putV r c l)) (hsame : ∀ k, k < w.heap.size → k ≠ gw → w1.heap[k]? = w.heap[k]?) (hbel : ∀ B w0', Below B w0' w → B ≤ gw → Below B w0' w1) (hp : Put w1 w2 ga rs r c rs') (hu : r.f1 ≤ 18446744073709551615) (hl : l.length ≤ 999) : St w0 w2 ga gw rs' (putV r c l) := by
  obtain ⟨_, _, _, _, hg, _⟩ := h.rl.ex
  have hsk : Sk w1 ga rs := h.sk.far hg hsame
  have hb1 := hbel _ _ h.bel h.hi
  have hlow := hp.low hb1 hb1.size h.lo
  refine ⟨hp.sk, by rw [hp.val, h.vl], hRL.put hsk hp, hlow.2, h.hi, hlow.1, fun p hp' => ?_, by have := putV_len r c l; omega⟩
  rcases putV_mem hp' with h1 | rfl
  · exact h.u64 p h1
  · exact hu
theorem St.skfar (h : St w0 w ga gw rs l) (hsame : ∀ k, k < w.heap.size → k ≠ gw → w1.heap[k]? = w.heap[k]?) : Sk w1 ga rs := by
  obtain ⟨_, _, _, _, hg, _⟩ := h.rl.ex
  exact h.sk.far hg hsame
theorem sk_typed44 {w : World} {g : Nat} {rs : List Nd} (h : Sk w g rs) : ∀ k, k ∈ fp g rs → ∃ cs t, w.heap[k]? = some (.cells cs t (0, 0)) ∧ t ≠ 44 := fun k hk => by
  rcases fp_mem.mp hk with rfl | hk
  · exact ⟨_, _, h.sl.head, by decide⟩
  · obtain ⟨x, hx, rfl⟩ := List.mem_map.mp hk
    obtain ⟨cs, hc⟩ := h.sl.chain.mem x hx
    exact ⟨cs, _, hc, by decide⟩
/-- A call's own copy stays where the lists are written. -/
theorem put_o {go hgt : Nat} {cs : Array Value} (hg : w.heap[go]? = some (.cells cs 44 (0, 0))) (hs : Sk w ga rs) (hp : Put w w' ga rs r hgt rs') : w'.heap[go]? = some (.cells cs 44 (0, 0)) := by
  have hn : go ∉ fp ga rs := fun hm => by
    obtain ⟨cs', t, h1, h2⟩ := sk_typed44 hs go hm
    rw [hg] at h1
    cases h1
    exact h2 rfl
  exact (hp.kp.same go (blk_lt hg) (fun e => hn (fp_mem.mpr (.inl e))) (fun e => hn (fp_mem.mpr (.inr e)))).trans hg
theorem ref_o {go base : Nat} {cs : Array Value} (hg : w.heap[go]? = some (.cells cs 44 (0, 0))) (hR : RL w base gw l) (hsame : ∀ k, k < w.heap.size → k ≠ gw → w'.heap[k]? = w.heap[k]?) : w'.heap[go]? = some (.cells cs 44 (0, 0)) := by
  refine (hsame go (blk_lt hg) (fun e => ?_)).trans hg
  subst e
  obtain ⟨_, _, _, _, h1, _⟩ := hR.ex
  rw [hg] at h1
  cases h1
/-! ### The calls, in terms of the values -/
theorem len_c (h : St w0 w ga gw rs l) : Calls Try.prog 22 #[.pointer (some ⟨ga, 0, none⟩)] w fun e w' => e = .returned (.int .i64 (l.length : Int)) ∧ Below w.heap.size w w' := by
  have h1 := len_calls w ga _ _ rs h.sk.sl
  rw [h.size] at h1
  exact h1
theorem height_c (h : St w0 w ga gw rs l) : Calls Try.prog 30 #[.pointer (some ⟨ga, 0, none⟩)] w fun e w' => e = .returned (.int .i64 ((hmaxL (l.map (·.2)) : Nat) : Int)) ∧ Below w.heap.size w w' := by
  have h1 := height_calls w ga _ _ rs h.sk.sl
  rw [hmax_L, show rs.map (·.h) = l.map (·.2) by rw [← h.vl, vals, List.map_map]; rfl] at h1
  exact h1
theorem refh_c {A1 A2 : Option Addr} {c1 c2 : Nat} (hl : l.length ≤ 1000) (h1 : k28.C w A1 l.length (l.map (·.1))) (h2 : (Kd.int .i64).C w A2 l.length (l.map (fun x => (x.2 : Int)))) (hc1 : l.length ≤ c1) (hc2 : l.length ≤ c2) :
    Calls Try.prog 31 #[.agg #[.slice A1 l.length c1, .slice A2 l.length c2]] w fun e w' => e = .returned (.int .i64 ((hmaxL (l.map (·.2)) : Nat) : Int)) ∧ Below w.heap.size w w' := by
  have e : l.map (fun x => (x.2 : Int)) = (l.map (·.2)).map (Int.ofNat ·) := by rw [List.map_map]; rfl
  have hf := height_f (l.map (·.1)) (l.map (·.2)) (by rw [List.length_map]; omega)
  rw [← e] at hf
  have h3 := freshetref08_Height.calls _ A1 c1 (l.map (·.1)) A2 c2 (l.map (fun x => (x.2 : Int))) _ w (by rw [List.length_map]; exact h1) (by rw [List.length_map]; exact hc1) (by rw [List.length_map]; exact h2) (by rw [List.length_map]; exact hc2) hf
  rw [List.length_map, List.length_map] at h3
  exact h3
theorem ahd_len (key : ByteArray) (seq : Int) (l : List RH) : (ahdR key seq (l.map (·.1))).length = (ahdV key seq l).length := by rw [← rows_ahd, List.length_map]
theorem place_c {A1 : Option Addr} {c1 : Nat} (key : ByteArray) (seq : Int) (hs : SortedR (l.map (·.1))) (hl : l.length ≤ 1000) (h1 : k28.C w A1 l.length (l.map (·.1))) (hc1 : l.length ≤ c1) :
    Calls Try.prog 25 #[.slice A1 l.length c1, .string key, .int .u64 seq] w fun e w' => e = .returned (.int .i64 ((ahdV key seq l).length : Int)) ∧ Below w.heap.size w w' := by
  have h3 := freshetref08_Place.calls _ A1 c1 (l.map (·.1)) key seq _ w (by rw [List.length_map]; exact h1) (by rw [List.length_map]; exact hc1) (place_f hs (by rw [List.length_map]; omega))
  rw [List.length_map, ahd_len] at h3
  exact h3
theorem behN (key : ByteArray) (seq : Int) (h : St w0 w ga gw rs l) : (beh key seq rs).map (·.row) = (l.map (·.1)).drop (ahdV key seq l).length := by
  rw [beh_rows, h.rows, ← drop_ahd, ahd_len]
theorem seek_c (key : ByteArray) (seq : Int) (h : St w0 w ga gw rs l) : ∃ y b, Calls Try.prog 27 #[.pointer (some ⟨ga, 0, none⟩), .string key, .int .u64 seq] w (fun e w' => e = .returned (.tuple #[.agg #[.string y.f0, .int .u64 y.f1, .int .i64 y.f2, .string y.f3], .bool b]) ∧ Below w.heap.size w w') ∧
    ((b = true ∧ (ahdV key seq l).length < l.length ∧ (l.map (·.1)).getD (ahdV key seq l).length z28 = y) ∨ (b = false ∧ (ahdV key seq l).length = l.length ∧ y = zrow)) := by
  refine ⟨_, _, seek_calls w ga rs key seq h.sk (by have := h.len; have := h.size; omega), ?_⟩
  have hB : behR key seq (rowsN rs) = (l.map (·.1)).drop (ahdV key seq l).length := by rw [← beh_rows]; exact behN key seq h
  have hle : (ahdV key seq l).length ≤ l.length := (List.takeWhile_prefix _).length_le
  by_cases c : (ahdV key seq l).length < l.length
  · have e := List.drop_eq_getElem_cons (l := l.map (·.1)) (i := (ahdV key seq l).length) (by rw [List.length_map]; exact c)
    obtain ⟨h1, h2⟩ := seek_one (hB.trans e)
    refine .inl ⟨h2, c, ?_⟩
    rw [h1, List.getD_eq_getElem?_getD, List.getElem?_eq_getElem (by rw [List.length_map]; exact c)]
    rfl
  · have e : (l.map (·.1)).drop (ahdV key seq l).length = [] := List.drop_eq_nil_of_le (by rw [List.length_map]; omega)
    obtain ⟨h1, h2⟩ := seek_none (hB.trans e)
    exact .inr ⟨h2, by omega, h1⟩
theorem all_c (key : ByteArray) (seq most : Int) (h : St w0 w ga gw rs l) : Calls Try.prog 23 #[.pointer (some ⟨ga, 0, none⟩), .string key, .int .u64 seq, .int .i64 most] w fun e w' => ∃ v, e = .returned v ∧ Kd.R k28 28 w' w.heap.size (fun _ => True) v (takeM most ((l.map (·.1)).drop (ahdV key seq l).length)) ∧ Below w.heap.size w w' := by
  have h1 := all_calls w ga rs key seq most h.sk (by have := h.len; have := h.size; omega)
  rw [behN key seq h] at h1
  exact h1
theorem whole_c (h : St w0 w ga gw rs l) : Calls Try.prog 32 #[.pointer (some ⟨ga, 0, none⟩)] w fun e w' => ∃ v, e = .returned v ∧ Kd.R k28 28 w' w.heap.size (fun _ => True) v (l.map (·.1)) ∧ Below w.heap.size w w' := by
  have h1 := whole_calls w ga rs h.sk (by have := h.len; have := h.size; omega)
  rw [whole_all (fun x hx => ?_), h.rows] at h1
  · exact h1
  · have : (x.row, x.h) ∈ l := by rw [← h.vl]; exact List.mem_map.mpr ⟨x, hx, rfl⟩
    exact h.u64 _ this
theorem steps_c (key : ByteArray) (seq : Int) (h : St w0 w ga gw rs l) : Calls Try.prog 24 #[.pointer (some ⟨ga, 0, none⟩), .string key, .int .u64 seq] w fun e w' => e = .returned (.int .i64 ((stepsN 12 ((ahdV key seq l).map (·.2)) : Nat) : Int)) ∧ Below w.heap.size w w' := by
  have h1 := steps_calls w ga _ _ rs key seq h.sk.sl (h.sk.front _ _) (by have := h.len; have := h.size; omega)
  rw [hts_vals, h.vl] at h1
  exact h1
theorem refsteps_c {A1 A2 : Option Addr} {c1 c2 : Nat} (key : ByteArray) (seq : Int) (hs : SortedR (l.map (·.1))) (hl : l.length ≤ 1000) (h1 : k28.C w A1 l.length (l.map (·.1))) (h2 : (Kd.int .i64).C w A2 l.length (l.map (fun x => (x.2 : Int)))) (hc1 : l.length ≤ c1) (hc2 : l.length ≤ c2) :
    Calls Try.prog 29 #[.agg #[.slice A1 l.length c1, .slice A2 l.length c2], .string key, .int .u64 seq] w fun e w' => e = .returned (.int .i64 ((stepsN 12 ((ahdV key seq l).map (·.2)) : Nat) : Int)) ∧ Below w.heap.size w w' := by
  obtain ⟨k, hk⟩ := steps_f (key := key) (seq := seq) hs (by omega)
  have h3 := freshetref08_Steps.calls k A1 c1 (l.map (·.1)) A2 c2 (l.map (fun x => (x.2 : Int))) key seq _ w (by rw [List.length_map]; exact h1) (by rw [List.length_map]; exact hc1) (by rw [List.length_map]; exact h2) (by rw [List.length_map]; exact hc2) hk
  rw [List.length_map, List.length_map] at h3
  exact h3
theorem RL.reads {base : Nat} (h : RL w base gw l) : ∃ A1 c1 A2 c2, w.heap[gw]? = some (.cells #[.slice A1 l.length c1, .slice A2 l.length c2] 42 (0, 0)) ∧ k28.C w A1 l.length (l.map (·.1)) ∧ (Kd.int .i64).C w A2 l.length (l.map (fun x => (x.2 : Int))) ∧ l.length ≤ c1 ∧ l.length ≤ c2 := by
  obtain ⟨A1, c1, A2, c2, h1, h2, h3⟩ := h.ex
  have h4 := Kd.R_reads' h2
  have h5 := Kd.R_reads' h3
  rw [List.length_map] at h4 h5
  exact ⟨A1, c1, A2, c2, h1, h4.2.2, h5.2.2, h4.2.1, h5.2.1⟩
end
attribute [local go_sem high] eqA28
set_option maxHeartbeats 8000000 in
set_option maxRecDepth 100000 in
theorem skipPlays_calls (w : World) (A0 : Option Addr) (c0 : Nat) (xs : List S44) (hr0 : k44.C w A0 xs.length xs) (hc0 : xs.length ≤ c0) (hwf : ∀ x, x ∈ xs → x.f1.f1 ≤ 18446744073709551615) :
    Calls Try.prog 4 #[.slice A0 xs.length c0] w fun e w' => e = .returned (.bool true) ∧ Below w.heap.size w w' := by
  have HR0 := Aside0.mk hr0
  have HC0 := Aside0.mk hc0
  have HWF := Aside0.mk hwf
  clear hr0 hc0 hwf
  have HB := Aside0.mk (Below.refl w.heap.size w)
  by_cases c : (xs.length : Int) > 150
  · have cb : decide (150 < (xs.length : Int)) = true := decide_eq_true c
    have cb2 : decide (150 < xs.length) = true := decide_eq_true (by omega)
    clear c
    go_enter Try.func4, Try.ntmps4
    go_wp2_with fail
    refine (awake08_calls _).mono ?_
    rintro e w1 ⟨rfl, hb⟩
    have HB2 := Aside0.mk hb
    clear hb HB
    go_wp2_with fail
    go_ret
    exact ⟨rfl, HB2.out⟩
  · have CN := Aside0.mk (show xs.length ≤ 150 by omega)
    have cb : decide (150 < (xs.length : Int)) = false := decide_eq_false c
    have cb2 : decide (150 < xs.length) = false := decide_eq_false (by omega)
    clear c
    go_enter Try.func4, Try.ntmps4
    go_wp2_with (first | ((with_reducible refine gate_dst (N := 16) rfl ?_); refine box_event ?hg (N := 16) ?hd (cs := (cellsH 0 0 []).toArray) (t := 34) ?hr ?_; (case hd => rfl); (case hg => rfl); (case hr => first | (go_simp; done) | (go_simp; rfl)); intro ga hg w2 hbox hb; have n0_ := Aside0.mk (below_step HB.out hb); have n1_ := Aside0.mk (Sk.empty hbox); have GA := Aside0.mk (by rw [hg]; exact below_size HB.out : w.heap.size ≤ ga); clear HB; have HB := n0_; have SA := n1_; clear n0_ n1_; clear hb hbox hg) | fail)
    have n0_ := Aside0.mk (HB.out.alloc HB.out.size (.cells #[.slice none 0 0, .slice none 0 0] 42))
    have n1_ := Aside0.mk (SA.out.below ((Below.refl w2.heap.size w2).alloc (Nat.le_refl _) (.cells #[.slice none 0 0, .slice none 0 0] 42)))
    have HL := Aside0.mk (RL.nil w.heap.size (blk_new w2 (.cells #[.slice none 0 0, .slice none 0 0] 42)))
    have GW := Aside0.mk (show w.heap.size ≤ w2.heap.size from HB.out.size)
    have LA := Aside0.mk (show ∀ k, k ∈ fp ga [] → w.heap.size ≤ k from fun k hk => by rw [fp_mem] at hk; simp at hk; rw [hk]; exact GA.out)
    clear HB SA GA
    generalize w2.heap.size = gw at *
    generalize w2.alloc (.cells #[.slice none 0 0, .slice none 0 0] 42) = w3 at *
    have ST := Aside0.mk (show St w w3 ga gw [] [] from ⟨n1_.out, rfl, HL.out, LA.out, GW.out, n0_.out, fun p hp => by simp at hp, by simp⟩)
    clear n0_ n1_ HL GW LA
    go_wp2_with fail
    go_loopg [5, 6, 7, 8, 9, 10] xs.length (fun kq v5 v6 v7 v8 v9 v10 w' => ∃ (i : Nat) (rs : List Nd) (l : List RH), v5 = .int .i64 (i : Int) ∧ Aside0 (kq + i = xs.length) ∧ Aside0 (l.length ≤ i) ∧ Aside0 (St w w' ga gw rs l))
    case atStart => exact ⟨0, [], [], rfl, ⟨by omega⟩, ⟨Nat.le_refl _⟩, ST⟩
    case round =>
      clear ST
      obtain ⟨i, rs, l, rfl, HK, LR, ST⟩ := hrel
      cases gk with
      | zero =>
        have ei : i = xs.length := by have := HK.out; omega
        subst ei
        have d0 : decide ((xs.length : Int) < (xs.length : Int)) = false := by simp
        have LN := Aside0.mk (show l.length ≤ 150 by have := LR.out; have := CN.out; omega)
        go_wp2_with fail
        obtain ⟨A1, c1, A2, c2, hg0, hr1, hr2, hl1, hl2⟩ := ST.out.rl.reads
        have a0 : wr.cell? ⟨gw, 0, none⟩ = some (.slice A1 l.length c1) := (blk_cell hg0 0).trans rfl
        have a1 : wr.cell? ⟨gw, 1, none⟩ = some (.slice A2 l.length c2) := (blk_cell hg0 1).trans rfl
        have C1 := Aside0.mk hr1
        have C2 := Aside0.mk hr2
        have L1 := Aside0.mk hl1
        have L2 := Aside0.mk hl2
        clear hg0 hr1 hr2 hl1 hl2
        refine start_ (n := 9) (S := fun w' => Below w.heap.size w w' ∧ w'.cell? ⟨gw, 0, none⟩ = some (.slice A1 l.length c1)) (ds := []) #[false, false, false, false, false, false, false, false, false] (by kernel_rfl) rfl rfl ⟨pw_below_drewN ST.out.bel 1, a0⟩ (fun hHeld => ?_)
        have n1_ : Aside0 (k28.C wr.drew A1 l.length (l.map (·.1))) := Aside0.mk (Kd.C_below C1.out (pw_below_drewN (Below.refl _ _) 1))
        have n2_ : Aside0 ((Kd.int .i64).C wr.drew A2 l.length (l.map (fun x => (x.2 : Int)))) := Aside0.mk (Kd.C_below C2.out (pw_below_drewN (Below.refl _ _) 1))
        clear C1 C2 a0 a1
        have n0_ : Aside0 (St w wr.drew ga gw rs l) := Aside0.mk (ST.out.below (pw_below_drewN (Below.refl _ _) 1))
        clear ST
        generalize wr.drew = wd at *
        have ST := n0_
        clear n0_
        have C1 := n1_
        have C2 := n2_
        clear n1_ n2_
        -- 0: Op.move t3
        refine pure_ (i := 0) (N := (some 162)) (v := ?_) (a' := ?_) #[true, false, false, false, false, false, false, false, false] rfl rfl (by kernel_rfl) (fun _ _ _ h => h) (Or.inl ⟨by rfl, ?_⟩) ?_ ?_
        rotate_left
        · intro w'
          go_simp
          with_reducible rfl
        rotate_left
        · simp only [Act.put, List.setIfInBounds_toArray, List.set_cons_zero, List.set_cons_succ, i64_w, i32_w]
          rfl
        -- 2: Op.fieldAddr 42 t4 0
        refine pure_ (i := 2) (N := (some 164)) (v := ?_) (a' := ?_) #[true, false, true, false, false, false, false, false, false] rfl rfl (by kernel_rfl) (fun _ _ _ h => h) (Or.inl ⟨by rfl, ?_⟩) ?_ ?_
        rotate_left
        · intro w'
          go_simp
          with_reducible rfl
        rotate_left
        · simp only [Act.put, List.setIfInBounds_toArray, List.set_cons_zero, List.set_cons_succ, i64_w, i32_w]
          rfl
        -- 3: Op.load 22 t164
        refine take_ (i := 3) (N := (some 165)) (v := ?_) (a' := ?_) #[true, false, true, true, false, false, false, false, false] rfl rfl (by kernel_rfl) (fun _ _ _ h => h) (Or.inl ⟨by rfl, ?_⟩) hHeld ?_ ?_
        rotate_left
        · rintro w' ⟨s0, s1⟩
          go_simp
          with_reducible rfl
        rotate_left
        · simp only [Act.put, List.setIfInBounds_toArray, List.set_cons_zero, List.set_cons_succ, i64_w, i32_w]
          rfl
        -- 1: Op.call { value (Operand.func 32), args := #[t162], argTypes := #[26] }
        refine one_ (i := 1) (N := (some 163)) #[true, true, true, true, false, false, false, false, false] rfl rfl (by kernel_rfl) (by decide) (fun K hK => ?_)
        refine goes_ Try.func32 (by kernel_rfl) rfl #[.pointer (some ⟨ga, 0, none⟩)] (by rfl) rfl rfl (by (try simp only [List.map_toArray, List.map_cons, List.map_nil]); first | done | rfl) ?_
        with_reducible refine (whole_c ST.out).mono ?_
        rintro e wb ⟨v, rfl, hR, hb⟩
        obtain ⟨Al, cl, hv⟩ := Kd.R_slice hR
        subst hv
        have CA := Aside0.mk (Kd.R_reads' hR).2.2
        have CAc := Aside0.mk (Kd.R_reads' hR).2.1
        clear hR
        rw [List.length_map]
        refine ⟨_, rfl, ?_⟩
        have hOld := hHeld
        clear hHeld
        refine hK.out _ _ (⟨below_step hOld.1 hb, (hb.cell (World.block_lt_of_cell? _ _ hOld.2)).trans hOld.2⟩) (fun hHeld => ?_)
        clear hOld hK K
        refine norm_ (a' := ?_) ?_ ?_
        rotate_left
        · show Act.put _ (some 163) _ = _
          simp only [Act.put, List.setIfInBounds_toArray, List.set_cons_zero, List.set_cons_succ, i64_w, i32_w]
          rfl
        have n1_ := Aside0.mk (Kd.C_below C1.out hb)
        clear ST C1 C2 hb
        have C1 := n1_
        clear n1_
        -- 4: Op.call { value (Operand.func 28), args := #[t163, t165], argTypes := #[22, 22] }
        refine one_ (i := 4) (N := (some 166)) #[true, true, true, true, true, false, false, false, false] rfl rfl (by kernel_rfl) (by decide) (fun K hK => ?_)
        have hsm := same_true wb Al cl A1 c1 (l.map (·.1)) CA.out CAc.out (by rw [List.length_map]; exact C1.out) (by rw [List.length_map]; exact L1.out) (by rw [List.length_map]; have := LN.out; omega)
        rw [List.length_map] at hsm
        refine goes_ Try.func28 (by kernel_rfl) rfl #[.slice Al l.length cl, .slice A1 l.length c1] (by rfl) rfl rfl (by (try simp only [List.map_toArray, List.map_cons, List.map_nil]); first | done | rfl) ?_
        with_reducible refine (hsm).mono ?_
        rintro e wc ⟨rfl, hb⟩
        clear hsm
        refine ⟨_, rfl, ?_⟩
        have hOld := hHeld
        clear hHeld
        refine hK.out _ _ (⟨below_step hOld.1 hb, (hb.cell (World.block_lt_of_cell? _ _ hOld.2)).trans hOld.2⟩) (fun hHeld => ?_)
        clear hOld hK K
        refine norm_ (a' := ?_) ?_ ?_
        rotate_left
        · show Act.put _ (some 166) _ = _
          simp only [Act.put, List.setIfInBounds_toArray, List.set_cons_zero, List.set_cons_succ, i64_w, i32_w]
          rfl
        -- 5: Op.move t166
        refine pure_ (i := 5) (N := (some 167)) (v := ?_) (a' := ?_) #[true, true, true, true, true, true, false, false, false] rfl rfl (by kernel_rfl) (fun _ _ _ h => h) (Or.inl ⟨by rfl, ?_⟩) ?_ ?_
        rotate_left
        · intro w'
          go_simp
          with_reducible rfl
        rotate_left
        · simp only [Act.put, List.setIfInBounds_toArray, List.set_cons_zero, List.set_cons_succ, i64_w, i32_w]
          rfl
        -- 6: Op.call { value (Operand.func 20), args := #[], argTypes := #[] }   [guarded: some (5, true)]
        refine one_ (i := 6) (N := (some 168)) #[true, true, true, true, true, true, true, false, false] rfl rfl (by kernel_rfl) (by decide) (fun K hK => ?_)
        refine goes_ Try.func20 (by kernel_rfl) rfl #[] (by rfl) rfl rfl (by (try simp only [List.map_toArray, List.map_cons, List.map_nil]); first | done | rfl) ?_
        with_reducible refine (awake08_calls _).mono ?_
        rintro e wj ⟨rfl, hb2⟩
        refine ⟨_, rfl, ?_⟩
        have hOld := hHeld
        clear hHeld
        refine hK.out _ _ (⟨below_step hOld.1 hb2, (hb2.cell (World.block_lt_of_cell? _ _ hOld.2)).trans hOld.2⟩) (fun hHeld => ?_)
        clear hOld hK K
        refine norm_ (a' := ?_) ?_ ?_
        rotate_left
        · show Act.put _ (some 168) _ = _
          simp only [Act.put, List.setIfInBounds_toArray, List.set_cons_zero, List.set_cons_succ, i64_w, i32_w]
          rfl
        -- 7: Op.pick t167 t168 (const (Value.bool false))
        refine pure_ (i := 7) (N := (some 169)) (v := ?_) (a' := ?_) #[true, true, true, true, true, true, true, true, false] rfl rfl (by kernel_rfl) (fun _ _ _ h => h) (Or.inl ⟨by rfl, ?_⟩) ?_ ?_
        rotate_left
        · intro w'
          go_simp
          with_reducible rfl
        rotate_left
        · simp only [Act.put, List.setIfInBounds_toArray, List.set_cons_zero, List.set_cons_succ, i64_w, i32_w]
          rfl
        -- 8: Op.assign t169
        refine pure_ (i := 8) (N := (some 2)) (v := ?_) (a' := ?_) #[true, true, true, true, true, true, true, true, true] rfl rfl (by kernel_rfl) (fun _ _ _ h => h) (Or.inl ⟨by rfl, ?_⟩) ?_ ?_
        rotate_left
        · intro w'
          go_simp
          with_reducible rfl
        rotate_left
        · simp only [Act.put, List.setIfInBounds_toArray, List.set_cons_zero, List.set_cons_succ, i64_w, i32_w]
          rfl
        refine done_ (by kernel_rfl) ?_
        go_wp2_with fail
        go_ret
        exact ⟨rfl, hHeld.1⟩
      | succ q =>
        have hi : i < xs.length := by have := HK.out; omega
        have d0 : decide ((i : Int) < (xs.length : Int)) = true := decide_eq_true (by omega)
        have d1 : decide (i < xs.length) = true := decide_eq_true hi
        have p0 : 0 ≤ (i : Int) := Int.natCast_nonneg _
        have p1 : (i : Int) < (xs.length : Int) := Int.ofNat_lt.mpr hi
        have LN := Aside0.mk (show l.length ≤ 150 by have := LR.out; have := CN.out; omega)
        obtain ⟨ad, x, ea, hxx, hxm, hx0, hx1, hx2, hx3, hx4, hx5⟩ := at_T44 HR0.out i hi
        cases ea
        have XU := Aside0.mk (HWF.out x hxm)
        have HB := Aside0.mk ST.out.bel
        have x0 := (HB.out.cell (World.block_lt_of_cell? w _ hx0)).trans hx0
        have x1 := (HB.out.cell (World.block_lt_of_cell? w _ hx1)).trans hx1
        have x2 := (HB.out.cell (World.block_lt_of_cell? w _ hx2)).trans hx2
        have x3 := (HB.out.cell (World.block_lt_of_cell? w _ hx3)).trans hx3
        have x4 := (HB.out.cell (World.block_lt_of_cell? w _ hx4)).trans hx4
        have x5 := (HB.out.cell (World.block_lt_of_cell? w _ hx5)).trans hx5
        clear hxx hxm hx0 hx1 hx2 hx3 hx4 hx5 HB
        obtain ⟨A1, c1, A2, c2, hg0, hr1, hr2, hl1, hl2⟩ := ST.out.rl.reads
        have GB := Aside0.mk hg0
        have C1 := Aside0.mk hr1
        have L1 := Aside0.mk hl1
        clear hg0 hr1 hr2 hl1 hl2
        have y0 : (wr.alloc (.cells #[.int .i64 x.f0, .string x.f1.f0, .int .u64 x.f1.f1, .int .i64 x.f1.f2, .string x.f1.f3, .int .i64 x.f2] 44)).cell? ⟨gw, 0, none⟩ = some (.slice A1 l.length c1) := (blk_cell (blk_alloc GB.out _) 0).trans rfl
        have z1 : (wr.alloc (.cells #[.int .i64 x.f0, .string x.f1.f0, .int .u64 x.f1.f1, .int .i64 x.f1.f2, .string x.f1.f3, .int .i64 x.f2] 44)).cell? ⟨wr.heap.size, 1, none⟩ = some (.string x.f1.f0) := (blk_cell (blk_new wr (.cells #[.int .i64 x.f0, .string x.f1.f0, .int .u64 x.f1.f1, .int .i64 x.f1.f2, .string x.f1.f3, .int .i64 x.f2] 44)) 1).trans rfl
        have z2 : (wr.alloc (.cells #[.int .i64 x.f0, .string x.f1.f0, .int .u64 x.f1.f1, .int .i64 x.f1.f2, .string x.f1.f3, .int .i64 x.f2] 44)).cell? ⟨wr.heap.size, 2, none⟩ = some (.int .u64 x.f1.f1) := (blk_cell (blk_new wr (.cells #[.int .i64 x.f0, .string x.f1.f0, .int .u64 x.f1.f1, .int .i64 x.f1.f2, .string x.f1.f3, .int .i64 x.f2] 44)) 2).trans rfl
        go_wp2_with fail
        have n0_ : Aside0 (St w (wr.alloc (.cells #[.int .i64 x.f0, .string x.f1.f0, .int .u64 x.f1.f1, .int .i64 x.f1.f2, .string x.f1.f3, .int .i64 x.f2] 44)) ga gw rs l) := Aside0.mk (ST.out.below ((Below.refl wr.heap.size wr).alloc (Nat.le_refl _) (.cells #[.int .i64 x.f0, .string x.f1.f0, .int .u64 x.f1.f1, .int .i64 x.f1.f2, .string x.f1.f3, .int .i64 x.f2] 44)))
        have n1_ : Aside0 (k28.C (wr.alloc (.cells #[.int .i64 x.f0, .string x.f1.f0, .int .u64 x.f1.f1, .int .i64 x.f1.f2, .string x.f1.f3, .int .i64 x.f2] 44)) A1 l.length (l.map (·.1))) := Aside0.mk (Kd.C_below C1.out ((Below.refl wr.heap.size wr).alloc (Nat.le_refl _) (.cells #[.int .i64 x.f0, .string x.f1.f0, .int .u64 x.f1.f1, .int .i64 x.f1.f2, .string x.f1.f3, .int .i64 x.f2] 44)))
        have BO := Aside0.mk (blk_new wr (.cells #[.int .i64 x.f0, .string x.f1.f0, .int .u64 x.f1.f1, .int .i64 x.f1.f2, .string x.f1.f3, .int .i64 x.f2] 44))
        clear ST GB C1 x0 x1 x2 x3 x4 x5 y0 z1 z2
        generalize wr.heap.size = go at *
        generalize wr.alloc (.cells #[.int .i64 x.f0, .string x.f1.f0, .int .u64 x.f1.f1, .int .i64 x.f1.f2, .string x.f1.f3, .int .i64 x.f2] 44) = w4 at *
        have ST := n0_
        obtain ⟨n, hn⟩ : ∃ n, n = (ahdV x.f1.f0 x.f1.f1 l).length := ⟨_, rfl⟩
        have HN := Aside0.mk hn
        have hpc := place_c x.f1.f0 x.f1.f1 ST.out.sorted ST.out.len n1_.out L1.out
        rw [← hn] at hpc
        refine (hpc).mono ?_
        rintro e w5 ⟨rfl, hb⟩
        clear n0_ n1_ hpc hn L1
        have n0_ := Aside0.mk (ST.out.below hb)
        have n1_ := Aside0.mk (blk_below BO.out hb)
        clear ST BO hb
        have ST := n0_
        have BO := n1_
        clear n0_ n1_
        have z0 : w5.cell? ⟨go, 0, none⟩ = some (.int .i64 x.f0) := (blk_cell BO.out 0).trans rfl
        have LL := Aside0.mk (show l.length ≤ i + 1 by have := LR.out; omega)
        have LN1 := Aside0.mk (show l.length ≤ 1000 by have := LN.out; omega)
        by_cases k1 : x.f0 = 1
        · have e1 : (x.f0 == 1) = true := beq_iff_eq.mpr k1
          have e2 : decide (x.f0 = 1) = true := decide_eq_true k1
          clear k1 LL LN1
          go_wp2_with fail
          clear z0 e1 e2
          refine start_ (n := 12) (S := fun w' => w'.heap[go]? = some (.cells #[.int .i64 x.f0, .string x.f1.f0, .int .u64 x.f1.f1, .int .i64 x.f1.f2, .string x.f1.f3, .int .i64 x.f2] 44 (0, 0))) (ds := []) #[false, false, false, false, false, false, false, false, false, false, false, false] (by kernel_rfl) rfl rfl (blk_drew BO.out) (fun hHeld => ?_)
          have n0_ : Aside0 (St w w5.drew ga gw rs l) := Aside0.mk (ST.out.below (pw_below_drewN (Below.refl _ _) 1))
          clear ST
          generalize w5.drew = wd at *
          have ST := n0_
          clear n0_
          -- 0: Op.move t3
          refine pure_ (i := 0) (N := (some 40)) (v := ?_) (a' := ?_) #[true, false, false, false, false, false, false, false, false, false, false, false] rfl rfl (by kernel_rfl) (fun _ _ _ h => h) (Or.inl ⟨by rfl, ?_⟩) ?_ ?_
          rotate_left
          · intro w'
            go_simp
            with_reducible rfl
          rotate_left
          · simp only [Act.put, List.setIfInBounds_toArray, List.set_cons_zero, List.set_cons_succ, i64_w, i32_w]
            rfl
          -- 1: Op.fieldAddr 44 t6 1
          refine pure_ (i := 1) (N := (some 41)) (v := ?_) (a' := ?_) #[true, true, false, false, false, false, false, false, false, false, false, false] rfl rfl (by kernel_rfl) (fun _ _ _ h => h) (Or.inl ⟨by rfl, ?_⟩) ?_ ?_
          rotate_left
          · intro w'
            go_simp
            with_reducible rfl
          rotate_left
          · simp only [Act.put, List.setIfInBounds_toArray, List.set_cons_zero, List.set_cons_succ, i64_w, i32_w]
            rfl
          -- 2: Op.load 28 t41
          refine take_ (i := 2) (N := (some 42)) (v := ?_) (a' := ?_) #[true, true, true, false, false, false, false, false, false, false, false, false] rfl rfl (by kernel_rfl) (fun _ _ _ h => h) (Or.inl ⟨by rfl, ?_⟩) hHeld ?_ ?_
          rotate_left
          · rintro w' s0
            have z1 : w'.cell? ⟨go, 1, none⟩ = some (.string x.f1.f0) := (blk_cell s0 1).trans rfl
            have z2 : w'.cell? ⟨go, 2, none⟩ = some (.int .u64 x.f1.f1) := (blk_cell s0 2).trans rfl
            have z3 : w'.cell? ⟨go, 3, none⟩ = some (.int .i64 x.f1.f2) := (blk_cell s0 3).trans rfl
            have z4 : w'.cell? ⟨go, 4, none⟩ = some (.string x.f1.f3) := (blk_cell s0 4).trans rfl
            have z5 : w'.cell? ⟨go, 5, none⟩ = some (.int .i64 x.f2) := (blk_cell s0 5).trans rfl
            go_simp
            with_reducible rfl
          rotate_left
          · simp only [Act.put, List.setIfInBounds_toArray, List.set_cons_zero, List.set_cons_succ, i64_w, i32_w]
            rfl
          -- 3: Op.fieldAddr 44 t6 2
          refine pure_ (i := 3) (N := (some 43)) (v := ?_) (a' := ?_) #[true, true, true, true, false, false, false, false, false, false, false, false] rfl rfl (by kernel_rfl) (fun _ _ _ h => h) (Or.inl ⟨by rfl, ?_⟩) ?_ ?_
          rotate_left
          · intro w'
            go_simp
            with_reducible rfl
          rotate_left
          · simp only [Act.put, List.setIfInBounds_toArray, List.set_cons_zero, List.set_cons_succ, i64_w, i32_w]
            rfl
          -- 4: Op.load 3 t43
          refine take_ (i := 4) (N := (some 44)) (v := ?_) (a' := ?_) #[true, true, true, true, true, false, false, false, false, false, false, false] rfl rfl (by kernel_rfl) (fun _ _ _ h => h) (Or.inl ⟨by rfl, ?_⟩) hHeld ?_ ?_
          rotate_left
          · rintro w' s0
            have z1 : w'.cell? ⟨go, 1, none⟩ = some (.string x.f1.f0) := (blk_cell s0 1).trans rfl
            have z2 : w'.cell? ⟨go, 2, none⟩ = some (.int .u64 x.f1.f1) := (blk_cell s0 2).trans rfl
            have z3 : w'.cell? ⟨go, 3, none⟩ = some (.int .i64 x.f1.f2) := (blk_cell s0 3).trans rfl
            have z4 : w'.cell? ⟨go, 4, none⟩ = some (.string x.f1.f3) := (blk_cell s0 4).trans rfl
            have z5 : w'.cell? ⟨go, 5, none⟩ = some (.int .i64 x.f2) := (blk_cell s0 5).trans rfl
            go_simp
            with_reducible rfl
          rotate_left
          · simp only [Act.put, List.setIfInBounds_toArray, List.set_cons_zero, List.set_cons_succ, i64_w, i32_w]
            rfl
          -- 6: Op.fieldAddr 44 t6 1
          refine pure_ (i := 6) (N := (some 46)) (v := ?_) (a' := ?_) #[true, true, true, true, true, false, true, false, false, false, false, false] rfl rfl (by kernel_rfl) (fun _ _ _ h => h) (Or.inl ⟨by rfl, ?_⟩) ?_ ?_
          rotate_left
          · intro w'
            go_simp
            with_reducible rfl
          rotate_left
          · simp only [Act.put, List.setIfInBounds_toArray, List.set_cons_zero, List.set_cons_succ, i64_w, i32_w]
            rfl
          -- 7: Op.load 28 t46
          refine take_ (i := 7) (N := (some 47)) (v := ?_) (a' := ?_) #[true, true, true, true, true, false, true, true, false, false, false, false] rfl rfl (by kernel_rfl) (fun _ _ _ h => h) (Or.inl ⟨by rfl, ?_⟩) hHeld ?_ ?_
          rotate_left
          · rintro w' s0
            have z1 : w'.cell? ⟨go, 1, none⟩ = some (.string x.f1.f0) := (blk_cell s0 1).trans rfl
            have z2 : w'.cell? ⟨go, 2, none⟩ = some (.int .u64 x.f1.f1) := (blk_cell s0 2).trans rfl
            have z3 : w'.cell? ⟨go, 3, none⟩ = some (.int .i64 x.f1.f2) := (blk_cell s0 3).trans rfl
            have z4 : w'.cell? ⟨go, 4, none⟩ = some (.string x.f1.f3) := (blk_cell s0 4).trans rfl
            have z5 : w'.cell? ⟨go, 5, none⟩ = some (.int .i64 x.f2) := (blk_cell s0 5).trans rfl
            go_simp
            with_reducible rfl
          rotate_left
          · simp only [Act.put, List.setIfInBounds_toArray, List.set_cons_zero, List.set_cons_succ, i64_w, i32_w]
            rfl
          -- 8: Op.fieldAddr 44 t6 2
          refine pure_ (i := 8) (N := (some 48)) (v := ?_) (a' := ?_) #[true, true, true, true, true, false, true, true, true, false, false, false] rfl rfl (by kernel_rfl) (fun _ _ _ h => h) (Or.inl ⟨by rfl, ?_⟩) ?_ ?_
          rotate_left
          · intro w'
            go_simp
            with_reducible rfl
          rotate_left
          · simp only [Act.put, List.setIfInBounds_toArray, List.set_cons_zero, List.set_cons_succ, i64_w, i32_w]
            rfl
          -- 9: Op.load 3 t48
          refine take_ (i := 9) (N := (some 49)) (v := ?_) (a' := ?_) #[true, true, true, true, true, false, true, true, true, true, false, false] rfl rfl (by kernel_rfl) (fun _ _ _ h => h) (Or.inl ⟨by rfl, ?_⟩) hHeld ?_ ?_
          rotate_left
          · rintro w' s0
            have z1 : w'.cell? ⟨go, 1, none⟩ = some (.string x.f1.f0) := (blk_cell s0 1).trans rfl
            have z2 : w'.cell? ⟨go, 2, none⟩ = some (.int .u64 x.f1.f1) := (blk_cell s0 2).trans rfl
            have z3 : w'.cell? ⟨go, 3, none⟩ = some (.int .i64 x.f1.f2) := (blk_cell s0 3).trans rfl
            have z4 : w'.cell? ⟨go, 4, none⟩ = some (.string x.f1.f3) := (blk_cell s0 4).trans rfl
            have z5 : w'.cell? ⟨go, 5, none⟩ = some (.int .i64 x.f2) := (blk_cell s0 5).trans rfl
            go_simp
            with_reducible rfl
          rotate_left
          · simp only [Act.put, List.setIfInBounds_toArray, List.set_cons_zero, List.set_cons_succ, i64_w, i32_w]
            rfl
          -- 5: Op.call { value (Operand.func 21), args := #[t40, t42, t44], argTypes := #[26, 28, 3] }
          refine one_ (i := 5) (N := (some 45)) #[true, true, true, true, true, true, true, true, true, true, false, false] rfl rfl (by kernel_rfl) (by decide) (fun K hK => ?_)
          refine goes_ Try.func21 (by kernel_rfl) rfl #[.pointer (some ⟨ga, 0, none⟩), .agg #[.string x.f1.f0, .int .u64 x.f1.f1, .int .i64 x.f1.f2, .string x.f1.f3], .int .i64 x.f2] (by rfl) rfl rfl (by (try simp only [List.map_toArray, List.map_cons, List.map_nil]); first | done | rfl) ?_
          with_reducible refine (put_val _ ga rs x.f1 x.f2 ST.out.sk (by have := ST.out.size; have := LN.out; omega)).mono ?_
          rintro e wc ⟨rfl, rs2, hp⟩
          rw [ST.out.vl]
          refine ⟨_, rfl, ?_⟩
          have hOld := hHeld
          clear hHeld
          refine hK.out _ _ (put_o hOld ST.out.sk hp) (fun hHeld => ?_)
          clear hOld hK K
          refine norm_ (a' := ?_) ?_ ?_
          rotate_left
          · show Act.put _ (some 45) _ = _
            simp only [Act.put, List.setIfInBounds_toArray, List.set_cons_zero, List.set_cons_succ, i64_w, i32_w]
            rfl
          -- 10: Op.call { value (Operand.func 26), args := #[t4, t47, t49], argTypes := #[47, 28, 3] }
          refine one_ (i := 10) (N := (some 50)) #[true, true, true, true, true, true, true, true, true, true, true, false] rfl rfl (by kernel_rfl) (by decide) (fun K hK => ?_)
          refine goes_ Try.func26 (by kernel_rfl) rfl #[.pointer (some ⟨gw, 0, none⟩), .agg #[.string x.f1.f0, .int .u64 x.f1.f1, .int .i64 x.f1.f2, .string x.f1.f3], .int .i64 x.f2] (by rfl) rfl rfl (by (try simp only [List.map_toArray, List.map_cons, List.map_nil]); first | done | rfl) ?_
          with_reducible refine (put08_calls _ w.heap.size gw l x.f1 x.f2 (ST.out.rl.put ST.out.sk hp) ST.out.sorted (by have := LN.out; omega) (by have h1 := ST.out.bel.size; have h2 := hp.kp.size; omega) ST.out.hi).mono ?_
          rintro e wj ⟨rfl, hRL, hsame, hbel⟩
          refine ⟨_, rfl, ?_⟩
          have hOld := hHeld
          clear hHeld
          refine hK.out _ _ (ref_o hOld (ST.out.rl.put ST.out.sk hp) hsame) (fun hHeld => ?_)
          clear hOld hK K
          refine norm_ (a' := ?_) ?_ ?_
          rotate_left
          · show Act.put _ (some 50) _ = _
            simp only [Act.put, List.setIfInBounds_toArray, List.set_cons_zero, List.set_cons_succ, i64_w, i32_w]
            rfl
          have hST := ST.out.both_ab hp hRL hsame hbel XU.out (by have := LN.out; omega)
          clear hp hRL hsame hbel
          have LL := Aside0.mk (show (putV x.f1 (clampH x.f2) l).length ≤ i + 1 by have := putV_len x.f1 (clampH x.f2) l; have := LR.out; omega)
          have ST2 := Aside0.mk hST
          clear hHeld ST hST
          -- 11: Op.binOp BinOp.neq 4 t45 t50 4
          refine pure_ (i := 11) (N := (some 51)) (v := ?_) (a' := ?_) #[true, true, true, true, true, true, true, true, true, true, true, true] rfl rfl (by kernel_rfl) (fun _ _ _ h => h) (Or.inl ⟨by rfl, ?_⟩) ?_ ?_
          rotate_left
          · intro w'
            go_simp
            with_reducible rfl
          rotate_left
          · simp only [Act.put, List.setIfInBounds_toArray, List.set_cons_zero, List.set_cons_succ, i64_w, i32_w]
            rfl
          refine done_ (by kernel_rfl) ?_
          generalize putV x.f1 (clampH x.f2) l = l2 at *
          clear LR
          skip
          have LN1 := Aside0.mk (show l2.length ≤ 1000 by exact ST2.out.len)
          go_wp2_with fail
          obtain ⟨A1, c1, A2, c2, hg0, hr1, hr2, hl1, hl2⟩ := ST2.out.rl.reads
          have a0 : wj.cell? ⟨gw, 0, none⟩ = some (.slice A1 l2.length c1) := (blk_cell hg0 0).trans rfl
          have a1 : wj.cell? ⟨gw, 1, none⟩ = some (.slice A2 l2.length c2) := (blk_cell hg0 1).trans rfl
          have C1 := Aside0.mk hr1
          have C2 := Aside0.mk hr2
          have L1 := Aside0.mk hl1
          have L2 := Aside0.mk hl2
          clear hg0 hr1 hr2 hl1 hl2
          refine start_ (n := 13) (S := fun w' => w'.cell? ⟨gw, 0, none⟩ = some (.slice A1 l2.length c1) ∧ w'.cell? ⟨gw, 1, none⟩ = some (.slice A2 l2.length c2)) (ds := []) #[false, false, false, false, false, false, false, false, false, false, false, false, false] (by kernel_rfl) rfl rfl ⟨a0, a1⟩ (fun hHeld => ?_)
          have n1_ : Aside0 (k28.C wj.drew A1 l2.length (l2.map (·.1))) := Aside0.mk (Kd.C_below C1.out (pw_below_drewN (Below.refl _ _) 1))
          have n2_ : Aside0 ((Kd.int .i64).C wj.drew A2 l2.length (l2.map (fun x => (x.2 : Int)))) := Aside0.mk (Kd.C_below C2.out (pw_below_drewN (Below.refl _ _) 1))
          clear C1 C2 a0 a1
          have n0_ : Aside0 (St w wj.drew ga gw rs2 l2) := Aside0.mk (ST2.out.below (pw_below_drewN (Below.refl _ _) 1))
          clear ST2
          generalize wj.drew = wd at *
          have ST2 := n0_
          clear n0_
          have C1 := n1_
          have C2 := n2_
          clear n1_ n2_
          -- 0: Op.move t3
          refine pure_ (i := 0) (N := (some 149)) (v := ?_) (a' := ?_) #[true, false, false, false, false, false, false, false, false, false, false, false, false] rfl rfl (by kernel_rfl) (fun _ _ _ h => h) (Or.inl ⟨by rfl, ?_⟩) ?_ ?_
          rotate_left
          · intro w'
            go_simp
            with_reducible rfl
          rotate_left
          · simp only [Act.put, List.setIfInBounds_toArray, List.set_cons_zero, List.set_cons_succ, i64_w, i32_w]
            rfl
          -- 2: Op.fieldAddr 42 t4 0
          refine pure_ (i := 2) (N := (some 151)) (v := ?_) (a' := ?_) #[true, false, true, false, false, false, false, false, false, false, false, false, false] rfl rfl (by kernel_rfl) (fun _ _ _ h => h) (Or.inl ⟨by rfl, ?_⟩) ?_ ?_
          rotate_left
          · intro w'
            go_simp
            with_reducible rfl
          rotate_left
          · simp only [Act.put, List.setIfInBounds_toArray, List.set_cons_zero, List.set_cons_succ, i64_w, i32_w]
            rfl
          -- 3: Op.load 22 t151
          refine take_ (i := 3) (N := (some 152)) (v := ?_) (a' := ?_) #[true, false, true, true, false, false, false, false, false, false, false, false, false] rfl rfl (by kernel_rfl) (fun _ _ _ h => h) (Or.inl ⟨by rfl, ?_⟩) hHeld ?_ ?_
          rotate_left
          · rintro w' ⟨s0, s1⟩
            go_simp
            with_reducible rfl
          rotate_left
          · simp only [Act.put, List.setIfInBounds_toArray, List.set_cons_zero, List.set_cons_succ, i64_w, i32_w]
            rfl
          -- 4: Op.call { builtin len, args := #[t152], argTypes := #[22] }
          refine pure_ (i := 4) (N := (some 153)) (v := ?_) (a' := ?_) #[true, false, true, true, true, false, false, false, false, false, false, false, false] rfl rfl (by kernel_rfl) (fun _ _ _ h => h) (Or.inl ⟨by rfl, ?_⟩) ?_ ?_
          rotate_left
          · intro w'
            go_simp
            with_reducible rfl
          rotate_left
          · simp only [Act.put, List.setIfInBounds_toArray, List.set_cons_zero, List.set_cons_succ, i64_w, i32_w]
            rfl
          -- 1: Op.call { value (Operand.func 22), args := #[t149], argTypes := #[26] }
          refine one_ (i := 1) (N := (some 150)) #[true, true, true, true, true, false, false, false, false, false, false, false, false] rfl rfl (by kernel_rfl) (by decide) (fun K hK => ?_)
          refine goes_ Try.func22 (by kernel_rfl) rfl #[.pointer (some ⟨ga, 0, none⟩)] (by rfl) rfl rfl (by (try simp only [List.map_toArray, List.map_cons, List.map_nil]); first | done | rfl) ?_
          with_reducible refine (len_c ST2.out).mono ?_
          rintro e wb ⟨rfl, hb⟩
          refine ⟨_, rfl, ?_⟩
          have hOld := hHeld
          clear hHeld
          refine hK.out _ _ (⟨(hb.cell (World.block_lt_of_cell? _ _ hOld.1)).trans hOld.1, (hb.cell (World.block_lt_of_cell? _ _ hOld.2)).trans hOld.2⟩) (fun hHeld => ?_)
          clear hOld hK K
          refine norm_ (a' := ?_) ?_ ?_
          rotate_left
          · show Act.put _ (some 150) _ = _
            simp only [Act.put, List.setIfInBounds_toArray, List.set_cons_zero, List.set_cons_succ, i64_w, i32_w]
            rfl
          have n0_ := Aside0.mk (ST2.out.below hb)
          have n1_ := Aside0.mk (Kd.C_below C1.out hb)
          have n2_ := Aside0.mk (Kd.C_below C2.out hb)
          clear ST2 C1 C2 hb
          have ST2 := n0_
          have C1 := n1_
          have C2 := n2_
          clear n0_ n1_ n2_
          -- 5: Op.binOp BinOp.neq 3 t150 t153 3
          refine pure_ (i := 5) (N := (some 154)) (v := ?_) (a' := ?_) #[true, true, true, true, true, true, false, false, false, false, false, false, false] rfl rfl (by kernel_rfl) (fun _ _ _ h => h) (Or.inl ⟨by rfl, ?_⟩) ?_ ?_
          rotate_left
          · intro w'
            go_simp
            with_reducible rfl
          rotate_left
          · simp only [Act.put, List.setIfInBounds_toArray, List.set_cons_zero, List.set_cons_succ, i64_w, i32_w]
            rfl
          -- 6: Op.move t154
          refine pure_ (i := 6) (N := (some 155)) (v := ?_) (a' := ?_) #[true, true, true, true, true, true, true, false, false, false, false, false, false] rfl rfl (by kernel_rfl) (fun _ _ _ h => h) (Or.inl ⟨by rfl, ?_⟩) ?_ ?_
          rotate_left
          · intro w'
            go_simp
            with_reducible rfl
          rotate_left
          · simp only [Act.put, List.setIfInBounds_toArray, List.set_cons_zero, List.set_cons_succ, i64_w, i32_w]
            rfl
          -- 7: Op.move t3   [guarded: some (6, false)]
          refine pure_ (i := 7) (N := (some 156)) (v := ?_) (a' := ?_) #[true, true, true, true, true, true, true, true, false, false, false, false, false] rfl rfl (by kernel_rfl) (fun _ _ _ h => h) (Or.inl ⟨by rfl, ?_⟩) ?_ ?_
          rotate_left
          · intro w'
            go_simp
            with_reducible rfl
          rotate_left
          · simp only [Act.put, List.setIfInBounds_toArray, List.set_cons_zero, List.set_cons_succ, i64_w, i32_w]
            rfl
          -- 9: Op.load 42 t4   [guarded: some (6, false)]
          refine take_ (i := 9) (N := (some 158)) (v := ?_) (a' := ?_) #[true, true, true, true, true, true, true, true, false, true, false, false, false] rfl rfl (by kernel_rfl) (fun _ _ _ h => h) (Or.inl ⟨by rfl, ?_⟩) hHeld ?_ ?_
          rotate_left
          · rintro w' ⟨s0, s1⟩
            go_simp
            with_reducible rfl
          rotate_left
          · simp only [Act.put, List.setIfInBounds_toArray, List.set_cons_zero, List.set_cons_succ, i64_w, i32_w]
            rfl
          -- 8: Op.call { value (Operand.func 30), args := #[t156], argTypes := #[26] }   [guarded: some (6, false)]
          refine one_ (i := 8) (N := (some 157)) #[true, true, true, true, true, true, true, true, true, true, false, false, false] rfl rfl (by kernel_rfl) (by decide) (fun K hK => ?_)
          refine goes_ Try.func30 (by kernel_rfl) rfl #[.pointer (some ⟨ga, 0, none⟩)] (by rfl) rfl rfl (by (try simp only [List.map_toArray, List.map_cons, List.map_nil]); first | done | rfl) ?_
          with_reducible refine (height_c ST2.out).mono ?_
          rintro e wc ⟨rfl, hb⟩
          refine ⟨_, rfl, ?_⟩
          have hOld := hHeld
          clear hHeld
          refine hK.out _ _ (⟨(hb.cell (World.block_lt_of_cell? _ _ hOld.1)).trans hOld.1, (hb.cell (World.block_lt_of_cell? _ _ hOld.2)).trans hOld.2⟩) (fun hHeld => ?_)
          clear hOld hK K
          refine norm_ (a' := ?_) ?_ ?_
          rotate_left
          · show Act.put _ (some 157) _ = _
            simp only [Act.put, List.setIfInBounds_toArray, List.set_cons_zero, List.set_cons_succ, i64_w, i32_w]
            rfl
          -- 10: Op.call { value (Operand.func 31), args := #[t158], argTypes := #[42] }   [guarded: some (6, false)]
          refine one_ (i := 10) (N := (some 159)) #[true, true, true, true, true, true, true, true, true, true, true, false, false] rfl rfl (by kernel_rfl) (by decide) (fun K hK => ?_)
          refine goes_ Try.func31 (by kernel_rfl) rfl #[.agg #[.slice A1 l2.length c1, .slice A2 l2.length c2]] (by rfl) rfl rfl (by (try simp only [List.map_toArray, List.map_cons, List.map_nil]); first | done | rfl) ?_
          with_reducible refine (refh_c (l := l2) (by have := LN1.out; omega) (Kd.C_below C1.out hb) (Kd.C_below C2.out hb) L1.out L2.out).mono ?_
          rintro e wj ⟨rfl, hb2⟩
          refine ⟨_, rfl, ?_⟩
          have hOld := hHeld
          clear hHeld
          refine hK.out _ _ (⟨(hb2.cell (World.block_lt_of_cell? _ _ hOld.1)).trans hOld.1, (hb2.cell (World.block_lt_of_cell? _ _ hOld.2)).trans hOld.2⟩) (fun hHeld => ?_)
          clear hOld hK K
          refine norm_ (a' := ?_) ?_ ?_
          rotate_left
          · show Act.put _ (some 159) _ = _
            simp only [Act.put, List.setIfInBounds_toArray, List.set_cons_zero, List.set_cons_succ, i64_w, i32_w]
            rfl
          have n0_ := Aside0.mk (ST2.out.below (below_step hb hb2))
          clear ST2 C1 C2 hb hb2
          have ST2 := n0_
          clear n0_
          -- 11: Op.binOp BinOp.neq 3 t157 t159 3   [guarded: some (6, false)]
          refine pure_ (i := 11) (N := (some 160)) (v := ?_) (a' := ?_) #[true, true, true, true, true, true, true, true, true, true, true, true, false] rfl rfl (by kernel_rfl) (fun _ _ _ h => h) (Or.inl ⟨by rfl, ?_⟩) ?_ ?_
          rotate_left
          · intro w'
            go_simp
            with_reducible rfl
          rotate_left
          · simp only [Act.put, List.setIfInBounds_toArray, List.set_cons_zero, List.set_cons_succ, i64_w, i32_w]
            rfl
          -- 12: Op.pick t155 (const (Value.bool true)) t160
          refine pure_ (i := 12) (N := (some 161)) (v := ?_) (a' := ?_) #[true, true, true, true, true, true, true, true, true, true, true, true, true] rfl rfl (by kernel_rfl) (fun _ _ _ h => h) (Or.inl ⟨by rfl, ?_⟩) ?_ ?_
          rotate_left
          · intro w'
            go_simp
            with_reducible rfl
          rotate_left
          · simp only [Act.put, List.setIfInBounds_toArray, List.set_cons_zero, List.set_cons_succ, i64_w, i32_w]
            rfl
          refine done_ (by kernel_rfl) ?_
          clear hHeld L1 L2
          go_wp2_with fail
          have hi100 := CN.out
          have ew : wrap64 ((i : Int) + 1) = ((i + 1 : Nat) : Int) := by unfold wrap64; omega
          try rw [ew]
          go_roundg q
          case measure => omega
          case rel => exact ⟨i + 1, _, l2, rfl, ⟨by have := HK.out; omega⟩, LL, ST2⟩
        · have e1 : (x.f0 == 1) = false := beq_eq_false_iff_ne.mpr k1
          have e2 : decide (x.f0 = 1) = false := decide_eq_false k1
          by_cases k2 : x.f0 = 2
          · have e3 : (x.f0 == 2) = true := beq_iff_eq.mpr k2
            have e4 : decide (x.f0 = 2) = true := decide_eq_true k2
            clear k1 k2
            obtain ⟨A1, c1, A2, c2, hg0, hr1, hr2, hl1, hl2⟩ := ST.out.rl.reads
            have a0 : w5.cell? ⟨gw, 0, none⟩ = some (.slice A1 l.length c1) := (blk_cell hg0 0).trans rfl
            have a1 : w5.cell? ⟨gw, 1, none⟩ = some (.slice A2 l.length c2) := (blk_cell hg0 1).trans rfl
            have C1 := Aside0.mk hr1
            have C2 := Aside0.mk hr2
            have L1 := Aside0.mk hl1
            have L2 := Aside0.mk hl2
            clear hg0 hr1 hr2 hl1 hl2
            have z1 : w5.cell? ⟨go, 1, none⟩ = some (.string x.f1.f0) := (blk_cell BO.out 1).trans rfl
            have z2 : w5.cell? ⟨go, 2, none⟩ = some (.int .u64 x.f1.f1) := (blk_cell BO.out 2).trans rfl
            obtain ⟨y, b, hcall, hyb⟩ := seek_c x.f1.f0 x.f1.f1 ST.out
            rw [← HN.out] at hyb
            have HYB := Aside0.mk hyb
            clear hyb
            go_wp2_with fail
            refine (hcall).mono ?_
            clear hcall a0 a1 z0 z1 z2
            rintro e w6 ⟨rfl, hb⟩
            have n0_ := Aside0.mk (ST.out.below hb)
            clear ST C1 C2 L1 L2 hb BO
            have ST := n0_
            clear n0_
            go_wp2_with fail
            have hal := (Below.refl w6.heap.size w6).alloc (Nat.le_refl _) (.cells #[.string y.f0, .int .u64 y.f1, .int .i64 y.f2, .string y.f3] 28)
            have n0_ := Aside0.mk (ST.out.below hal)
            have BX := Aside0.mk (blk_new w6 (.cells #[.string y.f0, .int .u64 y.f1, .int .i64 y.f2, .string y.f3] 28))
            clear ST hal
            have ST := n0_
            clear n0_
            generalize w6.heap.size = gx at *
            generalize w6.alloc (.cells #[.string y.f0, .int .u64 y.f1, .int .i64 y.f2, .string y.f3] 28) = w7 at *
            obtain ⟨A1, c1, A2, c2, hg0, hr1, hr2, hl1, hl2⟩ := ST.out.rl.reads
            have a0 : w7.cell? ⟨gw, 0, none⟩ = some (.slice A1 l.length c1) := (blk_cell hg0 0).trans rfl
            have a1 : w7.cell? ⟨gw, 1, none⟩ = some (.slice A2 l.length c2) := (blk_cell hg0 1).trans rfl
            have C1 := Aside0.mk hr1
            have C2 := Aside0.mk hr2
            have L1 := Aside0.mk hl1
            have L2 := Aside0.mk hl2
            clear hg0 hr1 hr2 hl1 hl2
            have b0 : w7.cell? ⟨gx, 0, none⟩ = some (.string y.f0) := (blk_cell BX.out 0).trans rfl
            have b1 : w7.cell? ⟨gx, 1, none⟩ = some (.int .u64 y.f1) := (blk_cell BX.out 1).trans rfl
            have b2 : w7.cell? ⟨gx, 2, none⟩ = some (.int .i64 y.f2) := (blk_cell BX.out 2).trans rfl
            have b3 : w7.cell? ⟨gx, 3, none⟩ = some (.string y.f3) := (blk_cell BX.out 3).trans rfl
            rcases HYB.out with ⟨hb1, hb2, hb3⟩ | ⟨hb1, hb2, hb3⟩
            · subst hb1
              have f1 : decide ((n : Int) < (l.length : Int)) = true := decide_eq_true (by omega)
              have f2 : decide (n < l.length) = true := decide_eq_true hb2
              have f3 : 0 ≤ (n : Int) := Int.natCast_nonneg _
              have f4 : (n : Int) < (l.length : Int) := Int.ofNat_lt.mpr hb2
              obtain ⟨ad', y', ea', hyy, r0, r1, r2, r3⟩ := at_row (xs := l.map (·.1)) (by rw [List.length_map]; exact C1.out) n (by rw [List.length_map]; exact hb2)
              cases ea'
              obtain rfl := hyy.symm.trans hb3
              clear hyy hb2 hb3 HYB
              go_wp2_with fail
              go_quiet (fail)
              go_wp2_with fail
              have n0_ := Aside0.mk (ST.out.below (pw_below_drewN (Below.refl _ _) nq))
              clear ST
              generalize w7.drewN nq = w8 at *
              have ST := n0_
              clear n0_ C1 C2 L1 L2 a0 a1 b0 b1 b2 b3 r0 r1 r2 r3 BX
              obtain ⟨A1, c1, A2, c2, hg0, hr1, hr2, hl1, hl2⟩ := ST.out.rl.reads
              have a0 : w8.cell? ⟨gw, 0, none⟩ = some (.slice A1 l.length c1) := (blk_cell hg0 0).trans rfl
              have a1 : w8.cell? ⟨gw, 1, none⟩ = some (.slice A2 l.length c2) := (blk_cell hg0 1).trans rfl
              have C1 := Aside0.mk hr1
              have C2 := Aside0.mk hr2
              have L1 := Aside0.mk hl1
              have L2 := Aside0.mk hl2
              clear hg0 hr1 hr2 hl1 hl2
              refine start_ (n := 13) (S := fun w' => w'.cell? ⟨gw, 0, none⟩ = some (.slice A1 l.length c1) ∧ w'.cell? ⟨gw, 1, none⟩ = some (.slice A2 l.length c2)) (ds := []) #[false, false, false, false, false, false, false, false, false, false, false, false, false] (by kernel_rfl) rfl rfl ⟨a0, a1⟩ (fun hHeld => ?_)
              have n1_ : Aside0 (k28.C w8.drew A1 l.length (l.map (·.1))) := Aside0.mk (Kd.C_below C1.out (pw_below_drewN (Below.refl _ _) 1))
              have n2_ : Aside0 ((Kd.int .i64).C w8.drew A2 l.length (l.map (fun x => (x.2 : Int)))) := Aside0.mk (Kd.C_below C2.out (pw_below_drewN (Below.refl _ _) 1))
              clear C1 C2 a0 a1
              have n0_ : Aside0 (St w w8.drew ga gw rs l) := Aside0.mk (ST.out.below (pw_below_drewN (Below.refl _ _) 1))
              clear ST
              generalize w8.drew = wd at *
              have ST := n0_
              clear n0_
              have C1 := n1_
              have C2 := n2_
              clear n1_ n2_
              -- 0: Op.move t3
              refine pure_ (i := 0) (N := (some 149)) (v := ?_) (a' := ?_) #[true, false, false, false, false, false, false, false, false, false, false, false, false] rfl rfl (by kernel_rfl) (fun _ _ _ h => h) (Or.inl ⟨by rfl, ?_⟩) ?_ ?_
              rotate_left
              · intro w'
                go_simp
                with_reducible rfl
              rotate_left
              · simp only [Act.put, List.setIfInBounds_toArray, List.set_cons_zero, List.set_cons_succ, i64_w, i32_w]
                rfl
              -- 2: Op.fieldAddr 42 t4 0
              refine pure_ (i := 2) (N := (some 151)) (v := ?_) (a' := ?_) #[true, false, true, false, false, false, false, false, false, false, false, false, false] rfl rfl (by kernel_rfl) (fun _ _ _ h => h) (Or.inl ⟨by rfl, ?_⟩) ?_ ?_
              rotate_left
              · intro w'
                go_simp
                with_reducible rfl
              rotate_left
              · simp only [Act.put, List.setIfInBounds_toArray, List.set_cons_zero, List.set_cons_succ, i64_w, i32_w]
                rfl
              -- 3: Op.load 22 t151
              refine take_ (i := 3) (N := (some 152)) (v := ?_) (a' := ?_) #[true, false, true, true, false, false, false, false, false, false, false, false, false] rfl rfl (by kernel_rfl) (fun _ _ _ h => h) (Or.inl ⟨by rfl, ?_⟩) hHeld ?_ ?_
              rotate_left
              · rintro w' ⟨s0, s1⟩
                go_simp
                with_reducible rfl
              rotate_left
              · simp only [Act.put, List.setIfInBounds_toArray, List.set_cons_zero, List.set_cons_succ, i64_w, i32_w]
                rfl
              -- 4: Op.call { builtin len, args := #[t152], argTypes := #[22] }
              refine pure_ (i := 4) (N := (some 153)) (v := ?_) (a' := ?_) #[true, false, true, true, true, false, false, false, false, false, false, false, false] rfl rfl (by kernel_rfl) (fun _ _ _ h => h) (Or.inl ⟨by rfl, ?_⟩) ?_ ?_
              rotate_left
              · intro w'
                go_simp
                with_reducible rfl
              rotate_left
              · simp only [Act.put, List.setIfInBounds_toArray, List.set_cons_zero, List.set_cons_succ, i64_w, i32_w]
                rfl
              -- 1: Op.call { value (Operand.func 22), args := #[t149], argTypes := #[26] }
              refine one_ (i := 1) (N := (some 150)) #[true, true, true, true, true, false, false, false, false, false, false, false, false] rfl rfl (by kernel_rfl) (by decide) (fun K hK => ?_)
              refine goes_ Try.func22 (by kernel_rfl) rfl #[.pointer (some ⟨ga, 0, none⟩)] (by rfl) rfl rfl (by (try simp only [List.map_toArray, List.map_cons, List.map_nil]); first | done | rfl) ?_
              with_reducible refine (len_c ST.out).mono ?_
              rintro e wb ⟨rfl, hb⟩
              refine ⟨_, rfl, ?_⟩
              have hOld := hHeld
              clear hHeld
              refine hK.out _ _ (⟨(hb.cell (World.block_lt_of_cell? _ _ hOld.1)).trans hOld.1, (hb.cell (World.block_lt_of_cell? _ _ hOld.2)).trans hOld.2⟩) (fun hHeld => ?_)
              clear hOld hK K
              refine norm_ (a' := ?_) ?_ ?_
              rotate_left
              · show Act.put _ (some 150) _ = _
                simp only [Act.put, List.setIfInBounds_toArray, List.set_cons_zero, List.set_cons_succ, i64_w, i32_w]
                rfl
              have n0_ := Aside0.mk (ST.out.below hb)
              have n1_ := Aside0.mk (Kd.C_below C1.out hb)
              have n2_ := Aside0.mk (Kd.C_below C2.out hb)
              clear ST C1 C2 hb
              have ST := n0_
              have C1 := n1_
              have C2 := n2_
              clear n0_ n1_ n2_
              -- 5: Op.binOp BinOp.neq 3 t150 t153 3
              refine pure_ (i := 5) (N := (some 154)) (v := ?_) (a' := ?_) #[true, true, true, true, true, true, false, false, false, false, false, false, false] rfl rfl (by kernel_rfl) (fun _ _ _ h => h) (Or.inl ⟨by rfl, ?_⟩) ?_ ?_
              rotate_left
              · intro w'
                go_simp
                with_reducible rfl
              rotate_left
              · simp only [Act.put, List.setIfInBounds_toArray, List.set_cons_zero, List.set_cons_succ, i64_w, i32_w]
                rfl
              -- 6: Op.move t154
              refine pure_ (i := 6) (N := (some 155)) (v := ?_) (a' := ?_) #[true, true, true, true, true, true, true, false, false, false, false, false, false] rfl rfl (by kernel_rfl) (fun _ _ _ h => h) (Or.inl ⟨by rfl, ?_⟩) ?_ ?_
              rotate_left
              · intro w'
                go_simp
                with_reducible rfl
              rotate_left
              · simp only [Act.put, List.setIfInBounds_toArray, List.set_cons_zero, List.set_cons_succ, i64_w, i32_w]
                rfl
              -- 7: Op.move t3   [guarded: some (6, false)]
              refine pure_ (i := 7) (N := (some 156)) (v := ?_) (a' := ?_) #[true, true, true, true, true, true, true, true, false, false, false, false, false] rfl rfl (by kernel_rfl) (fun _ _ _ h => h) (Or.inl ⟨by rfl, ?_⟩) ?_ ?_
              rotate_left
              · intro w'
                go_simp
                with_reducible rfl
              rotate_left
              · simp only [Act.put, List.setIfInBounds_toArray, List.set_cons_zero, List.set_cons_succ, i64_w, i32_w]
                rfl
              -- 9: Op.load 42 t4   [guarded: some (6, false)]
              refine take_ (i := 9) (N := (some 158)) (v := ?_) (a' := ?_) #[true, true, true, true, true, true, true, true, false, true, false, false, false] rfl rfl (by kernel_rfl) (fun _ _ _ h => h) (Or.inl ⟨by rfl, ?_⟩) hHeld ?_ ?_
              rotate_left
              · rintro w' ⟨s0, s1⟩
                go_simp
                with_reducible rfl
              rotate_left
              · simp only [Act.put, List.setIfInBounds_toArray, List.set_cons_zero, List.set_cons_succ, i64_w, i32_w]
                rfl
              -- 8: Op.call { value (Operand.func 30), args := #[t156], argTypes := #[26] }   [guarded: some (6, false)]
              refine one_ (i := 8) (N := (some 157)) #[true, true, true, true, true, true, true, true, true, true, false, false, false] rfl rfl (by kernel_rfl) (by decide) (fun K hK => ?_)
              refine goes_ Try.func30 (by kernel_rfl) rfl #[.pointer (some ⟨ga, 0, none⟩)] (by rfl) rfl rfl (by (try simp only [List.map_toArray, List.map_cons, List.map_nil]); first | done | rfl) ?_
              with_reducible refine (height_c ST.out).mono ?_
              rintro e wc ⟨rfl, hb⟩
              refine ⟨_, rfl, ?_⟩
              have hOld := hHeld
              clear hHeld
              refine hK.out _ _ (⟨(hb.cell (World.block_lt_of_cell? _ _ hOld.1)).trans hOld.1, (hb.cell (World.block_lt_of_cell? _ _ hOld.2)).trans hOld.2⟩) (fun hHeld => ?_)
              clear hOld hK K
              refine norm_ (a' := ?_) ?_ ?_
              rotate_left
              · show Act.put _ (some 157) _ = _
                simp only [Act.put, List.setIfInBounds_toArray, List.set_cons_zero, List.set_cons_succ, i64_w, i32_w]
                rfl
              -- 10: Op.call { value (Operand.func 31), args := #[t158], argTypes := #[42] }   [guarded: some (6, false)]
              refine one_ (i := 10) (N := (some 159)) #[true, true, true, true, true, true, true, true, true, true, true, false, false] rfl rfl (by kernel_rfl) (by decide) (fun K hK => ?_)
              refine goes_ Try.func31 (by kernel_rfl) rfl #[.agg #[.slice A1 l.length c1, .slice A2 l.length c2]] (by rfl) rfl rfl (by (try simp only [List.map_toArray, List.map_cons, List.map_nil]); first | done | rfl) ?_
              with_reducible refine (refh_c (l := l) (by have := LN1.out; omega) (Kd.C_below C1.out hb) (Kd.C_below C2.out hb) L1.out L2.out).mono ?_
              rintro e wj ⟨rfl, hb2⟩
              refine ⟨_, rfl, ?_⟩
              have hOld := hHeld
              clear hHeld
              refine hK.out _ _ (⟨(hb2.cell (World.block_lt_of_cell? _ _ hOld.1)).trans hOld.1, (hb2.cell (World.block_lt_of_cell? _ _ hOld.2)).trans hOld.2⟩) (fun hHeld => ?_)
              clear hOld hK K
              refine norm_ (a' := ?_) ?_ ?_
              rotate_left
              · show Act.put _ (some 159) _ = _
                simp only [Act.put, List.setIfInBounds_toArray, List.set_cons_zero, List.set_cons_succ, i64_w, i32_w]
                rfl
              have n0_ := Aside0.mk (ST.out.below (below_step hb hb2))
              clear ST C1 C2 hb hb2
              have ST := n0_
              clear n0_
              -- 11: Op.binOp BinOp.neq 3 t157 t159 3   [guarded: some (6, false)]
              refine pure_ (i := 11) (N := (some 160)) (v := ?_) (a' := ?_) #[true, true, true, true, true, true, true, true, true, true, true, true, false] rfl rfl (by kernel_rfl) (fun _ _ _ h => h) (Or.inl ⟨by rfl, ?_⟩) ?_ ?_
              rotate_left
              · intro w'
                go_simp
                with_reducible rfl
              rotate_left
              · simp only [Act.put, List.setIfInBounds_toArray, List.set_cons_zero, List.set_cons_succ, i64_w, i32_w]
                rfl
              -- 12: Op.pick t155 (const (Value.bool true)) t160
              refine pure_ (i := 12) (N := (some 161)) (v := ?_) (a' := ?_) #[true, true, true, true, true, true, true, true, true, true, true, true, true] rfl rfl (by kernel_rfl) (fun _ _ _ h => h) (Or.inl ⟨by rfl, ?_⟩) ?_ ?_
              rotate_left
              · intro w'
                go_simp
                with_reducible rfl
              rotate_left
              · simp only [Act.put, List.setIfInBounds_toArray, List.set_cons_zero, List.set_cons_succ, i64_w, i32_w]
                rfl
              refine done_ (by kernel_rfl) ?_
              clear hHeld L1 L2
              go_wp2_with fail
              have hi100 := CN.out
              have ew : wrap64 ((i : Int) + 1) = ((i + 1 : Nat) : Int) := by unfold wrap64; omega
              try rw [ew]
              go_roundg q
              case measure => omega
              case rel => exact ⟨i + 1, _, l, rfl, ⟨by have := HK.out; omega⟩, LL, ST⟩
            · subst hb1
              subst hb3
              have f1 : decide ((n : Int) < (l.length : Int)) = false := decide_eq_false (by omega)
              have f2 : decide (n < l.length) = false := decide_eq_false (by omega)
              have d0_ : w7.cell? ⟨gx, 0, none⟩ = some (.string ⟨#[]⟩) := b0
              have d1_ : w7.cell? ⟨gx, 1, none⟩ = some (.int .u64 0) := b1
              have d2_ : w7.cell? ⟨gx, 2, none⟩ = some (.int .i64 0) := b2
              have d3_ : w7.cell? ⟨gx, 3, none⟩ = some (.string ⟨#[]⟩) := b3
              clear hb2 HYB b0 b1 b2 b3
              go_wp2_with fail
              go_quiet (fail)
              go_wp2_with fail
              have n0_ := Aside0.mk (ST.out.below (pw_below_drewN (Below.refl _ _) nq))
              clear ST
              generalize w7.drewN nq = w8 at *
              have ST := n0_
              clear n0_ C1 C2 L1 L2 a0 a1 d0_ d1_ d2_ d3_ BX
              obtain ⟨A1, c1, A2, c2, hg0, hr1, hr2, hl1, hl2⟩ := ST.out.rl.reads
              have a0 : w8.cell? ⟨gw, 0, none⟩ = some (.slice A1 l.length c1) := (blk_cell hg0 0).trans rfl
              have a1 : w8.cell? ⟨gw, 1, none⟩ = some (.slice A2 l.length c2) := (blk_cell hg0 1).trans rfl
              have C1 := Aside0.mk hr1
              have C2 := Aside0.mk hr2
              have L1 := Aside0.mk hl1
              have L2 := Aside0.mk hl2
              clear hg0 hr1 hr2 hl1 hl2
              refine start_ (n := 13) (S := fun w' => w'.cell? ⟨gw, 0, none⟩ = some (.slice A1 l.length c1) ∧ w'.cell? ⟨gw, 1, none⟩ = some (.slice A2 l.length c2)) (ds := []) #[false, false, false, false, false, false, false, false, false, false, false, false, false] (by kernel_rfl) rfl rfl ⟨a0, a1⟩ (fun hHeld => ?_)
              have n1_ : Aside0 (k28.C w8.drew A1 l.length (l.map (·.1))) := Aside0.mk (Kd.C_below C1.out (pw_below_drewN (Below.refl _ _) 1))
              have n2_ : Aside0 ((Kd.int .i64).C w8.drew A2 l.length (l.map (fun x => (x.2 : Int)))) := Aside0.mk (Kd.C_below C2.out (pw_below_drewN (Below.refl _ _) 1))
              clear C1 C2 a0 a1
              have n0_ : Aside0 (St w w8.drew ga gw rs l) := Aside0.mk (ST.out.below (pw_below_drewN (Below.refl _ _) 1))
              clear ST
              generalize w8.drew = wd at *
              have ST := n0_
              clear n0_
              have C1 := n1_
              have C2 := n2_
              clear n1_ n2_
              -- 0: Op.move t3
              refine pure_ (i := 0) (N := (some 149)) (v := ?_) (a' := ?_) #[true, false, false, false, false, false, false, false, false, false, false, false, false] rfl rfl (by kernel_rfl) (fun _ _ _ h => h) (Or.inl ⟨by rfl, ?_⟩) ?_ ?_
              rotate_left
              · intro w'
                go_simp
                with_reducible rfl
              rotate_left
              · simp only [Act.put, List.setIfInBounds_toArray, List.set_cons_zero, List.set_cons_succ, i64_w, i32_w]
                rfl
              -- 2: Op.fieldAddr 42 t4 0
              refine pure_ (i := 2) (N := (some 151)) (v := ?_) (a' := ?_) #[true, false, true, false, false, false, false, false, false, false, false, false, false] rfl rfl (by kernel_rfl) (fun _ _ _ h => h) (Or.inl ⟨by rfl, ?_⟩) ?_ ?_
              rotate_left
              · intro w'
                go_simp
                with_reducible rfl
              rotate_left
              · simp only [Act.put, List.setIfInBounds_toArray, List.set_cons_zero, List.set_cons_succ, i64_w, i32_w]
                rfl
              -- 3: Op.load 22 t151
              refine take_ (i := 3) (N := (some 152)) (v := ?_) (a' := ?_) #[true, false, true, true, false, false, false, false, false, false, false, false, false] rfl rfl (by kernel_rfl) (fun _ _ _ h => h) (Or.inl ⟨by rfl, ?_⟩) hHeld ?_ ?_
              rotate_left
              · rintro w' ⟨s0, s1⟩
                go_simp
                with_reducible rfl
              rotate_left
              · simp only [Act.put, List.setIfInBounds_toArray, List.set_cons_zero, List.set_cons_succ, i64_w, i32_w]
                rfl
              -- 4: Op.call { builtin len, args := #[t152], argTypes := #[22] }
              refine pure_ (i := 4) (N := (some 153)) (v := ?_) (a' := ?_) #[true, false, true, true, true, false, false, false, false, false, false, false, false] rfl rfl (by kernel_rfl) (fun _ _ _ h => h) (Or.inl ⟨by rfl, ?_⟩) ?_ ?_
              rotate_left
              · intro w'
                go_simp
                with_reducible rfl
              rotate_left
              · simp only [Act.put, List.setIfInBounds_toArray, List.set_cons_zero, List.set_cons_succ, i64_w, i32_w]
                rfl
              -- 1: Op.call { value (Operand.func 22), args := #[t149], argTypes := #[26] }
              refine one_ (i := 1) (N := (some 150)) #[true, true, true, true, true, false, false, false, false, false, false, false, false] rfl rfl (by kernel_rfl) (by decide) (fun K hK => ?_)
              refine goes_ Try.func22 (by kernel_rfl) rfl #[.pointer (some ⟨ga, 0, none⟩)] (by rfl) rfl rfl (by (try simp only [List.map_toArray, List.map_cons, List.map_nil]); first | done | rfl) ?_
              with_reducible refine (len_c ST.out).mono ?_
              rintro e wb ⟨rfl, hb⟩
              refine ⟨_, rfl, ?_⟩
              have hOld := hHeld
              clear hHeld
              refine hK.out _ _ (⟨(hb.cell (World.block_lt_of_cell? _ _ hOld.1)).trans hOld.1, (hb.cell (World.block_lt_of_cell? _ _ hOld.2)).trans hOld.2⟩) (fun hHeld => ?_)
              clear hOld hK K
              refine norm_ (a' := ?_) ?_ ?_
              rotate_left
              · show Act.put _ (some 150) _ = _
                simp only [Act.put, List.setIfInBounds_toArray, List.set_cons_zero, List.set_cons_succ, i64_w, i32_w]
                rfl
              have n0_ := Aside0.mk (ST.out.below hb)
              have n1_ := Aside0.mk (Kd.C_below C1.out hb)
              have n2_ := Aside0.mk (Kd.C_below C2.out hb)
              clear ST C1 C2 hb
              have ST := n0_
              have C1 := n1_
              have C2 := n2_
              clear n0_ n1_ n2_
              -- 5: Op.binOp BinOp.neq 3 t150 t153 3
              refine pure_ (i := 5) (N := (some 154)) (v := ?_) (a' := ?_) #[true, true, true, true, true, true, false, false, false, false, false, false, false] rfl rfl (by kernel_rfl) (fun _ _ _ h => h) (Or.inl ⟨by rfl, ?_⟩) ?_ ?_
              rotate_left
              · intro w'
                go_simp
                with_reducible rfl
              rotate_left
              · simp only [Act.put, List.setIfInBounds_toArray, List.set_cons_zero, List.set_cons_succ, i64_w, i32_w]
                rfl
              -- 6: Op.move t154
              refine pure_ (i := 6) (N := (some 155)) (v := ?_) (a' := ?_) #[true, true, true, true, true, true, true, false, false, false, false, false, false] rfl rfl (by kernel_rfl) (fun _ _ _ h => h) (Or.inl ⟨by rfl, ?_⟩) ?_ ?_
              rotate_left
              · intro w'
                go_simp
                with_reducible rfl
              rotate_left
              · simp only [Act.put, List.setIfInBounds_toArray, List.set_cons_zero, List.set_cons_succ, i64_w, i32_w]
                rfl
              -- 7: Op.move t3   [guarded: some (6, false)]
              refine pure_ (i := 7) (N := (some 156)) (v := ?_) (a' := ?_) #[true, true, true, true, true, true, true, true, false, false, false, false, false] rfl rfl (by kernel_rfl) (fun _ _ _ h => h) (Or.inl ⟨by rfl, ?_⟩) ?_ ?_
              rotate_left
              · intro w'
                go_simp
                with_reducible rfl
              rotate_left
              · simp only [Act.put, List.setIfInBounds_toArray, List.set_cons_zero, List.set_cons_succ, i64_w, i32_w]
                rfl
              -- 9: Op.load 42 t4   [guarded: some (6, false)]
              refine take_ (i := 9) (N := (some 158)) (v := ?_) (a' := ?_) #[true, true, true, true, true, true, true, true, false, true, false, false, false] rfl rfl (by kernel_rfl) (fun _ _ _ h => h) (Or.inl ⟨by rfl, ?_⟩) hHeld ?_ ?_
              rotate_left
              · rintro w' ⟨s0, s1⟩
                go_simp
                with_reducible rfl
              rotate_left
              · simp only [Act.put, List.setIfInBounds_toArray, List.set_cons_zero, List.set_cons_succ, i64_w, i32_w]
                rfl
              -- 8: Op.call { value (Operand.func 30), args := #[t156], argTypes := #[26] }   [guarded: some (6, false)]
              refine one_ (i := 8) (N := (some 157)) #[true, true, true, true, true, true, true, true, true, true, false, false, false] rfl rfl (by kernel_rfl) (by decide) (fun K hK => ?_)
              refine goes_ Try.func30 (by kernel_rfl) rfl #[.pointer (some ⟨ga, 0, none⟩)] (by rfl) rfl rfl (by (try simp only [List.map_toArray, List.map_cons, List.map_nil]); first | done | rfl) ?_
              with_reducible refine (height_c ST.out).mono ?_
              rintro e wc ⟨rfl, hb⟩
              refine ⟨_, rfl, ?_⟩
              have hOld := hHeld
              clear hHeld
              refine hK.out _ _ (⟨(hb.cell (World.block_lt_of_cell? _ _ hOld.1)).trans hOld.1, (hb.cell (World.block_lt_of_cell? _ _ hOld.2)).trans hOld.2⟩) (fun hHeld => ?_)
              clear hOld hK K
              refine norm_ (a' := ?_) ?_ ?_
              rotate_left
              · show Act.put _ (some 157) _ = _
                simp only [Act.put, List.setIfInBounds_toArray, List.set_cons_zero, List.set_cons_succ, i64_w, i32_w]
                rfl
              -- 10: Op.call { value (Operand.func 31), args := #[t158], argTypes := #[42] }   [guarded: some (6, false)]
              refine one_ (i := 10) (N := (some 159)) #[true, true, true, true, true, true, true, true, true, true, true, false, false] rfl rfl (by kernel_rfl) (by decide) (fun K hK => ?_)
              refine goes_ Try.func31 (by kernel_rfl) rfl #[.agg #[.slice A1 l.length c1, .slice A2 l.length c2]] (by rfl) rfl rfl (by (try simp only [List.map_toArray, List.map_cons, List.map_nil]); first | done | rfl) ?_
              with_reducible refine (refh_c (l := l) (by have := LN1.out; omega) (Kd.C_below C1.out hb) (Kd.C_below C2.out hb) L1.out L2.out).mono ?_
              rintro e wj ⟨rfl, hb2⟩
              refine ⟨_, rfl, ?_⟩
              have hOld := hHeld
              clear hHeld
              refine hK.out _ _ (⟨(hb2.cell (World.block_lt_of_cell? _ _ hOld.1)).trans hOld.1, (hb2.cell (World.block_lt_of_cell? _ _ hOld.2)).trans hOld.2⟩) (fun hHeld => ?_)
              clear hOld hK K
              refine norm_ (a' := ?_) ?_ ?_
              rotate_left
              · show Act.put _ (some 159) _ = _
                simp only [Act.put, List.setIfInBounds_toArray, List.set_cons_zero, List.set_cons_succ, i64_w, i32_w]
                rfl
              have n0_ := Aside0.mk (ST.out.below (below_step hb hb2))
              clear ST C1 C2 hb hb2
              have ST := n0_
              clear n0_
              -- 11: Op.binOp BinOp.neq 3 t157 t159 3   [guarded: some (6, false)]
              refine pure_ (i := 11) (N := (some 160)) (v := ?_) (a' := ?_) #[true, true, true, true, true, true, true, true, true, true, true, true, false] rfl rfl (by kernel_rfl) (fun _ _ _ h => h) (Or.inl ⟨by rfl, ?_⟩) ?_ ?_
              rotate_left
              · intro w'
                go_simp
                with_reducible rfl
              rotate_left
              · simp only [Act.put, List.setIfInBounds_toArray, List.set_cons_zero, List.set_cons_succ, i64_w, i32_w]
                rfl
              -- 12: Op.pick t155 (const (Value.bool true)) t160
              refine pure_ (i := 12) (N := (some 161)) (v := ?_) (a' := ?_) #[true, true, true, true, true, true, true, true, true, true, true, true, true] rfl rfl (by kernel_rfl) (fun _ _ _ h => h) (Or.inl ⟨by rfl, ?_⟩) ?_ ?_
              rotate_left
              · intro w'
                go_simp
                with_reducible rfl
              rotate_left
              · simp only [Act.put, List.setIfInBounds_toArray, List.set_cons_zero, List.set_cons_succ, i64_w, i32_w]
                rfl
              refine done_ (by kernel_rfl) ?_
              clear hHeld L1 L2
              go_wp2_with fail
              have hi100 := CN.out
              have ew : wrap64 ((i : Int) + 1) = ((i + 1 : Nat) : Int) := by unfold wrap64; omega
              try rw [ew]
              go_roundg q
              case measure => omega
              case rel => exact ⟨i + 1, _, l, rfl, ⟨by have := HK.out; omega⟩, LL, ST⟩
          · have e3 : (x.f0 == 2) = false := beq_eq_false_iff_ne.mpr k2
            have e4 : decide (x.f0 = 2) = false := decide_eq_false k2
            by_cases k3 : x.f0 = 3
            · have e5 : (x.f0 == 3) = true := beq_iff_eq.mpr k3
              have e6 : decide (x.f0 = 3) = true := decide_eq_true k3
              clear k1 k2 k3
              obtain ⟨A1, c1, A2, c2, hg0, hr1, hr2, hl1, hl2⟩ := ST.out.rl.reads
              have a0 : w5.cell? ⟨gw, 0, none⟩ = some (.slice A1 l.length c1) := (blk_cell hg0 0).trans rfl
              have a1 : w5.cell? ⟨gw, 1, none⟩ = some (.slice A2 l.length c2) := (blk_cell hg0 1).trans rfl
              have C1 := Aside0.mk hr1
              have C2 := Aside0.mk hr2
              have L1 := Aside0.mk hl1
              have L2 := Aside0.mk hl2
              clear hg0 hr1 hr2 hl1 hl2
              have z5 : w5.cell? ⟨go, 5, none⟩ = some (.int .i64 x.f2) := (blk_cell BO.out 5).trans rfl
              have hnle : n ≤ l.length := by rw [HN.out]; exact (List.takeWhile_prefix _).length_le
              obtain ⟨kk, hkk⟩ : ∃ kk, l.length = n + kk := ⟨l.length - n, by omega⟩
              have e10 : True → (l.length : Int) - (n : Int) = (kk : Int) := fun _ => by omega
              have e11 : True → wrap64 (kk : Int) = (kk : Int) := fun _ => by have := LN.out; unfold wrap64; omega
              have HKK := Aside0.mk hkk
              clear hkk hnle
              by_cases g1 : 0 ≤ x.f2
              · have e12 : decide (x.f2 ≥ 0) = true := decide_eq_true g1
                have e13 : decide (0 ≤ x.f2) = true := decide_eq_true g1
                by_cases g2 : x.f2 < (kk : Int)
                · have e14 : decide (x.f2 < (kk : Int)) = true := decide_eq_true g2
                  obtain ⟨kN, hkN⟩ : ∃ kN : Nat, x.f2 = (kN : Int) := ⟨x.f2.toNat, by omega⟩
                  have KF := Aside0.mk hkN
                  have HT := Aside0.mk (show takeM x.f2 ((l.map (·.1)).drop n) = ((l.map (·.1)).take (n + kN)).drop n by rw [takeM, if_pos ⟨g1, by rw [List.length_drop, List.length_map]; have := HKK.out; omega⟩, hkN, Int.toNat_natCast, List.drop_take]; congr 1; omega)
                  have HKN := Aside0.mk (show n + kN ≤ l.length by have := HKK.out; omega)
                  clear g1 g2 hkN
                  obtain ⟨m, hm⟩ : ∃ m, m = n + kN := ⟨_, rfl⟩
                  have HMM := Aside0.mk hm
                  have e15 : True → (n : Int) + x.f2 = (m : Int) := fun _ => by have := KF.out; omega
                  have e16 : True → wrap64 (m : Int) = (m : Int) := fun _ => by have h1 := HKN.out; have h2 := LN.out; unfold wrap64; omega
                  obtain ⟨i052, hi052, _, hsz52, _⟩ := info_parts info28
                  have hcut52 := cut_mid (P := Try.prog) 22 28 .i64 .i64 Try.underlying22 hi052 4 hsz52 A1 l.length c1 (n : Int) (m : Int) (by omega) (by omega) (by have := HKN.out; omega) L1.out
                  rw [Int.toNat_natCast, Int.toNat_natCast] at hcut52
                  obtain ⟨T, hT⟩ : ∃ T, T = ((l.map (·.1)).take m).drop n := ⟨_, rfl⟩
                  have HTT := Aside0.mk hT
                  have hTl : m - n = T.length := by rw [hT, List.length_drop, List.length_take, List.length_map]; have := HKN.out; omega
                  rw [hTl] at hcut52
                  obtain ⟨A52, hA52⟩ : ∃ A, A = (if c1 = n then A1 else (A1 : Option Addr).map (·.add (n * 4))) := ⟨_, rfl⟩
                  obtain ⟨c52, hc52⟩ : ∃ c, c = c1 - n := ⟨_, rfl⟩
                  rw [← hA52, ← hc52] at hcut52
                  have CT := Aside0.mk (show k28.C w5 A52 T.length T by have h1 := Kd.C_mid (lo := n) (hi := m) (c := c1) (xs := l.map (·.1)) (by rw [List.length_map]; exact C1.out) (by omega) (by rw [List.length_map]; have := HKN.out; omega) (by rw [List.length_map]; exact L1.out); rw [← hT] at h1; rw [hA52]; exact h1)
                  have CTc := Aside0.mk (show T.length ≤ c52 by have := L1.out; have := HKN.out; omega)
                  have CTl := Aside0.mk (show T.length ≤ 1000 by have := LN1.out; have := HKN.out; omega)
                  clear hm hi052 hsz52 hT hTl hA52 hc52
                  go_wp2_with fail
                  clear z0 z5
                  refine start_ (n := 19) (S := fun w' => w'.heap[go]? = some (.cells #[.int .i64 x.f0, .string x.f1.f0, .int .u64 x.f1.f1, .int .i64 x.f1.f2, .string x.f1.f3, .int .i64 x.f2] 44 (0, 0)) ∧ w'.cell? ⟨gw, 0, none⟩ = some (.slice A1 l.length c1) ∧ w'.cell? ⟨gw, 1, none⟩ = some (.slice A2 l.length c2)) (ds := []) #[false, false, false, false, false, false, false, false, false, false, false, false, false, false, false, false, false, false, false] (by kernel_rfl) rfl rfl ⟨blk_drew BO.out, a0, a1⟩ (fun hHeld => ?_)
                  have n3_ : Aside0 (k28.C w5.drew A52 T.length T) := Aside0.mk (Kd.C_below CT.out (pw_below_drewN (Below.refl _ _) 1))
                  clear CT
                  have n1_ : Aside0 (k28.C w5.drew A1 l.length (l.map (·.1))) := Aside0.mk (Kd.C_below C1.out (pw_below_drewN (Below.refl _ _) 1))
                  have n2_ : Aside0 ((Kd.int .i64).C w5.drew A2 l.length (l.map (fun x => (x.2 : Int)))) := Aside0.mk (Kd.C_below C2.out (pw_below_drewN (Below.refl _ _) 1))
                  clear C1 C2 a0 a1
                  have n0_ : Aside0 (St w w5.drew ga gw rs l) := Aside0.mk (ST.out.below (pw_below_drewN (Below.refl _ _) 1))
                  clear ST
                  generalize w5.drew = wd at *
                  have ST := n0_
                  clear n0_
                  have C1 := n1_
                  have C2 := n2_
                  clear n1_ n2_
                  have CT := n3_
                  clear n3_
                  -- 0: Op.move t3
                  refine pure_ (i := 0) (N := (some 111)) (v := ?_) (a' := ?_) #[true, false, false, false, false, false, false, false, false, false, false, false, false, false, false, false, false, false, false] rfl rfl (by kernel_rfl) (fun _ _ _ h => h) (Or.inl ⟨by rfl, ?_⟩) ?_ ?_
                  rotate_left
                  · intro w'
                    go_simp
                    with_reducible rfl
                  rotate_left
                  · simp only [Act.put, List.setIfInBounds_toArray, List.set_cons_zero, List.set_cons_succ, i64_w, i32_w]
                    rfl
                  -- 1: Op.fieldAddr 44 t6 1
                  refine pure_ (i := 1) (N := (some 112)) (v := ?_) (a' := ?_) #[true, true, false, false, false, false, false, false, false, false, false, false, false, false, false, false, false, false, false] rfl rfl (by kernel_rfl) (fun _ _ _ h => h) (Or.inl ⟨by rfl, ?_⟩) ?_ ?_
                  rotate_left
                  · intro w'
                    go_simp
                    with_reducible rfl
                  rotate_left
                  · simp only [Act.put, List.setIfInBounds_toArray, List.set_cons_zero, List.set_cons_succ, i64_w, i32_w]
                    rfl
                  -- 2: Op.fieldAddr 28 t112 0
                  refine pure_ (i := 2) (N := (some 113)) (v := ?_) (a' := ?_) #[true, true, true, false, false, false, false, false, false, false, false, false, false, false, false, false, false, false, false] rfl rfl (by kernel_rfl) (fun _ _ _ h => h) (Or.inl ⟨by rfl, ?_⟩) ?_ ?_
                  rotate_left
                  · intro w'
                    go_simp
                    with_reducible rfl
                  rotate_left
                  · simp only [Act.put, List.setIfInBounds_toArray, List.set_cons_zero, List.set_cons_succ, i64_w, i32_w]
                    rfl
                  -- 3: Op.load 9 t113
                  refine take_ (i := 3) (N := (some 114)) (v := ?_) (a' := ?_) #[true, true, true, true, false, false, false, false, false, false, false, false, false, false, false, false, false, false, false] rfl rfl (by kernel_rfl) (fun _ _ _ h => h) (Or.inl ⟨by rfl, ?_⟩) hHeld ?_ ?_
                  rotate_left
                  · rintro w' ⟨s0, s1, s2⟩
                    have z1 : w'.cell? ⟨go, 1, none⟩ = some (.string x.f1.f0) := (blk_cell s0 1).trans rfl
                    have z2 : w'.cell? ⟨go, 2, none⟩ = some (.int .u64 x.f1.f1) := (blk_cell s0 2).trans rfl
                    have z3 : w'.cell? ⟨go, 3, none⟩ = some (.int .i64 x.f1.f2) := (blk_cell s0 3).trans rfl
                    have z4 : w'.cell? ⟨go, 4, none⟩ = some (.string x.f1.f3) := (blk_cell s0 4).trans rfl
                    have z5 : w'.cell? ⟨go, 5, none⟩ = some (.int .i64 x.f2) := (blk_cell s0 5).trans rfl
                    go_simp
                    with_reducible rfl
                  rotate_left
                  · simp only [Act.put, List.setIfInBounds_toArray, List.set_cons_zero, List.set_cons_succ, i64_w, i32_w]
                    rfl
                  -- 4: Op.fieldAddr 44 t6 1
                  refine pure_ (i := 4) (N := (some 115)) (v := ?_) (a' := ?_) #[true, true, true, true, true, false, false, false, false, false, false, false, false, false, false, false, false, false, false] rfl rfl (by kernel_rfl) (fun _ _ _ h => h) (Or.inl ⟨by rfl, ?_⟩) ?_ ?_
                  rotate_left
                  · intro w'
                    go_simp
                    with_reducible rfl
                  rotate_left
                  · simp only [Act.put, List.setIfInBounds_toArray, List.set_cons_zero, List.set_cons_succ, i64_w, i32_w]
                    rfl
                  -- 5: Op.fieldAddr 28 t115 1
                  refine pure_ (i := 5) (N := (some 116)) (v := ?_) (a' := ?_) #[true, true, true, true, true, true, false, false, false, false, false, false, false, false, false, false, false, false, false] rfl rfl (by kernel_rfl) (fun _ _ _ h => h) (Or.inl ⟨by rfl, ?_⟩) ?_ ?_
                  rotate_left
                  · intro w'
                    go_simp
                    with_reducible rfl
                  rotate_left
                  · simp only [Act.put, List.setIfInBounds_toArray, List.set_cons_zero, List.set_cons_succ, i64_w, i32_w]
                    rfl
                  -- 6: Op.load 24 t116
                  refine take_ (i := 6) (N := (some 117)) (v := ?_) (a' := ?_) #[true, true, true, true, true, true, true, false, false, false, false, false, false, false, false, false, false, false, false] rfl rfl (by kernel_rfl) (fun _ _ _ h => h) (Or.inl ⟨by rfl, ?_⟩) hHeld ?_ ?_
                  rotate_left
                  · rintro w' ⟨s0, s1, s2⟩
                    have z1 : w'.cell? ⟨go, 1, none⟩ = some (.string x.f1.f0) := (blk_cell s0 1).trans rfl
                    have z2 : w'.cell? ⟨go, 2, none⟩ = some (.int .u64 x.f1.f1) := (blk_cell s0 2).trans rfl
                    have z3 : w'.cell? ⟨go, 3, none⟩ = some (.int .i64 x.f1.f2) := (blk_cell s0 3).trans rfl
                    have z4 : w'.cell? ⟨go, 4, none⟩ = some (.string x.f1.f3) := (blk_cell s0 4).trans rfl
                    have z5 : w'.cell? ⟨go, 5, none⟩ = some (.int .i64 x.f2) := (blk_cell s0 5).trans rfl
                    go_simp
                    with_reducible rfl
                  rotate_left
                  · simp only [Act.put, List.setIfInBounds_toArray, List.set_cons_zero, List.set_cons_succ, i64_w, i32_w]
                    rfl
                  -- 7: Op.fieldAddr 44 t6 2
                  refine pure_ (i := 7) (N := (some 118)) (v := ?_) (a' := ?_) #[true, true, true, true, true, true, true, true, false, false, false, false, false, false, false, false, false, false, false] rfl rfl (by kernel_rfl) (fun _ _ _ h => h) (Or.inl ⟨by rfl, ?_⟩) ?_ ?_
                  rotate_left
                  · intro w'
                    go_simp
                    with_reducible rfl
                  rotate_left
                  · simp only [Act.put, List.setIfInBounds_toArray, List.set_cons_zero, List.set_cons_succ, i64_w, i32_w]
                    rfl
                  -- 8: Op.load 3 t118
                  refine take_ (i := 8) (N := (some 119)) (v := ?_) (a' := ?_) #[true, true, true, true, true, true, true, true, true, false, false, false, false, false, false, false, false, false, false] rfl rfl (by kernel_rfl) (fun _ _ _ h => h) (Or.inl ⟨by rfl, ?_⟩) hHeld ?_ ?_
                  rotate_left
                  · rintro w' ⟨s0, s1, s2⟩
                    have z1 : w'.cell? ⟨go, 1, none⟩ = some (.string x.f1.f0) := (blk_cell s0 1).trans rfl
                    have z2 : w'.cell? ⟨go, 2, none⟩ = some (.int .u64 x.f1.f1) := (blk_cell s0 2).trans rfl
                    have z3 : w'.cell? ⟨go, 3, none⟩ = some (.int .i64 x.f1.f2) := (blk_cell s0 3).trans rfl
                    have z4 : w'.cell? ⟨go, 4, none⟩ = some (.string x.f1.f3) := (blk_cell s0 4).trans rfl
                    have z5 : w'.cell? ⟨go, 5, none⟩ = some (.int .i64 x.f2) := (blk_cell s0 5).trans rfl
                    go_simp
                    with_reducible rfl
                  rotate_left
                  · simp only [Act.put, List.setIfInBounds_toArray, List.set_cons_zero, List.set_cons_succ, i64_w, i32_w]
                    rfl
                  -- 10: Op.fieldAddr 42 t4 0
                  refine pure_ (i := 10) (N := (some 121)) (v := ?_) (a' := ?_) #[true, true, true, true, true, true, true, true, true, false, true, false, false, false, false, false, false, false, false] rfl rfl (by kernel_rfl) (fun _ _ _ h => h) (Or.inl ⟨by rfl, ?_⟩) ?_ ?_
                  rotate_left
                  · intro w'
                    go_simp
                    with_reducible rfl
                  rotate_left
                  · simp only [Act.put, List.setIfInBounds_toArray, List.set_cons_zero, List.set_cons_succ, i64_w, i32_w]
                    rfl
                  -- 11: Op.load 22 t121
                  refine take_ (i := 11) (N := (some 122)) (v := ?_) (a' := ?_) #[true, true, true, true, true, true, true, true, true, false, true, true, false, false, false, false, false, false, false] rfl rfl (by kernel_rfl) (fun _ _ _ h => h) (Or.inl ⟨by rfl, ?_⟩) hHeld ?_ ?_
                  rotate_left
                  · rintro w' ⟨s0, s1, s2⟩
                    go_simp
                    with_reducible rfl
                  rotate_left
                  · simp only [Act.put, List.setIfInBounds_toArray, List.set_cons_zero, List.set_cons_succ, i64_w, i32_w]
                    rfl
                  -- 12: Op.move t7
                  refine pure_ (i := 12) (N := (some 123)) (v := ?_) (a' := ?_) #[true, true, true, true, true, true, true, true, true, false, true, true, true, false, false, false, false, false, false] rfl rfl (by kernel_rfl) (fun _ _ _ h => h) (Or.inl ⟨by rfl, ?_⟩) ?_ ?_
                  rotate_left
                  · intro w'
                    go_simp
                    with_reducible rfl
                  rotate_left
                  · simp only [Act.put, List.setIfInBounds_toArray, List.set_cons_zero, List.set_cons_succ, i64_w, i32_w]
                    rfl
                  -- 13: Op.move t7
                  refine pure_ (i := 13) (N := (some 124)) (v := ?_) (a' := ?_) #[true, true, true, true, true, true, true, true, true, false, true, true, true, true, false, false, false, false, false] rfl rfl (by kernel_rfl) (fun _ _ _ h => h) (Or.inl ⟨by rfl, ?_⟩) ?_ ?_
                  rotate_left
                  · intro w'
                    go_simp
                    with_reducible rfl
                  rotate_left
                  · simp only [Act.put, List.setIfInBounds_toArray, List.set_cons_zero, List.set_cons_succ, i64_w, i32_w]
                    rfl
                  -- 14: Op.move t10
                  refine pure_ (i := 14) (N := (some 125)) (v := ?_) (a' := ?_) #[true, true, true, true, true, true, true, true, true, false, true, true, true, true, true, false, false, false, false] rfl rfl (by kernel_rfl) (fun _ _ _ h => h) (Or.inl ⟨by rfl, ?_⟩) ?_ ?_
                  rotate_left
                  · intro w'
                    go_simp
                    with_reducible rfl
                  rotate_left
                  · simp only [Act.put, List.setIfInBounds_toArray, List.set_cons_zero, List.set_cons_succ, i64_w, i32_w]
                    rfl
                  -- 15: Op.binOp BinOp.add 3 t124 t125 3
                  refine pure_ (i := 15) (N := (some 126)) (v := ?_) (a' := ?_) #[true, true, true, true, true, true, true, true, true, false, true, true, true, true, true, true, false, false, false] rfl rfl (by kernel_rfl) (fun _ _ _ h => h) (Or.inl ⟨by rfl, ?_⟩) ?_ ?_
                  rotate_left
                  · intro w'
                    go_simp
                    with_reducible rfl
                  rotate_left
                  · simp only [Act.put, List.setIfInBounds_toArray, List.set_cons_zero, List.set_cons_succ, i64_w, i32_w]
                    rfl
                  -- 16: Op.slice 22 t122 (some t123) (some t126) none
                  refine pure_ (i := 16) (N := (some 127)) (v := ?_) (a' := ?_) #[true, true, true, true, true, true, true, true, true, false, true, true, true, true, true, true, true, false, false] rfl rfl (by kernel_rfl) (fun _ _ _ h => h) (Or.inl ⟨by rfl, ?_⟩) ?_ ?_
                  rotate_left
                  · intro w'
                    go_simp
                    with_reducible rfl
                  rotate_left
                  · simp only [Act.put, List.setIfInBounds_toArray, List.set_cons_zero, List.set_cons_succ, i64_w, i32_w]
                    rfl
                  -- 9: Op.call { value (Operand.func 23), args := #[t111, t114, t117, t119], argTypes := #[26, 9, 24, 3] }
                  refine one_ (i := 9) (N := (some 120)) #[true, true, true, true, true, true, true, true, true, true, true, true, true, true, true, true, true, false, false] rfl rfl (by kernel_rfl) (by decide) (fun K hK => ?_)
                  have hac := all_c x.f1.f0 x.f1.f1 x.f2 ST.out
                  rw [← HN.out, HT.out, ← HMM.out, ← HTT.out] at hac
                  refine goes_ Try.func23 (by kernel_rfl) rfl #[.pointer (some ⟨ga, 0, none⟩), .string x.f1.f0, .int .u64 x.f1.f1, .int .i64 x.f2] (by rfl) rfl rfl (by (try simp only [List.map_toArray, List.map_cons, List.map_nil]); first | done | rfl) ?_
                  with_reducible refine (hac).mono ?_
                  rintro e wc ⟨v, rfl, hR, hb⟩
                  clear hac
                  obtain ⟨Al, cl, hv⟩ := Kd.R_slice hR
                  subst hv
                  have CA := Aside0.mk (Kd.R_reads' hR).2.2
                  have CAc := Aside0.mk (Kd.R_reads' hR).2.1
                  clear hR
                  refine ⟨_, rfl, ?_⟩
                  have hOld := hHeld
                  clear hHeld
                  refine hK.out _ _ (⟨blk_below hOld.1 hb, (hb.cell (World.block_lt_of_cell? _ _ hOld.2.1)).trans hOld.2.1, (hb.cell (World.block_lt_of_cell? _ _ hOld.2.2)).trans hOld.2.2⟩) (fun hHeld => ?_)
                  clear hOld hK K
                  refine norm_ (a' := ?_) ?_ ?_
                  rotate_left
                  · show Act.put _ (some 120) _ = _
                    simp only [Act.put, List.setIfInBounds_toArray, List.set_cons_zero, List.set_cons_succ, i64_w, i32_w]
                    rfl
                  -- 17: Op.call { value (Operand.func 28), args := #[t120, t127], argTypes := #[22, 22] }
                  refine one_ (i := 17) (N := (some 128)) #[true, true, true, true, true, true, true, true, true, true, true, true, true, true, true, true, true, true, false] rfl rfl (by kernel_rfl) (by decide) (fun K hK => ?_)
                  refine goes_ Try.func28 (by kernel_rfl) rfl #[.slice Al T.length cl, .slice A52 T.length c52] (by rfl) rfl rfl (by (try simp only [List.map_toArray, List.map_cons, List.map_nil]); first | done | rfl) ?_
                  with_reducible refine (same_true wc Al cl A52 c52 T CA.out CAc.out (Kd.C_below CT.out hb) CTc.out (by have := CTl.out; omega)).mono ?_
                  rintro e wj ⟨rfl, hb2⟩
                  refine ⟨_, rfl, ?_⟩
                  have hOld := hHeld
                  clear hHeld
                  refine hK.out _ _ (⟨blk_below hOld.1 hb2, (hb2.cell (World.block_lt_of_cell? _ _ hOld.2.1)).trans hOld.2.1, (hb2.cell (World.block_lt_of_cell? _ _ hOld.2.2)).trans hOld.2.2⟩) (fun hHeld => ?_)
                  clear hOld hK K
                  refine norm_ (a' := ?_) ?_ ?_
                  rotate_left
                  · show Act.put _ (some 128) _ = _
                    simp only [Act.put, List.setIfInBounds_toArray, List.set_cons_zero, List.set_cons_succ, i64_w, i32_w]
                    rfl
                  have n0_ := Aside0.mk (ST.out.below (below_step hb hb2))
                  clear ST C1 C2 CA CT hb hb2 BO hcut52
                  have ST := n0_
                  clear n0_
                  -- 18: Op.unOp UnOp.not 4 t128
                  refine pure_ (i := 18) (N := (some 129)) (v := ?_) (a' := ?_) #[true, true, true, true, true, true, true, true, true, true, true, true, true, true, true, true, true, true, true] rfl rfl (by kernel_rfl) (fun _ _ _ h => h) (Or.inl ⟨by rfl, ?_⟩) ?_ ?_
                  rotate_left
                  · intro w'
                    go_simp
                    with_reducible rfl
                  rotate_left
                  · simp only [Act.put, List.setIfInBounds_toArray, List.set_cons_zero, List.set_cons_succ, i64_w, i32_w]
                    rfl
                  refine done_ (by kernel_rfl) ?_
                  clear hHeld L1 L2 CAc CTc CTl HKK HKN HT HTT HMM KF
                  go_wp2_with fail
                  obtain ⟨A1, c1, A2, c2, hg0, hr1, hr2, hl1, hl2⟩ := ST.out.rl.reads
                  have a0 : wj.cell? ⟨gw, 0, none⟩ = some (.slice A1 l.length c1) := (blk_cell hg0 0).trans rfl
                  have a1 : wj.cell? ⟨gw, 1, none⟩ = some (.slice A2 l.length c2) := (blk_cell hg0 1).trans rfl
                  have C1 := Aside0.mk hr1
                  have C2 := Aside0.mk hr2
                  have L1 := Aside0.mk hl1
                  have L2 := Aside0.mk hl2
                  clear hg0 hr1 hr2 hl1 hl2
                  refine start_ (n := 13) (S := fun w' => w'.cell? ⟨gw, 0, none⟩ = some (.slice A1 l.length c1) ∧ w'.cell? ⟨gw, 1, none⟩ = some (.slice A2 l.length c2)) (ds := []) #[false, false, false, false, false, false, false, false, false, false, false, false, false] (by kernel_rfl) rfl rfl ⟨a0, a1⟩ (fun hHeld => ?_)
                  have n1_ : Aside0 (k28.C wj.drew A1 l.length (l.map (·.1))) := Aside0.mk (Kd.C_below C1.out (pw_below_drewN (Below.refl _ _) 1))
                  have n2_ : Aside0 ((Kd.int .i64).C wj.drew A2 l.length (l.map (fun x => (x.2 : Int)))) := Aside0.mk (Kd.C_below C2.out (pw_below_drewN (Below.refl _ _) 1))
                  clear C1 C2 a0 a1
                  have n0_ : Aside0 (St w wj.drew ga gw rs l) := Aside0.mk (ST.out.below (pw_below_drewN (Below.refl _ _) 1))
                  clear ST
                  generalize wj.drew = wd at *
                  have ST := n0_
                  clear n0_
                  have C1 := n1_
                  have C2 := n2_
                  clear n1_ n2_
                  -- 0: Op.move t3
                  refine pure_ (i := 0) (N := (some 149)) (v := ?_) (a' := ?_) #[true, false, false, false, false, false, false, false, false, false, false, false, false] rfl rfl (by kernel_rfl) (fun _ _ _ h => h) (Or.inl ⟨by rfl, ?_⟩) ?_ ?_
                  rotate_left
                  · intro w'
                    go_simp
                    with_reducible rfl
                  rotate_left
                  · simp only [Act.put, List.setIfInBounds_toArray, List.set_cons_zero, List.set_cons_succ, i64_w, i32_w]
                    rfl
                  -- 2: Op.fieldAddr 42 t4 0
                  refine pure_ (i := 2) (N := (some 151)) (v := ?_) (a' := ?_) #[true, false, true, false, false, false, false, false, false, false, false, false, false] rfl rfl (by kernel_rfl) (fun _ _ _ h => h) (Or.inl ⟨by rfl, ?_⟩) ?_ ?_
                  rotate_left
                  · intro w'
                    go_simp
                    with_reducible rfl
                  rotate_left
                  · simp only [Act.put, List.setIfInBounds_toArray, List.set_cons_zero, List.set_cons_succ, i64_w, i32_w]
                    rfl
                  -- 3: Op.load 22 t151
                  refine take_ (i := 3) (N := (some 152)) (v := ?_) (a' := ?_) #[true, false, true, true, false, false, false, false, false, false, false, false, false] rfl rfl (by kernel_rfl) (fun _ _ _ h => h) (Or.inl ⟨by rfl, ?_⟩) hHeld ?_ ?_
                  rotate_left
                  · rintro w' ⟨s0, s1⟩
                    go_simp
                    with_reducible rfl
                  rotate_left
                  · simp only [Act.put, List.setIfInBounds_toArray, List.set_cons_zero, List.set_cons_succ, i64_w, i32_w]
                    rfl
                  -- 4: Op.call { builtin len, args := #[t152], argTypes := #[22] }
                  refine pure_ (i := 4) (N := (some 153)) (v := ?_) (a' := ?_) #[true, false, true, true, true, false, false, false, false, false, false, false, false] rfl rfl (by kernel_rfl) (fun _ _ _ h => h) (Or.inl ⟨by rfl, ?_⟩) ?_ ?_
                  rotate_left
                  · intro w'
                    go_simp
                    with_reducible rfl
                  rotate_left
                  · simp only [Act.put, List.setIfInBounds_toArray, List.set_cons_zero, List.set_cons_succ, i64_w, i32_w]
                    rfl
                  -- 1: Op.call { value (Operand.func 22), args := #[t149], argTypes := #[26] }
                  refine one_ (i := 1) (N := (some 150)) #[true, true, true, true, true, false, false, false, false, false, false, false, false] rfl rfl (by kernel_rfl) (by decide) (fun K hK => ?_)
                  refine goes_ Try.func22 (by kernel_rfl) rfl #[.pointer (some ⟨ga, 0, none⟩)] (by rfl) rfl rfl (by (try simp only [List.map_toArray, List.map_cons, List.map_nil]); first | done | rfl) ?_
                  with_reducible refine (len_c ST.out).mono ?_
                  rintro e wb ⟨rfl, hb⟩
                  refine ⟨_, rfl, ?_⟩
                  have hOld := hHeld
                  clear hHeld
                  refine hK.out _ _ (⟨(hb.cell (World.block_lt_of_cell? _ _ hOld.1)).trans hOld.1, (hb.cell (World.block_lt_of_cell? _ _ hOld.2)).trans hOld.2⟩) (fun hHeld => ?_)
                  clear hOld hK K
                  refine norm_ (a' := ?_) ?_ ?_
                  rotate_left
                  · show Act.put _ (some 150) _ = _
                    simp only [Act.put, List.setIfInBounds_toArray, List.set_cons_zero, List.set_cons_succ, i64_w, i32_w]
                    rfl
                  have n0_ := Aside0.mk (ST.out.below hb)
                  have n1_ := Aside0.mk (Kd.C_below C1.out hb)
                  have n2_ := Aside0.mk (Kd.C_below C2.out hb)
                  clear ST C1 C2 hb
                  have ST := n0_
                  have C1 := n1_
                  have C2 := n2_
                  clear n0_ n1_ n2_
                  -- 5: Op.binOp BinOp.neq 3 t150 t153 3
                  refine pure_ (i := 5) (N := (some 154)) (v := ?_) (a' := ?_) #[true, true, true, true, true, true, false, false, false, false, false, false, false] rfl rfl (by kernel_rfl) (fun _ _ _ h => h) (Or.inl ⟨by rfl, ?_⟩) ?_ ?_
                  rotate_left
                  · intro w'
                    go_simp
                    with_reducible rfl
                  rotate_left
                  · simp only [Act.put, List.setIfInBounds_toArray, List.set_cons_zero, List.set_cons_succ, i64_w, i32_w]
                    rfl
                  -- 6: Op.move t154
                  refine pure_ (i := 6) (N := (some 155)) (v := ?_) (a' := ?_) #[true, true, true, true, true, true, true, false, false, false, false, false, false] rfl rfl (by kernel_rfl) (fun _ _ _ h => h) (Or.inl ⟨by rfl, ?_⟩) ?_ ?_
                  rotate_left
                  · intro w'
                    go_simp
                    with_reducible rfl
                  rotate_left
                  · simp only [Act.put, List.setIfInBounds_toArray, List.set_cons_zero, List.set_cons_succ, i64_w, i32_w]
                    rfl
                  -- 7: Op.move t3   [guarded: some (6, false)]
                  refine pure_ (i := 7) (N := (some 156)) (v := ?_) (a' := ?_) #[true, true, true, true, true, true, true, true, false, false, false, false, false] rfl rfl (by kernel_rfl) (fun _ _ _ h => h) (Or.inl ⟨by rfl, ?_⟩) ?_ ?_
                  rotate_left
                  · intro w'
                    go_simp
                    with_reducible rfl
                  rotate_left
                  · simp only [Act.put, List.setIfInBounds_toArray, List.set_cons_zero, List.set_cons_succ, i64_w, i32_w]
                    rfl
                  -- 9: Op.load 42 t4   [guarded: some (6, false)]
                  refine take_ (i := 9) (N := (some 158)) (v := ?_) (a' := ?_) #[true, true, true, true, true, true, true, true, false, true, false, false, false] rfl rfl (by kernel_rfl) (fun _ _ _ h => h) (Or.inl ⟨by rfl, ?_⟩) hHeld ?_ ?_
                  rotate_left
                  · rintro w' ⟨s0, s1⟩
                    go_simp
                    with_reducible rfl
                  rotate_left
                  · simp only [Act.put, List.setIfInBounds_toArray, List.set_cons_zero, List.set_cons_succ, i64_w, i32_w]
                    rfl
                  -- 8: Op.call { value (Operand.func 30), args := #[t156], argTypes := #[26] }   [guarded: some (6, false)]
                  refine one_ (i := 8) (N := (some 157)) #[true, true, true, true, true, true, true, true, true, true, false, false, false] rfl rfl (by kernel_rfl) (by decide) (fun K hK => ?_)
                  refine goes_ Try.func30 (by kernel_rfl) rfl #[.pointer (some ⟨ga, 0, none⟩)] (by rfl) rfl rfl (by (try simp only [List.map_toArray, List.map_cons, List.map_nil]); first | done | rfl) ?_
                  with_reducible refine (height_c ST.out).mono ?_
                  rintro e wc ⟨rfl, hb⟩
                  refine ⟨_, rfl, ?_⟩
                  have hOld := hHeld
                  clear hHeld
                  refine hK.out _ _ (⟨(hb.cell (World.block_lt_of_cell? _ _ hOld.1)).trans hOld.1, (hb.cell (World.block_lt_of_cell? _ _ hOld.2)).trans hOld.2⟩) (fun hHeld => ?_)
                  clear hOld hK K
                  refine norm_ (a' := ?_) ?_ ?_
                  rotate_left
                  · show Act.put _ (some 157) _ = _
                    simp only [Act.put, List.setIfInBounds_toArray, List.set_cons_zero, List.set_cons_succ, i64_w, i32_w]
                    rfl
                  -- 10: Op.call { value (Operand.func 31), args := #[t158], argTypes := #[42] }   [guarded: some (6, false)]
                  refine one_ (i := 10) (N := (some 159)) #[true, true, true, true, true, true, true, true, true, true, true, false, false] rfl rfl (by kernel_rfl) (by decide) (fun K hK => ?_)
                  refine goes_ Try.func31 (by kernel_rfl) rfl #[.agg #[.slice A1 l.length c1, .slice A2 l.length c2]] (by rfl) rfl rfl (by (try simp only [List.map_toArray, List.map_cons, List.map_nil]); first | done | rfl) ?_
                  with_reducible refine (refh_c (l := l) (by have := LN1.out; omega) (Kd.C_below C1.out hb) (Kd.C_below C2.out hb) L1.out L2.out).mono ?_
                  rintro e wj ⟨rfl, hb2⟩
                  refine ⟨_, rfl, ?_⟩
                  have hOld := hHeld
                  clear hHeld
                  refine hK.out _ _ (⟨(hb2.cell (World.block_lt_of_cell? _ _ hOld.1)).trans hOld.1, (hb2.cell (World.block_lt_of_cell? _ _ hOld.2)).trans hOld.2⟩) (fun hHeld => ?_)
                  clear hOld hK K
                  refine norm_ (a' := ?_) ?_ ?_
                  rotate_left
                  · show Act.put _ (some 159) _ = _
                    simp only [Act.put, List.setIfInBounds_toArray, List.set_cons_zero, List.set_cons_succ, i64_w, i32_w]
                    rfl
                  have n0_ := Aside0.mk (ST.out.below (below_step hb hb2))
                  clear ST C1 C2 hb hb2
                  have ST := n0_
                  clear n0_
                  -- 11: Op.binOp BinOp.neq 3 t157 t159 3   [guarded: some (6, false)]
                  refine pure_ (i := 11) (N := (some 160)) (v := ?_) (a' := ?_) #[true, true, true, true, true, true, true, true, true, true, true, true, false] rfl rfl (by kernel_rfl) (fun _ _ _ h => h) (Or.inl ⟨by rfl, ?_⟩) ?_ ?_
                  rotate_left
                  · intro w'
                    go_simp
                    with_reducible rfl
                  rotate_left
                  · simp only [Act.put, List.setIfInBounds_toArray, List.set_cons_zero, List.set_cons_succ, i64_w, i32_w]
                    rfl
                  -- 12: Op.pick t155 (const (Value.bool true)) t160
                  refine pure_ (i := 12) (N := (some 161)) (v := ?_) (a' := ?_) #[true, true, true, true, true, true, true, true, true, true, true, true, true] rfl rfl (by kernel_rfl) (fun _ _ _ h => h) (Or.inl ⟨by rfl, ?_⟩) ?_ ?_
                  rotate_left
                  · intro w'
                    go_simp
                    with_reducible rfl
                  rotate_left
                  · simp only [Act.put, List.setIfInBounds_toArray, List.set_cons_zero, List.set_cons_succ, i64_w, i32_w]
                    rfl
                  refine done_ (by kernel_rfl) ?_
                  clear hHeld L1 L2
                  go_wp2_with fail
                  have hi100 := CN.out
                  have ew : wrap64 ((i : Int) + 1) = ((i + 1 : Nat) : Int) := by unfold wrap64; omega
                  try rw [ew]
                  go_roundg q
                  case measure => omega
                  case rel => exact ⟨i + 1, _, l, rfl, ⟨by have := HK.out; omega⟩, LL, ST⟩
                · have e14 : decide (x.f2 < (kk : Int)) = false := decide_eq_false g2
                  obtain ⟨kN, hkN⟩ : ∃ kN : Nat, (kk : Int) = (kN : Int) := ⟨kk, rfl⟩
                  have KF := Aside0.mk hkN
                  have HT := Aside0.mk (show takeM x.f2 ((l.map (·.1)).drop n) = ((l.map (·.1)).take (n + kN)).drop n by rw [takeM, if_neg (fun h => by have h1 := h.2; rw [List.length_drop, List.length_map] at h1; have := HKK.out; omega), List.take_of_length_le]; rw [List.length_map]; have := HKK.out; omega)
                  have HKN := Aside0.mk (show n + kN ≤ l.length by have := HKK.out; omega)
                  clear g1 g2 hkN
                  obtain ⟨m, hm⟩ : ∃ m, m = n + kN := ⟨_, rfl⟩
                  have HMM := Aside0.mk hm
                  have e15 : True → (n : Int) + (kk : Int) = (m : Int) := fun _ => by have := KF.out; omega
                  have e16 : True → wrap64 (m : Int) = (m : Int) := fun _ => by have h1 := HKN.out; have h2 := LN.out; unfold wrap64; omega
                  obtain ⟨i052, hi052, _, hsz52, _⟩ := info_parts info28
                  have hcut52 := cut_mid (P := Try.prog) 22 28 .i64 .i64 Try.underlying22 hi052 4 hsz52 A1 l.length c1 (n : Int) (m : Int) (by omega) (by omega) (by have := HKN.out; omega) L1.out
                  rw [Int.toNat_natCast, Int.toNat_natCast] at hcut52
                  obtain ⟨T, hT⟩ : ∃ T, T = ((l.map (·.1)).take m).drop n := ⟨_, rfl⟩
                  have HTT := Aside0.mk hT
                  have hTl : m - n = T.length := by rw [hT, List.length_drop, List.length_take, List.length_map]; have := HKN.out; omega
                  rw [hTl] at hcut52
                  obtain ⟨A52, hA52⟩ : ∃ A, A = (if c1 = n then A1 else (A1 : Option Addr).map (·.add (n * 4))) := ⟨_, rfl⟩
                  obtain ⟨c52, hc52⟩ : ∃ c, c = c1 - n := ⟨_, rfl⟩
                  rw [← hA52, ← hc52] at hcut52
                  have CT := Aside0.mk (show k28.C w5 A52 T.length T by have h1 := Kd.C_mid (lo := n) (hi := m) (c := c1) (xs := l.map (·.1)) (by rw [List.length_map]; exact C1.out) (by omega) (by rw [List.length_map]; have := HKN.out; omega) (by rw [List.length_map]; exact L1.out); rw [← hT] at h1; rw [hA52]; exact h1)
                  have CTc := Aside0.mk (show T.length ≤ c52 by have := L1.out; have := HKN.out; omega)
                  have CTl := Aside0.mk (show T.length ≤ 1000 by have := LN1.out; have := HKN.out; omega)
                  clear hm hi052 hsz52 hT hTl hA52 hc52
                  go_wp2_with fail
                  clear z0 z5
                  refine start_ (n := 19) (S := fun w' => w'.heap[go]? = some (.cells #[.int .i64 x.f0, .string x.f1.f0, .int .u64 x.f1.f1, .int .i64 x.f1.f2, .string x.f1.f3, .int .i64 x.f2] 44 (0, 0)) ∧ w'.cell? ⟨gw, 0, none⟩ = some (.slice A1 l.length c1) ∧ w'.cell? ⟨gw, 1, none⟩ = some (.slice A2 l.length c2)) (ds := []) #[false, false, false, false, false, false, false, false, false, false, false, false, false, false, false, false, false, false, false] (by kernel_rfl) rfl rfl ⟨blk_drew BO.out, a0, a1⟩ (fun hHeld => ?_)
                  have n3_ : Aside0 (k28.C w5.drew A52 T.length T) := Aside0.mk (Kd.C_below CT.out (pw_below_drewN (Below.refl _ _) 1))
                  clear CT
                  have n1_ : Aside0 (k28.C w5.drew A1 l.length (l.map (·.1))) := Aside0.mk (Kd.C_below C1.out (pw_below_drewN (Below.refl _ _) 1))
                  have n2_ : Aside0 ((Kd.int .i64).C w5.drew A2 l.length (l.map (fun x => (x.2 : Int)))) := Aside0.mk (Kd.C_below C2.out (pw_below_drewN (Below.refl _ _) 1))
                  clear C1 C2 a0 a1
                  have n0_ : Aside0 (St w w5.drew ga gw rs l) := Aside0.mk (ST.out.below (pw_below_drewN (Below.refl _ _) 1))
                  clear ST
                  generalize w5.drew = wd at *
                  have ST := n0_
                  clear n0_
                  have C1 := n1_
                  have C2 := n2_
                  clear n1_ n2_
                  have CT := n3_
                  clear n3_
                  -- 0: Op.move t3
                  refine pure_ (i := 0) (N := (some 111)) (v := ?_) (a' := ?_) #[true, false, false, false, false, false, false, false, false, false, false, false, false, false, false, false, false, false, false] rfl rfl (by kernel_rfl) (fun _ _ _ h => h) (Or.inl ⟨by rfl, ?_⟩) ?_ ?_
                  rotate_left
                  · intro w'
                    go_simp
                    with_reducible rfl
                  rotate_left
                  · simp only [Act.put, List.setIfInBounds_toArray, List.set_cons_zero, List.set_cons_succ, i64_w, i32_w]
                    rfl
                  -- 1: Op.fieldAddr 44 t6 1
                  refine pure_ (i := 1) (N := (some 112)) (v := ?_) (a' := ?_) #[true, true, false, false, false, false, false, false, false, false, false, false, false, false, false, false, false, false, false] rfl rfl (by kernel_rfl) (fun _ _ _ h => h) (Or.inl ⟨by rfl, ?_⟩) ?_ ?_
                  rotate_left
                  · intro w'
                    go_simp
                    with_reducible rfl
                  rotate_left
                  · simp only [Act.put, List.setIfInBounds_toArray, List.set_cons_zero, List.set_cons_succ, i64_w, i32_w]
                    rfl
                  -- 2: Op.fieldAddr 28 t112 0
                  refine pure_ (i := 2) (N := (some 113)) (v := ?_) (a' := ?_) #[true, true, true, false, false, false, false, false, false, false, false, false, false, false, false, false, false, false, false] rfl rfl (by kernel_rfl) (fun _ _ _ h => h) (Or.inl ⟨by rfl, ?_⟩) ?_ ?_
                  rotate_left
                  · intro w'
                    go_simp
                    with_reducible rfl
                  rotate_left
                  · simp only [Act.put, List.setIfInBounds_toArray, List.set_cons_zero, List.set_cons_succ, i64_w, i32_w]
                    rfl
                  -- 3: Op.load 9 t113
                  refine take_ (i := 3) (N := (some 114)) (v := ?_) (a' := ?_) #[true, true, true, true, false, false, false, false, false, false, false, false, false, false, false, false, false, false, false] rfl rfl (by kernel_rfl) (fun _ _ _ h => h) (Or.inl ⟨by rfl, ?_⟩) hHeld ?_ ?_
                  rotate_left
                  · rintro w' ⟨s0, s1, s2⟩
                    have z1 : w'.cell? ⟨go, 1, none⟩ = some (.string x.f1.f0) := (blk_cell s0 1).trans rfl
                    have z2 : w'.cell? ⟨go, 2, none⟩ = some (.int .u64 x.f1.f1) := (blk_cell s0 2).trans rfl
                    have z3 : w'.cell? ⟨go, 3, none⟩ = some (.int .i64 x.f1.f2) := (blk_cell s0 3).trans rfl
                    have z4 : w'.cell? ⟨go, 4, none⟩ = some (.string x.f1.f3) := (blk_cell s0 4).trans rfl
                    have z5 : w'.cell? ⟨go, 5, none⟩ = some (.int .i64 x.f2) := (blk_cell s0 5).trans rfl
                    go_simp
                    with_reducible rfl
                  rotate_left
                  · simp only [Act.put, List.setIfInBounds_toArray, List.set_cons_zero, List.set_cons_succ, i64_w, i32_w]
                    rfl
                  -- 4: Op.fieldAddr 44 t6 1
                  refine pure_ (i := 4) (N := (some 115)) (v := ?_) (a' := ?_) #[true, true, true, true, true, false, false, false, false, false, false, false, false, false, false, false, false, false, false] rfl rfl (by kernel_rfl) (fun _ _ _ h => h) (Or.inl ⟨by rfl, ?_⟩) ?_ ?_
                  rotate_left
                  · intro w'
                    go_simp
                    with_reducible rfl
                  rotate_left
                  · simp only [Act.put, List.setIfInBounds_toArray, List.set_cons_zero, List.set_cons_succ, i64_w, i32_w]
                    rfl
                  -- 5: Op.fieldAddr 28 t115 1
                  refine pure_ (i := 5) (N := (some 116)) (v := ?_) (a' := ?_) #[true, true, true, true, true, true, false, false, false, false, false, false, false, false, false, false, false, false, false] rfl rfl (by kernel_rfl) (fun _ _ _ h => h) (Or.inl ⟨by rfl, ?_⟩) ?_ ?_
                  rotate_left
                  · intro w'
                    go_simp
                    with_reducible rfl
                  rotate_left
                  · simp only [Act.put, List.setIfInBounds_toArray, List.set_cons_zero, List.set_cons_succ, i64_w, i32_w]
                    rfl
                  -- 6: Op.load 24 t116
                  refine take_ (i := 6) (N := (some 117)) (v := ?_) (a' := ?_) #[true, true, true, true, true, true, true, false, false, false, false, false, false, false, false, false, false, false, false] rfl rfl (by kernel_rfl) (fun _ _ _ h => h) (Or.inl ⟨by rfl, ?_⟩) hHeld ?_ ?_
                  rotate_left
                  · rintro w' ⟨s0, s1, s2⟩
                    have z1 : w'.cell? ⟨go, 1, none⟩ = some (.string x.f1.f0) := (blk_cell s0 1).trans rfl
                    have z2 : w'.cell? ⟨go, 2, none⟩ = some (.int .u64 x.f1.f1) := (blk_cell s0 2).trans rfl
                    have z3 : w'.cell? ⟨go, 3, none⟩ = some (.int .i64 x.f1.f2) := (blk_cell s0 3).trans rfl
                    have z4 : w'.cell? ⟨go, 4, none⟩ = some (.string x.f1.f3) := (blk_cell s0 4).trans rfl
                    have z5 : w'.cell? ⟨go, 5, none⟩ = some (.int .i64 x.f2) := (blk_cell s0 5).trans rfl
                    go_simp
                    with_reducible rfl
                  rotate_left
                  · simp only [Act.put, List.setIfInBounds_toArray, List.set_cons_zero, List.set_cons_succ, i64_w, i32_w]
                    rfl
                  -- 7: Op.fieldAddr 44 t6 2
                  refine pure_ (i := 7) (N := (some 118)) (v := ?_) (a' := ?_) #[true, true, true, true, true, true, true, true, false, false, false, false, false, false, false, false, false, false, false] rfl rfl (by kernel_rfl) (fun _ _ _ h => h) (Or.inl ⟨by rfl, ?_⟩) ?_ ?_
                  rotate_left
                  · intro w'
                    go_simp
                    with_reducible rfl
                  rotate_left
                  · simp only [Act.put, List.setIfInBounds_toArray, List.set_cons_zero, List.set_cons_succ, i64_w, i32_w]
                    rfl
                  -- 8: Op.load 3 t118
                  refine take_ (i := 8) (N := (some 119)) (v := ?_) (a' := ?_) #[true, true, true, true, true, true, true, true, true, false, false, false, false, false, false, false, false, false, false] rfl rfl (by kernel_rfl) (fun _ _ _ h => h) (Or.inl ⟨by rfl, ?_⟩) hHeld ?_ ?_
                  rotate_left
                  · rintro w' ⟨s0, s1, s2⟩
                    have z1 : w'.cell? ⟨go, 1, none⟩ = some (.string x.f1.f0) := (blk_cell s0 1).trans rfl
                    have z2 : w'.cell? ⟨go, 2, none⟩ = some (.int .u64 x.f1.f1) := (blk_cell s0 2).trans rfl
                    have z3 : w'.cell? ⟨go, 3, none⟩ = some (.int .i64 x.f1.f2) := (blk_cell s0 3).trans rfl
                    have z4 : w'.cell? ⟨go, 4, none⟩ = some (.string x.f1.f3) := (blk_cell s0 4).trans rfl
                    have z5 : w'.cell? ⟨go, 5, none⟩ = some (.int .i64 x.f2) := (blk_cell s0 5).trans rfl
                    go_simp
                    with_reducible rfl
                  rotate_left
                  · simp only [Act.put, List.setIfInBounds_toArray, List.set_cons_zero, List.set_cons_succ, i64_w, i32_w]
                    rfl
                  -- 10: Op.fieldAddr 42 t4 0
                  refine pure_ (i := 10) (N := (some 121)) (v := ?_) (a' := ?_) #[true, true, true, true, true, true, true, true, true, false, true, false, false, false, false, false, false, false, false] rfl rfl (by kernel_rfl) (fun _ _ _ h => h) (Or.inl ⟨by rfl, ?_⟩) ?_ ?_
                  rotate_left
                  · intro w'
                    go_simp
                    with_reducible rfl
                  rotate_left
                  · simp only [Act.put, List.setIfInBounds_toArray, List.set_cons_zero, List.set_cons_succ, i64_w, i32_w]
                    rfl
                  -- 11: Op.load 22 t121
                  refine take_ (i := 11) (N := (some 122)) (v := ?_) (a' := ?_) #[true, true, true, true, true, true, true, true, true, false, true, true, false, false, false, false, false, false, false] rfl rfl (by kernel_rfl) (fun _ _ _ h => h) (Or.inl ⟨by rfl, ?_⟩) hHeld ?_ ?_
                  rotate_left
                  · rintro w' ⟨s0, s1, s2⟩
                    go_simp
                    with_reducible rfl
                  rotate_left
                  · simp only [Act.put, List.setIfInBounds_toArray, List.set_cons_zero, List.set_cons_succ, i64_w, i32_w]
                    rfl
                  -- 12: Op.move t7
                  refine pure_ (i := 12) (N := (some 123)) (v := ?_) (a' := ?_) #[true, true, true, true, true, true, true, true, true, false, true, true, true, false, false, false, false, false, false] rfl rfl (by kernel_rfl) (fun _ _ _ h => h) (Or.inl ⟨by rfl, ?_⟩) ?_ ?_
                  rotate_left
                  · intro w'
                    go_simp
                    with_reducible rfl
                  rotate_left
                  · simp only [Act.put, List.setIfInBounds_toArray, List.set_cons_zero, List.set_cons_succ, i64_w, i32_w]
                    rfl
                  -- 13: Op.move t7
                  refine pure_ (i := 13) (N := (some 124)) (v := ?_) (a' := ?_) #[true, true, true, true, true, true, true, true, true, false, true, true, true, true, false, false, false, false, false] rfl rfl (by kernel_rfl) (fun _ _ _ h => h) (Or.inl ⟨by rfl, ?_⟩) ?_ ?_
                  rotate_left
                  · intro w'
                    go_simp
                    with_reducible rfl
                  rotate_left
                  · simp only [Act.put, List.setIfInBounds_toArray, List.set_cons_zero, List.set_cons_succ, i64_w, i32_w]
                    rfl
                  -- 14: Op.move t10
                  refine pure_ (i := 14) (N := (some 125)) (v := ?_) (a' := ?_) #[true, true, true, true, true, true, true, true, true, false, true, true, true, true, true, false, false, false, false] rfl rfl (by kernel_rfl) (fun _ _ _ h => h) (Or.inl ⟨by rfl, ?_⟩) ?_ ?_
                  rotate_left
                  · intro w'
                    go_simp
                    with_reducible rfl
                  rotate_left
                  · simp only [Act.put, List.setIfInBounds_toArray, List.set_cons_zero, List.set_cons_succ, i64_w, i32_w]
                    rfl
                  -- 15: Op.binOp BinOp.add 3 t124 t125 3
                  refine pure_ (i := 15) (N := (some 126)) (v := ?_) (a' := ?_) #[true, true, true, true, true, true, true, true, true, false, true, true, true, true, true, true, false, false, false] rfl rfl (by kernel_rfl) (fun _ _ _ h => h) (Or.inl ⟨by rfl, ?_⟩) ?_ ?_
                  rotate_left
                  · intro w'
                    go_simp
                    with_reducible rfl
                  rotate_left
                  · simp only [Act.put, List.setIfInBounds_toArray, List.set_cons_zero, List.set_cons_succ, i64_w, i32_w]
                    rfl
                  -- 16: Op.slice 22 t122 (some t123) (some t126) none
                  refine pure_ (i := 16) (N := (some 127)) (v := ?_) (a' := ?_) #[true, true, true, true, true, true, true, true, true, false, true, true, true, true, true, true, true, false, false] rfl rfl (by kernel_rfl) (fun _ _ _ h => h) (Or.inl ⟨by rfl, ?_⟩) ?_ ?_
                  rotate_left
                  · intro w'
                    go_simp
                    with_reducible rfl
                  rotate_left
                  · simp only [Act.put, List.setIfInBounds_toArray, List.set_cons_zero, List.set_cons_succ, i64_w, i32_w]
                    rfl
                  -- 9: Op.call { value (Operand.func 23), args := #[t111, t114, t117, t119], argTypes := #[26, 9, 24, 3] }
                  refine one_ (i := 9) (N := (some 120)) #[true, true, true, true, true, true, true, true, true, true, true, true, true, true, true, true, true, false, false] rfl rfl (by kernel_rfl) (by decide) (fun K hK => ?_)
                  have hac := all_c x.f1.f0 x.f1.f1 x.f2 ST.out
                  rw [← HN.out, HT.out, ← HMM.out, ← HTT.out] at hac
                  refine goes_ Try.func23 (by kernel_rfl) rfl #[.pointer (some ⟨ga, 0, none⟩), .string x.f1.f0, .int .u64 x.f1.f1, .int .i64 x.f2] (by rfl) rfl rfl (by (try simp only [List.map_toArray, List.map_cons, List.map_nil]); first | done | rfl) ?_
                  with_reducible refine (hac).mono ?_
                  rintro e wc ⟨v, rfl, hR, hb⟩
                  clear hac
                  obtain ⟨Al, cl, hv⟩ := Kd.R_slice hR
                  subst hv
                  have CA := Aside0.mk (Kd.R_reads' hR).2.2
                  have CAc := Aside0.mk (Kd.R_reads' hR).2.1
                  clear hR
                  refine ⟨_, rfl, ?_⟩
                  have hOld := hHeld
                  clear hHeld
                  refine hK.out _ _ (⟨blk_below hOld.1 hb, (hb.cell (World.block_lt_of_cell? _ _ hOld.2.1)).trans hOld.2.1, (hb.cell (World.block_lt_of_cell? _ _ hOld.2.2)).trans hOld.2.2⟩) (fun hHeld => ?_)
                  clear hOld hK K
                  refine norm_ (a' := ?_) ?_ ?_
                  rotate_left
                  · show Act.put _ (some 120) _ = _
                    simp only [Act.put, List.setIfInBounds_toArray, List.set_cons_zero, List.set_cons_succ, i64_w, i32_w]
                    rfl
                  -- 17: Op.call { value (Operand.func 28), args := #[t120, t127], argTypes := #[22, 22] }
                  refine one_ (i := 17) (N := (some 128)) #[true, true, true, true, true, true, true, true, true, true, true, true, true, true, true, true, true, true, false] rfl rfl (by kernel_rfl) (by decide) (fun K hK => ?_)
                  refine goes_ Try.func28 (by kernel_rfl) rfl #[.slice Al T.length cl, .slice A52 T.length c52] (by rfl) rfl rfl (by (try simp only [List.map_toArray, List.map_cons, List.map_nil]); first | done | rfl) ?_
                  with_reducible refine (same_true wc Al cl A52 c52 T CA.out CAc.out (Kd.C_below CT.out hb) CTc.out (by have := CTl.out; omega)).mono ?_
                  rintro e wj ⟨rfl, hb2⟩
                  refine ⟨_, rfl, ?_⟩
                  have hOld := hHeld
                  clear hHeld
                  refine hK.out _ _ (⟨blk_below hOld.1 hb2, (hb2.cell (World.block_lt_of_cell? _ _ hOld.2.1)).trans hOld.2.1, (hb2.cell (World.block_lt_of_cell? _ _ hOld.2.2)).trans hOld.2.2⟩) (fun hHeld => ?_)
                  clear hOld hK K
                  refine norm_ (a' := ?_) ?_ ?_
                  rotate_left
                  · show Act.put _ (some 128) _ = _
                    simp only [Act.put, List.setIfInBounds_toArray, List.set_cons_zero, List.set_cons_succ, i64_w, i32_w]
                    rfl
                  have n0_ := Aside0.mk (ST.out.below (below_step hb hb2))
                  clear ST C1 C2 CA CT hb hb2 BO hcut52
                  have ST := n0_
                  clear n0_
                  -- 18: Op.unOp UnOp.not 4 t128
                  refine pure_ (i := 18) (N := (some 129)) (v := ?_) (a' := ?_) #[true, true, true, true, true, true, true, true, true, true, true, true, true, true, true, true, true, true, true] rfl rfl (by kernel_rfl) (fun _ _ _ h => h) (Or.inl ⟨by rfl, ?_⟩) ?_ ?_
                  rotate_left
                  · intro w'
                    go_simp
                    with_reducible rfl
                  rotate_left
                  · simp only [Act.put, List.setIfInBounds_toArray, List.set_cons_zero, List.set_cons_succ, i64_w, i32_w]
                    rfl
                  refine done_ (by kernel_rfl) ?_
                  clear hHeld L1 L2 CAc CTc CTl HKK HKN HT HTT HMM KF
                  go_wp2_with fail
                  obtain ⟨A1, c1, A2, c2, hg0, hr1, hr2, hl1, hl2⟩ := ST.out.rl.reads
                  have a0 : wj.cell? ⟨gw, 0, none⟩ = some (.slice A1 l.length c1) := (blk_cell hg0 0).trans rfl
                  have a1 : wj.cell? ⟨gw, 1, none⟩ = some (.slice A2 l.length c2) := (blk_cell hg0 1).trans rfl
                  have C1 := Aside0.mk hr1
                  have C2 := Aside0.mk hr2
                  have L1 := Aside0.mk hl1
                  have L2 := Aside0.mk hl2
                  clear hg0 hr1 hr2 hl1 hl2
                  refine start_ (n := 13) (S := fun w' => w'.cell? ⟨gw, 0, none⟩ = some (.slice A1 l.length c1) ∧ w'.cell? ⟨gw, 1, none⟩ = some (.slice A2 l.length c2)) (ds := []) #[false, false, false, false, false, false, false, false, false, false, false, false, false] (by kernel_rfl) rfl rfl ⟨a0, a1⟩ (fun hHeld => ?_)
                  have n1_ : Aside0 (k28.C wj.drew A1 l.length (l.map (·.1))) := Aside0.mk (Kd.C_below C1.out (pw_below_drewN (Below.refl _ _) 1))
                  have n2_ : Aside0 ((Kd.int .i64).C wj.drew A2 l.length (l.map (fun x => (x.2 : Int)))) := Aside0.mk (Kd.C_below C2.out (pw_below_drewN (Below.refl _ _) 1))
                  clear C1 C2 a0 a1
                  have n0_ : Aside0 (St w wj.drew ga gw rs l) := Aside0.mk (ST.out.below (pw_below_drewN (Below.refl _ _) 1))
                  clear ST
                  generalize wj.drew = wd at *
                  have ST := n0_
                  clear n0_
                  have C1 := n1_
                  have C2 := n2_
                  clear n1_ n2_
                  -- 0: Op.move t3
                  refine pure_ (i := 0) (N := (some 149)) (v := ?_) (a' := ?_) #[true, false, false, false, false, false, false, false, false, false, false, false, false] rfl rfl (by kernel_rfl) (fun _ _ _ h => h) (Or.inl ⟨by rfl, ?_⟩) ?_ ?_
                  rotate_left
                  · intro w'
                    go_simp
                    with_reducible rfl
                  rotate_left
                  · simp only [Act.put, List.setIfInBounds_toArray, List.set_cons_zero, List.set_cons_succ, i64_w, i32_w]
                    rfl
                  -- 2: Op.fieldAddr 42 t4 0
                  refine pure_ (i := 2) (N := (some 151)) (v := ?_) (a' := ?_) #[true, false, true, false, false, false, false, false, false, false, false, false, false] rfl rfl (by kernel_rfl) (fun _ _ _ h => h) (Or.inl ⟨by rfl, ?_⟩) ?_ ?_
                  rotate_left
                  · intro w'
                    go_simp
                    with_reducible rfl
                  rotate_left
                  · simp only [Act.put, List.setIfInBounds_toArray, List.set_cons_zero, List.set_cons_succ, i64_w, i32_w]
                    rfl
                  -- 3: Op.load 22 t151
                  refine take_ (i := 3) (N := (some 152)) (v := ?_) (a' := ?_) #[true, false, true, true, false, false, false, false, false, false, false, false, false] rfl rfl (by kernel_rfl) (fun _ _ _ h => h) (Or.inl ⟨by rfl, ?_⟩) hHeld ?_ ?_
                  rotate_left
                  · rintro w' ⟨s0, s1⟩
                    go_simp
                    with_reducible rfl
                  rotate_left
                  · simp only [Act.put, List.setIfInBounds_toArray, List.set_cons_zero, List.set_cons_succ, i64_w, i32_w]
                    rfl
                  -- 4: Op.call { builtin len, args := #[t152], argTypes := #[22] }
                  refine pure_ (i := 4) (N := (some 153)) (v := ?_) (a' := ?_) #[true, false, true, true, true, false, false, false, false, false, false, false, false] rfl rfl (by kernel_rfl) (fun _ _ _ h => h) (Or.inl ⟨by rfl, ?_⟩) ?_ ?_
                  rotate_left
                  · intro w'
                    go_simp
                    with_reducible rfl
                  rotate_left
                  · simp only [Act.put, List.setIfInBounds_toArray, List.set_cons_zero, List.set_cons_succ, i64_w, i32_w]
                    rfl
                  -- 1: Op.call { value (Operand.func 22), args := #[t149], argTypes := #[26] }
                  refine one_ (i := 1) (N := (some 150)) #[true, true, true, true, true, false, false, false, false, false, false, false, false] rfl rfl (by kernel_rfl) (by decide) (fun K hK => ?_)
                  refine goes_ Try.func22 (by kernel_rfl) rfl #[.pointer (some ⟨ga, 0, none⟩)] (by rfl) rfl rfl (by (try simp only [List.map_toArray, List.map_cons, List.map_nil]); first | done | rfl) ?_
                  with_reducible refine (len_c ST.out).mono ?_
                  rintro e wb ⟨rfl, hb⟩
                  refine ⟨_, rfl, ?_⟩
                  have hOld := hHeld
                  clear hHeld
                  refine hK.out _ _ (⟨(hb.cell (World.block_lt_of_cell? _ _ hOld.1)).trans hOld.1, (hb.cell (World.block_lt_of_cell? _ _ hOld.2)).trans hOld.2⟩) (fun hHeld => ?_)
                  clear hOld hK K
                  refine norm_ (a' := ?_) ?_ ?_
                  rotate_left
                  · show Act.put _ (some 150) _ = _
                    simp only [Act.put, List.setIfInBounds_toArray, List.set_cons_zero, List.set_cons_succ, i64_w, i32_w]
                    rfl
                  have n0_ := Aside0.mk (ST.out.below hb)
                  have n1_ := Aside0.mk (Kd.C_below C1.out hb)
                  have n2_ := Aside0.mk (Kd.C_below C2.out hb)
                  clear ST C1 C2 hb
                  have ST := n0_
                  have C1 := n1_
                  have C2 := n2_
                  clear n0_ n1_ n2_
                  -- 5: Op.binOp BinOp.neq 3 t150 t153 3
                  refine pure_ (i := 5) (N := (some 154)) (v := ?_) (a' := ?_) #[true, true, true, true, true, true, false, false, false, false, false, false, false] rfl rfl (by kernel_rfl) (fun _ _ _ h => h) (Or.inl ⟨by rfl, ?_⟩) ?_ ?_
                  rotate_left
                  · intro w'
                    go_simp
                    with_reducible rfl
                  rotate_left
                  · simp only [Act.put, List.setIfInBounds_toArray, List.set_cons_zero, List.set_cons_succ, i64_w, i32_w]
                    rfl
                  -- 6: Op.move t154
                  refine pure_ (i := 6) (N := (some 155)) (v := ?_) (a' := ?_) #[true, true, true, true, true, true, true, false, false, false, false, false, false] rfl rfl (by kernel_rfl) (fun _ _ _ h => h) (Or.inl ⟨by rfl, ?_⟩) ?_ ?_
                  rotate_left
                  · intro w'
                    go_simp
                    with_reducible rfl
                  rotate_left
                  · simp only [Act.put, List.setIfInBounds_toArray, List.set_cons_zero, List.set_cons_succ, i64_w, i32_w]
                    rfl
                  -- 7: Op.move t3   [guarded: some (6, false)]
                  refine pure_ (i := 7) (N := (some 156)) (v := ?_) (a' := ?_) #[true, true, true, true, true, true, true, true, false, false, false, false, false] rfl rfl (by kernel_rfl) (fun _ _ _ h => h) (Or.inl ⟨by rfl, ?_⟩) ?_ ?_
                  rotate_left
                  · intro w'
                    go_simp
                    with_reducible rfl
                  rotate_left
                  · simp only [Act.put, List.setIfInBounds_toArray, List.set_cons_zero, List.set_cons_succ, i64_w, i32_w]
                    rfl
                  -- 9: Op.load 42 t4   [guarded: some (6, false)]
                  refine take_ (i := 9) (N := (some 158)) (v := ?_) (a' := ?_) #[true, true, true, true, true, true, true, true, false, true, false, false, false] rfl rfl (by kernel_rfl) (fun _ _ _ h => h) (Or.inl ⟨by rfl, ?_⟩) hHeld ?_ ?_
                  rotate_left
                  · rintro w' ⟨s0, s1⟩
                    go_simp
                    with_reducible rfl
                  rotate_left
                  · simp only [Act.put, List.setIfInBounds_toArray, List.set_cons_zero, List.set_cons_succ, i64_w, i32_w]
                    rfl
                  -- 8: Op.call { value (Operand.func 30), args := #[t156], argTypes := #[26] }   [guarded: some (6, false)]
                  refine one_ (i := 8) (N := (some 157)) #[true, true, true, true, true, true, true, true, true, true, false, false, false] rfl rfl (by kernel_rfl) (by decide) (fun K hK => ?_)
                  refine goes_ Try.func30 (by kernel_rfl) rfl #[.pointer (some ⟨ga, 0, none⟩)] (by rfl) rfl rfl (by (try simp only [List.map_toArray, List.map_cons, List.map_nil]); first | done | rfl) ?_
                  with_reducible refine (height_c ST.out).mono ?_
                  rintro e wc ⟨rfl, hb⟩
                  refine ⟨_, rfl, ?_⟩
                  have hOld := hHeld
                  clear hHeld
                  refine hK.out _ _ (⟨(hb.cell (World.block_lt_of_cell? _ _ hOld.1)).trans hOld.1, (hb.cell (World.block_lt_of_cell? _ _ hOld.2)).trans hOld.2⟩) (fun hHeld => ?_)
                  clear hOld hK K
                  refine norm_ (a' := ?_) ?_ ?_
                  rotate_left
                  · show Act.put _ (some 157) _ = _
                    simp only [Act.put, List.setIfInBounds_toArray, List.set_cons_zero, List.set_cons_succ, i64_w, i32_w]
                    rfl
                  -- 10: Op.call { value (Operand.func 31), args := #[t158], argTypes := #[42] }   [guarded: some (6, false)]
                  refine one_ (i := 10) (N := (some 159)) #[true, true, true, true, true, true, true, true, true, true, true, false, false] rfl rfl (by kernel_rfl) (by decide) (fun K hK => ?_)
                  refine goes_ Try.func31 (by kernel_rfl) rfl #[.agg #[.slice A1 l.length c1, .slice A2 l.length c2]] (by rfl) rfl rfl (by (try simp only [List.map_toArray, List.map_cons, List.map_nil]); first | done | rfl) ?_
                  with_reducible refine (refh_c (l := l) (by have := LN1.out; omega) (Kd.C_below C1.out hb) (Kd.C_below C2.out hb) L1.out L2.out).mono ?_
                  rintro e wj ⟨rfl, hb2⟩
                  refine ⟨_, rfl, ?_⟩
                  have hOld := hHeld
                  clear hHeld
                  refine hK.out _ _ (⟨(hb2.cell (World.block_lt_of_cell? _ _ hOld.1)).trans hOld.1, (hb2.cell (World.block_lt_of_cell? _ _ hOld.2)).trans hOld.2⟩) (fun hHeld => ?_)
                  clear hOld hK K
                  refine norm_ (a' := ?_) ?_ ?_
                  rotate_left
                  · show Act.put _ (some 159) _ = _
                    simp only [Act.put, List.setIfInBounds_toArray, List.set_cons_zero, List.set_cons_succ, i64_w, i32_w]
                    rfl
                  have n0_ := Aside0.mk (ST.out.below (below_step hb hb2))
                  clear ST C1 C2 hb hb2
                  have ST := n0_
                  clear n0_
                  -- 11: Op.binOp BinOp.neq 3 t157 t159 3   [guarded: some (6, false)]
                  refine pure_ (i := 11) (N := (some 160)) (v := ?_) (a' := ?_) #[true, true, true, true, true, true, true, true, true, true, true, true, false] rfl rfl (by kernel_rfl) (fun _ _ _ h => h) (Or.inl ⟨by rfl, ?_⟩) ?_ ?_
                  rotate_left
                  · intro w'
                    go_simp
                    with_reducible rfl
                  rotate_left
                  · simp only [Act.put, List.setIfInBounds_toArray, List.set_cons_zero, List.set_cons_succ, i64_w, i32_w]
                    rfl
                  -- 12: Op.pick t155 (const (Value.bool true)) t160
                  refine pure_ (i := 12) (N := (some 161)) (v := ?_) (a' := ?_) #[true, true, true, true, true, true, true, true, true, true, true, true, true] rfl rfl (by kernel_rfl) (fun _ _ _ h => h) (Or.inl ⟨by rfl, ?_⟩) ?_ ?_
                  rotate_left
                  · intro w'
                    go_simp
                    with_reducible rfl
                  rotate_left
                  · simp only [Act.put, List.setIfInBounds_toArray, List.set_cons_zero, List.set_cons_succ, i64_w, i32_w]
                    rfl
                  refine done_ (by kernel_rfl) ?_
                  clear hHeld L1 L2
                  go_wp2_with fail
                  have hi100 := CN.out
                  have ew : wrap64 ((i : Int) + 1) = ((i + 1 : Nat) : Int) := by unfold wrap64; omega
                  try rw [ew]
                  go_roundg q
                  case measure => omega
                  case rel => exact ⟨i + 1, _, l, rfl, ⟨by have := HK.out; omega⟩, LL, ST⟩
              · have e12 : decide (x.f2 ≥ 0) = false := decide_eq_false g1
                have e13 : decide (0 ≤ x.f2) = false := decide_eq_false g1
                obtain ⟨kN, hkN⟩ : ∃ kN : Nat, (kk : Int) = (kN : Int) := ⟨kk, rfl⟩
                have KF := Aside0.mk hkN
                have HT := Aside0.mk (show takeM x.f2 ((l.map (·.1)).drop n) = ((l.map (·.1)).take (n + kN)).drop n by rw [takeM, if_neg (fun h => g1 h.1), List.take_of_length_le]; rw [List.length_map]; have := HKK.out; omega)
                have HKN := Aside0.mk (show n + kN ≤ l.length by have := HKK.out; omega)
                clear g1 hkN
                obtain ⟨m, hm⟩ : ∃ m, m = n + kN := ⟨_, rfl⟩
                have HMM := Aside0.mk hm
                have e15 : True → (n : Int) + (kk : Int) = (m : Int) := fun _ => by have := KF.out; omega
                have e16 : True → wrap64 (m : Int) = (m : Int) := fun _ => by have h1 := HKN.out; have h2 := LN.out; unfold wrap64; omega
                obtain ⟨i052, hi052, _, hsz52, _⟩ := info_parts info28
                have hcut52 := cut_mid (P := Try.prog) 22 28 .i64 .i64 Try.underlying22 hi052 4 hsz52 A1 l.length c1 (n : Int) (m : Int) (by omega) (by omega) (by have := HKN.out; omega) L1.out
                rw [Int.toNat_natCast, Int.toNat_natCast] at hcut52
                obtain ⟨T, hT⟩ : ∃ T, T = ((l.map (·.1)).take m).drop n := ⟨_, rfl⟩
                have HTT := Aside0.mk hT
                have hTl : m - n = T.length := by rw [hT, List.length_drop, List.length_take, List.length_map]; have := HKN.out; omega
                rw [hTl] at hcut52
                obtain ⟨A52, hA52⟩ : ∃ A, A = (if c1 = n then A1 else (A1 : Option Addr).map (·.add (n * 4))) := ⟨_, rfl⟩
                obtain ⟨c52, hc52⟩ : ∃ c, c = c1 - n := ⟨_, rfl⟩
                rw [← hA52, ← hc52] at hcut52
                have CT := Aside0.mk (show k28.C w5 A52 T.length T by have h1 := Kd.C_mid (lo := n) (hi := m) (c := c1) (xs := l.map (·.1)) (by rw [List.length_map]; exact C1.out) (by omega) (by rw [List.length_map]; have := HKN.out; omega) (by rw [List.length_map]; exact L1.out); rw [← hT] at h1; rw [hA52]; exact h1)
                have CTc := Aside0.mk (show T.length ≤ c52 by have := L1.out; have := HKN.out; omega)
                have CTl := Aside0.mk (show T.length ≤ 1000 by have := LN1.out; have := HKN.out; omega)
                clear hm hi052 hsz52 hT hTl hA52 hc52
                go_wp2_with fail
                clear z0 z5
                refine start_ (n := 19) (S := fun w' => w'.heap[go]? = some (.cells #[.int .i64 x.f0, .string x.f1.f0, .int .u64 x.f1.f1, .int .i64 x.f1.f2, .string x.f1.f3, .int .i64 x.f2] 44 (0, 0)) ∧ w'.cell? ⟨gw, 0, none⟩ = some (.slice A1 l.length c1) ∧ w'.cell? ⟨gw, 1, none⟩ = some (.slice A2 l.length c2)) (ds := []) #[false, false, false, false, false, false, false, false, false, false, false, false, false, false, false, false, false, false, false] (by kernel_rfl) rfl rfl ⟨blk_drew BO.out, a0, a1⟩ (fun hHeld => ?_)
                have n3_ : Aside0 (k28.C w5.drew A52 T.length T) := Aside0.mk (Kd.C_below CT.out (pw_below_drewN (Below.refl _ _) 1))
                clear CT
                have n1_ : Aside0 (k28.C w5.drew A1 l.length (l.map (·.1))) := Aside0.mk (Kd.C_below C1.out (pw_below_drewN (Below.refl _ _) 1))
                have n2_ : Aside0 ((Kd.int .i64).C w5.drew A2 l.length (l.map (fun x => (x.2 : Int)))) := Aside0.mk (Kd.C_below C2.out (pw_below_drewN (Below.refl _ _) 1))
                clear C1 C2 a0 a1
                have n0_ : Aside0 (St w w5.drew ga gw rs l) := Aside0.mk (ST.out.below (pw_below_drewN (Below.refl _ _) 1))
                clear ST
                generalize w5.drew = wd at *
                have ST := n0_
                clear n0_
                have C1 := n1_
                have C2 := n2_
                clear n1_ n2_
                have CT := n3_
                clear n3_
                -- 0: Op.move t3
                refine pure_ (i := 0) (N := (some 111)) (v := ?_) (a' := ?_) #[true, false, false, false, false, false, false, false, false, false, false, false, false, false, false, false, false, false, false] rfl rfl (by kernel_rfl) (fun _ _ _ h => h) (Or.inl ⟨by rfl, ?_⟩) ?_ ?_
                rotate_left
                · intro w'
                  go_simp
                  with_reducible rfl
                rotate_left
                · simp only [Act.put, List.setIfInBounds_toArray, List.set_cons_zero, List.set_cons_succ, i64_w, i32_w]
                  rfl
                -- 1: Op.fieldAddr 44 t6 1
                refine pure_ (i := 1) (N := (some 112)) (v := ?_) (a' := ?_) #[true, true, false, false, false, false, false, false, false, false, false, false, false, false, false, false, false, false, false] rfl rfl (by kernel_rfl) (fun _ _ _ h => h) (Or.inl ⟨by rfl, ?_⟩) ?_ ?_
                rotate_left
                · intro w'
                  go_simp
                  with_reducible rfl
                rotate_left
                · simp only [Act.put, List.setIfInBounds_toArray, List.set_cons_zero, List.set_cons_succ, i64_w, i32_w]
                  rfl
                -- 2: Op.fieldAddr 28 t112 0
                refine pure_ (i := 2) (N := (some 113)) (v := ?_) (a' := ?_) #[true, true, true, false, false, false, false, false, false, false, false, false, false, false, false, false, false, false, false] rfl rfl (by kernel_rfl) (fun _ _ _ h => h) (Or.inl ⟨by rfl, ?_⟩) ?_ ?_
                rotate_left
                · intro w'
                  go_simp
                  with_reducible rfl
                rotate_left
                · simp only [Act.put, List.setIfInBounds_toArray, List.set_cons_zero, List.set_cons_succ, i64_w, i32_w]
                  rfl
                -- 3: Op.load 9 t113
                refine take_ (i := 3) (N := (some 114)) (v := ?_) (a' := ?_) #[true, true, true, true, false, false, false, false, false, false, false, false, false, false, false, false, false, false, false] rfl rfl (by kernel_rfl) (fun _ _ _ h => h) (Or.inl ⟨by rfl, ?_⟩) hHeld ?_ ?_
                rotate_left
                · rintro w' ⟨s0, s1, s2⟩
                  have z1 : w'.cell? ⟨go, 1, none⟩ = some (.string x.f1.f0) := (blk_cell s0 1).trans rfl
                  have z2 : w'.cell? ⟨go, 2, none⟩ = some (.int .u64 x.f1.f1) := (blk_cell s0 2).trans rfl
                  have z3 : w'.cell? ⟨go, 3, none⟩ = some (.int .i64 x.f1.f2) := (blk_cell s0 3).trans rfl
                  have z4 : w'.cell? ⟨go, 4, none⟩ = some (.string x.f1.f3) := (blk_cell s0 4).trans rfl
                  have z5 : w'.cell? ⟨go, 5, none⟩ = some (.int .i64 x.f2) := (blk_cell s0 5).trans rfl
                  go_simp
                  with_reducible rfl
                rotate_left
                · simp only [Act.put, List.setIfInBounds_toArray, List.set_cons_zero, List.set_cons_succ, i64_w, i32_w]
                  rfl
                -- 4: Op.fieldAddr 44 t6 1
                refine pure_ (i := 4) (N := (some 115)) (v := ?_) (a' := ?_) #[true, true, true, true, true, false, false, false, false, false, false, false, false, false, false, false, false, false, false] rfl rfl (by kernel_rfl) (fun _ _ _ h => h) (Or.inl ⟨by rfl, ?_⟩) ?_ ?_
                rotate_left
                · intro w'
                  go_simp
                  with_reducible rfl
                rotate_left
                · simp only [Act.put, List.setIfInBounds_toArray, List.set_cons_zero, List.set_cons_succ, i64_w, i32_w]
                  rfl
                -- 5: Op.fieldAddr 28 t115 1
                refine pure_ (i := 5) (N := (some 116)) (v := ?_) (a' := ?_) #[true, true, true, true, true, true, false, false, false, false, false, false, false, false, false, false, false, false, false] rfl rfl (by kernel_rfl) (fun _ _ _ h => h) (Or.inl ⟨by rfl, ?_⟩) ?_ ?_
                rotate_left
                · intro w'
                  go_simp
                  with_reducible rfl
                rotate_left
                · simp only [Act.put, List.setIfInBounds_toArray, List.set_cons_zero, List.set_cons_succ, i64_w, i32_w]
                  rfl
                -- 6: Op.load 24 t116
                refine take_ (i := 6) (N := (some 117)) (v := ?_) (a' := ?_) #[true, true, true, true, true, true, true, false, false, false, false, false, false, false, false, false, false, false, false] rfl rfl (by kernel_rfl) (fun _ _ _ h => h) (Or.inl ⟨by rfl, ?_⟩) hHeld ?_ ?_
                rotate_left
                · rintro w' ⟨s0, s1, s2⟩
                  have z1 : w'.cell? ⟨go, 1, none⟩ = some (.string x.f1.f0) := (blk_cell s0 1).trans rfl
                  have z2 : w'.cell? ⟨go, 2, none⟩ = some (.int .u64 x.f1.f1) := (blk_cell s0 2).trans rfl
                  have z3 : w'.cell? ⟨go, 3, none⟩ = some (.int .i64 x.f1.f2) := (blk_cell s0 3).trans rfl
                  have z4 : w'.cell? ⟨go, 4, none⟩ = some (.string x.f1.f3) := (blk_cell s0 4).trans rfl
                  have z5 : w'.cell? ⟨go, 5, none⟩ = some (.int .i64 x.f2) := (blk_cell s0 5).trans rfl
                  go_simp
                  with_reducible rfl
                rotate_left
                · simp only [Act.put, List.setIfInBounds_toArray, List.set_cons_zero, List.set_cons_succ, i64_w, i32_w]
                  rfl
                -- 7: Op.fieldAddr 44 t6 2
                refine pure_ (i := 7) (N := (some 118)) (v := ?_) (a' := ?_) #[true, true, true, true, true, true, true, true, false, false, false, false, false, false, false, false, false, false, false] rfl rfl (by kernel_rfl) (fun _ _ _ h => h) (Or.inl ⟨by rfl, ?_⟩) ?_ ?_
                rotate_left
                · intro w'
                  go_simp
                  with_reducible rfl
                rotate_left
                · simp only [Act.put, List.setIfInBounds_toArray, List.set_cons_zero, List.set_cons_succ, i64_w, i32_w]
                  rfl
                -- 8: Op.load 3 t118
                refine take_ (i := 8) (N := (some 119)) (v := ?_) (a' := ?_) #[true, true, true, true, true, true, true, true, true, false, false, false, false, false, false, false, false, false, false] rfl rfl (by kernel_rfl) (fun _ _ _ h => h) (Or.inl ⟨by rfl, ?_⟩) hHeld ?_ ?_
                rotate_left
                · rintro w' ⟨s0, s1, s2⟩
                  have z1 : w'.cell? ⟨go, 1, none⟩ = some (.string x.f1.f0) := (blk_cell s0 1).trans rfl
                  have z2 : w'.cell? ⟨go, 2, none⟩ = some (.int .u64 x.f1.f1) := (blk_cell s0 2).trans rfl
                  have z3 : w'.cell? ⟨go, 3, none⟩ = some (.int .i64 x.f1.f2) := (blk_cell s0 3).trans rfl
                  have z4 : w'.cell? ⟨go, 4, none⟩ = some (.string x.f1.f3) := (blk_cell s0 4).trans rfl
                  have z5 : w'.cell? ⟨go, 5, none⟩ = some (.int .i64 x.f2) := (blk_cell s0 5).trans rfl
                  go_simp
                  with_reducible rfl
                rotate_left
                · simp only [Act.put, List.setIfInBounds_toArray, List.set_cons_zero, List.set_cons_succ, i64_w, i32_w]
                  rfl
                -- 10: Op.fieldAddr 42 t4 0
                refine pure_ (i := 10) (N := (some 121)) (v := ?_) (a' := ?_) #[true, true, true, true, true, true, true, true, true, false, true, false, false, false, false, false, false, false, false] rfl rfl (by kernel_rfl) (fun _ _ _ h => h) (Or.inl ⟨by rfl, ?_⟩) ?_ ?_
                rotate_left
                · intro w'
                  go_simp
                  with_reducible rfl
                rotate_left
                · simp only [Act.put, List.setIfInBounds_toArray, List.set_cons_zero, List.set_cons_succ, i64_w, i32_w]
                  rfl
                -- 11: Op.load 22 t121
                refine take_ (i := 11) (N := (some 122)) (v := ?_) (a' := ?_) #[true, true, true, true, true, true, true, true, true, false, true, true, false, false, false, false, false, false, false] rfl rfl (by kernel_rfl) (fun _ _ _ h => h) (Or.inl ⟨by rfl, ?_⟩) hHeld ?_ ?_
                rotate_left
                · rintro w' ⟨s0, s1, s2⟩
                  go_simp
                  with_reducible rfl
                rotate_left
                · simp only [Act.put, List.setIfInBounds_toArray, List.set_cons_zero, List.set_cons_succ, i64_w, i32_w]
                  rfl
                -- 12: Op.move t7
                refine pure_ (i := 12) (N := (some 123)) (v := ?_) (a' := ?_) #[true, true, true, true, true, true, true, true, true, false, true, true, true, false, false, false, false, false, false] rfl rfl (by kernel_rfl) (fun _ _ _ h => h) (Or.inl ⟨by rfl, ?_⟩) ?_ ?_
                rotate_left
                · intro w'
                  go_simp
                  with_reducible rfl
                rotate_left
                · simp only [Act.put, List.setIfInBounds_toArray, List.set_cons_zero, List.set_cons_succ, i64_w, i32_w]
                  rfl
                -- 13: Op.move t7
                refine pure_ (i := 13) (N := (some 124)) (v := ?_) (a' := ?_) #[true, true, true, true, true, true, true, true, true, false, true, true, true, true, false, false, false, false, false] rfl rfl (by kernel_rfl) (fun _ _ _ h => h) (Or.inl ⟨by rfl, ?_⟩) ?_ ?_
                rotate_left
                · intro w'
                  go_simp
                  with_reducible rfl
                rotate_left
                · simp only [Act.put, List.setIfInBounds_toArray, List.set_cons_zero, List.set_cons_succ, i64_w, i32_w]
                  rfl
                -- 14: Op.move t10
                refine pure_ (i := 14) (N := (some 125)) (v := ?_) (a' := ?_) #[true, true, true, true, true, true, true, true, true, false, true, true, true, true, true, false, false, false, false] rfl rfl (by kernel_rfl) (fun _ _ _ h => h) (Or.inl ⟨by rfl, ?_⟩) ?_ ?_
                rotate_left
                · intro w'
                  go_simp
                  with_reducible rfl
                rotate_left
                · simp only [Act.put, List.setIfInBounds_toArray, List.set_cons_zero, List.set_cons_succ, i64_w, i32_w]
                  rfl
                -- 15: Op.binOp BinOp.add 3 t124 t125 3
                refine pure_ (i := 15) (N := (some 126)) (v := ?_) (a' := ?_) #[true, true, true, true, true, true, true, true, true, false, true, true, true, true, true, true, false, false, false] rfl rfl (by kernel_rfl) (fun _ _ _ h => h) (Or.inl ⟨by rfl, ?_⟩) ?_ ?_
                rotate_left
                · intro w'
                  go_simp
                  with_reducible rfl
                rotate_left
                · simp only [Act.put, List.setIfInBounds_toArray, List.set_cons_zero, List.set_cons_succ, i64_w, i32_w]
                  rfl
                -- 16: Op.slice 22 t122 (some t123) (some t126) none
                refine pure_ (i := 16) (N := (some 127)) (v := ?_) (a' := ?_) #[true, true, true, true, true, true, true, true, true, false, true, true, true, true, true, true, true, false, false] rfl rfl (by kernel_rfl) (fun _ _ _ h => h) (Or.inl ⟨by rfl, ?_⟩) ?_ ?_
                rotate_left
                · intro w'
                  go_simp
                  with_reducible rfl
                rotate_left
                · simp only [Act.put, List.setIfInBounds_toArray, List.set_cons_zero, List.set_cons_succ, i64_w, i32_w]
                  rfl
                -- 9: Op.call { value (Operand.func 23), args := #[t111, t114, t117, t119], argTypes := #[26, 9, 24, 3] }
                refine one_ (i := 9) (N := (some 120)) #[true, true, true, true, true, true, true, true, true, true, true, true, true, true, true, true, true, false, false] rfl rfl (by kernel_rfl) (by decide) (fun K hK => ?_)
                have hac := all_c x.f1.f0 x.f1.f1 x.f2 ST.out
                rw [← HN.out, HT.out, ← HMM.out, ← HTT.out] at hac
                refine goes_ Try.func23 (by kernel_rfl) rfl #[.pointer (some ⟨ga, 0, none⟩), .string x.f1.f0, .int .u64 x.f1.f1, .int .i64 x.f2] (by rfl) rfl rfl (by (try simp only [List.map_toArray, List.map_cons, List.map_nil]); first | done | rfl) ?_
                with_reducible refine (hac).mono ?_
                rintro e wc ⟨v, rfl, hR, hb⟩
                clear hac
                obtain ⟨Al, cl, hv⟩ := Kd.R_slice hR
                subst hv
                have CA := Aside0.mk (Kd.R_reads' hR).2.2
                have CAc := Aside0.mk (Kd.R_reads' hR).2.1
                clear hR
                refine ⟨_, rfl, ?_⟩
                have hOld := hHeld
                clear hHeld
                refine hK.out _ _ (⟨blk_below hOld.1 hb, (hb.cell (World.block_lt_of_cell? _ _ hOld.2.1)).trans hOld.2.1, (hb.cell (World.block_lt_of_cell? _ _ hOld.2.2)).trans hOld.2.2⟩) (fun hHeld => ?_)
                clear hOld hK K
                refine norm_ (a' := ?_) ?_ ?_
                rotate_left
                · show Act.put _ (some 120) _ = _
                  simp only [Act.put, List.setIfInBounds_toArray, List.set_cons_zero, List.set_cons_succ, i64_w, i32_w]
                  rfl
                -- 17: Op.call { value (Operand.func 28), args := #[t120, t127], argTypes := #[22, 22] }
                refine one_ (i := 17) (N := (some 128)) #[true, true, true, true, true, true, true, true, true, true, true, true, true, true, true, true, true, true, false] rfl rfl (by kernel_rfl) (by decide) (fun K hK => ?_)
                refine goes_ Try.func28 (by kernel_rfl) rfl #[.slice Al T.length cl, .slice A52 T.length c52] (by rfl) rfl rfl (by (try simp only [List.map_toArray, List.map_cons, List.map_nil]); first | done | rfl) ?_
                with_reducible refine (same_true wc Al cl A52 c52 T CA.out CAc.out (Kd.C_below CT.out hb) CTc.out (by have := CTl.out; omega)).mono ?_
                rintro e wj ⟨rfl, hb2⟩
                refine ⟨_, rfl, ?_⟩
                have hOld := hHeld
                clear hHeld
                refine hK.out _ _ (⟨blk_below hOld.1 hb2, (hb2.cell (World.block_lt_of_cell? _ _ hOld.2.1)).trans hOld.2.1, (hb2.cell (World.block_lt_of_cell? _ _ hOld.2.2)).trans hOld.2.2⟩) (fun hHeld => ?_)
                clear hOld hK K
                refine norm_ (a' := ?_) ?_ ?_
                rotate_left
                · show Act.put _ (some 128) _ = _
                  simp only [Act.put, List.setIfInBounds_toArray, List.set_cons_zero, List.set_cons_succ, i64_w, i32_w]
                  rfl
                have n0_ := Aside0.mk (ST.out.below (below_step hb hb2))
                clear ST C1 C2 CA CT hb hb2 BO hcut52
                have ST := n0_
                clear n0_
                -- 18: Op.unOp UnOp.not 4 t128
                refine pure_ (i := 18) (N := (some 129)) (v := ?_) (a' := ?_) #[true, true, true, true, true, true, true, true, true, true, true, true, true, true, true, true, true, true, true] rfl rfl (by kernel_rfl) (fun _ _ _ h => h) (Or.inl ⟨by rfl, ?_⟩) ?_ ?_
                rotate_left
                · intro w'
                  go_simp
                  with_reducible rfl
                rotate_left
                · simp only [Act.put, List.setIfInBounds_toArray, List.set_cons_zero, List.set_cons_succ, i64_w, i32_w]
                  rfl
                refine done_ (by kernel_rfl) ?_
                clear hHeld L1 L2 CAc CTc CTl HKK HKN HT HTT HMM KF
                go_wp2_with fail
                obtain ⟨A1, c1, A2, c2, hg0, hr1, hr2, hl1, hl2⟩ := ST.out.rl.reads
                have a0 : wj.cell? ⟨gw, 0, none⟩ = some (.slice A1 l.length c1) := (blk_cell hg0 0).trans rfl
                have a1 : wj.cell? ⟨gw, 1, none⟩ = some (.slice A2 l.length c2) := (blk_cell hg0 1).trans rfl
                have C1 := Aside0.mk hr1
                have C2 := Aside0.mk hr2
                have L1 := Aside0.mk hl1
                have L2 := Aside0.mk hl2
                clear hg0 hr1 hr2 hl1 hl2
                refine start_ (n := 13) (S := fun w' => w'.cell? ⟨gw, 0, none⟩ = some (.slice A1 l.length c1) ∧ w'.cell? ⟨gw, 1, none⟩ = some (.slice A2 l.length c2)) (ds := []) #[false, false, false, false, false, false, false, false, false, false, false, false, false] (by kernel_rfl) rfl rfl ⟨a0, a1⟩ (fun hHeld => ?_)
                have n1_ : Aside0 (k28.C wj.drew A1 l.length (l.map (·.1))) := Aside0.mk (Kd.C_below C1.out (pw_below_drewN (Below.refl _ _) 1))
                have n2_ : Aside0 ((Kd.int .i64).C wj.drew A2 l.length (l.map (fun x => (x.2 : Int)))) := Aside0.mk (Kd.C_below C2.out (pw_below_drewN (Below.refl _ _) 1))
                clear C1 C2 a0 a1
                have n0_ : Aside0 (St w wj.drew ga gw rs l) := Aside0.mk (ST.out.below (pw_below_drewN (Below.refl _ _) 1))
                clear ST
                generalize wj.drew = wd at *
                have ST := n0_
                clear n0_
                have C1 := n1_
                have C2 := n2_
                clear n1_ n2_
                -- 0: Op.move t3
                refine pure_ (i := 0) (N := (some 149)) (v := ?_) (a' := ?_) #[true, false, false, false, false, false, false, false, false, false, false, false, false] rfl rfl (by kernel_rfl) (fun _ _ _ h => h) (Or.inl ⟨by rfl, ?_⟩) ?_ ?_
                rotate_left
                · intro w'
                  go_simp
                  with_reducible rfl
                rotate_left
                · simp only [Act.put, List.setIfInBounds_toArray, List.set_cons_zero, List.set_cons_succ, i64_w, i32_w]
                  rfl
                -- 2: Op.fieldAddr 42 t4 0
                refine pure_ (i := 2) (N := (some 151)) (v := ?_) (a' := ?_) #[true, false, true, false, false, false, false, false, false, false, false, false, false] rfl rfl (by kernel_rfl) (fun _ _ _ h => h) (Or.inl ⟨by rfl, ?_⟩) ?_ ?_
                rotate_left
                · intro w'
                  go_simp
                  with_reducible rfl
                rotate_left
                · simp only [Act.put, List.setIfInBounds_toArray, List.set_cons_zero, List.set_cons_succ, i64_w, i32_w]
                  rfl
                -- 3: Op.load 22 t151
                refine take_ (i := 3) (N := (some 152)) (v := ?_) (a' := ?_) #[true, false, true, true, false, false, false, false, false, false, false, false, false] rfl rfl (by kernel_rfl) (fun _ _ _ h => h) (Or.inl ⟨by rfl, ?_⟩) hHeld ?_ ?_
                rotate_left
                · rintro w' ⟨s0, s1⟩
                  go_simp
                  with_reducible rfl
                rotate_left
                · simp only [Act.put, List.setIfInBounds_toArray, List.set_cons_zero, List.set_cons_succ, i64_w, i32_w]
                  rfl
                -- 4: Op.call { builtin len, args := #[t152], argTypes := #[22] }
                refine pure_ (i := 4) (N := (some 153)) (v := ?_) (a' := ?_) #[true, false, true, true, true, false, false, false, false, false, false, false, false] rfl rfl (by kernel_rfl) (fun _ _ _ h => h) (Or.inl ⟨by rfl, ?_⟩) ?_ ?_
                rotate_left
                · intro w'
                  go_simp
                  with_reducible rfl
                rotate_left
                · simp only [Act.put, List.setIfInBounds_toArray, List.set_cons_zero, List.set_cons_succ, i64_w, i32_w]
                  rfl
                -- 1: Op.call { value (Operand.func 22), args := #[t149], argTypes := #[26] }
                refine one_ (i := 1) (N := (some 150)) #[true, true, true, true, true, false, false, false, false, false, false, false, false] rfl rfl (by kernel_rfl) (by decide) (fun K hK => ?_)
                refine goes_ Try.func22 (by kernel_rfl) rfl #[.pointer (some ⟨ga, 0, none⟩)] (by rfl) rfl rfl (by (try simp only [List.map_toArray, List.map_cons, List.map_nil]); first | done | rfl) ?_
                with_reducible refine (len_c ST.out).mono ?_
                rintro e wb ⟨rfl, hb⟩
                refine ⟨_, rfl, ?_⟩
                have hOld := hHeld
                clear hHeld
                refine hK.out _ _ (⟨(hb.cell (World.block_lt_of_cell? _ _ hOld.1)).trans hOld.1, (hb.cell (World.block_lt_of_cell? _ _ hOld.2)).trans hOld.2⟩) (fun hHeld => ?_)
                clear hOld hK K
                refine norm_ (a' := ?_) ?_ ?_
                rotate_left
                · show Act.put _ (some 150) _ = _
                  simp only [Act.put, List.setIfInBounds_toArray, List.set_cons_zero, List.set_cons_succ, i64_w, i32_w]
                  rfl
                have n0_ := Aside0.mk (ST.out.below hb)
                have n1_ := Aside0.mk (Kd.C_below C1.out hb)
                have n2_ := Aside0.mk (Kd.C_below C2.out hb)
                clear ST C1 C2 hb
                have ST := n0_
                have C1 := n1_
                have C2 := n2_
                clear n0_ n1_ n2_
                -- 5: Op.binOp BinOp.neq 3 t150 t153 3
                refine pure_ (i := 5) (N := (some 154)) (v := ?_) (a' := ?_) #[true, true, true, true, true, true, false, false, false, false, false, false, false] rfl rfl (by kernel_rfl) (fun _ _ _ h => h) (Or.inl ⟨by rfl, ?_⟩) ?_ ?_
                rotate_left
                · intro w'
                  go_simp
                  with_reducible rfl
                rotate_left
                · simp only [Act.put, List.setIfInBounds_toArray, List.set_cons_zero, List.set_cons_succ, i64_w, i32_w]
                  rfl
                -- 6: Op.move t154
                refine pure_ (i := 6) (N := (some 155)) (v := ?_) (a' := ?_) #[true, true, true, true, true, true, true, false, false, false, false, false, false] rfl rfl (by kernel_rfl) (fun _ _ _ h => h) (Or.inl ⟨by rfl, ?_⟩) ?_ ?_
                rotate_left
                · intro w'
                  go_simp
                  with_reducible rfl
                rotate_left
                · simp only [Act.put, List.setIfInBounds_toArray, List.set_cons_zero, List.set_cons_succ, i64_w, i32_w]
                  rfl
                -- 7: Op.move t3   [guarded: some (6, false)]
                refine pure_ (i := 7) (N := (some 156)) (v := ?_) (a' := ?_) #[true, true, true, true, true, true, true, true, false, false, false, false, false] rfl rfl (by kernel_rfl) (fun _ _ _ h => h) (Or.inl ⟨by rfl, ?_⟩) ?_ ?_
                rotate_left
                · intro w'
                  go_simp
                  with_reducible rfl
                rotate_left
                · simp only [Act.put, List.setIfInBounds_toArray, List.set_cons_zero, List.set_cons_succ, i64_w, i32_w]
                  rfl
                -- 9: Op.load 42 t4   [guarded: some (6, false)]
                refine take_ (i := 9) (N := (some 158)) (v := ?_) (a' := ?_) #[true, true, true, true, true, true, true, true, false, true, false, false, false] rfl rfl (by kernel_rfl) (fun _ _ _ h => h) (Or.inl ⟨by rfl, ?_⟩) hHeld ?_ ?_
                rotate_left
                · rintro w' ⟨s0, s1⟩
                  go_simp
                  with_reducible rfl
                rotate_left
                · simp only [Act.put, List.setIfInBounds_toArray, List.set_cons_zero, List.set_cons_succ, i64_w, i32_w]
                  rfl
                -- 8: Op.call { value (Operand.func 30), args := #[t156], argTypes := #[26] }   [guarded: some (6, false)]
                refine one_ (i := 8) (N := (some 157)) #[true, true, true, true, true, true, true, true, true, true, false, false, false] rfl rfl (by kernel_rfl) (by decide) (fun K hK => ?_)
                refine goes_ Try.func30 (by kernel_rfl) rfl #[.pointer (some ⟨ga, 0, none⟩)] (by rfl) rfl rfl (by (try simp only [List.map_toArray, List.map_cons, List.map_nil]); first | done | rfl) ?_
                with_reducible refine (height_c ST.out).mono ?_
                rintro e wc ⟨rfl, hb⟩
                refine ⟨_, rfl, ?_⟩
                have hOld := hHeld
                clear hHeld
                refine hK.out _ _ (⟨(hb.cell (World.block_lt_of_cell? _ _ hOld.1)).trans hOld.1, (hb.cell (World.block_lt_of_cell? _ _ hOld.2)).trans hOld.2⟩) (fun hHeld => ?_)
                clear hOld hK K
                refine norm_ (a' := ?_) ?_ ?_
                rotate_left
                · show Act.put _ (some 157) _ = _
                  simp only [Act.put, List.setIfInBounds_toArray, List.set_cons_zero, List.set_cons_succ, i64_w, i32_w]
                  rfl
                -- 10: Op.call { value (Operand.func 31), args := #[t158], argTypes := #[42] }   [guarded: some (6, false)]
                refine one_ (i := 10) (N := (some 159)) #[true, true, true, true, true, true, true, true, true, true, true, false, false] rfl rfl (by kernel_rfl) (by decide) (fun K hK => ?_)
                refine goes_ Try.func31 (by kernel_rfl) rfl #[.agg #[.slice A1 l.length c1, .slice A2 l.length c2]] (by rfl) rfl rfl (by (try simp only [List.map_toArray, List.map_cons, List.map_nil]); first | done | rfl) ?_
                with_reducible refine (refh_c (l := l) (by have := LN1.out; omega) (Kd.C_below C1.out hb) (Kd.C_below C2.out hb) L1.out L2.out).mono ?_
                rintro e wj ⟨rfl, hb2⟩
                refine ⟨_, rfl, ?_⟩
                have hOld := hHeld
                clear hHeld
                refine hK.out _ _ (⟨(hb2.cell (World.block_lt_of_cell? _ _ hOld.1)).trans hOld.1, (hb2.cell (World.block_lt_of_cell? _ _ hOld.2)).trans hOld.2⟩) (fun hHeld => ?_)
                clear hOld hK K
                refine norm_ (a' := ?_) ?_ ?_
                rotate_left
                · show Act.put _ (some 159) _ = _
                  simp only [Act.put, List.setIfInBounds_toArray, List.set_cons_zero, List.set_cons_succ, i64_w, i32_w]
                  rfl
                have n0_ := Aside0.mk (ST.out.below (below_step hb hb2))
                clear ST C1 C2 hb hb2
                have ST := n0_
                clear n0_
                -- 11: Op.binOp BinOp.neq 3 t157 t159 3   [guarded: some (6, false)]
                refine pure_ (i := 11) (N := (some 160)) (v := ?_) (a' := ?_) #[true, true, true, true, true, true, true, true, true, true, true, true, false] rfl rfl (by kernel_rfl) (fun _ _ _ h => h) (Or.inl ⟨by rfl, ?_⟩) ?_ ?_
                rotate_left
                · intro w'
                  go_simp
                  with_reducible rfl
                rotate_left
                · simp only [Act.put, List.setIfInBounds_toArray, List.set_cons_zero, List.set_cons_succ, i64_w, i32_w]
                  rfl
                -- 12: Op.pick t155 (const (Value.bool true)) t160
                refine pure_ (i := 12) (N := (some 161)) (v := ?_) (a' := ?_) #[true, true, true, true, true, true, true, true, true, true, true, true, true] rfl rfl (by kernel_rfl) (fun _ _ _ h => h) (Or.inl ⟨by rfl, ?_⟩) ?_ ?_
                rotate_left
                · intro w'
                  go_simp
                  with_reducible rfl
                rotate_left
                · simp only [Act.put, List.setIfInBounds_toArray, List.set_cons_zero, List.set_cons_succ, i64_w, i32_w]
                  rfl
                refine done_ (by kernel_rfl) ?_
                clear hHeld L1 L2
                go_wp2_with fail
                have hi100 := CN.out
                have ew : wrap64 ((i : Int) + 1) = ((i + 1 : Nat) : Int) := by unfold wrap64; omega
                try rw [ew]
                go_roundg q
                case measure => omega
                case rel => exact ⟨i + 1, _, l, rfl, ⟨by have := HK.out; omega⟩, LL, ST⟩
            · have e5 : (x.f0 == 3) = false := beq_eq_false_iff_ne.mpr k3
              have e6 : decide (x.f0 = 3) = false := decide_eq_false k3
              by_cases k4 : x.f0 = 4
              · have e7 : (x.f0 == 4) = true := beq_iff_eq.mpr k4
                have e8 : decide (x.f0 = 4) = true := decide_eq_true k4
                clear k1 k2 k3 k4
                go_wp2_with fail
                clear z0
                obtain ⟨A1, c1, A2, c2, hg0, hr1, hr2, hl1, hl2⟩ := ST.out.rl.reads
                have a0 : w5.cell? ⟨gw, 0, none⟩ = some (.slice A1 l.length c1) := (blk_cell hg0 0).trans rfl
                have a1 : w5.cell? ⟨gw, 1, none⟩ = some (.slice A2 l.length c2) := (blk_cell hg0 1).trans rfl
                have C1 := Aside0.mk hr1
                have C2 := Aside0.mk hr2
                have L1 := Aside0.mk hl1
                have L2 := Aside0.mk hl2
                clear hg0 hr1 hr2 hl1 hl2
                refine start_ (n := 17) (S := fun w' => w'.heap[go]? = some (.cells #[.int .i64 x.f0, .string x.f1.f0, .int .u64 x.f1.f1, .int .i64 x.f1.f2, .string x.f1.f3, .int .i64 x.f2] 44 (0, 0)) ∧ w'.cell? ⟨gw, 0, none⟩ = some (.slice A1 l.length c1) ∧ w'.cell? ⟨gw, 1, none⟩ = some (.slice A2 l.length c2)) (ds := []) #[false, false, false, false, false, false, false, false, false, false, false, false, false, false, false, false, false] (by kernel_rfl) rfl rfl ⟨blk_drew BO.out, a0, a1⟩ (fun hHeld => ?_)
                have n1_ : Aside0 (k28.C w5.drew A1 l.length (l.map (·.1))) := Aside0.mk (Kd.C_below C1.out (pw_below_drewN (Below.refl _ _) 1))
                have n2_ : Aside0 ((Kd.int .i64).C w5.drew A2 l.length (l.map (fun x => (x.2 : Int)))) := Aside0.mk (Kd.C_below C2.out (pw_below_drewN (Below.refl _ _) 1))
                clear C1 C2 a0 a1
                have n0_ : Aside0 (St w w5.drew ga gw rs l) := Aside0.mk (ST.out.below (pw_below_drewN (Below.refl _ _) 1))
                clear ST
                generalize w5.drew = wd at *
                have ST := n0_
                clear n0_
                have C1 := n1_
                have C2 := n2_
                clear n1_ n2_
                -- 0: Op.move t3
                refine pure_ (i := 0) (N := (some 132)) (v := ?_) (a' := ?_) #[true, false, false, false, false, false, false, false, false, false, false, false, false, false, false, false, false] rfl rfl (by kernel_rfl) (fun _ _ _ h => h) (Or.inl ⟨by rfl, ?_⟩) ?_ ?_
                rotate_left
                · intro w'
                  go_simp
                  with_reducible rfl
                rotate_left
                · simp only [Act.put, List.setIfInBounds_toArray, List.set_cons_zero, List.set_cons_succ, i64_w, i32_w]
                  rfl
                -- 1: Op.fieldAddr 44 t6 1
                refine pure_ (i := 1) (N := (some 133)) (v := ?_) (a' := ?_) #[true, true, false, false, false, false, false, false, false, false, false, false, false, false, false, false, false] rfl rfl (by kernel_rfl) (fun _ _ _ h => h) (Or.inl ⟨by rfl, ?_⟩) ?_ ?_
                rotate_left
                · intro w'
                  go_simp
                  with_reducible rfl
                rotate_left
                · simp only [Act.put, List.setIfInBounds_toArray, List.set_cons_zero, List.set_cons_succ, i64_w, i32_w]
                  rfl
                -- 2: Op.fieldAddr 28 t133 0
                refine pure_ (i := 2) (N := (some 134)) (v := ?_) (a' := ?_) #[true, true, true, false, false, false, false, false, false, false, false, false, false, false, false, false, false] rfl rfl (by kernel_rfl) (fun _ _ _ h => h) (Or.inl ⟨by rfl, ?_⟩) ?_ ?_
                rotate_left
                · intro w'
                  go_simp
                  with_reducible rfl
                rotate_left
                · simp only [Act.put, List.setIfInBounds_toArray, List.set_cons_zero, List.set_cons_succ, i64_w, i32_w]
                  rfl
                -- 3: Op.load 9 t134
                refine take_ (i := 3) (N := (some 135)) (v := ?_) (a' := ?_) #[true, true, true, true, false, false, false, false, false, false, false, false, false, false, false, false, false] rfl rfl (by kernel_rfl) (fun _ _ _ h => h) (Or.inl ⟨by rfl, ?_⟩) hHeld ?_ ?_
                rotate_left
                · rintro w' ⟨s0, s1, s2⟩
                  have z1 : w'.cell? ⟨go, 1, none⟩ = some (.string x.f1.f0) := (blk_cell s0 1).trans rfl
                  have z2 : w'.cell? ⟨go, 2, none⟩ = some (.int .u64 x.f1.f1) := (blk_cell s0 2).trans rfl
                  have z3 : w'.cell? ⟨go, 3, none⟩ = some (.int .i64 x.f1.f2) := (blk_cell s0 3).trans rfl
                  have z4 : w'.cell? ⟨go, 4, none⟩ = some (.string x.f1.f3) := (blk_cell s0 4).trans rfl
                  have z5 : w'.cell? ⟨go, 5, none⟩ = some (.int .i64 x.f2) := (blk_cell s0 5).trans rfl
                  go_simp
                  with_reducible rfl
                rotate_left
                · simp only [Act.put, List.setIfInBounds_toArray, List.set_cons_zero, List.set_cons_succ, i64_w, i32_w]
                  rfl
                -- 4: Op.fieldAddr 44 t6 1
                refine pure_ (i := 4) (N := (some 136)) (v := ?_) (a' := ?_) #[true, true, true, true, true, false, false, false, false, false, false, false, false, false, false, false, false] rfl rfl (by kernel_rfl) (fun _ _ _ h => h) (Or.inl ⟨by rfl, ?_⟩) ?_ ?_
                rotate_left
                · intro w'
                  go_simp
                  with_reducible rfl
                rotate_left
                · simp only [Act.put, List.setIfInBounds_toArray, List.set_cons_zero, List.set_cons_succ, i64_w, i32_w]
                  rfl
                -- 5: Op.fieldAddr 28 t136 1
                refine pure_ (i := 5) (N := (some 137)) (v := ?_) (a' := ?_) #[true, true, true, true, true, true, false, false, false, false, false, false, false, false, false, false, false] rfl rfl (by kernel_rfl) (fun _ _ _ h => h) (Or.inl ⟨by rfl, ?_⟩) ?_ ?_
                rotate_left
                · intro w'
                  go_simp
                  with_reducible rfl
                rotate_left
                · simp only [Act.put, List.setIfInBounds_toArray, List.set_cons_zero, List.set_cons_succ, i64_w, i32_w]
                  rfl
                -- 6: Op.load 24 t137
                refine take_ (i := 6) (N := (some 138)) (v := ?_) (a' := ?_) #[true, true, true, true, true, true, true, false, false, false, false, false, false, false, false, false, false] rfl rfl (by kernel_rfl) (fun _ _ _ h => h) (Or.inl ⟨by rfl, ?_⟩) hHeld ?_ ?_
                rotate_left
                · rintro w' ⟨s0, s1, s2⟩
                  have z1 : w'.cell? ⟨go, 1, none⟩ = some (.string x.f1.f0) := (blk_cell s0 1).trans rfl
                  have z2 : w'.cell? ⟨go, 2, none⟩ = some (.int .u64 x.f1.f1) := (blk_cell s0 2).trans rfl
                  have z3 : w'.cell? ⟨go, 3, none⟩ = some (.int .i64 x.f1.f2) := (blk_cell s0 3).trans rfl
                  have z4 : w'.cell? ⟨go, 4, none⟩ = some (.string x.f1.f3) := (blk_cell s0 4).trans rfl
                  have z5 : w'.cell? ⟨go, 5, none⟩ = some (.int .i64 x.f2) := (blk_cell s0 5).trans rfl
                  go_simp
                  with_reducible rfl
                rotate_left
                · simp only [Act.put, List.setIfInBounds_toArray, List.set_cons_zero, List.set_cons_succ, i64_w, i32_w]
                  rfl
                -- 8: Op.load 42 t4
                refine take_ (i := 8) (N := (some 140)) (v := ?_) (a' := ?_) #[true, true, true, true, true, true, true, false, true, false, false, false, false, false, false, false, false] rfl rfl (by kernel_rfl) (fun _ _ _ h => h) (Or.inl ⟨by rfl, ?_⟩) hHeld ?_ ?_
                rotate_left
                · rintro w' ⟨s0, s1, s2⟩
                  go_simp
                  with_reducible rfl
                rotate_left
                · simp only [Act.put, List.setIfInBounds_toArray, List.set_cons_zero, List.set_cons_succ, i64_w, i32_w]
                  rfl
                -- 9: Op.fieldAddr 44 t6 1
                refine pure_ (i := 9) (N := (some 141)) (v := ?_) (a' := ?_) #[true, true, true, true, true, true, true, false, true, true, false, false, false, false, false, false, false] rfl rfl (by kernel_rfl) (fun _ _ _ h => h) (Or.inl ⟨by rfl, ?_⟩) ?_ ?_
                rotate_left
                · intro w'
                  go_simp
                  with_reducible rfl
                rotate_left
                · simp only [Act.put, List.setIfInBounds_toArray, List.set_cons_zero, List.set_cons_succ, i64_w, i32_w]
                  rfl
                -- 10: Op.fieldAddr 28 t141 0
                refine pure_ (i := 10) (N := (some 142)) (v := ?_) (a' := ?_) #[true, true, true, true, true, true, true, false, true, true, true, false, false, false, false, false, false] rfl rfl (by kernel_rfl) (fun _ _ _ h => h) (Or.inl ⟨by rfl, ?_⟩) ?_ ?_
                rotate_left
                · intro w'
                  go_simp
                  with_reducible rfl
                rotate_left
                · simp only [Act.put, List.setIfInBounds_toArray, List.set_cons_zero, List.set_cons_succ, i64_w, i32_w]
                  rfl
                -- 11: Op.load 9 t142
                refine take_ (i := 11) (N := (some 143)) (v := ?_) (a' := ?_) #[true, true, true, true, true, true, true, false, true, true, true, true, false, false, false, false, false] rfl rfl (by kernel_rfl) (fun _ _ _ h => h) (Or.inl ⟨by rfl, ?_⟩) hHeld ?_ ?_
                rotate_left
                · rintro w' ⟨s0, s1, s2⟩
                  have z1 : w'.cell? ⟨go, 1, none⟩ = some (.string x.f1.f0) := (blk_cell s0 1).trans rfl
                  have z2 : w'.cell? ⟨go, 2, none⟩ = some (.int .u64 x.f1.f1) := (blk_cell s0 2).trans rfl
                  have z3 : w'.cell? ⟨go, 3, none⟩ = some (.int .i64 x.f1.f2) := (blk_cell s0 3).trans rfl
                  have z4 : w'.cell? ⟨go, 4, none⟩ = some (.string x.f1.f3) := (blk_cell s0 4).trans rfl
                  have z5 : w'.cell? ⟨go, 5, none⟩ = some (.int .i64 x.f2) := (blk_cell s0 5).trans rfl
                  go_simp
                  with_reducible rfl
                rotate_left
                · simp only [Act.put, List.setIfInBounds_toArray, List.set_cons_zero, List.set_cons_succ, i64_w, i32_w]
                  rfl
                -- 12: Op.fieldAddr 44 t6 1
                refine pure_ (i := 12) (N := (some 144)) (v := ?_) (a' := ?_) #[true, true, true, true, true, true, true, false, true, true, true, true, true, false, false, false, false] rfl rfl (by kernel_rfl) (fun _ _ _ h => h) (Or.inl ⟨by rfl, ?_⟩) ?_ ?_
                rotate_left
                · intro w'
                  go_simp
                  with_reducible rfl
                rotate_left
                · simp only [Act.put, List.setIfInBounds_toArray, List.set_cons_zero, List.set_cons_succ, i64_w, i32_w]
                  rfl
                -- 13: Op.fieldAddr 28 t144 1
                refine pure_ (i := 13) (N := (some 145)) (v := ?_) (a' := ?_) #[true, true, true, true, true, true, true, false, true, true, true, true, true, true, false, false, false] rfl rfl (by kernel_rfl) (fun _ _ _ h => h) (Or.inl ⟨by rfl, ?_⟩) ?_ ?_
                rotate_left
                · intro w'
                  go_simp
                  with_reducible rfl
                rotate_left
                · simp only [Act.put, List.setIfInBounds_toArray, List.set_cons_zero, List.set_cons_succ, i64_w, i32_w]
                  rfl
                -- 14: Op.load 24 t145
                refine take_ (i := 14) (N := (some 146)) (v := ?_) (a' := ?_) #[true, true, true, true, true, true, true, false, true, true, true, true, true, true, true, false, false] rfl rfl (by kernel_rfl) (fun _ _ _ h => h) (Or.inl ⟨by rfl, ?_⟩) hHeld ?_ ?_
                rotate_left
                · rintro w' ⟨s0, s1, s2⟩
                  have z1 : w'.cell? ⟨go, 1, none⟩ = some (.string x.f1.f0) := (blk_cell s0 1).trans rfl
                  have z2 : w'.cell? ⟨go, 2, none⟩ = some (.int .u64 x.f1.f1) := (blk_cell s0 2).trans rfl
                  have z3 : w'.cell? ⟨go, 3, none⟩ = some (.int .i64 x.f1.f2) := (blk_cell s0 3).trans rfl
                  have z4 : w'.cell? ⟨go, 4, none⟩ = some (.string x.f1.f3) := (blk_cell s0 4).trans rfl
                  have z5 : w'.cell? ⟨go, 5, none⟩ = some (.int .i64 x.f2) := (blk_cell s0 5).trans rfl
                  go_simp
                  with_reducible rfl
                rotate_left
                · simp only [Act.put, List.setIfInBounds_toArray, List.set_cons_zero, List.set_cons_succ, i64_w, i32_w]
                  rfl
                -- 7: Op.call { value (Operand.func 24), args := #[t132, t135, t138], argTypes := #[26, 9, 24] }
                refine one_ (i := 7) (N := (some 139)) #[true, true, true, true, true, true, true, true, true, true, true, true, true, true, true, false, false] rfl rfl (by kernel_rfl) (by decide) (fun K hK => ?_)
                refine goes_ Try.func24 (by kernel_rfl) rfl #[.pointer (some ⟨ga, 0, none⟩), .string x.f1.f0, .int .u64 x.f1.f1] (by rfl) rfl rfl (by (try simp only [List.map_toArray, List.map_cons, List.map_nil]); first | done | rfl) ?_
                with_reducible refine (steps_c x.f1.f0 x.f1.f1 ST.out).mono ?_
                rintro e wc ⟨rfl, hb⟩
                refine ⟨_, rfl, ?_⟩
                have hOld := hHeld
                clear hHeld
                refine hK.out _ _ (⟨blk_below hOld.1 hb, (hb.cell (World.block_lt_of_cell? _ _ hOld.2.1)).trans hOld.2.1, (hb.cell (World.block_lt_of_cell? _ _ hOld.2.2)).trans hOld.2.2⟩) (fun hHeld => ?_)
                clear hOld hK K
                refine norm_ (a' := ?_) ?_ ?_
                rotate_left
                · show Act.put _ (some 139) _ = _
                  simp only [Act.put, List.setIfInBounds_toArray, List.set_cons_zero, List.set_cons_succ, i64_w, i32_w]
                  rfl
                -- 15: Op.call { value (Operand.func 29), args := #[t140, t143, t146], argTypes := #[42, 9, 24] }
                refine one_ (i := 15) (N := (some 147)) #[true, true, true, true, true, true, true, true, true, true, true, true, true, true, true, true, false] rfl rfl (by kernel_rfl) (by decide) (fun K hK => ?_)
                refine goes_ Try.func29 (by kernel_rfl) rfl #[.agg #[.slice A1 l.length c1, .slice A2 l.length c2], .string x.f1.f0, .int .u64 x.f1.f1] (by rfl) rfl rfl (by (try simp only [List.map_toArray, List.map_cons, List.map_nil]); first | done | rfl) ?_
                with_reducible refine (refsteps_c x.f1.f0 x.f1.f1 ST.out.sorted (by have := LN.out; omega) (Kd.C_below C1.out hb) (Kd.C_below C2.out hb) L1.out L2.out).mono ?_
                rintro e wj ⟨rfl, hb2⟩
                refine ⟨_, rfl, ?_⟩
                have hOld := hHeld
                clear hHeld
                refine hK.out _ _ (⟨blk_below hOld.1 hb2, (hb2.cell (World.block_lt_of_cell? _ _ hOld.2.1)).trans hOld.2.1, (hb2.cell (World.block_lt_of_cell? _ _ hOld.2.2)).trans hOld.2.2⟩) (fun hHeld => ?_)
                clear hOld hK K
                refine norm_ (a' := ?_) ?_ ?_
                rotate_left
                · show Act.put _ (some 147) _ = _
                  simp only [Act.put, List.setIfInBounds_toArray, List.set_cons_zero, List.set_cons_succ, i64_w, i32_w]
                  rfl
                have n0_ := Aside0.mk (ST.out.below (below_step hb hb2))
                clear ST C1 C2 hb hb2 BO
                have ST := n0_
                clear n0_
                -- 16: Op.binOp BinOp.neq 3 t139 t147 3
                refine pure_ (i := 16) (N := (some 148)) (v := ?_) (a' := ?_) #[true, true, true, true, true, true, true, true, true, true, true, true, true, true, true, true, true] rfl rfl (by kernel_rfl) (fun _ _ _ h => h) (Or.inl ⟨by rfl, ?_⟩) ?_ ?_
                rotate_left
                · intro w'
                  go_simp
                  with_reducible rfl
                rotate_left
                · simp only [Act.put, List.setIfInBounds_toArray, List.set_cons_zero, List.set_cons_succ, i64_w, i32_w]
                  rfl
                refine done_ (by kernel_rfl) ?_
                clear hHeld L1 L2
                go_wp2_with fail
                obtain ⟨A1, c1, A2, c2, hg0, hr1, hr2, hl1, hl2⟩ := ST.out.rl.reads
                have a0 : wj.cell? ⟨gw, 0, none⟩ = some (.slice A1 l.length c1) := (blk_cell hg0 0).trans rfl
                have a1 : wj.cell? ⟨gw, 1, none⟩ = some (.slice A2 l.length c2) := (blk_cell hg0 1).trans rfl
                have C1 := Aside0.mk hr1
                have C2 := Aside0.mk hr2
                have L1 := Aside0.mk hl1
                have L2 := Aside0.mk hl2
                clear hg0 hr1 hr2 hl1 hl2
                refine start_ (n := 13) (S := fun w' => w'.cell? ⟨gw, 0, none⟩ = some (.slice A1 l.length c1) ∧ w'.cell? ⟨gw, 1, none⟩ = some (.slice A2 l.length c2)) (ds := []) #[false, false, false, false, false, false, false, false, false, false, false, false, false] (by kernel_rfl) rfl rfl ⟨a0, a1⟩ (fun hHeld => ?_)
                have n1_ : Aside0 (k28.C wj.drew A1 l.length (l.map (·.1))) := Aside0.mk (Kd.C_below C1.out (pw_below_drewN (Below.refl _ _) 1))
                have n2_ : Aside0 ((Kd.int .i64).C wj.drew A2 l.length (l.map (fun x => (x.2 : Int)))) := Aside0.mk (Kd.C_below C2.out (pw_below_drewN (Below.refl _ _) 1))
                clear C1 C2 a0 a1
                have n0_ : Aside0 (St w wj.drew ga gw rs l) := Aside0.mk (ST.out.below (pw_below_drewN (Below.refl _ _) 1))
                clear ST
                generalize wj.drew = wd at *
                have ST := n0_
                clear n0_
                have C1 := n1_
                have C2 := n2_
                clear n1_ n2_
                -- 0: Op.move t3
                refine pure_ (i := 0) (N := (some 149)) (v := ?_) (a' := ?_) #[true, false, false, false, false, false, false, false, false, false, false, false, false] rfl rfl (by kernel_rfl) (fun _ _ _ h => h) (Or.inl ⟨by rfl, ?_⟩) ?_ ?_
                rotate_left
                · intro w'
                  go_simp
                  with_reducible rfl
                rotate_left
                · simp only [Act.put, List.setIfInBounds_toArray, List.set_cons_zero, List.set_cons_succ, i64_w, i32_w]
                  rfl
                -- 2: Op.fieldAddr 42 t4 0
                refine pure_ (i := 2) (N := (some 151)) (v := ?_) (a' := ?_) #[true, false, true, false, false, false, false, false, false, false, false, false, false] rfl rfl (by kernel_rfl) (fun _ _ _ h => h) (Or.inl ⟨by rfl, ?_⟩) ?_ ?_
                rotate_left
                · intro w'
                  go_simp
                  with_reducible rfl
                rotate_left
                · simp only [Act.put, List.setIfInBounds_toArray, List.set_cons_zero, List.set_cons_succ, i64_w, i32_w]
                  rfl
                -- 3: Op.load 22 t151
                refine take_ (i := 3) (N := (some 152)) (v := ?_) (a' := ?_) #[true, false, true, true, false, false, false, false, false, false, false, false, false] rfl rfl (by kernel_rfl) (fun _ _ _ h => h) (Or.inl ⟨by rfl, ?_⟩) hHeld ?_ ?_
                rotate_left
                · rintro w' ⟨s0, s1⟩
                  go_simp
                  with_reducible rfl
                rotate_left
                · simp only [Act.put, List.setIfInBounds_toArray, List.set_cons_zero, List.set_cons_succ, i64_w, i32_w]
                  rfl
                -- 4: Op.call { builtin len, args := #[t152], argTypes := #[22] }
                refine pure_ (i := 4) (N := (some 153)) (v := ?_) (a' := ?_) #[true, false, true, true, true, false, false, false, false, false, false, false, false] rfl rfl (by kernel_rfl) (fun _ _ _ h => h) (Or.inl ⟨by rfl, ?_⟩) ?_ ?_
                rotate_left
                · intro w'
                  go_simp
                  with_reducible rfl
                rotate_left
                · simp only [Act.put, List.setIfInBounds_toArray, List.set_cons_zero, List.set_cons_succ, i64_w, i32_w]
                  rfl
                -- 1: Op.call { value (Operand.func 22), args := #[t149], argTypes := #[26] }
                refine one_ (i := 1) (N := (some 150)) #[true, true, true, true, true, false, false, false, false, false, false, false, false] rfl rfl (by kernel_rfl) (by decide) (fun K hK => ?_)
                refine goes_ Try.func22 (by kernel_rfl) rfl #[.pointer (some ⟨ga, 0, none⟩)] (by rfl) rfl rfl (by (try simp only [List.map_toArray, List.map_cons, List.map_nil]); first | done | rfl) ?_
                with_reducible refine (len_c ST.out).mono ?_
                rintro e wb ⟨rfl, hb⟩
                refine ⟨_, rfl, ?_⟩
                have hOld := hHeld
                clear hHeld
                refine hK.out _ _ (⟨(hb.cell (World.block_lt_of_cell? _ _ hOld.1)).trans hOld.1, (hb.cell (World.block_lt_of_cell? _ _ hOld.2)).trans hOld.2⟩) (fun hHeld => ?_)
                clear hOld hK K
                refine norm_ (a' := ?_) ?_ ?_
                rotate_left
                · show Act.put _ (some 150) _ = _
                  simp only [Act.put, List.setIfInBounds_toArray, List.set_cons_zero, List.set_cons_succ, i64_w, i32_w]
                  rfl
                have n0_ := Aside0.mk (ST.out.below hb)
                have n1_ := Aside0.mk (Kd.C_below C1.out hb)
                have n2_ := Aside0.mk (Kd.C_below C2.out hb)
                clear ST C1 C2 hb
                have ST := n0_
                have C1 := n1_
                have C2 := n2_
                clear n0_ n1_ n2_
                -- 5: Op.binOp BinOp.neq 3 t150 t153 3
                refine pure_ (i := 5) (N := (some 154)) (v := ?_) (a' := ?_) #[true, true, true, true, true, true, false, false, false, false, false, false, false] rfl rfl (by kernel_rfl) (fun _ _ _ h => h) (Or.inl ⟨by rfl, ?_⟩) ?_ ?_
                rotate_left
                · intro w'
                  go_simp
                  with_reducible rfl
                rotate_left
                · simp only [Act.put, List.setIfInBounds_toArray, List.set_cons_zero, List.set_cons_succ, i64_w, i32_w]
                  rfl
                -- 6: Op.move t154
                refine pure_ (i := 6) (N := (some 155)) (v := ?_) (a' := ?_) #[true, true, true, true, true, true, true, false, false, false, false, false, false] rfl rfl (by kernel_rfl) (fun _ _ _ h => h) (Or.inl ⟨by rfl, ?_⟩) ?_ ?_
                rotate_left
                · intro w'
                  go_simp
                  with_reducible rfl
                rotate_left
                · simp only [Act.put, List.setIfInBounds_toArray, List.set_cons_zero, List.set_cons_succ, i64_w, i32_w]
                  rfl
                -- 7: Op.move t3   [guarded: some (6, false)]
                refine pure_ (i := 7) (N := (some 156)) (v := ?_) (a' := ?_) #[true, true, true, true, true, true, true, true, false, false, false, false, false] rfl rfl (by kernel_rfl) (fun _ _ _ h => h) (Or.inl ⟨by rfl, ?_⟩) ?_ ?_
                rotate_left
                · intro w'
                  go_simp
                  with_reducible rfl
                rotate_left
                · simp only [Act.put, List.setIfInBounds_toArray, List.set_cons_zero, List.set_cons_succ, i64_w, i32_w]
                  rfl
                -- 9: Op.load 42 t4   [guarded: some (6, false)]
                refine take_ (i := 9) (N := (some 158)) (v := ?_) (a' := ?_) #[true, true, true, true, true, true, true, true, false, true, false, false, false] rfl rfl (by kernel_rfl) (fun _ _ _ h => h) (Or.inl ⟨by rfl, ?_⟩) hHeld ?_ ?_
                rotate_left
                · rintro w' ⟨s0, s1⟩
                  go_simp
                  with_reducible rfl
                rotate_left
                · simp only [Act.put, List.setIfInBounds_toArray, List.set_cons_zero, List.set_cons_succ, i64_w, i32_w]
                  rfl
                -- 8: Op.call { value (Operand.func 30), args := #[t156], argTypes := #[26] }   [guarded: some (6, false)]
                refine one_ (i := 8) (N := (some 157)) #[true, true, true, true, true, true, true, true, true, true, false, false, false] rfl rfl (by kernel_rfl) (by decide) (fun K hK => ?_)
                refine goes_ Try.func30 (by kernel_rfl) rfl #[.pointer (some ⟨ga, 0, none⟩)] (by rfl) rfl rfl (by (try simp only [List.map_toArray, List.map_cons, List.map_nil]); first | done | rfl) ?_
                with_reducible refine (height_c ST.out).mono ?_
                rintro e wc ⟨rfl, hb⟩
                refine ⟨_, rfl, ?_⟩
                have hOld := hHeld
                clear hHeld
                refine hK.out _ _ (⟨(hb.cell (World.block_lt_of_cell? _ _ hOld.1)).trans hOld.1, (hb.cell (World.block_lt_of_cell? _ _ hOld.2)).trans hOld.2⟩) (fun hHeld => ?_)
                clear hOld hK K
                refine norm_ (a' := ?_) ?_ ?_
                rotate_left
                · show Act.put _ (some 157) _ = _
                  simp only [Act.put, List.setIfInBounds_toArray, List.set_cons_zero, List.set_cons_succ, i64_w, i32_w]
                  rfl
                -- 10: Op.call { value (Operand.func 31), args := #[t158], argTypes := #[42] }   [guarded: some (6, false)]
                refine one_ (i := 10) (N := (some 159)) #[true, true, true, true, true, true, true, true, true, true, true, false, false] rfl rfl (by kernel_rfl) (by decide) (fun K hK => ?_)
                refine goes_ Try.func31 (by kernel_rfl) rfl #[.agg #[.slice A1 l.length c1, .slice A2 l.length c2]] (by rfl) rfl rfl (by (try simp only [List.map_toArray, List.map_cons, List.map_nil]); first | done | rfl) ?_
                with_reducible refine (refh_c (l := l) (by have := LN1.out; omega) (Kd.C_below C1.out hb) (Kd.C_below C2.out hb) L1.out L2.out).mono ?_
                rintro e wj ⟨rfl, hb2⟩
                refine ⟨_, rfl, ?_⟩
                have hOld := hHeld
                clear hHeld
                refine hK.out _ _ (⟨(hb2.cell (World.block_lt_of_cell? _ _ hOld.1)).trans hOld.1, (hb2.cell (World.block_lt_of_cell? _ _ hOld.2)).trans hOld.2⟩) (fun hHeld => ?_)
                clear hOld hK K
                refine norm_ (a' := ?_) ?_ ?_
                rotate_left
                · show Act.put _ (some 159) _ = _
                  simp only [Act.put, List.setIfInBounds_toArray, List.set_cons_zero, List.set_cons_succ, i64_w, i32_w]
                  rfl
                have n0_ := Aside0.mk (ST.out.below (below_step hb hb2))
                clear ST C1 C2 hb hb2
                have ST := n0_
                clear n0_
                -- 11: Op.binOp BinOp.neq 3 t157 t159 3   [guarded: some (6, false)]
                refine pure_ (i := 11) (N := (some 160)) (v := ?_) (a' := ?_) #[true, true, true, true, true, true, true, true, true, true, true, true, false] rfl rfl (by kernel_rfl) (fun _ _ _ h => h) (Or.inl ⟨by rfl, ?_⟩) ?_ ?_
                rotate_left
                · intro w'
                  go_simp
                  with_reducible rfl
                rotate_left
                · simp only [Act.put, List.setIfInBounds_toArray, List.set_cons_zero, List.set_cons_succ, i64_w, i32_w]
                  rfl
                -- 12: Op.pick t155 (const (Value.bool true)) t160
                refine pure_ (i := 12) (N := (some 161)) (v := ?_) (a' := ?_) #[true, true, true, true, true, true, true, true, true, true, true, true, true] rfl rfl (by kernel_rfl) (fun _ _ _ h => h) (Or.inl ⟨by rfl, ?_⟩) ?_ ?_
                rotate_left
                · intro w'
                  go_simp
                  with_reducible rfl
                rotate_left
                · simp only [Act.put, List.setIfInBounds_toArray, List.set_cons_zero, List.set_cons_succ, i64_w, i32_w]
                  rfl
                refine done_ (by kernel_rfl) ?_
                clear hHeld L1 L2
                go_wp2_with fail
                have hi100 := CN.out
                have ew : wrap64 ((i : Int) + 1) = ((i + 1 : Nat) : Int) := by unfold wrap64; omega
                try rw [ew]
                go_roundg q
                case measure => omega
                case rel => exact ⟨i + 1, _, l, rfl, ⟨by have := HK.out; omega⟩, LL, ST⟩
              · have e7 : (x.f0 == 4) = false := beq_eq_false_iff_ne.mpr k4
                have e8 : decide (x.f0 = 4) = false := decide_eq_false k4
                clear k1 k2 k3 k4
                go_wp2_with fail
                clear z0
                obtain ⟨A1, c1, A2, c2, hg0, hr1, hr2, hl1, hl2⟩ := ST.out.rl.reads
                have a0 : w5.cell? ⟨gw, 0, none⟩ = some (.slice A1 l.length c1) := (blk_cell hg0 0).trans rfl
                have a1 : w5.cell? ⟨gw, 1, none⟩ = some (.slice A2 l.length c2) := (blk_cell hg0 1).trans rfl
                have C1 := Aside0.mk hr1
                have C2 := Aside0.mk hr2
                have L1 := Aside0.mk hl1
                have L2 := Aside0.mk hl2
                clear hg0 hr1 hr2 hl1 hl2
                refine start_ (n := 13) (S := fun w' => w'.cell? ⟨gw, 0, none⟩ = some (.slice A1 l.length c1) ∧ w'.cell? ⟨gw, 1, none⟩ = some (.slice A2 l.length c2)) (ds := []) #[false, false, false, false, false, false, false, false, false, false, false, false, false] (by kernel_rfl) rfl rfl ⟨a0, a1⟩ (fun hHeld => ?_)
                have n1_ : Aside0 (k28.C w5.drew A1 l.length (l.map (·.1))) := Aside0.mk (Kd.C_below C1.out (pw_below_drewN (Below.refl _ _) 1))
                have n2_ : Aside0 ((Kd.int .i64).C w5.drew A2 l.length (l.map (fun x => (x.2 : Int)))) := Aside0.mk (Kd.C_below C2.out (pw_below_drewN (Below.refl _ _) 1))
                clear C1 C2 a0 a1
                have n0_ : Aside0 (St w w5.drew ga gw rs l) := Aside0.mk (ST.out.below (pw_below_drewN (Below.refl _ _) 1))
                clear ST
                generalize w5.drew = wd at *
                have ST := n0_
                clear n0_
                have C1 := n1_
                have C2 := n2_
                clear n1_ n2_
                -- 0: Op.move t3
                refine pure_ (i := 0) (N := (some 149)) (v := ?_) (a' := ?_) #[true, false, false, false, false, false, false, false, false, false, false, false, false] rfl rfl (by kernel_rfl) (fun _ _ _ h => h) (Or.inl ⟨by rfl, ?_⟩) ?_ ?_
                rotate_left
                · intro w'
                  go_simp
                  with_reducible rfl
                rotate_left
                · simp only [Act.put, List.setIfInBounds_toArray, List.set_cons_zero, List.set_cons_succ, i64_w, i32_w]
                  rfl
                -- 2: Op.fieldAddr 42 t4 0
                refine pure_ (i := 2) (N := (some 151)) (v := ?_) (a' := ?_) #[true, false, true, false, false, false, false, false, false, false, false, false, false] rfl rfl (by kernel_rfl) (fun _ _ _ h => h) (Or.inl ⟨by rfl, ?_⟩) ?_ ?_
                rotate_left
                · intro w'
                  go_simp
                  with_reducible rfl
                rotate_left
                · simp only [Act.put, List.setIfInBounds_toArray, List.set_cons_zero, List.set_cons_succ, i64_w, i32_w]
                  rfl
                -- 3: Op.load 22 t151
                refine take_ (i := 3) (N := (some 152)) (v := ?_) (a' := ?_) #[true, false, true, true, false, false, false, false, false, false, false, false, false] rfl rfl (by kernel_rfl) (fun _ _ _ h => h) (Or.inl ⟨by rfl, ?_⟩) hHeld ?_ ?_
                rotate_left
                · rintro w' ⟨s0, s1⟩
                  go_simp
                  with_reducible rfl
                rotate_left
                · simp only [Act.put, List.setIfInBounds_toArray, List.set_cons_zero, List.set_cons_succ, i64_w, i32_w]
                  rfl
                -- 4: Op.call { builtin len, args := #[t152], argTypes := #[22] }
                refine pure_ (i := 4) (N := (some 153)) (v := ?_) (a' := ?_) #[true, false, true, true, true, false, false, false, false, false, false, false, false] rfl rfl (by kernel_rfl) (fun _ _ _ h => h) (Or.inl ⟨by rfl, ?_⟩) ?_ ?_
                rotate_left
                · intro w'
                  go_simp
                  with_reducible rfl
                rotate_left
                · simp only [Act.put, List.setIfInBounds_toArray, List.set_cons_zero, List.set_cons_succ, i64_w, i32_w]
                  rfl
                -- 1: Op.call { value (Operand.func 22), args := #[t149], argTypes := #[26] }
                refine one_ (i := 1) (N := (some 150)) #[true, true, true, true, true, false, false, false, false, false, false, false, false] rfl rfl (by kernel_rfl) (by decide) (fun K hK => ?_)
                refine goes_ Try.func22 (by kernel_rfl) rfl #[.pointer (some ⟨ga, 0, none⟩)] (by rfl) rfl rfl (by (try simp only [List.map_toArray, List.map_cons, List.map_nil]); first | done | rfl) ?_
                with_reducible refine (len_c ST.out).mono ?_
                rintro e wb ⟨rfl, hb⟩
                refine ⟨_, rfl, ?_⟩
                have hOld := hHeld
                clear hHeld
                refine hK.out _ _ (⟨(hb.cell (World.block_lt_of_cell? _ _ hOld.1)).trans hOld.1, (hb.cell (World.block_lt_of_cell? _ _ hOld.2)).trans hOld.2⟩) (fun hHeld => ?_)
                clear hOld hK K
                refine norm_ (a' := ?_) ?_ ?_
                rotate_left
                · show Act.put _ (some 150) _ = _
                  simp only [Act.put, List.setIfInBounds_toArray, List.set_cons_zero, List.set_cons_succ, i64_w, i32_w]
                  rfl
                have n0_ := Aside0.mk (ST.out.below hb)
                have n1_ := Aside0.mk (Kd.C_below C1.out hb)
                have n2_ := Aside0.mk (Kd.C_below C2.out hb)
                clear ST C1 C2 hb
                have ST := n0_
                have C1 := n1_
                have C2 := n2_
                clear n0_ n1_ n2_
                -- 5: Op.binOp BinOp.neq 3 t150 t153 3
                refine pure_ (i := 5) (N := (some 154)) (v := ?_) (a' := ?_) #[true, true, true, true, true, true, false, false, false, false, false, false, false] rfl rfl (by kernel_rfl) (fun _ _ _ h => h) (Or.inl ⟨by rfl, ?_⟩) ?_ ?_
                rotate_left
                · intro w'
                  go_simp
                  with_reducible rfl
                rotate_left
                · simp only [Act.put, List.setIfInBounds_toArray, List.set_cons_zero, List.set_cons_succ, i64_w, i32_w]
                  rfl
                -- 6: Op.move t154
                refine pure_ (i := 6) (N := (some 155)) (v := ?_) (a' := ?_) #[true, true, true, true, true, true, true, false, false, false, false, false, false] rfl rfl (by kernel_rfl) (fun _ _ _ h => h) (Or.inl ⟨by rfl, ?_⟩) ?_ ?_
                rotate_left
                · intro w'
                  go_simp
                  with_reducible rfl
                rotate_left
                · simp only [Act.put, List.setIfInBounds_toArray, List.set_cons_zero, List.set_cons_succ, i64_w, i32_w]
                  rfl
                -- 7: Op.move t3   [guarded: some (6, false)]
                refine pure_ (i := 7) (N := (some 156)) (v := ?_) (a' := ?_) #[true, true, true, true, true, true, true, true, false, false, false, false, false] rfl rfl (by kernel_rfl) (fun _ _ _ h => h) (Or.inl ⟨by rfl, ?_⟩) ?_ ?_
                rotate_left
                · intro w'
                  go_simp
                  with_reducible rfl
                rotate_left
                · simp only [Act.put, List.setIfInBounds_toArray, List.set_cons_zero, List.set_cons_succ, i64_w, i32_w]
                  rfl
                -- 9: Op.load 42 t4   [guarded: some (6, false)]
                refine take_ (i := 9) (N := (some 158)) (v := ?_) (a' := ?_) #[true, true, true, true, true, true, true, true, false, true, false, false, false] rfl rfl (by kernel_rfl) (fun _ _ _ h => h) (Or.inl ⟨by rfl, ?_⟩) hHeld ?_ ?_
                rotate_left
                · rintro w' ⟨s0, s1⟩
                  go_simp
                  with_reducible rfl
                rotate_left
                · simp only [Act.put, List.setIfInBounds_toArray, List.set_cons_zero, List.set_cons_succ, i64_w, i32_w]
                  rfl
                -- 8: Op.call { value (Operand.func 30), args := #[t156], argTypes := #[26] }   [guarded: some (6, false)]
                refine one_ (i := 8) (N := (some 157)) #[true, true, true, true, true, true, true, true, true, true, false, false, false] rfl rfl (by kernel_rfl) (by decide) (fun K hK => ?_)
                refine goes_ Try.func30 (by kernel_rfl) rfl #[.pointer (some ⟨ga, 0, none⟩)] (by rfl) rfl rfl (by (try simp only [List.map_toArray, List.map_cons, List.map_nil]); first | done | rfl) ?_
                with_reducible refine (height_c ST.out).mono ?_
                rintro e wc ⟨rfl, hb⟩
                refine ⟨_, rfl, ?_⟩
                have hOld := hHeld
                clear hHeld
                refine hK.out _ _ (⟨(hb.cell (World.block_lt_of_cell? _ _ hOld.1)).trans hOld.1, (hb.cell (World.block_lt_of_cell? _ _ hOld.2)).trans hOld.2⟩) (fun hHeld => ?_)
                clear hOld hK K
                refine norm_ (a' := ?_) ?_ ?_
                rotate_left
                · show Act.put _ (some 157) _ = _
                  simp only [Act.put, List.setIfInBounds_toArray, List.set_cons_zero, List.set_cons_succ, i64_w, i32_w]
                  rfl
                -- 10: Op.call { value (Operand.func 31), args := #[t158], argTypes := #[42] }   [guarded: some (6, false)]
                refine one_ (i := 10) (N := (some 159)) #[true, true, true, true, true, true, true, true, true, true, true, false, false] rfl rfl (by kernel_rfl) (by decide) (fun K hK => ?_)
                refine goes_ Try.func31 (by kernel_rfl) rfl #[.agg #[.slice A1 l.length c1, .slice A2 l.length c2]] (by rfl) rfl rfl (by (try simp only [List.map_toArray, List.map_cons, List.map_nil]); first | done | rfl) ?_
                with_reducible refine (refh_c (l := l) (by have := LN1.out; omega) (Kd.C_below C1.out hb) (Kd.C_below C2.out hb) L1.out L2.out).mono ?_
                rintro e wj ⟨rfl, hb2⟩
                refine ⟨_, rfl, ?_⟩
                have hOld := hHeld
                clear hHeld
                refine hK.out _ _ (⟨(hb2.cell (World.block_lt_of_cell? _ _ hOld.1)).trans hOld.1, (hb2.cell (World.block_lt_of_cell? _ _ hOld.2)).trans hOld.2⟩) (fun hHeld => ?_)
                clear hOld hK K
                refine norm_ (a' := ?_) ?_ ?_
                rotate_left
                · show Act.put _ (some 159) _ = _
                  simp only [Act.put, List.setIfInBounds_toArray, List.set_cons_zero, List.set_cons_succ, i64_w, i32_w]
                  rfl
                have n0_ := Aside0.mk (ST.out.below (below_step hb hb2))
                clear ST C1 C2 hb hb2
                have ST := n0_
                clear n0_
                -- 11: Op.binOp BinOp.neq 3 t157 t159 3   [guarded: some (6, false)]
                refine pure_ (i := 11) (N := (some 160)) (v := ?_) (a' := ?_) #[true, true, true, true, true, true, true, true, true, true, true, true, false] rfl rfl (by kernel_rfl) (fun _ _ _ h => h) (Or.inl ⟨by rfl, ?_⟩) ?_ ?_
                rotate_left
                · intro w'
                  go_simp
                  with_reducible rfl
                rotate_left
                · simp only [Act.put, List.setIfInBounds_toArray, List.set_cons_zero, List.set_cons_succ, i64_w, i32_w]
                  rfl
                -- 12: Op.pick t155 (const (Value.bool true)) t160
                refine pure_ (i := 12) (N := (some 161)) (v := ?_) (a' := ?_) #[true, true, true, true, true, true, true, true, true, true, true, true, true] rfl rfl (by kernel_rfl) (fun _ _ _ h => h) (Or.inl ⟨by rfl, ?_⟩) ?_ ?_
                rotate_left
                · intro w'
                  go_simp
                  with_reducible rfl
                rotate_left
                · simp only [Act.put, List.setIfInBounds_toArray, List.set_cons_zero, List.set_cons_succ, i64_w, i32_w]
                  rfl
                refine done_ (by kernel_rfl) ?_
                clear hHeld L1 L2
                go_wp2_with fail
                have hi100 := CN.out
                have ew : wrap64 ((i : Int) + 1) = ((i + 1 : Nat) : Int) := by unfold wrap64; omega
                try rw [ew]
                go_roundg q
                case measure => omega
                case rel => exact ⟨i + 1, _, l, rfl, ⟨by have := HK.out; omega⟩, LL, ST⟩
end Go.Proofs.Ytfemebenkbobnaa.SK
