import Derived.Test.YtfemebenkbobnaaSKD
/- The law SkipSteps, walked. Conditions: none. -/
namespace Go.Proofs.Ytfemebenkbobnaa.SK
set_option linter.unusedVariables false
set_option linter.unusedSimpArgs false
open Go.RowKit Go.Shelf Go.Proofs.YtfemebenkbobnaaW.PrintWords Go.Proofs.YtfemebenkbobnaaW.PrintLast Go.Proofs.YtfemebenkbobnaaW.PrintMore Go.Proofs.Ytfemebenkbobnaa.PB06
/-- How high the i-th row is to be. -/
def hAt (hs : List Int) (i : Nat) : Int := (hs[i]?).getD 1
def pairsA (rows : List S28) (hs : List Int) : Nat → List RH
  | 0 => []
  | i + 1 => pairsA rows hs i ++ [(rows.getD i z28, clampH (hAt hs i))]
def pairs1 (rows : List S28) : Nat → List RH
  | 0 => []
  | i + 1 => pairs1 rows i ++ [(rows.getD i z28, 1)]
theorem pairsA_len (rows : List S28) (hs : List Int) : ∀ i, (pairsA rows hs i).length = i
  | 0 => rfl
  | i + 1 => by rw [pairsA, List.length_append, pairsA_len rows hs i]; rfl
theorem pairs1_len (rows : List S28) : ∀ i, (pairs1 rows i).length = i
  | 0 => rfl
  | i + 1 => by rw [pairs1, List.length_append, pairs1_len rows i]; rfl
theorem pairs_rows (rows : List S28) (hs : List Int) : ∀ i, (pairsA rows hs i).map (·.1) = (pairs1 rows i).map (·.1)
  | 0 => rfl
  | i + 1 => by rw [pairsA, pairs1, List.map_append, List.map_append, pairs_rows rows hs i]; rfl
theorem pairs1_h (rows : List S28) : ∀ i, ∀ p, p ∈ pairs1 rows i → p.2 = 1
  | 0, p, h => by simp [pairs1] at h
  | i + 1, p, h => by
    rw [pairs1] at h
    rcases List.mem_append.mp h with h | h
    · exact pairs1_h rows i p h
    · rw [List.mem_singleton] at h; rw [h]
theorem at_int {w : World} {A : Option Addr} {xs : List Int} (h : (Kd.int .i64).C w A xs.length xs) (i : Nat) (hi : i < xs.length) : ∃ ad, A = some ad ∧ w.cell? (ad.add i) = some (.int .i64 (hAt xs i)) := by
  obtain ⟨_, _, h3⟩ := h
  obtain ⟨ad, e, h4⟩ := h3 (by omega)
  obtain ⟨c, h5, h6, h7⟩ := h4 i xs[i] (List.getElem?_eq_getElem hi)
  have h8 : c = [.int .i64 xs[i]] := h6
  subst h8
  have h9 := h7 0 _ rfl
  refine ⟨ad, e, ?_⟩
  rw [show i * (Kd.int .i64).sz + 0 = i from by show i * 1 + 0 = i; omega] at h9
  rw [h9, hAt, List.getElem?_eq_getElem hi]
  rfl
theorem at_row {w : World} {A : Option Addr} {xs : List S28} (h : k28.C w A xs.length xs) (i : Nat) (hi : i < xs.length) : ∃ ad r, A = some ad ∧ xs.getD i z28 = r ∧ w.cell? (ad.add (i * 4)) = some (.string r.f0) ∧ w.cell? ⟨(ad.add (i * 4)).block, (ad.add (i * 4)).off + 1, none⟩ = some (.int .u64 r.f1) ∧ w.cell? ⟨(ad.add (i * 4)).block, (ad.add (i * 4)).off + 2, none⟩ = some (.int .i64 r.f2) ∧ w.cell? ⟨(ad.add (i * 4)).block, (ad.add (i * 4)).off + 3, none⟩ = some (.string r.f3) := by
  obtain ⟨ad, e, h0, h1, h2, h3⟩ := at_T28 h (i : Int) (by omega) (by omega)
  exact ⟨ad, xs.getD i z28, e, rfl, h0, h1, h2, h3⟩
theorem clampH_one : clampH 1 = 1 := rfl
set_option maxHeartbeats 8000000 in
set_option maxRecDepth 100000 in
theorem skipSteps_calls (w : World) (A0 : Option Addr) (c0 : Nat) (rows : List S28) (A1 : Option Addr) (c1 : Nat) (hs : List Int) (key : ByteArray) (seq : Int) (hr0 : k28.C w A0 rows.length rows) (hc0 : rows.length ≤ c0) (hr1 : (Kd.int .i64).C w A1 hs.length hs) (hc1 : hs.length ≤ c1) :
    Calls Try.prog 3 #[.slice A0 rows.length c0, .slice A1 hs.length c1, .string key, .int .u64 seq] w fun e w' => e = .returned (.bool true) ∧ Below w.heap.size w w' := by
  have HR0 := Aside0.mk hr0
  have HC0 := Aside0.mk hc0
  have HR1 := Aside0.mk hr1
  have HC1 := Aside0.mk hc1
  clear hr0 hc0 hr1 hc1
  have HB := Aside0.mk (Below.refl w.heap.size w)
  by_cases c : (rows.length : Int) > 100
  · have cb : decide (100 < (rows.length : Int)) = true := decide_eq_true c
    have cb2 : decide (100 < rows.length) = true := decide_eq_true (by omega)
    clear c
    go_enter Try.func3, Try.ntmps3
    go_wp2_with fail
    refine (awake08_calls _).mono ?_
    rintro e w1 ⟨rfl, hb⟩
    have HB2 := Aside0.mk hb
    clear hb HB
    go_wp2_with fail
    go_ret
    exact ⟨rfl, HB2.out⟩
  · have CN := Aside0.mk (show rows.length ≤ 100 by omega)
    have cb : decide (100 < (rows.length : Int)) = false := decide_eq_false c
    have cb2 : decide (100 < rows.length) = false := decide_eq_false (by omega)
    clear c
    go_enter Try.func3, Try.ntmps3
    go_wp2_with (first | ((with_reducible refine gate_dst (N := 20) rfl ?_); refine box_event ?hg (N := 20) ?hd (cs := (cellsH 0 0 []).toArray) (t := 34) ?hr ?_; (case hd => rfl); (case hg => rfl); (case hr => first | (go_simp; done) | (go_simp; rfl)); intro ga hg w2 hbox hb; have n0_ := Aside0.mk (below_step HB.out hb); have n1_ := Aside0.mk (Sk.empty hbox); have GA := Aside0.mk (by rw [hg]; exact below_size HB.out : w.heap.size ≤ ga); clear HB; have HB := n0_; have SA := n1_; clear n0_ n1_; clear hb hbox hg) | ((with_reducible refine gate_dst (N := 22) rfl ?_); refine box_event ?hg (N := 22) ?hd (cs := (cellsH 0 0 []).toArray) (t := 34) ?hr ?_; (case hd => rfl); (case hg => rfl); (case hr => first | (go_simp; done) | (go_simp; rfl)); intro gb hg w3 hbox hb; have n0_ := Aside0.mk (below_step HB.out hb); have n1_ := Aside0.mk (Sk.empty hbox); have NAB := Aside0.mk (by rw [hg]; exact fun e => by have := SA.out.lt ga (fp_mem.mpr (.inl rfl)); omega : ga ≠ gb); have n2_ := Aside0.mk (SA.out.below hb); have GB := Aside0.mk (by rw [hg]; exact below_size HB.out : w.heap.size ≤ gb); clear HB SA; have HB := n0_; have SB := n1_; have SA := n2_; clear n0_ n1_ n2_; clear hb hbox hg) | fail)
    have GAl := Aside0.mk (show ∀ k, k ∈ fp ga [] → w.heap.size ≤ k from fun k hk => by rw [fp_mem] at hk; simp at hk; rw [hk]; exact GA.out)
    have GBl := Aside0.mk (show ∀ k, k ∈ fp gb [] → w.heap.size ≤ k from fun k hk => by rw [fp_mem] at hk; simp at hk; rw [hk]; exact GB.out)
    have AP := Aside0.mk (show Apart (fp ga []) (fp gb []) from fun k hk hk2 => by rw [fp_mem] at hk hk2; simp at hk hk2; exact NAB.out (hk.symm.trans hk2))
    go_loopg [11, 12] rows.length (fun kq v11 v12 w' => ∃ (i : Nat) (ra rb : List Nd), v11 = .int .i64 (i : Int) ∧ Aside0 (kq + i = rows.length) ∧ Aside0 (Sk w' ga ra) ∧ Aside0 (Sk w' gb rb) ∧ Aside0 (vals ra = runV (pairsA rows hs i)) ∧ Aside0 (vals rb = runV (pairs1 rows i)) ∧ Aside0 (Apart (fp ga ra) (fp gb rb)) ∧ Aside0 (∀ k, k ∈ fp ga ra → w.heap.size ≤ k) ∧ Aside0 (∀ k, k ∈ fp gb rb → w.heap.size ≤ k) ∧ Aside0 (Below w.heap.size w w'))
    case atStart => exact ⟨0, [], [], rfl, ⟨by omega⟩, SA, SB, ⟨rfl⟩, ⟨rfl⟩, AP, GAl, GBl, HB⟩
    case round =>
      clear SA SB AP GAl GBl HB
      obtain ⟨i, ra, rb, rfl, HK, SA, SB, VA, VB, AP, GAl, GBl, HB⟩ := hrel
      have LA := Aside0.mk (show ra.length ≤ i by have h1 := runV_len (pairsA rows hs i); rw [← VA.out, vals_len, pairsA_len] at h1; exact h1)
      have LB := Aside0.mk (show rb.length ≤ i by have h1 := runV_len (pairs1 rows i); rw [← VB.out, vals_len, pairs1_len] at h1; exact h1)
      cases gk with
      | zero =>
        have ei : i = rows.length := by have := HK.out; omega
        subst ei
        have d0 : decide ((rows.length : Int) < (rows.length : Int)) = false := by simp
        go_wp2_with fail
        refine (len_calls _ gb _ _ rb SB.out.sl).mono ?_
        rintro e w1 ⟨rfl, hb1⟩
        have n0_ := Aside0.mk (below_step HB.out hb1)
        have n1_ := Aside0.mk (SA.out.below hb1)
        have n2_ := Aside0.mk (SB.out.below hb1)
        clear HB SA SB hb1
        have HB := n0_
        have SA := n1_
        have SB := n2_
        clear n0_ n1_ n2_
        go_wp2_with fail
        refine (all_calls _ gb rb key seq 200 SB.out (by have := LB.out; have := CN.out; omega)).mono ?_
        rintro e w2 ⟨v, rfl, hv, hb2⟩
        obtain ⟨A6, c6, rfl⟩ := Kd.R_slice hv
        have n0_ := Aside0.mk (below_step HB.out hb2)
        have n1_ := Aside0.mk (SA.out.below hb2)
        have n2_ := Aside0.mk (SB.out.below hb2)
        clear HB SA SB hb2 hv
        have HB := n0_
        have SA := n1_
        have SB := n2_
        clear n0_ n1_ n2_
        obtain ⟨am, ham⟩ : ∃ am : Nat, am = (ahd key seq rb).length := ⟨_, rfl⟩
        have hbl : (takeM 200 ((beh key seq rb).map (·.row))).length = rb.length - am := by
          have h1 := congrArg List.length (ahd_beh key seq rb)
          rw [List.length_append] at h1
          have h2 := LB.out
          have h3 := CN.out
          unfold takeM
          rw [if_neg (by rw [List.length_map]; omega), List.length_map]
          omega
        have hal : am ≤ rb.length := by rw [ham]; exact (List.takeWhile_prefix _).length_le
        rw [hbl]
        have ew : wrap64 ((rb.length : Int) - ((rb.length - am : Nat) : Int)) = (am : Int) := by have := LB.out; have := CN.out; unfold wrap64; omega
        have HAM := Aside0.mk ham
        have HAL := Aside0.mk hal
        clear ham hal hbl
        go_wp2_with fail
        try rw [ew]
        refine (steps_calls _ ga _ _ ra key seq SA.out.sl (SA.out.front _ _) (by have := LA.out; have := CN.out; omega)).mono ?_
        rintro e w3 ⟨rfl, hb3⟩
        have n0_ := Aside0.mk (below_step HB.out hb3)
        have n1_ := Aside0.mk (SA.out.below hb3)
        have n2_ := Aside0.mk (SB.out.below hb3)
        clear HB SA SB hb3
        have HB := n0_
        have SA := n1_
        have SB := n2_
        clear n0_ n1_ n2_
        obtain ⟨sn, hsn⟩ : ∃ sn, stepsN 12 (hts key seq ra) = sn := ⟨_, rfl⟩
        rw [hsn]
        have hrows : (vals ra).map (·.1) = (vals rb).map (·.1) := by rw [VA.out, VB.out, rows_run, rows_run, pairs_rows]
        have hka : (hts key seq ra).length = am := by
          rw [hts_vals, List.length_map, HAM.out]
          have h1 : (ahdV key seq (vals ra)).length = (ahdR key seq ((vals ra).map (·.1))).length := by rw [← rows_ahd, List.length_map]
          have h2 : (ahdV key seq (vals rb)).length = (ahdR key seq ((vals rb).map (·.1))).length := by rw [← rows_ahd, List.length_map]
          rw [h1, hrows, ← h2, ← vals_ahd, vals_len]
        have hs1 : sn ≤ am := by rw [← hsn, ← hka]; exact stepsN_le 12 _
        have hs2 : sn ≤ ra.length := by
          have h1 : (hts key seq ra).length ≤ ra.length := by rw [hts, List.length_map]; exact (List.takeWhile_prefix _).length_le
          omega
        have hsb : stepsN 12 (hts key seq rb) = am := by
          rw [steps_ones]
          · rw [hts, List.length_map, HAM.out]; rfl
          · intro x hx
            rw [hts_vals, VB.out] at hx
            obtain ⟨y, hy, rfl⟩ := List.mem_map.mp hx
            exact hts_of_run (pairs1 rows rows.length) (· = 1) (pairs1_h rows _) y ((List.takeWhile_prefix _).subset hy)
        have k1 : decide ((sn : Int) ≥ 0) = true := decide_eq_true (by omega)
        have k2 : decide ((sn : Int) ≤ (ra.length : Int)) = true := decide_eq_true (by omega)
        have k3 : decide ((sn : Int) ≤ (am : Int)) = true := decide_eq_true (by omega)
        have k2' : decide (sn ≤ ra.length) = true := decide_eq_true hs2
        have k3' : decide (sn ≤ am) = true := decide_eq_true hs1
        have HSB := Aside0.mk hsb
        clear hsn hrows hka hs1 hs2 hsb
        go_wp2_with fail
        refine (len_calls _ ga _ _ ra SA.out.sl).mono ?_
        rintro e w4 ⟨rfl, hb4⟩
        have n0_ := Aside0.mk (below_step HB.out hb4)
        have n2_ := Aside0.mk (SB.out.below hb4)
        clear HB SA SB hb4
        have HB := n0_
        have SB := n2_
        clear n0_ n2_
        go_wp2_with fail
        refine (steps_calls _ gb _ _ rb key seq SB.out.sl (SB.out.front _ _) (by have := LB.out; have := CN.out; omega)).mono ?_
        rw [HSB.out]
        rintro e w5 ⟨rfl, hb5⟩
        have n0_ := Aside0.mk (below_step HB.out hb5)
        clear HB SB hb5
        have HB := n0_
        clear n0_
        go_wp2_with fail
        refine (awake08_calls _).mono ?_
        rintro e w6 ⟨rfl, hb6⟩
        have n0_ := Aside0.mk (below_step HB.out hb6)
        clear HB hb6
        have HB := n0_
        clear n0_
        go_wp2_with fail
        go_ret
        exact ⟨rfl, HB.out⟩
      | succ q =>
        have hi : i < rows.length := by have := HK.out; omega
        have d0 : decide ((i : Int) < (rows.length : Int)) = true := decide_eq_true (by omega)
        have d1 : decide (i < rows.length) = true := decide_eq_true hi
        have p0 : 0 ≤ (i : Int) := by omega
        have p1 : (i : Int) < (rows.length : Int) := by omega
        obtain ⟨ad, r, ea, hrr, hx0, hx1, hx2, hx3⟩ := at_row HR0.out i hi
        cases ea
        have hx0' := (HB.out.cell (World.block_lt_of_cell? w _ hx0)).trans hx0
        have hx1' := (HB.out.cell (World.block_lt_of_cell? w _ hx1)).trans hx1
        have hx2' := (HB.out.cell (World.block_lt_of_cell? w _ hx2)).trans hx2
        have hx3' := (HB.out.cell (World.block_lt_of_cell? w _ hx3)).trans hx3
        have RR := Aside0.mk hrr
        have HX0 := Aside0.mk hx0
        have HX1 := Aside0.mk hx1
        have HX2 := Aside0.mk hx2
        have HX3 := Aside0.mk hx3
        clear hx0 hx1 hx2 hx3 hrr
        by_cases ch : i < hs.length
        · have d2 : decide ((i : Int) < (hs.length : Int)) = true := decide_eq_true (by omega)
          have d3 : decide (i < hs.length) = true := decide_eq_true ch
          have p2 : (i : Int) < (hs.length : Int) := by omega
          obtain ⟨ad1, ea1, hy⟩ := at_int HR1.out i ch
          cases ea1
          have hy' := (HB.out.cell (World.block_lt_of_cell? w _ hy)).trans hy
          clear hy
          go_wp2_with fail
          refine (put_val wr ga ra r (hAt hs i) SA.out (by have := LA.out; have := CN.out; omega)).mono ?_
          rintro e w1 ⟨rfl, ra', hp⟩
          have n0_ := Aside0.mk (hp.low HB.out HB.out.size GAl.out)
          have n1_ := Aside0.mk (hp.other SB.out AP.out)
          have n2_ := Aside0.mk (show vals ra' = runV (pairsA rows hs (i + 1)) by rw [pairsA, runV_snoc, ← VA.out, hp.val, RR.out])
          have n3_ := Aside0.mk hp.sk
          clear SA SB AP GAl HB VA hp hx0' hx1' hx2' hx3'
          have SA := n3_
          have SB := Aside0.mk n1_.out.1
          have AP := Aside0.mk n1_.out.2
          have GAl := Aside0.mk n0_.out.2
          have HB := Aside0.mk n0_.out.1
          have VA := n2_
          clear n0_ n1_ n2_ n3_
          have hx0' := (HB.out.cell (World.block_lt_of_cell? w _ HX0.out)).trans HX0.out
          have hx1' := (HB.out.cell (World.block_lt_of_cell? w _ HX1.out)).trans HX1.out
          have hx2' := (HB.out.cell (World.block_lt_of_cell? w _ HX2.out)).trans HX2.out
          have hx3' := (HB.out.cell (World.block_lt_of_cell? w _ HX3.out)).trans HX3.out
          go_wp2_with fail
          refine (put_val w1 gb rb r 1 SB.out (by have := LB.out; have := CN.out; omega)).mono ?_
          rintro e w2 ⟨rfl, rb', hp⟩
          have n0_ := Aside0.mk (hp.low HB.out HB.out.size GBl.out)
          have n1_ := Aside0.mk (hp.other SA.out AP.out.symm)
          have n2_ := Aside0.mk (show vals rb' = runV (pairs1 rows (i + 1)) by rw [pairs1, runV_snoc, ← VB.out, hp.val, RR.out, clampH_one])
          have n3_ := Aside0.mk hp.sk
          clear SA SB AP GBl HB VB hp hx0' hx1' hx2' hx3'
          have SB := n3_
          have SA := Aside0.mk n1_.out.1
          have AP := Aside0.mk n1_.out.2.symm
          have GBl := Aside0.mk n0_.out.2
          have HB := Aside0.mk n0_.out.1
          have VB := n2_
          clear n0_ n1_ n2_ n3_
          go_wp2_with fail
          have hi100 := CN.out
          have ew : wrap64 ((i : Int) + 1) = ((i + 1 : Nat) : Int) := by unfold wrap64; omega
          try rw [ew]
          go_roundg q
          case measure => omega
          case rel => exact ⟨i + 1, ra', rb', rfl, ⟨by have := HK.out; omega⟩, SA, SB, VA, VB, AP, GAl, GBl, HB⟩
        · have d2 : decide ((i : Int) < (hs.length : Int)) = false := decide_eq_false (by omega)
          have d3 : decide (i < hs.length) = false := decide_eq_false ch
          go_wp2_with fail
          refine (put_val wr ga ra r (1) SA.out (by have := LA.out; have := CN.out; omega)).mono ?_
          rintro e w1 ⟨rfl, ra', hp⟩
          have n0_ := Aside0.mk (hp.low HB.out HB.out.size GAl.out)
          have n1_ := Aside0.mk (hp.other SB.out AP.out)
          have n2_ := Aside0.mk (show vals ra' = runV (pairsA rows hs (i + 1)) by rw [pairsA, runV_snoc, ← VA.out, hp.val, RR.out, show hAt hs i = 1 from by rw [hAt, List.getElem?_eq_none (by omega)]; rfl])
          have n3_ := Aside0.mk hp.sk
          clear SA SB AP GAl HB VA hp hx0' hx1' hx2' hx3'
          have SA := n3_
          have SB := Aside0.mk n1_.out.1
          have AP := Aside0.mk n1_.out.2
          have GAl := Aside0.mk n0_.out.2
          have HB := Aside0.mk n0_.out.1
          have VA := n2_
          clear n0_ n1_ n2_ n3_
          have hx0' := (HB.out.cell (World.block_lt_of_cell? w _ HX0.out)).trans HX0.out
          have hx1' := (HB.out.cell (World.block_lt_of_cell? w _ HX1.out)).trans HX1.out
          have hx2' := (HB.out.cell (World.block_lt_of_cell? w _ HX2.out)).trans HX2.out
          have hx3' := (HB.out.cell (World.block_lt_of_cell? w _ HX3.out)).trans HX3.out
          go_wp2_with fail
          refine (put_val w1 gb rb r 1 SB.out (by have := LB.out; have := CN.out; omega)).mono ?_
          rintro e w2 ⟨rfl, rb', hp⟩
          have n0_ := Aside0.mk (hp.low HB.out HB.out.size GBl.out)
          have n1_ := Aside0.mk (hp.other SA.out AP.out.symm)
          have n2_ := Aside0.mk (show vals rb' = runV (pairs1 rows (i + 1)) by rw [pairs1, runV_snoc, ← VB.out, hp.val, RR.out, clampH_one])
          have n3_ := Aside0.mk hp.sk
          clear SA SB AP GBl HB VB hp hx0' hx1' hx2' hx3'
          have SB := n3_
          have SA := Aside0.mk n1_.out.1
          have AP := Aside0.mk n1_.out.2.symm
          have GBl := Aside0.mk n0_.out.2
          have HB := Aside0.mk n0_.out.1
          have VB := n2_
          clear n0_ n1_ n2_ n3_
          go_wp2_with fail
          have hi100 := CN.out
          have ew : wrap64 ((i : Int) + 1) = ((i + 1 : Nat) : Int) := by unfold wrap64; omega
          try rw [ew]
          go_roundg q
          case measure => omega
          case rel => exact ⟨i + 1, ra', rb', rfl, ⟨by have := HK.out; omega⟩, SA, SB, VA, VB, AP, GAl, GBl, HB⟩
end Go.Proofs.Ytfemebenkbobnaa.SK
