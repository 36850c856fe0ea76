import Derived.Test.YtfemebenkbobnaaSKF
import Derived.Laws.Cover1
/- The law SkipAny, walked. Conditions: the rows' numbers are uint64s. -/
namespace Go.Proofs.Ytfemebenkbobnaa.SK
set_option linter.unusedVariables false
set_option linter.unusedSimpArgs false
open Go.RowKit Go.Shelf Go.Proofs.YtfemebenkbobnaaW.PrintWords Go.Proofs.YtfemebenkbobnaaW.PrintLast Go.Proofs.YtfemebenkbobnaaW.PrintMore Go.Proofs.Ytfemebenkbobnaa.PB06
theorem sk_typed {w : World} {g : Nat} {rs : List Nd} (h : Sk w g rs) : ∀ k, k ∈ fp g rs → ∃ cs t, w.heap[k]? = some (.cells cs t (0, 0)) ∧ t ≠ 28 := fun k hk => by
  rcases fp_mem.mp hk with rfl | hk
  · exact ⟨_, _, h.sl.head, by decide⟩
  · obtain ⟨x, hx, rfl⟩ := List.mem_map.mp hk
    obtain ⟨cs, hc⟩ := h.sl.chain.mem x hx
    exact ⟨cs, _, hc, by decide⟩
/-- A row of the call's own stays where a list takes a row. -/
theorem R_put {w w' : World} {base g : Nat} {v : Value} {xs : List S28} {rs rs' : List Nd} {r : S28} {h : Nat} (hR : Kd.R k28 28 w base (fun _ => True) v xs) (hs : Sk w g rs) (hp : Put w w' g rs r h rs') : Kd.R k28 28 w' base (fun _ => True) v xs := by
  refine Kd.R_mono (Kd.R_step (Kd.R_bound hR) (fun k ho hk => ?_)) (fun _ _ => trivial)
  obtain ⟨_, _, _, q, hq, cells, hc⟩ := ho
  have hq28 : q = 28 := by
    rcases List.mem_cons.mp hq with e | e
    · exact e
    · exact absurd e (by have : k28.E = [] := rfl; rw [this]; simp)
  subst hq28
  have hn : k ∉ fp g rs := fun hm => by
    obtain ⟨cs, t, h1, h2⟩ := sk_typed hs k hm
    rw [hc] at h1
    cases h1
    exact h2 rfl
  exact hp.kp.same k hk (fun e => hn (fp_mem.mpr (.inl e))) (fun e => hn (fp_mem.mpr (.inr e)))
/-- A list stays where a row of the call's own grows. -/
theorem sk_grown {W w1 : World} {base g : Nat} {ok : Nat → Prop} {v : Value} {xs : List S28} {rs : List Nd} (hs : Sk W g rs) (hR : Kd.R k28 28 W base ok v xs) (hg : W.grownBy w1 v.ownBlock) : Sk w1 g rs :=
  hs.keep fun k hk => by
    obtain ⟨cs, t, h1, h2⟩ := sk_typed hs k (fp_mem.mpr hk)
    exact hg.block k (blk_lt h1) (Kd.R_ne hR h1 (fun e => h2 e.symm))
theorem rows_bound {rs : List Nd} {p rows : List S28} (hp : Puts rs p) (hsub : ∀ x, x ∈ p → x ∈ rows) (hw : ∀ x, x ∈ rows → x.f1 ≤ 18446744073709551615) : ∀ x, x ∈ rs → x.row.f1 ≤ 18446744073709551615 := fun x hx =>
  hw _ (hsub _ ((hp.mem x.row).mp (List.mem_map.mpr ⟨x, hx, rfl⟩)))
theorem idxs {n i k : Nat} (hi : i < n) (hk : k < n) (hn : n ≤ 100) : ∃ na jb m jc : Nat, (True → (n : Int) - 1 = (na : Int)) ∧ (True → (na : Int) - (i : Int) = (jb : Int)) ∧ (True → (i : Int) + (k : Int) = (m : Int)) ∧ (True → m % n = jc) ∧ (True → (m : Int) % (n : Int) = (jc : Int)) ∧ Aside0 (jb = n - 1 - i) ∧ Aside0 (jc = (i + k) % n) ∧ (True → wrap64 (na : Int) = (na : Int)) ∧ (True → wrap64 (jb : Int) = (jb : Int)) ∧ (True → wrap64 (m : Int) = (m : Int)) ∧ (True → wrap64 (jc : Int) = (jc : Int)) ∧ jb < n ∧ jc < n := by
  have h5 : (i + k) % n < n := Nat.mod_lt _ (by omega)
  have hw : ∀ x : Nat, x ≤ 1000 → wrap64 (x : Int) = (x : Int) := fun x hx => by unfold wrap64; omega
  refine ⟨n - 1, n - 1 - i, i + k, (i + k) % n, fun _ => by omega, fun _ => by omega, fun _ => by omega, fun _ => rfl, fun _ => rfl, ⟨rfl⟩, ⟨rfl⟩, fun _ => hw _ (by omega), fun _ => hw _ (by omega), fun _ => hw _ (by omega), fun _ => hw _ (by omega), by omega, h5⟩
theorem ord_len {rs : List Nd} {p : List S28} {f : Nat → Nat} {i n : Nat} (h : Puts rs (ordF p f i)) (hi : i ≤ n) (hn : n ≤ 100) : rs.length ≤ 2305843009213693952 := by
  have := h.len
  rw [this]; simp only [ordF, List.length_map, List.length_range]; omega
theorem same_refl (a : List S28) (ha : a.length ≤ 4611686018427387904) : ∃ k, freshetref06_SameRows.f k a a = some true := by
  have hl : ∀ c i, i + c = a.length → freshetref06_SameRows.l0 (c + 1) a a (i : Int) = some true := by
    intro c
    induction c with
    | zero =>
      intro i hi
      rw [freshetref06_SameRows.l0, if_neg (by omega)]
    | succ c ih =>
      intro i hi
      rw [freshetref06_SameRows.l0, if_pos (by omega), if_pos (by omega), if_pos (by omega), if_neg (by simp), show wrap64 ((i : Int) + 1) = ((i + 1 : Nat) : Int) by unfold wrap64; omega]
      exact ih (i + 1) (by omega)
  refine ⟨a.length + 1, ?_⟩
  rw [freshetref06_SameRows.f, if_pos rfl]
  exact hl a.length 0 (by omega)
theorem same_true (w : World) (A0 : Option Addr) (c0 : Nat) (A1 : Option Addr) (c1 : Nat) (a : List S28) (h0 : Kd.C k28 w A0 a.length a) (hc0 : a.length ≤ c0) (h1 : Kd.C k28 w A1 a.length a) (hc1 : a.length ≤ c1) (ha : a.length ≤ 4611686018427387904) :
    Calls Try.prog 28 #[.slice A0 a.length c0, .slice A1 a.length c1] w fun e w' => e = .returned (.bool true) ∧ Below w.heap.size w w' := by
  obtain ⟨k, hk⟩ := same_refl a ha
  exact (freshetref06_SameRows.calls k A0 c0 a A1 c1 a true w h0 hc0 h1 hc1 hk).mono fun e w' ⟨h1, ⟨n, h2⟩⟩ => ⟨h1, by rw [h2]; exact pw_below_drewN (Below.refl _ _) n⟩
theorem less_asym {x y : List UInt8} (h : Op.bytesLess x y = true) : Op.bytesLess y x = false := by
  cases c : Op.bytesLess y x with
  | false => rfl
  | true => exact absurd (less_trans h c) (by rw [less_irr]; decide)
theorem bef_parts {x y : S28} (h : bef x y) : (Op.bytesLess x.f0.toList y.f0.toList = true ∧ (x.f0.toList == y.f0.toList) = false) ∨ (Op.bytesLess x.f0.toList y.f0.toList = false ∧ (x.f0.toList == y.f0.toList) = true ∧ decide (x.f1 ≤ y.f1) = false) := by
  unfold bef at h
  rw [ahead_iff] at h
  rcases h with h | ⟨h1, h2⟩
  · refine .inl ⟨h, ?_⟩
    rw [beq_eq_false_iff_ne]
    intro e
    rw [e, less_irr] at h; cases h
  · refine .inr ⟨?_, beq_iff_eq.mpr h1, decide_eq_false (by omega)⟩
    rw [h1, less_irr]
theorem sorted_at {l : List S28} (h : SortedR l) {j i : Nat} (hj : i = j + 1) (hi : i < l.length) : bef (l.getD j z28) (l.getD i z28) := by
  subst hj
  have := List.pairwise_iff_getElem.mp h j (j + 1) (by omega) hi (by omega)
  rw [List.getD_eq_getElem?_getD, List.getElem?_eq_getElem (by omega), List.getD_eq_getElem?_getD, List.getElem?_eq_getElem hi]
  exact this
theorem rot_mem {p : List S28} {k : Nat} (hk : 0 < p.length → k < p.length) (x : S28) : x ∈ ordF p (fun j => (j + k) % p.length) p.length ↔ x ∈ p := by
  by_cases h : 0 < p.length
  · exact ordF_mem (f := fun j => (j + k) % p.length) (rot_ok (hk h)).1 (rot_ok (hk h)).2.2 x
  · have e : p = [] := List.length_eq_zero_iff.mp (by omega)
    subst e
    simp [ordF]
theorem rev_mem {p : List S28} (x : S28) : x ∈ ordF p (fun j => p.length - 1 - j) p.length ↔ x ∈ p := ordF_mem (f := fun j => p.length - 1 - j) rev_ok.1 rev_ok.2.2 x
set_option maxHeartbeats 8000000 in
set_option maxRecDepth 100000 in
theorem skipAny_calls (w : World) (A0 : Option Addr) (c0 : Nat) (rows : List S28) (A1 : Option Addr) (c1 : Nat) (hs : List Int) (turn : Int) (hr0 : k28.C w A0 rows.length rows) (hc0 : rows.length ≤ c0) (hr1 : (Kd.int .i64).C w A1 hs.length hs) (hc1 : hs.length ≤ c1) (hwf : ∀ x, x ∈ rows → x.f1 ≤ 18446744073709551615) (htw : -9223372036854775808 ≤ turn ∧ turn ≤ 9223372036854775807) :
    Calls Try.prog 6 #[.slice A0 rows.length c0, .slice A1 hs.length c1, .int .i64 turn] w fun e w' => e = .returned (.bool true) ∧ Below w.heap.size w w' := by
  have HR0 := Aside0.mk hr0
  have HC0 := Aside0.mk hc0
  have HR1 := Aside0.mk hr1
  have HC1 := Aside0.mk hc1
  have HWF := Aside0.mk hwf
  have HTW := Aside0.mk htw
  clear hr0 hc0 hr1 hc1 hwf htw
  have HB := Aside0.mk (Below.refl w.heap.size w)
  by_cases c : (rows.length : Int) > 100
  · have cb : decide (100 < (rows.length : Int)) = true := decide_eq_true c
    have cb2 : decide (100 < rows.length) = true := decide_eq_true (by omega)
    clear c
    go_enter Try.func6, Try.ntmps6
    go_wp2_with fail
    refine (awake08_calls _).mono ?_
    rintro e w1 ⟨rfl, hb⟩
    have HB2 := Aside0.mk hb
    clear hb HB
    go_wp2_with fail
    go_ret
    exact ⟨rfl, HB2.out⟩
  · have CN := Aside0.mk (show rows.length ≤ 100 by omega)
    have cb : decide (100 < (rows.length : Int)) = false := decide_eq_false c
    have cb2 : decide (100 < rows.length) = false := decide_eq_false (by omega)
    clear c
    go_enter Try.func6, Try.ntmps6
    go_wp2_with (first | ((with_reducible refine gate_dst (N := 23) rfl ?_); refine box_event ?hg (N := 23) ?hd (cs := (cellsH 0 0 []).toArray) (t := 34) ?hr ?_; (case hd => rfl); (case hg => rfl); (case hr => first | (go_simp; done) | (go_simp; rfl)); intro ga hg w2 hbox hb; have n0_ := Aside0.mk (below_step HB.out hb); have n1_ := Aside0.mk (Sk.empty hbox); have GA := Aside0.mk (by rw [hg]; exact below_size HB.out : w.heap.size ≤ ga); clear HB; have HB := n0_; have SA := n1_; clear n0_ n1_; clear hb hbox hg) | ((with_reducible refine gate_dst (N := 25) rfl ?_); refine box_event ?hg (N := 25) ?hd (cs := (cellsH 0 0 []).toArray) (t := 34) ?hr ?_; (case hd => rfl); (case hg => rfl); (case hr => first | (go_simp; done) | (go_simp; rfl)); intro gb hg w3 hbox hb; have n0_ := Aside0.mk (below_step HB.out hb); have n1_ := Aside0.mk (Sk.empty hbox); have NAB := Aside0.mk (by rw [hg]; exact fun e => by have := SA.out.lt ga (fp_mem.mpr (.inl rfl)); omega : ga ≠ gb); have n2_ := Aside0.mk (SA.out.below hb); have GB := Aside0.mk (by rw [hg]; exact below_size HB.out : w.heap.size ≤ gb); clear HB SA; have HB := n0_; have SB := n1_; have SA := n2_; clear n0_ n1_ n2_; clear hb hbox hg) | ((with_reducible refine gate_dst (N := 27) rfl ?_); refine box_event ?hg (N := 27) ?hd (cs := (cellsH 0 0 []).toArray) (t := 34) ?hr ?_; (case hd => rfl); (case hg => rfl); (case hr => first | (go_simp; done) | (go_simp; rfl)); intro gc hg w4 hbox hb; have n0_ := Aside0.mk (below_step HB.out hb); have n1_ := Aside0.mk (Sk.empty hbox); have NAC := Aside0.mk (by rw [hg]; exact fun e => by have := SA.out.lt ga (fp_mem.mpr (.inl rfl)); omega : ga ≠ gc); have NBC := Aside0.mk (by rw [hg]; exact fun e => by have := SB.out.lt gb (fp_mem.mpr (.inl rfl)); omega : gb ≠ gc); have n2_ := Aside0.mk (SA.out.below hb); have n3_ := Aside0.mk (SB.out.below hb); have GC := Aside0.mk (by rw [hg]; exact below_size HB.out : w.heap.size ≤ gc); clear HB SA SB; have HB := n0_; have SC := n1_; have SA := n2_; have SB := n3_; clear n0_ n1_ n2_ n3_; clear hb hbox hg) | fail)
    have LA := Aside0.mk (show ∀ k, k ∈ fp ga [] → w.heap.size ≤ k from fun k hk => by rw [fp_mem] at hk; simp at hk; rw [hk]; exact GA.out)
    have LB := Aside0.mk (show ∀ k, k ∈ fp gb [] → w.heap.size ≤ k from fun k hk => by rw [fp_mem] at hk; simp at hk; rw [hk]; exact GB.out)
    have LC := Aside0.mk (show ∀ k, k ∈ fp gc [] → w.heap.size ≤ k from fun k hk => by rw [fp_mem] at hk; simp at hk; rw [hk]; exact GC.out)
    have PAB := Aside0.mk (show Apart (fp ga []) (fp gb []) from fun k hk hk2 => by rw [fp_mem] at hk hk2; simp at hk hk2; exact NAB.out (hk.symm.trans hk2))
    have PAC := Aside0.mk (show Apart (fp ga []) (fp gc []) from fun k hk hk2 => by rw [fp_mem] at hk hk2; simp at hk hk2; exact NAC.out (hk.symm.trans hk2))
    have PBC := Aside0.mk (show Apart (fp gb []) (fp gc []) from fun k hk hk2 => by rw [fp_mem] at hk hk2; simp at hk hk2; exact NBC.out (hk.symm.trans hk2))
    go_loopg [10, 11, 12] rows.length (fun kq v10 v11 v12 w' => ∃ (i : Nat) (ra : List Nd) (p : List S28), v11 = .int .i64 (i : Int) ∧ Aside0 (kq + i = rows.length) ∧ Aside0 (Kd.R k28 28 w' w.heap.size (fun _ => True) v10 p) ∧ Aside0 (Puts ra p) ∧ Aside0 (∀ x, x ∈ p → x ∈ rows) ∧ Aside0 (p.length ≤ i) ∧ Aside0 (Sk w' ga ra) ∧ Aside0 (Sk w' gb []) ∧ Aside0 (Sk w' gc []) ∧ Aside0 (Apart (fp ga ra) (fp gb [])) ∧ Aside0 (Apart (fp ga ra) (fp gc [])) ∧ Aside0 (∀ k, k ∈ fp ga ra → w.heap.size ≤ k) ∧ Aside0 (Below w.heap.size w w'))
    case atStart => exact ⟨0, [], [], rfl, ⟨by omega⟩, ⟨Kd.R_nil _ _ _ _ _⟩, ⟨Puts.nil⟩, ⟨fun x hx => by simp at hx⟩, ⟨Nat.le_refl _⟩, SA, SB, SC, PAB, PAC, LA, HB⟩
    case round =>
      clear SA SB SC PAB PAC LA HB
      obtain ⟨i, ra, p, rfl, HK, HO, HP, HSU, HPL, SA, SB, SC, PAB, PAC, LA, HB⟩ := hrel
      have LRA := Aside0.mk (show ra.length ≤ i by have := HP.out.len; have := HPL.out; omega)
      cases gk with
      | zero =>
        have ei : i = rows.length := by have := HK.out; omega
        subst ei
        have d0 : decide ((rows.length : Int) < (rows.length : Int)) = false := by simp
        obtain ⟨Ap, cp, hup⟩ := Kd.R_slice HO.out
        subst hup
        have HN := Aside0.mk (show p.length ≤ 100 by have := HPL.out; have := CN.out; omega)
        by_cases hn0 : p.length = 0
        · have HZ := Aside0.mk hn0
          have g1 : decide ((p.length : Int) > 0) = false := decide_eq_false (by omega)
          have g2 : decide (0 < p.length) = false := decide_eq_false (by omega)
          obtain ⟨k, hk0⟩ : ∃ k : Nat, k = 0 := ⟨0, rfl⟩
          have HKL := Aside0.mk (show 0 < p.length → k < p.length by omega)
          clear hn0 hk0
          go_wp2_with fail
          go_loopg [15] p.length (fun kq v15 w' => ∃ (i : Nat) (rb rc : List Nd), v15 = .int .i64 (i : Int) ∧ Aside0 (kq + i = p.length) ∧ Aside0 (Kd.R k28 28 w' w.heap.size (fun _ => True) (.slice Ap p.length cp) p) ∧ Aside0 (Puts rb (ordF p (fun j => p.length - 1 - j) i)) ∧ Aside0 (Puts rc (ordF p (fun j => (j + k) % p.length) i)) ∧ Aside0 (Sk w' ga ra) ∧ Aside0 (Sk w' gb rb) ∧ Aside0 (Sk w' gc rc) ∧ Aside0 (Apart (fp ga ra) (fp gb rb)) ∧ Aside0 (Apart (fp ga ra) (fp gc rc)) ∧ Aside0 (Apart (fp gb rb) (fp gc rc)) ∧ Aside0 (∀ k, k ∈ fp gb rb → w.heap.size ≤ k) ∧ Aside0 (∀ k, k ∈ fp gc rc → w.heap.size ≤ k) ∧ Aside0 (Below w.heap.size w w'))
          case atStart => exact ⟨0, [], [], rfl, ⟨by omega⟩, HO, ⟨Puts.nil⟩, ⟨Puts.nil⟩, SA, SB, SC, PAB, PAC, PBC, LB, LC, HB⟩
          case round =>
            clear SA SB SC PAB PAC LA LB LC PBC HB HO
            obtain ⟨i, rb, rc, rfl, HK, HO, HPB, HPC, SA, SB, SC, PAB, PAC, PBC, LB, LC, HB⟩ := hrel
            cases gk with
            | zero =>
              have ei : i = p.length := by have := HK.out; omega
              subst ei
              have d0 : decide ((p.length : Int) < (p.length : Int)) = false := by simp
              go_wp2_with fail
              refine (whole_calls wr ga ra SA.out (by have := HP.out.len; have := HN.out; omega)).mono ?_
              rintro e w5 ⟨v, rfl, hR, hb⟩
              rw [whole_all (rows_bound HP.out HSU.out HWF.out)] at hR
              have EB := Aside0.mk (show rowsN rb = rowsN ra from (rows_same SA.out SB.out HP.out HPB.out rev_mem).symm)
              have EC := Aside0.mk (show rowsN rc = rowsN ra from (rows_same SA.out SC.out HP.out HPC.out (rot_mem HKL.out)).symm)
              have WB := Aside0.mk (rows_bound HPB.out (fun x hx => HSU.out x ((rev_mem x).mp hx)) HWF.out)
              have WC := Aside0.mk (rows_bound HPC.out (fun x hx => HSU.out x ((rot_mem HKL.out x).mp hx)) HWF.out)
              have NB := Aside0.mk (show rb.length ≤ 1000000 from by have := HPB.out.len; have := HN.out; simp only [ordF, List.length_map, List.length_range] at *; omega)
              have NC := Aside0.mk (show rc.length ≤ 1000000 from by have := HPC.out.len; have := HN.out; simp only [ordF, List.length_map, List.length_range] at *; omega)
              have EL := Aside0.mk (show (rowsN ra).length = p.length by rw [rowsN, List.length_map]; exact HP.out.len)
              have HS := Aside0.mk SA.out.sorted
              have n0_ := Aside0.mk (below_step HB.out hb)
              have n1_ := Aside0.mk (SB.out.below hb)
              have n2_ := Aside0.mk (SC.out.below hb)
              clear SA SB SC PAB PAC PBC LB LC HB HO HP HPB HPC hb
              have HB := n0_
              have SB := n1_
              have SC := n2_
              clear n0_ n1_ n2_
              obtain ⟨L, hL⟩ : ∃ L, L = rowsN ra := ⟨_, rfl⟩
              rw [← hL] at hR EB EC EL HS
              clear hL
              obtain ⟨Al, cl, hv⟩ := Kd.R_slice hR
              subst hv
              have HL := Aside0.mk (Kd.R_reads' hR).2.2
              have HLc := Aside0.mk (Kd.R_reads' hR).2.1
              clear hR
              have HM := Aside0.mk (show L.length ≤ 100 by have := EL.out; have := HN.out; omega)
              go_wp2_with fail
              go_loopg [17] L.length (fun kq v17 w' => ∃ (i j m : Nat), v17 = .int .i64 (i : Int) ∧ Aside0 (i = j + 1) ∧ Aside0 (kq + i = L.length + 1) ∧ w' = w5.drewN m)
              case atStart => exact ⟨1, 0, 0, rfl, ⟨rfl⟩, ⟨by omega⟩, rfl⟩
              case round =>
                obtain ⟨i, j, m, rfl, HJ, HK, rfl⟩ := hrel
                by_cases hi : i < L.length
                · cases gk with
                  | zero => exact absurd HK.out (by omega)
                  | succ q =>
                    have d0 : decide ((i : Int) < (L.length : Int)) = true := decide_eq_true (by omega)
                    have d1 : decide (i < L.length) = true := decide_eq_true hi
                    have hij : True → (i : Int) - 1 = (j : Int) := fun _ => by have := HJ.out; omega
                    have wj : True → wrap64 (j : Int) = (j : Int) := fun _ => by have := HJ.out; have := HM.out; unfold wrap64; omega
                    have wj2 : True → IntKind.i64.wrap (j : Int) = (j : Int) := fun _ => by have := HJ.out; have := HM.out; rw [IntKind.wrap_i64]; omega
                    have wi2 : True → IntKind.i64.wrap (i : Int) = (i : Int) := fun _ => by have := HM.out; rw [IntKind.wrap_i64]; omega
                    have p0 : 0 ≤ (i : Int) := Int.natCast_nonneg _
                    have p1 : (i : Int) < (L.length : Int) := Int.ofNat_lt.mpr hi
                    have p2 : 0 ≤ (j : Int) := Int.natCast_nonneg _
                    have p3 : (j : Int) < (L.length : Int) := by have := HJ.out; omega
                    have hj : j < L.length := by omega
                    have hb := sorted_at HS.out HJ.out hi
                    obtain ⟨ad, x, ea, hxx, hx0, hx1, hx2, hx3⟩ := at_row HL.out j hj
                    cases ea
                    obtain ⟨ad', y, ea', hyy, hy0, hy1, hy2, hy3⟩ := at_row HL.out i hi
                    cases ea'
                    rw [hxx, hyy] at hb
                    clear hxx hyy hx2 hx3 hy2 hy3 hj
                    rcases bef_parts hb with ⟨q1, q2⟩ | ⟨q1, q2, q3⟩
                    · clear hb
                      go_wp2_with fail
                      go_quiet (fail)
                      go_wp2_with fail
                      have hi100 := HM.out
                      have ew : wrap64 ((i : Int) + 1) = ((i + 1 : Nat) : Int) := by unfold wrap64; omega
                      try rw [ew]
                      go_roundg q
                      case measure => omega
                      case rel => exact ⟨i + 1, i, m + nq, rfl, ⟨rfl⟩, ⟨by have := HK.out; omega⟩, rfl⟩
                    · clear hb
                      go_wp2_with fail
                      go_quiet (fail)
                      go_wp2_with fail
                      have hi100 := HM.out
                      have ew : wrap64 ((i : Int) + 1) = ((i + 1 : Nat) : Int) := by unfold wrap64; omega
                      try rw [ew]
                      go_roundg q
                      case measure => omega
                      case rel => exact ⟨i + 1, i, m + nq, rfl, ⟨rfl⟩, ⟨by have := HK.out; omega⟩, rfl⟩
                · have d0 : decide ((i : Int) < (L.length : Int)) = false := decide_eq_false (by omega)
                  have d1 : decide (i < L.length) = false := decide_eq_false hi
                  have e0 : True → (L.length : Int) = (p.length : Int) := fun _ => by have := EL.out; omega
                  have hip : ¬ i < p.length := by have := EL.out; omega
                  have d2 : decide ((i : Int) < (p.length : Int)) = false := decide_eq_false (by omega)
                  have d3 : decide (i < p.length) = false := decide_eq_false hip
                  clear hip
                  have NL := Aside0.mk (show L.length ≤ 4611686018427387904 by have := HM.out; omega)
                  have HLm := Aside0.mk (Kd.C_drewN HL.out m)
                  have n0_ := Aside0.mk (pw_below_drewN HB.out m)
                  have n1_ := Aside0.mk (SB.out.below (pw_below_drewN (Below.refl _ _) m))
                  have n2_ := Aside0.mk (SC.out.below (pw_below_drewN (Below.refl _ _) m))
                  clear HB SB SC HL HJ HK
                  generalize w5.drewN m = w6 at *
                  clear j
                  go_wp2_with fail
                  refine (whole_calls w6 gb rb n1_.out NB.out).mono ?_
                  rintro e w7 ⟨v, rfl, hR, hb⟩
                  rw [whole_all WB.out, EB.out] at hR
                  obtain ⟨A2, c2, hv⟩ := Kd.R_slice hR
                  subst hv
                  have H2 := Aside0.mk (Kd.R_reads' hR).2
                  have m0_ := Aside0.mk (below_step n0_.out hb)
                  have m2_ := Aside0.mk (n2_.out.below hb)
                  have HL7 := Aside0.mk (Kd.C_below HLm.out hb)
                  clear n0_ n1_ n2_ HLm hR hb
                  go_wp2_with fail
                  refine (same_true w7 Al cl A2 c2 L HL7.out HLc.out H2.out.2 H2.out.1 NL.out).mono ?_
                  rintro e w8 ⟨rfl, hb⟩
                  have n0_ := Aside0.mk (below_step m0_.out hb)
                  have n2_ := Aside0.mk (m2_.out.below hb)
                  have HL8 := Aside0.mk (Kd.C_below HL7.out hb)
                  clear m0_ m2_ HL7 H2 hb
                  go_wp2_with fail
                  refine (whole_calls w8 gc rc n2_.out NC.out).mono ?_
                  rintro e w9 ⟨v, rfl, hR, hb⟩
                  rw [whole_all WC.out, EC.out] at hR
                  obtain ⟨A3, c3, hv⟩ := Kd.R_slice hR
                  subst hv
                  have H3 := Aside0.mk (Kd.R_reads' hR).2
                  have m0_ := Aside0.mk (below_step n0_.out hb)
                  have HL9 := Aside0.mk (Kd.C_below HL8.out hb)
                  clear n0_ n2_ HL8 hR hb
                  go_wp2_with fail
                  refine (same_true w9 Al cl A3 c3 L HL9.out HLc.out H3.out.2 H3.out.1 NL.out).mono ?_
                  rintro e w10 ⟨rfl, hb⟩
                  have n0_ := Aside0.mk (below_step m0_.out hb)
                  clear m0_ HL9 H3 hb
                  go_wp2_with fail
                  refine (awake08_calls _).mono ?_
                  rintro e w11 ⟨rfl, hb⟩
                  have m0_ := Aside0.mk (below_step n0_.out hb)
                  clear n0_ hb
                  go_wp2_with fail
                  go_ret
                  exact ⟨rfl, m0_.out⟩
            | succ q =>
              exact absurd HK.out (by have := HZ.out; omega)
        · have hnp : 0 < p.length := by omega
          have g1 : decide ((p.length : Int) > 0) = true := decide_eq_true (by omega)
          have g2 : decide (0 < p.length) = true := decide_eq_true hnp
          have g3 : ¬ ((p.length : Int) = 0) := by omega
          have g4 : ¬ ((p.length : Int) = -1) := by omega
          have hl1 : -((p.length : Nat) : Int) < turn.tmod (p.length : Int) ∧ turn.tmod (p.length : Int) < (p.length : Int) := by
            have h2 := Int.tmod_lt_of_pos turn (show 0 < (p.length : Int) by omega)
            have h3 := Int.lt_tmod_of_pos turn (show 0 < (p.length : Int) by omega)
            omega
          by_cases hneg : turn.tmod (p.length : Int) < 0
          · obtain ⟨k, hkt⟩ : ∃ k : Nat, turn.tmod (p.length : Int) = (k : Int) - (p.length : Int) := ⟨(turn.tmod (p.length : Int) + (p.length : Int)).toNat, by omega⟩
            have hkl : k < p.length := by omega
            have HKL := Aside0.mk (show 0 < p.length → k < p.length from fun _ => hkl)
            have g5 : decide ((k : Int) - (p.length : Int) < 0) = true := decide_eq_true (by omega)
            have g6 : wrap64 ((k : Int) - (p.length : Int) + (p.length : Int)) = (k : Int) := by have := HN.out; unfold wrap64; omega
            have g7 : (k : Int) - (p.length : Int) < 0 := by omega
            have g8 : wrap64 (k : Int) = (k : Int) := by have := HN.out; unfold wrap64; omega
            clear hneg hl1 hn0 hkl hnp
            go_wp2_with fail
            try rw [g8]
            clear hkt g5 g6 g7 g8
            go_loopg [15] p.length (fun kq v15 w' => ∃ (i : Nat) (rb rc : List Nd), v15 = .int .i64 (i : Int) ∧ Aside0 (kq + i = p.length) ∧ Aside0 (Kd.R k28 28 w' w.heap.size (fun _ => True) (.slice Ap p.length cp) p) ∧ Aside0 (Puts rb (ordF p (fun j => p.length - 1 - j) i)) ∧ Aside0 (Puts rc (ordF p (fun j => (j + k) % p.length) i)) ∧ Aside0 (Sk w' ga ra) ∧ Aside0 (Sk w' gb rb) ∧ Aside0 (Sk w' gc rc) ∧ Aside0 (Apart (fp ga ra) (fp gb rb)) ∧ Aside0 (Apart (fp ga ra) (fp gc rc)) ∧ Aside0 (Apart (fp gb rb) (fp gc rc)) ∧ Aside0 (∀ k, k ∈ fp gb rb → w.heap.size ≤ k) ∧ Aside0 (∀ k, k ∈ fp gc rc → w.heap.size ≤ k) ∧ Aside0 (Below w.heap.size w w'))
            case atStart => exact ⟨0, [], [], rfl, ⟨by omega⟩, HO, ⟨Puts.nil⟩, ⟨Puts.nil⟩, SA, SB, SC, PAB, PAC, PBC, LB, LC, HB⟩
            case round =>
              clear SA SB SC PAB PAC LA LB LC PBC HB HO
              obtain ⟨i, rb, rc, rfl, HK, HO, HPB, HPC, SA, SB, SC, PAB, PAC, PBC, LB, LC, HB⟩ := hrel
              cases gk with
              | zero =>
                have ei : i = p.length := by have := HK.out; omega
                subst ei
                have d0 : decide ((p.length : Int) < (p.length : Int)) = false := by simp
                go_wp2_with fail
                refine (whole_calls wr ga ra SA.out (by have := HP.out.len; have := HN.out; omega)).mono ?_
                rintro e w5 ⟨v, rfl, hR, hb⟩
                rw [whole_all (rows_bound HP.out HSU.out HWF.out)] at hR
                have EB := Aside0.mk (show rowsN rb = rowsN ra from (rows_same SA.out SB.out HP.out HPB.out rev_mem).symm)
                have EC := Aside0.mk (show rowsN rc = rowsN ra from (rows_same SA.out SC.out HP.out HPC.out (rot_mem HKL.out)).symm)
                have WB := Aside0.mk (rows_bound HPB.out (fun x hx => HSU.out x ((rev_mem x).mp hx)) HWF.out)
                have WC := Aside0.mk (rows_bound HPC.out (fun x hx => HSU.out x ((rot_mem HKL.out x).mp hx)) HWF.out)
                have NB := Aside0.mk (show rb.length ≤ 1000000 from by have := HPB.out.len; have := HN.out; simp only [ordF, List.length_map, List.length_range] at *; omega)
                have NC := Aside0.mk (show rc.length ≤ 1000000 from by have := HPC.out.len; have := HN.out; simp only [ordF, List.length_map, List.length_range] at *; omega)
                have EL := Aside0.mk (show (rowsN ra).length = p.length by rw [rowsN, List.length_map]; exact HP.out.len)
                have HS := Aside0.mk SA.out.sorted
                have n0_ := Aside0.mk (below_step HB.out hb)
                have n1_ := Aside0.mk (SB.out.below hb)
                have n2_ := Aside0.mk (SC.out.below hb)
                clear SA SB SC PAB PAC PBC LB LC HB HO HP HPB HPC hb
                have HB := n0_
                have SB := n1_
                have SC := n2_
                clear n0_ n1_ n2_
                obtain ⟨L, hL⟩ : ∃ L, L = rowsN ra := ⟨_, rfl⟩
                rw [← hL] at hR EB EC EL HS
                clear hL
                obtain ⟨Al, cl, hv⟩ := Kd.R_slice hR
                subst hv
                have HL := Aside0.mk (Kd.R_reads' hR).2.2
                have HLc := Aside0.mk (Kd.R_reads' hR).2.1
                clear hR
                have HM := Aside0.mk (show L.length ≤ 100 by have := EL.out; have := HN.out; omega)
                go_wp2_with fail
                go_loopg [17] L.length (fun kq v17 w' => ∃ (i j m : Nat), v17 = .int .i64 (i : Int) ∧ Aside0 (i = j + 1) ∧ Aside0 (kq + i = L.length + 1) ∧ w' = w5.drewN m)
                case atStart => exact ⟨1, 0, 0, rfl, ⟨rfl⟩, ⟨by omega⟩, rfl⟩
                case round =>
                  obtain ⟨i, j, m, rfl, HJ, HK, rfl⟩ := hrel
                  by_cases hi : i < L.length
                  · cases gk with
                    | zero => exact absurd HK.out (by omega)
                    | succ q =>
                      have d0 : decide ((i : Int) < (L.length : Int)) = true := decide_eq_true (by omega)
                      have d1 : decide (i < L.length) = true := decide_eq_true hi
                      have hij : True → (i : Int) - 1 = (j : Int) := fun _ => by have := HJ.out; omega
                      have wj : True → wrap64 (j : Int) = (j : Int) := fun _ => by have := HJ.out; have := HM.out; unfold wrap64; omega
                      have wj2 : True → IntKind.i64.wrap (j : Int) = (j : Int) := fun _ => by have := HJ.out; have := HM.out; rw [IntKind.wrap_i64]; omega
                      have wi2 : True → IntKind.i64.wrap (i : Int) = (i : Int) := fun _ => by have := HM.out; rw [IntKind.wrap_i64]; omega
                      have p0 : 0 ≤ (i : Int) := Int.natCast_nonneg _
                      have p1 : (i : Int) < (L.length : Int) := Int.ofNat_lt.mpr hi
                      have p2 : 0 ≤ (j : Int) := Int.natCast_nonneg _
                      have p3 : (j : Int) < (L.length : Int) := by have := HJ.out; omega
                      have hj : j < L.length := by omega
                      have hb := sorted_at HS.out HJ.out hi
                      obtain ⟨ad, x, ea, hxx, hx0, hx1, hx2, hx3⟩ := at_row HL.out j hj
                      cases ea
                      obtain ⟨ad', y, ea', hyy, hy0, hy1, hy2, hy3⟩ := at_row HL.out i hi
                      cases ea'
                      rw [hxx, hyy] at hb
                      clear hxx hyy hx2 hx3 hy2 hy3 hj
                      rcases bef_parts hb with ⟨q1, q2⟩ | ⟨q1, q2, q3⟩
                      · clear hb
                        go_wp2_with fail
                        go_quiet (fail)
                        go_wp2_with fail
                        have hi100 := HM.out
                        have ew : wrap64 ((i : Int) + 1) = ((i + 1 : Nat) : Int) := by unfold wrap64; omega
                        try rw [ew]
                        go_roundg q
                        case measure => omega
                        case rel => exact ⟨i + 1, i, m + nq, rfl, ⟨rfl⟩, ⟨by have := HK.out; omega⟩, rfl⟩
                      · clear hb
                        go_wp2_with fail
                        go_quiet (fail)
                        go_wp2_with fail
                        have hi100 := HM.out
                        have ew : wrap64 ((i : Int) + 1) = ((i + 1 : Nat) : Int) := by unfold wrap64; omega
                        try rw [ew]
                        go_roundg q
                        case measure => omega
                        case rel => exact ⟨i + 1, i, m + nq, rfl, ⟨rfl⟩, ⟨by have := HK.out; omega⟩, rfl⟩
                  · have d0 : decide ((i : Int) < (L.length : Int)) = false := decide_eq_false (by omega)
                    have d1 : decide (i < L.length) = false := decide_eq_false hi
                    have e0 : True → (L.length : Int) = (p.length : Int) := fun _ => by have := EL.out; omega
                    have hip : ¬ i < p.length := by have := EL.out; omega
                    have d2 : decide ((i : Int) < (p.length : Int)) = false := decide_eq_false (by omega)
                    have d3 : decide (i < p.length) = false := decide_eq_false hip
                    clear hip
                    have NL := Aside0.mk (show L.length ≤ 4611686018427387904 by have := HM.out; omega)
                    have HLm := Aside0.mk (Kd.C_drewN HL.out m)
                    have n0_ := Aside0.mk (pw_below_drewN HB.out m)
                    have n1_ := Aside0.mk (SB.out.below (pw_below_drewN (Below.refl _ _) m))
                    have n2_ := Aside0.mk (SC.out.below (pw_below_drewN (Below.refl _ _) m))
                    clear HB SB SC HL HJ HK
                    generalize w5.drewN m = w6 at *
                    clear j
                    go_wp2_with fail
                    refine (whole_calls w6 gb rb n1_.out NB.out).mono ?_
                    rintro e w7 ⟨v, rfl, hR, hb⟩
                    rw [whole_all WB.out, EB.out] at hR
                    obtain ⟨A2, c2, hv⟩ := Kd.R_slice hR
                    subst hv
                    have H2 := Aside0.mk (Kd.R_reads' hR).2
                    have m0_ := Aside0.mk (below_step n0_.out hb)
                    have m2_ := Aside0.mk (n2_.out.below hb)
                    have HL7 := Aside0.mk (Kd.C_below HLm.out hb)
                    clear n0_ n1_ n2_ HLm hR hb
                    go_wp2_with fail
                    refine (same_true w7 Al cl A2 c2 L HL7.out HLc.out H2.out.2 H2.out.1 NL.out).mono ?_
                    rintro e w8 ⟨rfl, hb⟩
                    have n0_ := Aside0.mk (below_step m0_.out hb)
                    have n2_ := Aside0.mk (m2_.out.below hb)
                    have HL8 := Aside0.mk (Kd.C_below HL7.out hb)
                    clear m0_ m2_ HL7 H2 hb
                    go_wp2_with fail
                    refine (whole_calls w8 gc rc n2_.out NC.out).mono ?_
                    rintro e w9 ⟨v, rfl, hR, hb⟩
                    rw [whole_all WC.out, EC.out] at hR
                    obtain ⟨A3, c3, hv⟩ := Kd.R_slice hR
                    subst hv
                    have H3 := Aside0.mk (Kd.R_reads' hR).2
                    have m0_ := Aside0.mk (below_step n0_.out hb)
                    have HL9 := Aside0.mk (Kd.C_below HL8.out hb)
                    clear n0_ n2_ HL8 hR hb
                    go_wp2_with fail
                    refine (same_true w9 Al cl A3 c3 L HL9.out HLc.out H3.out.2 H3.out.1 NL.out).mono ?_
                    rintro e w10 ⟨rfl, hb⟩
                    have n0_ := Aside0.mk (below_step m0_.out hb)
                    clear m0_ HL9 H3 hb
                    go_wp2_with fail
                    refine (awake08_calls _).mono ?_
                    rintro e w11 ⟨rfl, hb⟩
                    have m0_ := Aside0.mk (below_step n0_.out hb)
                    clear n0_ hb
                    go_wp2_with fail
                    go_ret
                    exact ⟨rfl, m0_.out⟩
              | succ q =>
                have hi : i < p.length := by have := HK.out; omega
                have d0 : decide ((i : Int) < (p.length : Int)) = true := decide_eq_true (by omega)
                have d1 : decide (i < p.length) = true := decide_eq_true hi
                have hp100 := HN.out
                have hkp : k < p.length := HKL.out (by omega)
                obtain ⟨na, jb, m, jc, hna, hjb, hm, hjc, hjd, ejb, ejc, w1_, w2_, w3_, w4_, hjbl, hjcl⟩ := idxs hi hkp hp100
                have n1_ : ¬ ((p.length : Int) = 0) := by omega
                have n2_ : ¬ ((p.length : Int) = -1) := by omega
                have hC := (Kd.R_reads' HO.out).2.2
                have HJB := Aside0.mk hjbl
                have HJC := Aside0.mk hjcl
                have HKP := Aside0.mk hkp
                clear hjbl hjcl hkp
                obtain ⟨ad, r, ea, hrr, hx0, hx1, hx2, hx3⟩ := at_row hC jb HJB.out
                cases ea
                have pb0 : 0 ≤ (jb : Int) := Int.natCast_nonneg _
                have pb1 : (jb : Int) < (p.length : Int) := Int.ofNat_lt.mpr HJB.out
                have pc0 : 0 ≤ (jc : Int) := Int.natCast_nonneg _
                have pc1 : (jc : Int) < (p.length : Int) := Int.ofNat_lt.mpr HJC.out
                have FB := Aside0.mk (show takenR r (rowsN rb) = false by
                  rw [← hrr, ejb.out]
                  exact ordF_free (f := fun j => p.length - 1 - j) HP.out.apart rev_ok.1 rev_ok.2.1 hi HPB.out)
                have EB := Aside0.mk (show ordF p (fun j => p.length - 1 - j) (i + 1) = ordF p (fun j => p.length - 1 - j) i ++ [r] by rw [ordF_succ, ← ejb.out, hrr])
                clear hrr hC hp100 ejb
                go_wp2_with fail
                refine (put_val wr gb rb r 1 SB.out (ord_len HPB.out (Nat.le_of_lt hi) HN.out)).mono ?_
                rw [taken_rowsN, FB.out]
                rintro e w1 ⟨rfl, rb', hp⟩
                have n0_ := Aside0.mk (hp.low HB.out HB.out.size LB.out)
                have n1_ := Aside0.mk (hp.other SA.out PAB.out.symm)
                have n2_ := Aside0.mk (hp.other SC.out PBC.out)
                have n3_ := Aside0.mk hp.sk
                have n4_ := Aside0.mk (R_put HO.out SB.out hp)
                have n5_ := Aside0.mk (show Puts rb' (ordF p (fun j => p.length - 1 - j) (i + 1)) by rw [EB.out]; exact HPB.out.snoc SB.out hp FB.out)
                rw [show (!false) = true from rfl]
                clear SA SB SC PAB PBC LB HB hp hx0 hx1 hx2 hx3 HO HPB FB EB
                have SB := n3_
                have SA := Aside0.mk n1_.out.1
                have SC := Aside0.mk n2_.out.1
                have PAB := Aside0.mk n1_.out.2.symm
                have PBC := Aside0.mk n2_.out.2
                have LB := Aside0.mk n0_.out.2
                have HB := Aside0.mk n0_.out.1
                have HO := n4_
                have HPB := n5_
                clear n0_ n1_ n2_ n3_ n4_ n5_
                have hC := (Kd.R_reads' HO.out).2.2
                obtain ⟨ad', r', ea', hrr', hx0, hx1, hx2, hx3⟩ := at_row hC jc HJC.out
                cases ea'
                have FC := Aside0.mk (show takenR r' (rowsN rc) = false by
                  rw [← hrr', ejc.out]
                  exact ordF_free (f := fun j => (j + k) % p.length) HP.out.apart (rot_ok HKP.out).1 (rot_ok HKP.out).2.1 hi HPC.out)
                have EC := Aside0.mk (show ordF p (fun j => (j + k) % p.length) (i + 1) = ordF p (fun j => (j + k) % p.length) i ++ [r'] by rw [ordF_succ, ← ejc.out, hrr'])
                clear hrr' hC ejc
                go_wp2_with fail
                refine (put_val w1 gc rc r' 12 SC.out (ord_len HPC.out (Nat.le_of_lt hi) HN.out)).mono ?_
                rw [taken_rowsN, FC.out]
                rintro e w2 ⟨rfl, rc', hp⟩
                have n0_ := Aside0.mk (hp.low HB.out HB.out.size LC.out)
                have n1_ := Aside0.mk (hp.other SA.out PAC.out.symm)
                have n2_ := Aside0.mk (hp.other SB.out PBC.out.symm)
                have n3_ := Aside0.mk hp.sk
                have n4_ := Aside0.mk (R_put HO.out SC.out hp)
                have n5_ := Aside0.mk (show Puts rc' (ordF p (fun j => (j + k) % p.length) (i + 1)) by rw [EC.out]; exact HPC.out.snoc SC.out hp FC.out)
                rw [show (!false) = true from rfl]
                clear SA SB SC PAC PBC LC HB hp hx0 hx1 hx2 hx3 HO HPC FC EC
                have SC := n3_
                have SA := Aside0.mk n1_.out.1
                have SB := Aside0.mk n2_.out.1
                have PAC := Aside0.mk n1_.out.2.symm
                have PBC := Aside0.mk n2_.out.2.symm
                have LC := Aside0.mk n0_.out.2
                have HB := Aside0.mk n0_.out.1
                have HO := n4_
                have HPC := n5_
                clear n0_ n1_ n2_ n3_ n4_ n5_
                clear w1_ w2_ w3_ w4_ hna hjb hm hjc hjd
                go_wp2_with fail
                have hi100 := HN.out
                have ew : wrap64 ((i : Int) + 1) = ((i + 1 : Nat) : Int) := by unfold wrap64; omega
                try rw [ew]
                go_roundg q
                case measure => omega
                case rel => exact ⟨i + 1, rb', rc', rfl, ⟨by have := HK.out; omega⟩, HO, HPB, HPC, SA, SB, SC, PAB, PAC, PBC, LB, LC, HB⟩
          · obtain ⟨k, hkt⟩ : ∃ k : Nat, turn.tmod (p.length : Int) = (k : Int) := ⟨(turn.tmod (p.length : Int)).toNat, by omega⟩
            have hkl : k < p.length := by omega
            have HKL := Aside0.mk (show 0 < p.length → k < p.length from fun _ => hkl)
            have g5 : decide ((k : Int) < 0) = false := decide_eq_false (by omega)
            clear hneg hl1 hn0 hkl hnp
            go_wp2_with fail
            clear hkt g5
            go_loopg [15] p.length (fun kq v15 w' => ∃ (i : Nat) (rb rc : List Nd), v15 = .int .i64 (i : Int) ∧ Aside0 (kq + i = p.length) ∧ Aside0 (Kd.R k28 28 w' w.heap.size (fun _ => True) (.slice Ap p.length cp) p) ∧ Aside0 (Puts rb (ordF p (fun j => p.length - 1 - j) i)) ∧ Aside0 (Puts rc (ordF p (fun j => (j + k) % p.length) i)) ∧ Aside0 (Sk w' ga ra) ∧ Aside0 (Sk w' gb rb) ∧ Aside0 (Sk w' gc rc) ∧ Aside0 (Apart (fp ga ra) (fp gb rb)) ∧ Aside0 (Apart (fp ga ra) (fp gc rc)) ∧ Aside0 (Apart (fp gb rb) (fp gc rc)) ∧ Aside0 (∀ k, k ∈ fp gb rb → w.heap.size ≤ k) ∧ Aside0 (∀ k, k ∈ fp gc rc → w.heap.size ≤ k) ∧ Aside0 (Below w.heap.size w w'))
            case atStart => exact ⟨0, [], [], rfl, ⟨by omega⟩, HO, ⟨Puts.nil⟩, ⟨Puts.nil⟩, SA, SB, SC, PAB, PAC, PBC, LB, LC, HB⟩
            case round =>
              clear SA SB SC PAB PAC LA LB LC PBC HB HO
              obtain ⟨i, rb, rc, rfl, HK, HO, HPB, HPC, SA, SB, SC, PAB, PAC, PBC, LB, LC, HB⟩ := hrel
              cases gk with
              | zero =>
                have ei : i = p.length := by have := HK.out; omega
                subst ei
                have d0 : decide ((p.length : Int) < (p.length : Int)) = false := by simp
                go_wp2_with fail
                refine (whole_calls wr ga ra SA.out (by have := HP.out.len; have := HN.out; omega)).mono ?_
                rintro e w5 ⟨v, rfl, hR, hb⟩
                rw [whole_all (rows_bound HP.out HSU.out HWF.out)] at hR
                have EB := Aside0.mk (show rowsN rb = rowsN ra from (rows_same SA.out SB.out HP.out HPB.out rev_mem).symm)
                have EC := Aside0.mk (show rowsN rc = rowsN ra from (rows_same SA.out SC.out HP.out HPC.out (rot_mem HKL.out)).symm)
                have WB := Aside0.mk (rows_bound HPB.out (fun x hx => HSU.out x ((rev_mem x).mp hx)) HWF.out)
                have WC := Aside0.mk (rows_bound HPC.out (fun x hx => HSU.out x ((rot_mem HKL.out x).mp hx)) HWF.out)
                have NB := Aside0.mk (show rb.length ≤ 1000000 from by have := HPB.out.len; have := HN.out; simp only [ordF, List.length_map, List.length_range] at *; omega)
                have NC := Aside0.mk (show rc.length ≤ 1000000 from by have := HPC.out.len; have := HN.out; simp only [ordF, List.length_map, List.length_range] at *; omega)
                have EL := Aside0.mk (show (rowsN ra).length = p.length by rw [rowsN, List.length_map]; exact HP.out.len)
                have HS := Aside0.mk SA.out.sorted
                have n0_ := Aside0.mk (below_step HB.out hb)
                have n1_ := Aside0.mk (SB.out.below hb)
                have n2_ := Aside0.mk (SC.out.below hb)
                clear SA SB SC PAB PAC PBC LB LC HB HO HP HPB HPC hb
                have HB := n0_
                have SB := n1_
                have SC := n2_
                clear n0_ n1_ n2_
                obtain ⟨L, hL⟩ : ∃ L, L = rowsN ra := ⟨_, rfl⟩
                rw [← hL] at hR EB EC EL HS
                clear hL
                obtain ⟨Al, cl, hv⟩ := Kd.R_slice hR
                subst hv
                have HL := Aside0.mk (Kd.R_reads' hR).2.2
                have HLc := Aside0.mk (Kd.R_reads' hR).2.1
                clear hR
                have HM := Aside0.mk (show L.length ≤ 100 by have := EL.out; have := HN.out; omega)
                go_wp2_with fail
                go_loopg [17] L.length (fun kq v17 w' => ∃ (i j m : Nat), v17 = .int .i64 (i : Int) ∧ Aside0 (i = j + 1) ∧ Aside0 (kq + i = L.length + 1) ∧ w' = w5.drewN m)
                case atStart => exact ⟨1, 0, 0, rfl, ⟨rfl⟩, ⟨by omega⟩, rfl⟩
                case round =>
                  obtain ⟨i, j, m, rfl, HJ, HK, rfl⟩ := hrel
                  by_cases hi : i < L.length
                  · cases gk with
                    | zero => exact absurd HK.out (by omega)
                    | succ q =>
                      have d0 : decide ((i : Int) < (L.length : Int)) = true := decide_eq_true (by omega)
                      have d1 : decide (i < L.length) = true := decide_eq_true hi
                      have hij : True → (i : Int) - 1 = (j : Int) := fun _ => by have := HJ.out; omega
                      have wj : True → wrap64 (j : Int) = (j : Int) := fun _ => by have := HJ.out; have := HM.out; unfold wrap64; omega
                      have wj2 : True → IntKind.i64.wrap (j : Int) = (j : Int) := fun _ => by have := HJ.out; have := HM.out; rw [IntKind.wrap_i64]; omega
                      have wi2 : True → IntKind.i64.wrap (i : Int) = (i : Int) := fun _ => by have := HM.out; rw [IntKind.wrap_i64]; omega
                      have p0 : 0 ≤ (i : Int) := Int.natCast_nonneg _
                      have p1 : (i : Int) < (L.length : Int) := Int.ofNat_lt.mpr hi
                      have p2 : 0 ≤ (j : Int) := Int.natCast_nonneg _
                      have p3 : (j : Int) < (L.length : Int) := by have := HJ.out; omega
                      have hj : j < L.length := by omega
                      have hb := sorted_at HS.out HJ.out hi
                      obtain ⟨ad, x, ea, hxx, hx0, hx1, hx2, hx3⟩ := at_row HL.out j hj
                      cases ea
                      obtain ⟨ad', y, ea', hyy, hy0, hy1, hy2, hy3⟩ := at_row HL.out i hi
                      cases ea'
                      rw [hxx, hyy] at hb
                      clear hxx hyy hx2 hx3 hy2 hy3 hj
                      rcases bef_parts hb with ⟨q1, q2⟩ | ⟨q1, q2, q3⟩
                      · clear hb
                        go_wp2_with fail
                        go_quiet (fail)
                        go_wp2_with fail
                        have hi100 := HM.out
                        have ew : wrap64 ((i : Int) + 1) = ((i + 1 : Nat) : Int) := by unfold wrap64; omega
                        try rw [ew]
                        go_roundg q
                        case measure => omega
                        case rel => exact ⟨i + 1, i, m + nq, rfl, ⟨rfl⟩, ⟨by have := HK.out; omega⟩, rfl⟩
                      · clear hb
                        go_wp2_with fail
                        go_quiet (fail)
                        go_wp2_with fail
                        have hi100 := HM.out
                        have ew : wrap64 ((i : Int) + 1) = ((i + 1 : Nat) : Int) := by unfold wrap64; omega
                        try rw [ew]
                        go_roundg q
                        case measure => omega
                        case rel => exact ⟨i + 1, i, m + nq, rfl, ⟨rfl⟩, ⟨by have := HK.out; omega⟩, rfl⟩
                  · have d0 : decide ((i : Int) < (L.length : Int)) = false := decide_eq_false (by omega)
                    have d1 : decide (i < L.length) = false := decide_eq_false hi
                    have e0 : True → (L.length : Int) = (p.length : Int) := fun _ => by have := EL.out; omega
                    have hip : ¬ i < p.length := by have := EL.out; omega
                    have d2 : decide ((i : Int) < (p.length : Int)) = false := decide_eq_false (by omega)
                    have d3 : decide (i < p.length) = false := decide_eq_false hip
                    clear hip
                    have NL := Aside0.mk (show L.length ≤ 4611686018427387904 by have := HM.out; omega)
                    have HLm := Aside0.mk (Kd.C_drewN HL.out m)
                    have n0_ := Aside0.mk (pw_below_drewN HB.out m)
                    have n1_ := Aside0.mk (SB.out.below (pw_below_drewN (Below.refl _ _) m))
                    have n2_ := Aside0.mk (SC.out.below (pw_below_drewN (Below.refl _ _) m))
                    clear HB SB SC HL HJ HK
                    generalize w5.drewN m = w6 at *
                    clear j
                    go_wp2_with fail
                    refine (whole_calls w6 gb rb n1_.out NB.out).mono ?_
                    rintro e w7 ⟨v, rfl, hR, hb⟩
                    rw [whole_all WB.out, EB.out] at hR
                    obtain ⟨A2, c2, hv⟩ := Kd.R_slice hR
                    subst hv
                    have H2 := Aside0.mk (Kd.R_reads' hR).2
                    have m0_ := Aside0.mk (below_step n0_.out hb)
                    have m2_ := Aside0.mk (n2_.out.below hb)
                    have HL7 := Aside0.mk (Kd.C_below HLm.out hb)
                    clear n0_ n1_ n2_ HLm hR hb
                    go_wp2_with fail
                    refine (same_true w7 Al cl A2 c2 L HL7.out HLc.out H2.out.2 H2.out.1 NL.out).mono ?_
                    rintro e w8 ⟨rfl, hb⟩
                    have n0_ := Aside0.mk (below_step m0_.out hb)
                    have n2_ := Aside0.mk (m2_.out.below hb)
                    have HL8 := Aside0.mk (Kd.C_below HL7.out hb)
                    clear m0_ m2_ HL7 H2 hb
                    go_wp2_with fail
                    refine (whole_calls w8 gc rc n2_.out NC.out).mono ?_
                    rintro e w9 ⟨v, rfl, hR, hb⟩
                    rw [whole_all WC.out, EC.out] at hR
                    obtain ⟨A3, c3, hv⟩ := Kd.R_slice hR
                    subst hv
                    have H3 := Aside0.mk (Kd.R_reads' hR).2
                    have m0_ := Aside0.mk (below_step n0_.out hb)
                    have HL9 := Aside0.mk (Kd.C_below HL8.out hb)
                    clear n0_ n2_ HL8 hR hb
                    go_wp2_with fail
                    refine (same_true w9 Al cl A3 c3 L HL9.out HLc.out H3.out.2 H3.out.1 NL.out).mono ?_
                    rintro e w10 ⟨rfl, hb⟩
                    have n0_ := Aside0.mk (below_step m0_.out hb)
                    clear m0_ HL9 H3 hb
                    go_wp2_with fail
                    refine (awake08_calls _).mono ?_
                    rintro e w11 ⟨rfl, hb⟩
                    have m0_ := Aside0.mk (below_step n0_.out hb)
                    clear n0_ hb
                    go_wp2_with fail
                    go_ret
                    exact ⟨rfl, m0_.out⟩
              | succ q =>
                have hi : i < p.length := by have := HK.out; omega
                have d0 : decide ((i : Int) < (p.length : Int)) = true := decide_eq_true (by omega)
                have d1 : decide (i < p.length) = true := decide_eq_true hi
                have hp100 := HN.out
                have hkp : k < p.length := HKL.out (by omega)
                obtain ⟨na, jb, m, jc, hna, hjb, hm, hjc, hjd, ejb, ejc, w1_, w2_, w3_, w4_, hjbl, hjcl⟩ := idxs hi hkp hp100
                have n1_ : ¬ ((p.length : Int) = 0) := by omega
                have n2_ : ¬ ((p.length : Int) = -1) := by omega
                have hC := (Kd.R_reads' HO.out).2.2
                have HJB := Aside0.mk hjbl
                have HJC := Aside0.mk hjcl
                have HKP := Aside0.mk hkp
                clear hjbl hjcl hkp
                obtain ⟨ad, r, ea, hrr, hx0, hx1, hx2, hx3⟩ := at_row hC jb HJB.out
                cases ea
                have pb0 : 0 ≤ (jb : Int) := Int.natCast_nonneg _
                have pb1 : (jb : Int) < (p.length : Int) := Int.ofNat_lt.mpr HJB.out
                have pc0 : 0 ≤ (jc : Int) := Int.natCast_nonneg _
                have pc1 : (jc : Int) < (p.length : Int) := Int.ofNat_lt.mpr HJC.out
                have FB := Aside0.mk (show takenR r (rowsN rb) = false by
                  rw [← hrr, ejb.out]
                  exact ordF_free (f := fun j => p.length - 1 - j) HP.out.apart rev_ok.1 rev_ok.2.1 hi HPB.out)
                have EB := Aside0.mk (show ordF p (fun j => p.length - 1 - j) (i + 1) = ordF p (fun j => p.length - 1 - j) i ++ [r] by rw [ordF_succ, ← ejb.out, hrr])
                clear hrr hC hp100 ejb
                go_wp2_with fail
                refine (put_val wr gb rb r 1 SB.out (ord_len HPB.out (Nat.le_of_lt hi) HN.out)).mono ?_
                rw [taken_rowsN, FB.out]
                rintro e w1 ⟨rfl, rb', hp⟩
                have n0_ := Aside0.mk (hp.low HB.out HB.out.size LB.out)
                have n1_ := Aside0.mk (hp.other SA.out PAB.out.symm)
                have n2_ := Aside0.mk (hp.other SC.out PBC.out)
                have n3_ := Aside0.mk hp.sk
                have n4_ := Aside0.mk (R_put HO.out SB.out hp)
                have n5_ := Aside0.mk (show Puts rb' (ordF p (fun j => p.length - 1 - j) (i + 1)) by rw [EB.out]; exact HPB.out.snoc SB.out hp FB.out)
                rw [show (!false) = true from rfl]
                clear SA SB SC PAB PBC LB HB hp hx0 hx1 hx2 hx3 HO HPB FB EB
                have SB := n3_
                have SA := Aside0.mk n1_.out.1
                have SC := Aside0.mk n2_.out.1
                have PAB := Aside0.mk n1_.out.2.symm
                have PBC := Aside0.mk n2_.out.2
                have LB := Aside0.mk n0_.out.2
                have HB := Aside0.mk n0_.out.1
                have HO := n4_
                have HPB := n5_
                clear n0_ n1_ n2_ n3_ n4_ n5_
                have hC := (Kd.R_reads' HO.out).2.2
                obtain ⟨ad', r', ea', hrr', hx0, hx1, hx2, hx3⟩ := at_row hC jc HJC.out
                cases ea'
                have FC := Aside0.mk (show takenR r' (rowsN rc) = false by
                  rw [← hrr', ejc.out]
                  exact ordF_free (f := fun j => (j + k) % p.length) HP.out.apart (rot_ok HKP.out).1 (rot_ok HKP.out).2.1 hi HPC.out)
                have EC := Aside0.mk (show ordF p (fun j => (j + k) % p.length) (i + 1) = ordF p (fun j => (j + k) % p.length) i ++ [r'] by rw [ordF_succ, ← ejc.out, hrr'])
                clear hrr' hC ejc
                go_wp2_with fail
                refine (put_val w1 gc rc r' 12 SC.out (ord_len HPC.out (Nat.le_of_lt hi) HN.out)).mono ?_
                rw [taken_rowsN, FC.out]
                rintro e w2 ⟨rfl, rc', hp⟩
                have n0_ := Aside0.mk (hp.low HB.out HB.out.size LC.out)
                have n1_ := Aside0.mk (hp.other SA.out PAC.out.symm)
                have n2_ := Aside0.mk (hp.other SB.out PBC.out.symm)
                have n3_ := Aside0.mk hp.sk
                have n4_ := Aside0.mk (R_put HO.out SC.out hp)
                have n5_ := Aside0.mk (show Puts rc' (ordF p (fun j => (j + k) % p.length) (i + 1)) by rw [EC.out]; exact HPC.out.snoc SC.out hp FC.out)
                rw [show (!false) = true from rfl]
                clear SA SB SC PAC PBC LC HB hp hx0 hx1 hx2 hx3 HO HPC FC EC
                have SC := n3_
                have SA := Aside0.mk n1_.out.1
                have SB := Aside0.mk n2_.out.1
                have PAC := Aside0.mk n1_.out.2.symm
                have PBC := Aside0.mk n2_.out.2.symm
                have LC := Aside0.mk n0_.out.2
                have HB := Aside0.mk n0_.out.1
                have HO := n4_
                have HPC := n5_
                clear n0_ n1_ n2_ n3_ n4_ n5_
                clear w1_ w2_ w3_ w4_ hna hjb hm hjc hjd
                go_wp2_with fail
                have hi100 := HN.out
                have ew : wrap64 ((i : Int) + 1) = ((i + 1 : Nat) : Int) := by unfold wrap64; omega
                try rw [ew]
                go_roundg q
                case measure => omega
                case rel => exact ⟨i + 1, rb', rc', rfl, ⟨by have := HK.out; omega⟩, HO, HPB, HPC, SA, SB, SC, PAB, PAC, PBC, LB, LC, HB⟩
      | succ q =>
        have hi : i < rows.length := by have := HK.out; omega
        have d0 : decide ((i : Int) < (rows.length : Int)) = true := decide_eq_true (by omega)
        have d1 : decide (i < rows.length) = true := decide_eq_true hi
        have p0 : 0 ≤ (i : Int) := by omega
        have p1 : (i : Int) < (rows.length : Int) := by omega
        obtain ⟨ad, r, ea, hrr, hx0, hx1, hx2, hx3⟩ := at_row HR0.out i hi
        cases ea
        have hx0' := (HB.out.cell (World.block_lt_of_cell? w _ hx0)).trans hx0
        have hx1' := (HB.out.cell (World.block_lt_of_cell? w _ hx1)).trans hx1
        have hx2' := (HB.out.cell (World.block_lt_of_cell? w _ hx2)).trans hx2
        have hx3' := (HB.out.cell (World.block_lt_of_cell? w _ hx3)).trans hx3
        have RM := Aside0.mk (show r ∈ rows by rw [← hrr, List.getD_eq_getElem?_getD, List.getElem?_eq_getElem hi]; exact List.getElem_mem _)
        have HX0 := Aside0.mk hx0
        have HX1 := Aside0.mk hx1
        have HX2 := Aside0.mk hx2
        have HX3 := Aside0.mk hx3
        clear hx0 hx1 hx2 hx3 hrr
        by_cases ch : i < hs.length
        · have d2 : decide ((i : Int) < (hs.length : Int)) = true := decide_eq_true (by omega)
          have d3 : decide (i < hs.length) = true := decide_eq_true ch
          have p2 : (i : Int) < (hs.length : Int) := by omega
          obtain ⟨ad1, ea1, hy⟩ := at_int HR1.out i ch
          cases ea1
          have hy' := (HB.out.cell (World.block_lt_of_cell? w _ hy)).trans hy
          clear hy
          go_wp2_with fail
          refine (put_val wr ga ra r (hAt hs i) SA.out (by have := LRA.out; have := CN.out; omega)).mono ?_
          rw [taken_rowsN]
          rintro e w1 ⟨rfl, ra', hp⟩
          have n0_ := Aside0.mk (hp.low HB.out HB.out.size LA.out)
          have n1_ := Aside0.mk (hp.other SB.out PAB.out)
          have n2_ := Aside0.mk (hp.other SC.out PAC.out)
          have n3_ := Aside0.mk hp.sk
          have n4_ := Aside0.mk (R_put HO.out SA.out hp)
          cases htk : takenR r (rowsN ra) with
          | true =>
            have n5_ := Aside0.mk (HP.out.same hp htk)
            rw [show (!true) = false from rfl]
            clear SA SB SC PAB PAC LA HB hp hx0' hx1' hx2' hx3' HO HP htk
            have SA := n3_
            have SB := Aside0.mk n1_.out.1
            have SC := Aside0.mk n2_.out.1
            have PAB := Aside0.mk n1_.out.2
            have PAC := Aside0.mk n2_.out.2
            have LA := Aside0.mk n0_.out.2
            have HB := Aside0.mk n0_.out.1
            have HO := n4_
            have HP := n5_
            clear n0_ n1_ n2_ n3_ n4_ n5_
            go_wp2_with fail
            have hi100 := CN.out
            have ew : wrap64 ((i : Int) + 1) = ((i + 1 : Nat) : Int) := by unfold wrap64; omega
            try rw [ew]
            go_roundg q
            case measure => omega
            case rel => exact ⟨i + 1, ra', p, rfl, ⟨by have := HK.out; omega⟩, HO, HP, HSU, ⟨by have := HPL.out; omega⟩, SA, SB, SC, PAB, PAC, LA, HB⟩
          | false =>
            have n5_ := Aside0.mk (HP.out.snoc SA.out hp htk)
            rw [show (!false) = true from rfl]
            clear SA SB SC PAB PAC LA HB hp hx0' hx1' hx2' hx3' HO HP htk
            have SA := n3_
            have SB := Aside0.mk n1_.out.1
            have SC := Aside0.mk n2_.out.1
            have PAB := Aside0.mk n1_.out.2
            have PAC := Aside0.mk n2_.out.2
            have LA := Aside0.mk n0_.out.2
            have HB := Aside0.mk n0_.out.1
            have HO := n4_
            have HP := n5_
            clear n0_ n1_ n2_ n3_ n4_ n5_
            have hx0' := (HB.out.cell (World.block_lt_of_cell? w _ HX0.out)).trans HX0.out
            have hx1' := (HB.out.cell (World.block_lt_of_cell? w _ HX1.out)).trans HX1.out
            have hx2' := (HB.out.cell (World.block_lt_of_cell? w _ HX2.out)).trans HX2.out
            have hx3' := (HB.out.cell (World.block_lt_of_cell? w _ HX3.out)).trans HX3.out
            go_wp2_with ((with_reducible refine gate_builtin (b := .append) (xs := #[.tmp 49, .tmp 54]) rfl ?_); at_builtin; refine Kd.R_append k28 (w0 := w) w.heap.size rfl (.tmp 49) (.tmp 54) 22 28 (.agg #[(.string ⟨#[]⟩), (.int .u64 0), (.int .i64 0), (.string ⟨#[]⟩)]) 48 rfl Try.underlying22 info28 rfl (by decide) (by omega) u10 p r [.string r.f0, .int .u64 r.f1, .int .i64 r.f2, .string r.f3] (fun _ => True) (fun _ => False) rfl rfl ?aP (fun _ hk => hk.elim) ?aF ?aO ?aB ?aS ?aL ?_; (case aP => exact k28_mkM _ _ _ r); (case aB => exact HB.out); (case aF => exact (fun _ _ => trivial)); (case aO => exact HO.out); (case aS => exact below_size HB.out); (case aL => have := HPL.out; have := CN.out; omega); intro v9 w9 ho hb hg hat; have n0_ := Aside0.mk (sk_grown SA.out HO.out hg); have n1_ := Aside0.mk (sk_grown SB.out HO.out hg); have n2_ := Aside0.mk (sk_grown SC.out HO.out hg); have n3_ := Aside0.mk ho; have n4_ := Aside0.mk hb; clear SA SB SC HO HB hx0' hx1' hx2' hx3' ho hb hg hat; have SA := n0_; have SB := n1_; have SC := n2_; have HO := n3_; have HB := n4_; clear n0_ n1_ n2_ n3_ n4_)
            have hi100 := CN.out
            have ew : wrap64 ((i : Int) + 1) = ((i + 1 : Nat) : Int) := by unfold wrap64; omega
            try rw [ew]
            go_roundg q
            case measure => omega
            case rel => exact ⟨i + 1, ra', p ++ [r], rfl, ⟨by have := HK.out; omega⟩, HO, HP, ⟨fun x hx => (List.mem_append.mp hx).elim (HSU.out x) (fun h => by rw [List.mem_singleton] at h; rw [h]; exact RM.out)⟩, ⟨by rw [List.length_append]; have := HPL.out; simp; omega⟩, SA, SB, SC, PAB, PAC, LA, HB⟩
        · have d2 : decide ((i : Int) < (hs.length : Int)) = false := decide_eq_false (by omega)
          have d3 : decide (i < hs.length) = false := decide_eq_false ch
          go_wp2_with fail
          refine (put_val wr ga ra r (1) SA.out (by have := LRA.out; have := CN.out; omega)).mono ?_
          rw [taken_rowsN]
          rintro e w1 ⟨rfl, ra', hp⟩
          have n0_ := Aside0.mk (hp.low HB.out HB.out.size LA.out)
          have n1_ := Aside0.mk (hp.other SB.out PAB.out)
          have n2_ := Aside0.mk (hp.other SC.out PAC.out)
          have n3_ := Aside0.mk hp.sk
          have n4_ := Aside0.mk (R_put HO.out SA.out hp)
          cases htk : takenR r (rowsN ra) with
          | true =>
            have n5_ := Aside0.mk (HP.out.same hp htk)
            rw [show (!true) = false from rfl]
            clear SA SB SC PAB PAC LA HB hp hx0' hx1' hx2' hx3' HO HP htk
            have SA := n3_
            have SB := Aside0.mk n1_.out.1
            have SC := Aside0.mk n2_.out.1
            have PAB := Aside0.mk n1_.out.2
            have PAC := Aside0.mk n2_.out.2
            have LA := Aside0.mk n0_.out.2
            have HB := Aside0.mk n0_.out.1
            have HO := n4_
            have HP := n5_
            clear n0_ n1_ n2_ n3_ n4_ n5_
            go_wp2_with fail
            have hi100 := CN.out
            have ew : wrap64 ((i : Int) + 1) = ((i + 1 : Nat) : Int) := by unfold wrap64; omega
            try rw [ew]
            go_roundg q
            case measure => omega
            case rel => exact ⟨i + 1, ra', p, rfl, ⟨by have := HK.out; omega⟩, HO, HP, HSU, ⟨by have := HPL.out; omega⟩, SA, SB, SC, PAB, PAC, LA, HB⟩
          | false =>
            have n5_ := Aside0.mk (HP.out.snoc SA.out hp htk)
            rw [show (!false) = true from rfl]
            clear SA SB SC PAB PAC LA HB hp hx0' hx1' hx2' hx3' HO HP htk
            have SA := n3_
            have SB := Aside0.mk n1_.out.1
            have SC := Aside0.mk n2_.out.1
            have PAB := Aside0.mk n1_.out.2
            have PAC := Aside0.mk n2_.out.2
            have LA := Aside0.mk n0_.out.2
            have HB := Aside0.mk n0_.out.1
            have HO := n4_
            have HP := n5_
            clear n0_ n1_ n2_ n3_ n4_ n5_
            have hx0' := (HB.out.cell (World.block_lt_of_cell? w _ HX0.out)).trans HX0.out
            have hx1' := (HB.out.cell (World.block_lt_of_cell? w _ HX1.out)).trans HX1.out
            have hx2' := (HB.out.cell (World.block_lt_of_cell? w _ HX2.out)).trans HX2.out
            have hx3' := (HB.out.cell (World.block_lt_of_cell? w _ HX3.out)).trans HX3.out
            go_wp2_with ((with_reducible refine gate_builtin (b := .append) (xs := #[.tmp 49, .tmp 54]) rfl ?_); at_builtin; refine Kd.R_append k28 (w0 := w) w.heap.size rfl (.tmp 49) (.tmp 54) 22 28 (.agg #[(.string ⟨#[]⟩), (.int .u64 0), (.int .i64 0), (.string ⟨#[]⟩)]) 48 rfl Try.underlying22 info28 rfl (by decide) (by omega) u10 p r [.string r.f0, .int .u64 r.f1, .int .i64 r.f2, .string r.f3] (fun _ => True) (fun _ => False) rfl rfl ?aP (fun _ hk => hk.elim) ?aF ?aO ?aB ?aS ?aL ?_; (case aP => exact k28_mkM _ _ _ r); (case aB => exact HB.out); (case aF => exact (fun _ _ => trivial)); (case aO => exact HO.out); (case aS => exact below_size HB.out); (case aL => have := HPL.out; have := CN.out; omega); intro v9 w9 ho hb hg hat; have n0_ := Aside0.mk (sk_grown SA.out HO.out hg); have n1_ := Aside0.mk (sk_grown SB.out HO.out hg); have n2_ := Aside0.mk (sk_grown SC.out HO.out hg); have n3_ := Aside0.mk ho; have n4_ := Aside0.mk hb; clear SA SB SC HO HB hx0' hx1' hx2' hx3' ho hb hg hat; have SA := n0_; have SB := n1_; have SC := n2_; have HO := n3_; have HB := n4_; clear n0_ n1_ n2_ n3_ n4_)
            have hi100 := CN.out
            have ew : wrap64 ((i : Int) + 1) = ((i + 1 : Nat) : Int) := by unfold wrap64; omega
            try rw [ew]
            go_roundg q
            case measure => omega
            case rel => exact ⟨i + 1, ra', p ++ [r], rfl, ⟨by have := HK.out; omega⟩, HO, HP, ⟨fun x hx => (List.mem_append.mp hx).elim (HSU.out x) (fun h => by rw [List.mem_singleton] at h; rw [h]; exact RM.out)⟩, ⟨by rw [List.length_append]; have := HPL.out; simp; omega⟩, SA, SB, SC, PAB, PAC, LA, HB⟩
end Go.Proofs.Ytfemebenkbobnaa.SK
