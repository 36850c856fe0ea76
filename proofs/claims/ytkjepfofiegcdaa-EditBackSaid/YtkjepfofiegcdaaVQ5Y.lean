import Derived.Test.YtkjepfofiegcdaaVA2Y
import Derived.Test.YtkjepfofiegcdaaVR3Y
import Derived.Test.YtkjepfofiegcdaaVR5Y
/- The law EditBack (19), walked. Conditions: the numbers are such as the machine has; the bytes are within reach. -/
namespace Go.Proofs.Ytkjepfofiegcdaa.V
set_option linter.unusedVariables false
set_option linter.unusedSimpArgs false
open Go.RowKit Go.Proofs.YtkjepfofiegcdaaW.PrintWords Go.Proofs.YtkjepfofiegcdaaW.PrintLast Go.Proofs.YtkjepfofiegcdaaW.PrintMore Go.Proofs.Ytkjepfofiegcdaa.PB14
set_option maxHeartbeats 8000000 in
set_option maxRecDepth 100000 in
theorem editBack_calls (w : World) (a b : Edt) (A1 B1 A2 B2 : Option Addr) (c1 k1 c2 k2 : Nat) (h1 : k84.C w A1 a.gone.length a.gone) (h2 : k82.C w B1 a.added.length a.added) (hc1 : a.gone.length ≤ c1) (hk1 : a.added.length ≤ k1) (ua : EU a)
    (h3 : k84.C w A2 b.gone.length b.gone) (h4 : k82.C w B2 b.added.length b.added) (hc2 : b.gone.length ≤ c2) (hk2 : b.added.length ≤ k2) (ub : EU b) (s : ByteArray) (hs : s.size ≤ 4611686018427387904) :
    Calls Try.prog 19 #[.agg (eCs a A1 c1 B1 k1), .agg (eCs b A2 c2 B2 k2), .string s] w fun x w' => x = .returned (.bool true) ∧ Below w.heap.size w w' := by
  have H1 := Aside0.mk h1
  have H2 := Aside0.mk h2
  have H3 := Aside0.mk h3
  have H4 := Aside0.mk h4
  have UA := Aside0.mk ua
  have UB := Aside0.mk ub
  have HS := Aside0.mk hs
  have SAMEC : ∀ (w' : World) (D1 D2 : Option Addr) (n1 n2 : Nat), k84.C w' D1 a.gone.length a.gone → k82.C w' D2 a.added.length a.added → k84.C w' A1 a.gone.length a.gone → k82.C w' B1 a.added.length a.added → Calls Try.prog 50 #[.agg (eCs a D1 n1 D2 n2), .agg (eCs a A1 c1 B1 k1)] w' fun x w'' => x = .returned (.bool true) ∧ Below w'.heap.size w' w'' := fun w' D1 D2 n1 n2 g1 g2 g3 g4 => by
    have h := sameE_calls w' a a D1 D2 A1 B1 n1 n2 c1 k1 g1 g2 g3 g4
    rw [decide_eq_true (rfl : a = a)] at h
    exact h
  have HB1 := Aside0.mk (below_alloc ((Below.refl w.heap.size w).alloc (Nat.le_refl _) (.cells (eCs a A1 c1 B1 k1) 70)) (.cells (eCs b A2 c2 B2 k2) 70))
  have XA1 := Aside0.mk (blk_alloc (blk_new w (.cells (eCs a A1 c1 B1 k1) 70)) (.cells (eCs b A2 c2 B2 k2) 70))
  have XB1 := Aside0.mk (blk_new (w.alloc (.cells (eCs a A1 c1 B1 k1) 70)) (.cells (eCs b A2 c2 B2 k2) 70))
  clear h1 h2 h3 h4 ua ub hs hc1 hk1 hc2 hk2
  go_enter Try.func19, Try.ntmps19
  go_upto_region 1 with (fail)
  generalize hg2 : (w.alloc (.cells (eCs a A1 c1 B1 k1) 70)).heap.size = g2 at *
  have e2 : w.heap.size + 1 = g2 := by rw [← hg2]; simp
  try rw [e2]
  clear hg2 e2
  generalize (w.alloc (.cells (eCs a A1 c1 B1 k1) 70)).alloc (.cells (eCs b A2 c2 B2 k2) 70) = w1 at *
  by_cases hl : longP a
  · have LC := long_calls w1 a A1 B1 c1 k1
    rw [decide_eq_true hl] at LC
    clear hl
    have a_0 : w1.cell? ⟨w.heap.size, 0, none⟩ = some (.int .u64 a.log) := (blk_cell XA1.out 0).trans rfl
    have a_1 : w1.cell? ⟨w.heap.size, 1, none⟩ = some (.int .u64 a.next) := (blk_cell XA1.out 1).trans rfl
    have a_2 : w1.cell? ⟨w.heap.size, 2, none⟩ = some (.int .u64 a.seq) := (blk_cell XA1.out 2).trans rfl
    have a_3 : w1.cell? ⟨w.heap.size, 3, none⟩ = some (.slice A1 a.gone.length c1) := (blk_cell XA1.out 3).trans rfl
    have a_4 : w1.cell? ⟨w.heap.size, 4, none⟩ = some (.slice B1 a.added.length k1) := (blk_cell XA1.out 4).trans rfl
    go_wp2_with fail
    refine LC.mono ?_
    clear LC
    rintro x w2 ⟨rfl, hb⟩
    have HB2 := Aside0.mk (below_step HB1.out hb)
    clear hb
    clear a_0 a_1 a_2 a_3 a_4
    go_wp2_with fail
    refine (awake14_calls _).mono ?_
    rintro x wz ⟨rfl, hb⟩
    have HBz := Aside0.mk (below_step HB2.out hb)
    clear hb
    go_wp2_with fail
    go_ret
    exact ⟨rfl, HBz.out⟩
  · have LC := long_calls w1 a A1 B1 c1 k1
    rw [decide_eq_false hl] at LC
    clear hl
    have a_0 : w1.cell? ⟨w.heap.size, 0, none⟩ = some (.int .u64 a.log) := (blk_cell XA1.out 0).trans rfl
    have a_1 : w1.cell? ⟨w.heap.size, 1, none⟩ = some (.int .u64 a.next) := (blk_cell XA1.out 1).trans rfl
    have a_2 : w1.cell? ⟨w.heap.size, 2, none⟩ = some (.int .u64 a.seq) := (blk_cell XA1.out 2).trans rfl
    have a_3 : w1.cell? ⟨w.heap.size, 3, none⟩ = some (.slice A1 a.gone.length c1) := (blk_cell XA1.out 3).trans rfl
    have a_4 : w1.cell? ⟨w.heap.size, 4, none⟩ = some (.slice B1 a.added.length k1) := (blk_cell XA1.out 4).trans rfl
    go_wp2_with fail
    refine LC.mono ?_
    clear LC
    rintro x w2 ⟨rfl, hb⟩
    have HB2 := Aside0.mk (below_step HB1.out hb)
    have XA2 := Aside0.mk (blk_below XA1.out hb)
    have XB2 := Aside0.mk (blk_below XB1.out hb)
    clear hb
    clear a_0 a_1 a_2 a_3 a_4
    by_cases hl : longP b
    · have LC := long_calls w2 b A2 B2 c2 k2
      rw [decide_eq_true hl] at LC
      clear hl
      have b_0 : w2.cell? ⟨g2, 0, none⟩ = some (.int .u64 b.log) := (blk_cell XB2.out 0).trans rfl
      have b_1 : w2.cell? ⟨g2, 1, none⟩ = some (.int .u64 b.next) := (blk_cell XB2.out 1).trans rfl
      have b_2 : w2.cell? ⟨g2, 2, none⟩ = some (.int .u64 b.seq) := (blk_cell XB2.out 2).trans rfl
      have b_3 : w2.cell? ⟨g2, 3, none⟩ = some (.slice A2 b.gone.length c2) := (blk_cell XB2.out 3).trans rfl
      have b_4 : w2.cell? ⟨g2, 4, none⟩ = some (.slice B2 b.added.length k2) := (blk_cell XB2.out 4).trans rfl
      go_wp2_with fail
      refine LC.mono ?_
      clear LC
      rintro x w3 ⟨rfl, hb⟩
      have HB3 := Aside0.mk (below_step HB2.out hb)
      clear hb
      clear b_0 b_1 b_2 b_3 b_4
      go_wp2_with fail
      refine (awake14_calls _).mono ?_
      rintro x wz ⟨rfl, hb⟩
      have HBz := Aside0.mk (below_step HB3.out hb)
      clear hb
      go_wp2_with fail
      go_ret
      exact ⟨rfl, HBz.out⟩
    · have LC := long_calls w2 b A2 B2 c2 k2
      rw [decide_eq_false hl] at LC
      clear hl
      have b_0 : w2.cell? ⟨g2, 0, none⟩ = some (.int .u64 b.log) := (blk_cell XB2.out 0).trans rfl
      have b_1 : w2.cell? ⟨g2, 1, none⟩ = some (.int .u64 b.next) := (blk_cell XB2.out 1).trans rfl
      have b_2 : w2.cell? ⟨g2, 2, none⟩ = some (.int .u64 b.seq) := (blk_cell XB2.out 2).trans rfl
      have b_3 : w2.cell? ⟨g2, 3, none⟩ = some (.slice A2 b.gone.length c2) := (blk_cell XB2.out 3).trans rfl
      have b_4 : w2.cell? ⟨g2, 4, none⟩ = some (.slice B2 b.added.length k2) := (blk_cell XB2.out 4).trans rfl
      go_wp2_with fail
      refine LC.mono ?_
      clear LC
      rintro x w4 ⟨rfl, hb⟩
      have HB4 := Aside0.mk (below_step HB2.out hb)
      have XA4 := Aside0.mk (blk_below XA2.out hb)
      have XB4 := Aside0.mk (blk_below XB2.out hb)
      clear hb
      clear b_0 b_1 b_2 b_3 b_4
      have a_0 : w4.cell? ⟨w.heap.size, 0, none⟩ = some (.int .u64 a.log) := (blk_cell XA4.out 0).trans rfl
      have a_1 : w4.cell? ⟨w.heap.size, 1, none⟩ = some (.int .u64 a.next) := (blk_cell XA4.out 1).trans rfl
      have a_2 : w4.cell? ⟨w.heap.size, 2, none⟩ = some (.int .u64 a.seq) := (blk_cell XA4.out 2).trans rfl
      have a_3 : w4.cell? ⟨w.heap.size, 3, none⟩ = some (.slice A1 a.gone.length c1) := (blk_cell XA4.out 3).trans rfl
      have a_4 : w4.cell? ⟨w.heap.size, 4, none⟩ = some (.slice B1 a.added.length k1) := (blk_cell XA4.out 4).trans rfl
      have EA := encode_calls w4 a A1 B1 c1 k1 (Kd.C_below H1.out HB4.out) (Kd.C_below H2.out HB4.out) UA.out
      have EB := Aside0.mk (fun (w' : World) (h : Below w.heap.size w w') => encode_calls w' b A2 B2 c2 k2 (Kd.C_below H3.out h) (Kd.C_below H4.out h) UB.out)
      have DA := Aside0.mk (fun (h : (encV a).2 = 0) => dec_enc UA.out h)
      have TW := Aside0.mk (fun (h : (encV a).2 = 0) (h2 : (encV b).2 = 0) => enc_two UA.out UB.out h h2)
      have SZ := Aside0.mk (encV_size UA.out)
      generalize (encV a).1 = xa at *
      generalize (encV a).2 = ea at *
      generalize (encV b).1 = xb at *
      generalize (encV b).2 = eb at *
      go_wp2_with fail
      refine EA.mono ?_
      clear EA
      rintro x w5a ⟨rfl, hb⟩
      have HB5a := Aside0.mk (below_step HB4.out hb)
      have XA5a := Aside0.mk (blk_below XA4.out hb)
      have XB5a := Aside0.mk (blk_below XB4.out hb)
      clear hb
      clear a_0 a_1 a_2 a_3 a_4
      have b_0 : w5a.cell? ⟨g2, 0, none⟩ = some (.int .u64 b.log) := (blk_cell XB5a.out 0).trans rfl
      have b_1 : w5a.cell? ⟨g2, 1, none⟩ = some (.int .u64 b.next) := (blk_cell XB5a.out 1).trans rfl
      have b_2 : w5a.cell? ⟨g2, 2, none⟩ = some (.int .u64 b.seq) := (blk_cell XB5a.out 2).trans rfl
      have b_3 : w5a.cell? ⟨g2, 3, none⟩ = some (.slice A2 b.gone.length c2) := (blk_cell XB5a.out 3).trans rfl
      have b_4 : w5a.cell? ⟨g2, 4, none⟩ = some (.slice B2 b.added.length k2) := (blk_cell XB5a.out 4).trans rfl
      go_wp2_with fail
      refine (EB.out w5a HB5a.out).mono ?_
      clear EB
      rintro x w5 ⟨rfl, hb⟩
      have HB5 := Aside0.mk (below_step HB5a.out hb)
      have XA5 := Aside0.mk (blk_below XA5a.out hb)
      have XB5 := Aside0.mk (blk_below XB5a.out hb)
      clear hb
      clear b_0 b_1 b_2 b_3 b_4
      by_cases hea : ea = 0
      · subst hea
        have DAA := DA.out rfl
        have D1 := decode_calls w5 xa SZ.out
        rw [DAA] at D1
        clear DAA DA
        go_wp2_with fail
        refine D1.mono ?_
        clear D1
        rintro x wd ⟨D1, D2, n1, n2, rfl, h1, h2, hb⟩
        have hb2 := below_alloc hb (.cells (eCs a D1 n1 D2 n2) 70)
        have HB6 := Aside0.mk (below_step HB5.out hb2)
        have XA6 := Aside0.mk (blk_below XA5.out hb2)
        have XB6 := Aside0.mk (blk_below XB5.out hb2)
        have XC6 := Aside0.mk (blk_new wd (.cells (eCs a D1 n1 D2 n2) 70))
        have RD1 := Aside0.mk (Kd.C_below h1.2 (below_alloc (Below.refl wd.heap.size wd) (.cells (eCs a D1 n1 D2 n2) 70)))
        have RD2 := Aside0.mk (Kd.C_below h2.2 (below_alloc (Below.refl wd.heap.size wd) (.cells (eCs a D1 n1 D2 n2) 70)))
        clear h1 h2 hb hb2
        go_upto_region 7 with (fail)
        generalize wd.heap.size = g6 at *
        generalize wd.alloc (.cells (eCs a D1 n1 D2 n2) 70) = w6 at *
        by_cases heb : eb = 0
        · subst heb
          have T2 := TW.out (by first | trivial | rfl) (by first | trivial | rfl)
          by_cases hab : a = b
          · have SAB := Aside0.mk (decide_eq_true hab)
            have hx : xa = xb := T2.mpr hab
            have q5 : (xa.toList == xb.toList) = true := by rw [hx]; exact beq_self_eq_true _
            clear hx hab T2 TW
            have a_0 : w6.cell? ⟨w.heap.size, 0, none⟩ = some (.int .u64 a.log) := (blk_cell XA6.out 0).trans rfl
            have a_1 : w6.cell? ⟨w.heap.size, 1, none⟩ = some (.int .u64 a.next) := (blk_cell XA6.out 1).trans rfl
            have a_2 : w6.cell? ⟨w.heap.size, 2, none⟩ = some (.int .u64 a.seq) := (blk_cell XA6.out 2).trans rfl
            have a_3 : w6.cell? ⟨w.heap.size, 3, none⟩ = some (.slice A1 a.gone.length c1) := (blk_cell XA6.out 3).trans rfl
            have a_4 : w6.cell? ⟨w.heap.size, 4, none⟩ = some (.slice B1 a.added.length k1) := (blk_cell XA6.out 4).trans rfl
            have SE := SAMEC w6 D1 D2 n1 n2 RD1.out RD2.out (Kd.C_below H1.out HB6.out) (Kd.C_below H2.out HB6.out)
            have d_0 : w6.cell? ⟨g6, 0, none⟩ = some (.int .u64 a.log) := (blk_cell XC6.out 0).trans rfl
            have d_1 : w6.cell? ⟨g6, 1, none⟩ = some (.int .u64 a.next) := (blk_cell XC6.out 1).trans rfl
            have d_2 : w6.cell? ⟨g6, 2, none⟩ = some (.int .u64 a.seq) := (blk_cell XC6.out 2).trans rfl
            have d_3 : w6.cell? ⟨g6, 3, none⟩ = some (.slice D1 a.gone.length n1) := (blk_cell XC6.out 3).trans rfl
            have d_4 : w6.cell? ⟨g6, 4, none⟩ = some (.slice D2 a.added.length n2) := (blk_cell XC6.out 4).trans rfl
            go_wp2_with fail
            refine SE.mono ?_
            clear SE
            rintro x w7 ⟨rfl, hb⟩
            have HB7 := Aside0.mk (below_step HB6.out hb)
            have XA7 := Aside0.mk (blk_below XA6.out hb)
            have XB7 := Aside0.mk (blk_below XB6.out hb)
            clear hb
            clear d_0 d_1 d_2 d_3 d_4
            clear a_0 a_1 a_2 a_3 a_4
            have a_0 : w7.cell? ⟨w.heap.size, 0, none⟩ = some (.int .u64 a.log) := (blk_cell XA7.out 0).trans rfl
            have a_1 : w7.cell? ⟨w.heap.size, 1, none⟩ = some (.int .u64 a.next) := (blk_cell XA7.out 1).trans rfl
            have a_2 : w7.cell? ⟨w.heap.size, 2, none⟩ = some (.int .u64 a.seq) := (blk_cell XA7.out 2).trans rfl
            have a_3 : w7.cell? ⟨w.heap.size, 3, none⟩ = some (.slice A1 a.gone.length c1) := (blk_cell XA7.out 3).trans rfl
            have a_4 : w7.cell? ⟨w.heap.size, 4, none⟩ = some (.slice B1 a.added.length k1) := (blk_cell XA7.out 4).trans rfl
            have b_0 : w7.cell? ⟨g2, 0, none⟩ = some (.int .u64 b.log) := (blk_cell XB7.out 0).trans rfl
            have b_1 : w7.cell? ⟨g2, 1, none⟩ = some (.int .u64 b.next) := (blk_cell XB7.out 1).trans rfl
            have b_2 : w7.cell? ⟨g2, 2, none⟩ = some (.int .u64 b.seq) := (blk_cell XB7.out 2).trans rfl
            have b_3 : w7.cell? ⟨g2, 3, none⟩ = some (.slice A2 b.gone.length c2) := (blk_cell XB7.out 3).trans rfl
            have b_4 : w7.cell? ⟨g2, 4, none⟩ = some (.slice B2 b.added.length k2) := (blk_cell XB7.out 4).trans rfl
            have SF := sameE_calls w7 a b A1 B1 A2 B2 c1 k1 c2 k2 (Kd.C_below H1.out HB7.out) (Kd.C_below H2.out HB7.out) (Kd.C_below H3.out HB7.out) (Kd.C_below H4.out HB7.out)
            rw [SAB.out] at SF
            go_wp2_with fail
            refine SF.mono ?_
            clear SF
            rintro x w8 ⟨rfl, hb⟩
            have HB8 := Aside0.mk (below_step HB7.out hb)
            have XA8 := Aside0.mk (blk_below XA7.out hb)
            have XB8 := Aside0.mk (blk_below XB7.out hb)
            clear hb
            clear a_0 a_1 a_2 a_3 a_4
            clear b_0 b_1 b_2 b_3 b_4
            have TD := decode_calls w8 s HS.out
            by_cases he : (decV s).2 = 0
            · have ED := enc_dec he
              have CU := Aside0.mk ED.2
              have CE := Aside0.mk ED.1
              rw [he] at TD
              clear ED he
              generalize (decV s).1 = c at *
              go_wp2_with fail
              refine TD.mono ?_
              clear TD
              rintro x wt ⟨C1, C2, m1, m2, rfl, h1, h2, hb⟩
              have HBt := Aside0.mk (below_alloc (below_step HB8.out hb) (.cells (eCs c C1 m1 C2 m2) 70))
              have XC := Aside0.mk (blk_new wt (.cells (eCs c C1 m1 C2 m2) 70))
              have RC1 := Aside0.mk (Kd.C_below h1.2 (below_alloc (Below.refl wt.heap.size wt) (.cells (eCs c C1 m1 C2 m2) 70)))
              have RC2 := Aside0.mk (Kd.C_below h2.2 (below_alloc (Below.refl wt.heap.size wt) (.cells (eCs c C1 m1 C2 m2) 70)))
              clear h1 h2 hb
              go_upto_region 10 with (fail)
              generalize wt.heap.size = gc at *
              generalize wt.alloc (.cells (eCs c C1 m1 C2 m2) 70) = wt2 at *
              have f0 : wt2.cell? ⟨gc, 0, none⟩ = some (.int .u64 c.log) := (blk_cell XC.out 0).trans rfl
              have f1 : wt2.cell? ⟨gc, 1, none⟩ = some (.int .u64 c.next) := (blk_cell XC.out 1).trans rfl
              have f2 : wt2.cell? ⟨gc, 2, none⟩ = some (.int .u64 c.seq) := (blk_cell XC.out 2).trans rfl
              have f3 : wt2.cell? ⟨gc, 3, none⟩ = some (.slice C1 c.gone.length m1) := (blk_cell XC.out 3).trans rfl
              have f4 : wt2.cell? ⟨gc, 4, none⟩ = some (.slice C2 c.added.length m2) := (blk_cell XC.out 4).trans rfl
              have EN := encode_calls wt2 c C1 C2 m1 m2 RC1.out RC2.out CU.out
              rw [CE.out] at EN
              go_wp2_with fail
              refine EN.mono ?_
              clear EN
              rintro x wt3 ⟨rfl, hb⟩
              have HBu := Aside0.mk (below_step HBt.out hb)
              clear hb f0 f1 f2 f3 f4
              have q3 : (s.toList == s.toList) = true := beq_self_eq_true _
              have q4 : (s.toList != s.toList) = false := bne_self_eq_false _
              go_wp2_with fail
              refine (awake14_calls _).mono ?_
              rintro x wz ⟨rfl, hb⟩
              have HBz := Aside0.mk (below_step HBu.out hb)
              clear hb
              go_wp2_with fail
              go_ret
              exact ⟨rfl, HBz.out⟩
            · have b0 : ((decV s).2 == 0) = false := beq_eq_false_iff_ne.mpr he
              clear he
              generalize (decV s).1 = c at *
              generalize (decV s).2 = cr at *
              go_wp2_with fail
              refine TD.mono ?_
              clear TD
              rintro x wt ⟨C1, C2, m1, m2, rfl, h1, h2, hb⟩
              have HBt := Aside0.mk (below_alloc (below_step HB8.out hb) (.cells (eCs c C1 m1 C2 m2) 70))
              clear h1 h2 hb
              go_upto_region 10 with (fail)
              generalize wt.alloc (.cells (eCs c C1 m1 C2 m2) 70) = wt2 at *
              go_wp2_with fail
              refine (awake14_calls _).mono ?_
              rintro x wz ⟨rfl, hb⟩
              have HBz := Aside0.mk (below_step HBt.out hb)
              clear hb
              go_wp2_with fail
              go_ret
              exact ⟨rfl, HBz.out⟩
          · have SAB := Aside0.mk (decide_eq_false hab)
            have hx : ¬ xa.toList = xb.toList := fun h => hab (T2.mp (by rw [ByteArray.toList_eq, ByteArray.toList_eq] at h; exact ByteArray.ext (Array.toList_inj.mp h)))
            have q5 : (xa.toList == xb.toList) = false := beq_eq_false_iff_ne.mpr hx
            clear hx hab T2 TW
            have a_0 : w6.cell? ⟨w.heap.size, 0, none⟩ = some (.int .u64 a.log) := (blk_cell XA6.out 0).trans rfl
            have a_1 : w6.cell? ⟨w.heap.size, 1, none⟩ = some (.int .u64 a.next) := (blk_cell XA6.out 1).trans rfl
            have a_2 : w6.cell? ⟨w.heap.size, 2, none⟩ = some (.int .u64 a.seq) := (blk_cell XA6.out 2).trans rfl
            have a_3 : w6.cell? ⟨w.heap.size, 3, none⟩ = some (.slice A1 a.gone.length c1) := (blk_cell XA6.out 3).trans rfl
            have a_4 : w6.cell? ⟨w.heap.size, 4, none⟩ = some (.slice B1 a.added.length k1) := (blk_cell XA6.out 4).trans rfl
            have SE := SAMEC w6 D1 D2 n1 n2 RD1.out RD2.out (Kd.C_below H1.out HB6.out) (Kd.C_below H2.out HB6.out)
            have d_0 : w6.cell? ⟨g6, 0, none⟩ = some (.int .u64 a.log) := (blk_cell XC6.out 0).trans rfl
            have d_1 : w6.cell? ⟨g6, 1, none⟩ = some (.int .u64 a.next) := (blk_cell XC6.out 1).trans rfl
            have d_2 : w6.cell? ⟨g6, 2, none⟩ = some (.int .u64 a.seq) := (blk_cell XC6.out 2).trans rfl
            have d_3 : w6.cell? ⟨g6, 3, none⟩ = some (.slice D1 a.gone.length n1) := (blk_cell XC6.out 3).trans rfl
            have d_4 : w6.cell? ⟨g6, 4, none⟩ = some (.slice D2 a.added.length n2) := (blk_cell XC6.out 4).trans rfl
            go_wp2_with fail
            refine SE.mono ?_
            clear SE
            rintro x w7 ⟨rfl, hb⟩
            have HB7 := Aside0.mk (below_step HB6.out hb)
            have XA7 := Aside0.mk (blk_below XA6.out hb)
            have XB7 := Aside0.mk (blk_below XB6.out hb)
            clear hb
            clear d_0 d_1 d_2 d_3 d_4
            clear a_0 a_1 a_2 a_3 a_4
            have a_0 : w7.cell? ⟨w.heap.size, 0, none⟩ = some (.int .u64 a.log) := (blk_cell XA7.out 0).trans rfl
            have a_1 : w7.cell? ⟨w.heap.size, 1, none⟩ = some (.int .u64 a.next) := (blk_cell XA7.out 1).trans rfl
            have a_2 : w7.cell? ⟨w.heap.size, 2, none⟩ = some (.int .u64 a.seq) := (blk_cell XA7.out 2).trans rfl
            have a_3 : w7.cell? ⟨w.heap.size, 3, none⟩ = some (.slice A1 a.gone.length c1) := (blk_cell XA7.out 3).trans rfl
            have a_4 : w7.cell? ⟨w.heap.size, 4, none⟩ = some (.slice B1 a.added.length k1) := (blk_cell XA7.out 4).trans rfl
            have b_0 : w7.cell? ⟨g2, 0, none⟩ = some (.int .u64 b.log) := (blk_cell XB7.out 0).trans rfl
            have b_1 : w7.cell? ⟨g2, 1, none⟩ = some (.int .u64 b.next) := (blk_cell XB7.out 1).trans rfl
            have b_2 : w7.cell? ⟨g2, 2, none⟩ = some (.int .u64 b.seq) := (blk_cell XB7.out 2).trans rfl
            have b_3 : w7.cell? ⟨g2, 3, none⟩ = some (.slice A2 b.gone.length c2) := (blk_cell XB7.out 3).trans rfl
            have b_4 : w7.cell? ⟨g2, 4, none⟩ = some (.slice B2 b.added.length k2) := (blk_cell XB7.out 4).trans rfl
            have SF := sameE_calls w7 a b A1 B1 A2 B2 c1 k1 c2 k2 (Kd.C_below H1.out HB7.out) (Kd.C_below H2.out HB7.out) (Kd.C_below H3.out HB7.out) (Kd.C_below H4.out HB7.out)
            rw [SAB.out] at SF
            go_wp2_with fail
            refine SF.mono ?_
            clear SF
            rintro x w8 ⟨rfl, hb⟩
            have HB8 := Aside0.mk (below_step HB7.out hb)
            have XA8 := Aside0.mk (blk_below XA7.out hb)
            have XB8 := Aside0.mk (blk_below XB7.out hb)
            clear hb
            clear a_0 a_1 a_2 a_3 a_4
            clear b_0 b_1 b_2 b_3 b_4
            have TD := decode_calls w8 s HS.out
            by_cases he : (decV s).2 = 0
            · have ED := enc_dec he
              have CU := Aside0.mk ED.2
              have CE := Aside0.mk ED.1
              rw [he] at TD
              clear ED he
              generalize (decV s).1 = c at *
              go_wp2_with fail
              refine TD.mono ?_
              clear TD
              rintro x wt ⟨C1, C2, m1, m2, rfl, h1, h2, hb⟩
              have HBt := Aside0.mk (below_alloc (below_step HB8.out hb) (.cells (eCs c C1 m1 C2 m2) 70))
              have XC := Aside0.mk (blk_new wt (.cells (eCs c C1 m1 C2 m2) 70))
              have RC1 := Aside0.mk (Kd.C_below h1.2 (below_alloc (Below.refl wt.heap.size wt) (.cells (eCs c C1 m1 C2 m2) 70)))
              have RC2 := Aside0.mk (Kd.C_below h2.2 (below_alloc (Below.refl wt.heap.size wt) (.cells (eCs c C1 m1 C2 m2) 70)))
              clear h1 h2 hb
              go_upto_region 10 with (fail)
              generalize wt.heap.size = gc at *
              generalize wt.alloc (.cells (eCs c C1 m1 C2 m2) 70) = wt2 at *
              have f0 : wt2.cell? ⟨gc, 0, none⟩ = some (.int .u64 c.log) := (blk_cell XC.out 0).trans rfl
              have f1 : wt2.cell? ⟨gc, 1, none⟩ = some (.int .u64 c.next) := (blk_cell XC.out 1).trans rfl
              have f2 : wt2.cell? ⟨gc, 2, none⟩ = some (.int .u64 c.seq) := (blk_cell XC.out 2).trans rfl
              have f3 : wt2.cell? ⟨gc, 3, none⟩ = some (.slice C1 c.gone.length m1) := (blk_cell XC.out 3).trans rfl
              have f4 : wt2.cell? ⟨gc, 4, none⟩ = some (.slice C2 c.added.length m2) := (blk_cell XC.out 4).trans rfl
              have EN := encode_calls wt2 c C1 C2 m1 m2 RC1.out RC2.out CU.out
              rw [CE.out] at EN
              go_wp2_with fail
              refine EN.mono ?_
              clear EN
              rintro x wt3 ⟨rfl, hb⟩
              have HBu := Aside0.mk (below_step HBt.out hb)
              clear hb f0 f1 f2 f3 f4
              have q3 : (s.toList == s.toList) = true := beq_self_eq_true _
              have q4 : (s.toList != s.toList) = false := bne_self_eq_false _
              go_wp2_with fail
              refine (awake14_calls _).mono ?_
              rintro x wz ⟨rfl, hb⟩
              have HBz := Aside0.mk (below_step HBu.out hb)
              clear hb
              go_wp2_with fail
              go_ret
              exact ⟨rfl, HBz.out⟩
            · have b0 : ((decV s).2 == 0) = false := beq_eq_false_iff_ne.mpr he
              clear he
              generalize (decV s).1 = c at *
              generalize (decV s).2 = cr at *
              go_wp2_with fail
              refine TD.mono ?_
              clear TD
              rintro x wt ⟨C1, C2, m1, m2, rfl, h1, h2, hb⟩
              have HBt := Aside0.mk (below_alloc (below_step HB8.out hb) (.cells (eCs c C1 m1 C2 m2) 70))
              clear h1 h2 hb
              go_upto_region 10 with (fail)
              generalize wt.alloc (.cells (eCs c C1 m1 C2 m2) 70) = wt2 at *
              go_wp2_with fail
              refine (awake14_calls _).mono ?_
              rintro x wz ⟨rfl, hb⟩
              have HBz := Aside0.mk (below_step HBt.out hb)
              clear hb
              go_wp2_with fail
              go_ret
              exact ⟨rfl, HBz.out⟩
        · have b1 : (eb == 0) = false := beq_eq_false_iff_ne.mpr heb
          clear heb TW
          have a_0 : w6.cell? ⟨w.heap.size, 0, none⟩ = some (.int .u64 a.log) := (blk_cell XA6.out 0).trans rfl
          have a_1 : w6.cell? ⟨w.heap.size, 1, none⟩ = some (.int .u64 a.next) := (blk_cell XA6.out 1).trans rfl
          have a_2 : w6.cell? ⟨w.heap.size, 2, none⟩ = some (.int .u64 a.seq) := (blk_cell XA6.out 2).trans rfl
          have a_3 : w6.cell? ⟨w.heap.size, 3, none⟩ = some (.slice A1 a.gone.length c1) := (blk_cell XA6.out 3).trans rfl
          have a_4 : w6.cell? ⟨w.heap.size, 4, none⟩ = some (.slice B1 a.added.length k1) := (blk_cell XA6.out 4).trans rfl
          have SE := SAMEC w6 D1 D2 n1 n2 RD1.out RD2.out (Kd.C_below H1.out HB6.out) (Kd.C_below H2.out HB6.out)
          have d_0 : w6.cell? ⟨g6, 0, none⟩ = some (.int .u64 a.log) := (blk_cell XC6.out 0).trans rfl
          have d_1 : w6.cell? ⟨g6, 1, none⟩ = some (.int .u64 a.next) := (blk_cell XC6.out 1).trans rfl
          have d_2 : w6.cell? ⟨g6, 2, none⟩ = some (.int .u64 a.seq) := (blk_cell XC6.out 2).trans rfl
          have d_3 : w6.cell? ⟨g6, 3, none⟩ = some (.slice D1 a.gone.length n1) := (blk_cell XC6.out 3).trans rfl
          have d_4 : w6.cell? ⟨g6, 4, none⟩ = some (.slice D2 a.added.length n2) := (blk_cell XC6.out 4).trans rfl
          go_wp2_with fail
          refine SE.mono ?_
          clear SE
          rintro x w7 ⟨rfl, hb⟩
          have HB7 := Aside0.mk (below_step HB6.out hb)
          have XA7 := Aside0.mk (blk_below XA6.out hb)
          have XB7 := Aside0.mk (blk_below XB6.out hb)
          clear hb
          clear d_0 d_1 d_2 d_3 d_4
          clear a_0 a_1 a_2 a_3 a_4
          have TD := decode_calls w7 s HS.out
          by_cases he : (decV s).2 = 0
          · have ED := enc_dec he
            have CU := Aside0.mk ED.2
            have CE := Aside0.mk ED.1
            rw [he] at TD
            clear ED he
            generalize (decV s).1 = c at *
            go_wp2_with fail
            refine TD.mono ?_
            clear TD
            rintro x wt ⟨C1, C2, m1, m2, rfl, h1, h2, hb⟩
            have HBt := Aside0.mk (below_alloc (below_step HB7.out hb) (.cells (eCs c C1 m1 C2 m2) 70))
            have XC := Aside0.mk (blk_new wt (.cells (eCs c C1 m1 C2 m2) 70))
            have RC1 := Aside0.mk (Kd.C_below h1.2 (below_alloc (Below.refl wt.heap.size wt) (.cells (eCs c C1 m1 C2 m2) 70)))
            have RC2 := Aside0.mk (Kd.C_below h2.2 (below_alloc (Below.refl wt.heap.size wt) (.cells (eCs c C1 m1 C2 m2) 70)))
            clear h1 h2 hb
            go_upto_region 10 with (fail)
            generalize wt.heap.size = gc at *
            generalize wt.alloc (.cells (eCs c C1 m1 C2 m2) 70) = wt2 at *
            have f0 : wt2.cell? ⟨gc, 0, none⟩ = some (.int .u64 c.log) := (blk_cell XC.out 0).trans rfl
            have f1 : wt2.cell? ⟨gc, 1, none⟩ = some (.int .u64 c.next) := (blk_cell XC.out 1).trans rfl
            have f2 : wt2.cell? ⟨gc, 2, none⟩ = some (.int .u64 c.seq) := (blk_cell XC.out 2).trans rfl
            have f3 : wt2.cell? ⟨gc, 3, none⟩ = some (.slice C1 c.gone.length m1) := (blk_cell XC.out 3).trans rfl
            have f4 : wt2.cell? ⟨gc, 4, none⟩ = some (.slice C2 c.added.length m2) := (blk_cell XC.out 4).trans rfl
            have EN := encode_calls wt2 c C1 C2 m1 m2 RC1.out RC2.out CU.out
            rw [CE.out] at EN
            go_wp2_with fail
            refine EN.mono ?_
            clear EN
            rintro x wt3 ⟨rfl, hb⟩
            have HBu := Aside0.mk (below_step HBt.out hb)
            clear hb f0 f1 f2 f3 f4
            have q3 : (s.toList == s.toList) = true := beq_self_eq_true _
            have q4 : (s.toList != s.toList) = false := bne_self_eq_false _
            go_wp2_with fail
            refine (awake14_calls _).mono ?_
            rintro x wz ⟨rfl, hb⟩
            have HBz := Aside0.mk (below_step HBu.out hb)
            clear hb
            go_wp2_with fail
            go_ret
            exact ⟨rfl, HBz.out⟩
          · have b0 : ((decV s).2 == 0) = false := beq_eq_false_iff_ne.mpr he
            clear he
            generalize (decV s).1 = c at *
            generalize (decV s).2 = cr at *
            go_wp2_with fail
            refine TD.mono ?_
            clear TD
            rintro x wt ⟨C1, C2, m1, m2, rfl, h1, h2, hb⟩
            have HBt := Aside0.mk (below_alloc (below_step HB7.out hb) (.cells (eCs c C1 m1 C2 m2) 70))
            clear h1 h2 hb
            go_upto_region 10 with (fail)
            generalize wt.alloc (.cells (eCs c C1 m1 C2 m2) 70) = wt2 at *
            go_wp2_with fail
            refine (awake14_calls _).mono ?_
            rintro x wz ⟨rfl, hb⟩
            have HBz := Aside0.mk (below_step HBt.out hb)
            clear hb
            go_wp2_with fail
            go_ret
            exact ⟨rfl, HBz.out⟩
      · have b2 : (ea == 0) = false := beq_eq_false_iff_ne.mpr hea
        clear hea DA TW
        have TD := decode_calls w5 s HS.out
        by_cases he : (decV s).2 = 0
        · have ED := enc_dec he
          have CU := Aside0.mk ED.2
          have CE := Aside0.mk ED.1
          rw [he] at TD
          clear ED he
          generalize (decV s).1 = c at *
          go_wp2_with fail
          refine TD.mono ?_
          clear TD
          rintro x wt ⟨C1, C2, m1, m2, rfl, h1, h2, hb⟩
          have HBt := Aside0.mk (below_alloc (below_step HB5.out hb) (.cells (eCs c C1 m1 C2 m2) 70))
          have XC := Aside0.mk (blk_new wt (.cells (eCs c C1 m1 C2 m2) 70))
          have RC1 := Aside0.mk (Kd.C_below h1.2 (below_alloc (Below.refl wt.heap.size wt) (.cells (eCs c C1 m1 C2 m2) 70)))
          have RC2 := Aside0.mk (Kd.C_below h2.2 (below_alloc (Below.refl wt.heap.size wt) (.cells (eCs c C1 m1 C2 m2) 70)))
          clear h1 h2 hb
          go_upto_region 10 with (fail)
          generalize wt.heap.size = gc at *
          generalize wt.alloc (.cells (eCs c C1 m1 C2 m2) 70) = wt2 at *
          have f0 : wt2.cell? ⟨gc, 0, none⟩ = some (.int .u64 c.log) := (blk_cell XC.out 0).trans rfl
          have f1 : wt2.cell? ⟨gc, 1, none⟩ = some (.int .u64 c.next) := (blk_cell XC.out 1).trans rfl
          have f2 : wt2.cell? ⟨gc, 2, none⟩ = some (.int .u64 c.seq) := (blk_cell XC.out 2).trans rfl
          have f3 : wt2.cell? ⟨gc, 3, none⟩ = some (.slice C1 c.gone.length m1) := (blk_cell XC.out 3).trans rfl
          have f4 : wt2.cell? ⟨gc, 4, none⟩ = some (.slice C2 c.added.length m2) := (blk_cell XC.out 4).trans rfl
          have EN := encode_calls wt2 c C1 C2 m1 m2 RC1.out RC2.out CU.out
          rw [CE.out] at EN
          go_wp2_with fail
          refine EN.mono ?_
          clear EN
          rintro x wt3 ⟨rfl, hb⟩
          have HBu := Aside0.mk (below_step HBt.out hb)
          clear hb f0 f1 f2 f3 f4
          have q3 : (s.toList == s.toList) = true := beq_self_eq_true _
          have q4 : (s.toList != s.toList) = false := bne_self_eq_false _
          go_wp2_with fail
          refine (awake14_calls _).mono ?_
          rintro x wz ⟨rfl, hb⟩
          have HBz := Aside0.mk (below_step HBu.out hb)
          clear hb
          go_wp2_with fail
          go_ret
          exact ⟨rfl, HBz.out⟩
        · have b0 : ((decV s).2 == 0) = false := beq_eq_false_iff_ne.mpr he
          clear he
          generalize (decV s).1 = c at *
          generalize (decV s).2 = cr at *
          go_wp2_with fail
          refine TD.mono ?_
          clear TD
          rintro x wt ⟨C1, C2, m1, m2, rfl, h1, h2, hb⟩
          have HBt := Aside0.mk (below_alloc (below_step HB5.out hb) (.cells (eCs c C1 m1 C2 m2) 70))
          clear h1 h2 hb
          go_upto_region 10 with (fail)
          generalize wt.alloc (.cells (eCs c C1 m1 C2 m2) 70) = wt2 at *
          go_wp2_with fail
          refine (awake14_calls _).mono ?_
          rintro x wz ⟨rfl, hb⟩
          have HBz := Aside0.mk (below_step HBt.out hb)
          clear hb
          go_wp2_with fail
          go_ret
          exact ⟨rfl, HBz.out⟩
end Go.Proofs.Ytkjepfofiegcdaa.V
