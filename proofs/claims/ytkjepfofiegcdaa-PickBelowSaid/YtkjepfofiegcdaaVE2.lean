import Derived.Test.YtkjepfofiegcdaaVE1
import Derived.Test.YtkjepfofiegcdaaVD1
import Derived.Test.YtkjepfofiegcdaaVB17
/- The law PickOver, walked. Conditions: none. -/
namespace Go.Proofs.Ytkjepfofiegcdaa.V
set_option linter.unusedVariables false
set_option linter.unusedSimpArgs false
open Go.RowKit Go.Proofs.YtkjepfofiegcdaaW.PrintWords Go.Proofs.YtkjepfofiegcdaaW.PrintLast Go.Proofs.YtkjepfofiegcdaaW.PrintMore Go.Proofs.Ytkjepfofiegcdaa.PB14
attribute [local go_sem] max_two min_two min2_str max2_str
theorem below_S {w wa wb : World} (h : Below w.heap.size w wa) (hb : Below wa.heap.size wa wb) : Below w.heap.size w wb := below_step h hb
theorem five_set {w : World} {g t j : Nat} {cs cs' : Array Value} (h : w.heap[g]? = some (.cells cs t (0, 0))) (u : Value) (hc : cs.setIfInBounds j u = cs') : (w.setCell ⟨g, j, none⟩ u).heap[g]? = some (.cells cs' t (0, 0)) := by rw [← hc]; exact blk_set h j u
theorem pick_cases (v : Ver) (many base times : Int) : (pickE v many base times ≠ 0 ∧ pickC v many base times = ⟨0, [], []⟩) ∨ ∃ lev : Nat, lev < 3 ∧ rightP v ∧ optP many base times ∧ dueL v many base times lev ≠ [] ∧ pickE v many base times = 0 ∧ pickC v many base times = ⟨(lev : Nat), dueL v many base times lev, ovrL v lev (dueL v many base times lev)⟩ := by
  by_cases h : rightP v ∧ optP many base times
  · by_cases hd : dueAt v many base times < 3
    · refine .inr ⟨dueAt v many base times, hd, h.1, h.2, ?_, ?_, ?_⟩
      · unfold dueAt at hd ⊢
        split
        · assumption
        · split
          · assumption
          · split
            · assumption
            · rename_i h1 h2 h3; rw [if_neg h1, if_neg h2, if_neg h3] at hd; omega
      · unfold pickE; rw [if_pos h, if_pos hd]
      · unfold pickC; rw [if_pos ⟨h.1, h.2, hd⟩]
    · refine .inl ⟨?_, ?_⟩
      · unfold pickE; rw [if_pos h, if_neg hd]; omega
      · unfold pickC; rw [if_neg (fun k => hd k.2.2)]
  · refine .inl ⟨?_, ?_⟩
    · unfold pickE; rw [if_neg h]; omega
    · unfold pickC; rw [if_neg (fun k => h ⟨k.1, k.2.1⟩)]
set_option maxHeartbeats 8000000 in
set_option maxRecDepth 100000 in
theorem pickOver_calls (w : World) (v : Ver) (p : Pl) (hC : VC w v p) (hW : VW v) (many base times : Int) : Calls Try.prog 10 #[.agg (vCs v p), .agg #[.int .i64 many, .int .i64 base, .int .i64 times]] w fun e w' => e = .returned (.bool true) ∧ Below w.heap.size w w' := by
  have HC := Aside0.mk hC
  have HW := Aside0.mk hW
  have HB := Aside0.mk (below_alloc ((Below.refl w.heap.size w).alloc (Nat.le_refl _) (.cells (vCs v p) 26)) (.cells #[.int .i64 many, .int .i64 base, .int .i64 times] 48))
  have X2 := Aside0.mk (blk_alloc (blk_new w (.cells (vCs v p) 26)) (.cells #[.int .i64 many, .int .i64 base, .int .i64 times] 48))
  have X3 := Aside0.mk (blk_new (w.alloc (.cells (vCs v p) 26)) (.cells #[.int .i64 many, .int .i64 base, .int .i64 times] 48))
  clear hC hW
  go_enter Try.func10, Try.ntmps10
  go_upto_region 1 with (fail)
  generalize hg3 : (w.alloc (.cells (vCs v p) 26)).heap.size = g3 at *
  have e3 : w.heap.size + 1 = g3 := by rw [← hg3]; simp
  try rw [e3]
  have N1 := Aside0.mk (show w.heap.size < g3 by omega)
  clear hg3 e3
  generalize (w.alloc (.cells (vCs v p) 26)).alloc (.cells #[.int .i64 many, .int .i64 base, .int .i64 times] 48) = w1 at *
  have b0 : w1.cell? ⟨w.heap.size, 0, none⟩ = some (.int .u64 v.log) := (blk_cell X2.out 0).trans rfl
  have b1 : w1.cell? ⟨w.heap.size, 1, none⟩ = some (.int .u64 v.next) := (blk_cell X2.out 1).trans rfl
  have b2 : w1.cell? ⟨w.heap.size, 2, none⟩ = some (.int .u64 v.seq) := (blk_cell X2.out 2).trans rfl
  have b3 : w1.cell? ⟨w.heap.size, 3, none⟩ = some (.slice p.a0 v.l0.length p.c0) := (blk_cell X2.out 3).trans rfl
  have b4 : w1.cell? ⟨w.heap.size, 4, none⟩ = some (.slice p.a1 v.l1.length p.c1) := (blk_cell X2.out 4).trans rfl
  have b5 : w1.cell? ⟨w.heap.size, 5, none⟩ = some (.slice p.a2 v.l2.length p.c2) := (blk_cell X2.out 5).trans rfl
  have b6 : w1.cell? ⟨w.heap.size, 6, none⟩ = some (.slice p.a3 v.l3.length p.c3) := (blk_cell X2.out 6).trans rfl
  go_wp2_with fail
  refine (many33_calls _ v p).mono ?_
  rintro e w2 ⟨rfl, hb⟩
  have HB2 := Aside0.mk (below_step HB.out hb)
  have X22 := Aside0.mk (blk_below X2.out hb)
  have X32 := Aside0.mk (blk_below X3.out hb)
  clear hb HB X2 X3 b0 b1 b2 b3 b4 b5 b6
  by_cases hm : manyP v
  · rw [decide_eq_true hm]
    clear hm
    go_wp2_with fail
    refine (awake16_calls _).mono ?_
    rintro e w9 ⟨rfl, hb⟩
    have HB9 := Aside0.mk (below_step HB2.out hb)
    clear hb
    go_wp2_with fail
    go_ret
    exact ⟨rfl, HB9.out⟩
  · rw [decide_eq_false hm]
    clear hm
    have b0 : w2.cell? ⟨w.heap.size, 0, none⟩ = some (.int .u64 v.log) := (blk_cell X22.out 0).trans rfl
    have b1 : w2.cell? ⟨w.heap.size, 1, none⟩ = some (.int .u64 v.next) := (blk_cell X22.out 1).trans rfl
    have b2 : w2.cell? ⟨w.heap.size, 2, none⟩ = some (.int .u64 v.seq) := (blk_cell X22.out 2).trans rfl
    have b3 : w2.cell? ⟨w.heap.size, 3, none⟩ = some (.slice p.a0 v.l0.length p.c0) := (blk_cell X22.out 3).trans rfl
    have b4 : w2.cell? ⟨w.heap.size, 4, none⟩ = some (.slice p.a1 v.l1.length p.c1) := (blk_cell X22.out 4).trans rfl
    have b5 : w2.cell? ⟨w.heap.size, 5, none⟩ = some (.slice p.a2 v.l2.length p.c2) := (blk_cell X22.out 5).trans rfl
    have b6 : w2.cell? ⟨w.heap.size, 6, none⟩ = some (.slice p.a3 v.l3.length p.c3) := (blk_cell X22.out 6).trans rfl
    have o0 : w2.cell? ⟨g3, 0, none⟩ = some (.int .i64 many) := (blk_cell X32.out 0).trans rfl
    have o1 : w2.cell? ⟨g3, 1, none⟩ = some (.int .i64 base) := (blk_cell X32.out 1).trans rfl
    have o2 : w2.cell? ⟨g3, 2, none⟩ = some (.int .i64 times) := (blk_cell X32.out 2).trans rfl
    go_wp2_with fail
    refine (pick_calls _ v p (HC.out.below HB2.out) HW.out many base times).mono ?_
    rintro e w3 ⟨vi, vo, rfl, hRi, hRo, hb⟩
    obtain ⟨Ai, ci, hvi⟩ := Kd.R_slice hRi
    subst hvi
    obtain ⟨Ao, co, hvo⟩ := Kd.R_slice hRo
    subst hvo
    have HB3 := Aside0.mk (below_step HB2.out hb)
    have X23 := Aside0.mk (blk_below X22.out hb)
    have RI := Aside0.mk (Kd.R_reads' hRi)
    have RO := Aside0.mk (Kd.R_reads' hRo)
    clear hb hRi hRo HB2 X22 X32 b0 b1 b2 b3 b4 b5 b6 o0 o1 o2
    rcases pick_cases v many base times with ⟨hE, hP⟩ | ⟨lev, hl3, hr, ho, hne, hE, hP⟩
    · rw [hP] at RI RO
      rw [hP]
      generalize pickE v many base times = ee at *
      have z0 : (ee == 0) = false := by simpa using hE
      have z1 : (ee != 0) = true := by simpa using hE
      have HB4 := Aside0.mk (below_alloc HB3.out (.cells #[.int .i64 0, .slice Ai 0 ci, .slice Ao 0 co] 52))
      clear hP hE
      go_wp2_with fail
      refine (awake16_calls _).mono ?_
      rintro e w9 ⟨rfl, hb⟩
      have HB9 := Aside0.mk (below_step HB4.out hb)
      clear hb
      go_wp2_with fail
      go_ret
      exact ⟨rfl, HB9.out⟩
    · rw [hP] at RI RO
      rw [hP, hE]
      replace RI := RI.out.2.2
      replace RO := RO.out.2.2
      obtain ⟨In, hIn⟩ : ∃ In, In = dueL v many base times lev := ⟨_, rfl⟩
      obtain ⟨Ov, hOv⟩ : ∃ Ov, Ov = ovrL v lev (dueL v many base times lev) := ⟨_, rfl⟩
      simp only [← hIn] at hOv RI RO hne ⊢
      simp only [← hOv] at RO ⊢
      have OV := Aside0.mk hOv
      have HNE := Aside0.mk hne
      have HPOS := Aside0.mk (List.length_pos_iff.mpr hne)
      have RV := Aside0.mk hr
      have HL3 := Aside0.mk hl3
      clear hP hE hIn hOv hne hr ho
      have hb1 := (Below.refl w3.heap.size w3).alloc (Nat.le_refl _) (.cells #[.int .i64 (lev : Int), .slice Ai In.length ci, .slice Ao Ov.length co] 52)
      have HB4 := Aside0.mk (below_step HB3.out hb1)
      have X24 := Aside0.mk (blk_below X23.out hb1)
      have X54 := Aside0.mk (blk_new w3 (.cells #[.int .i64 (lev : Int), .slice Ai In.length ci, .slice Ao Ov.length co] 52))
      have CI := Aside0.mk (Kd.C_below RI hb1)
      have CO := Aside0.mk (Kd.C_below RO hb1)
      have N5 := Aside0.mk (show w.heap.size < w3.heap.size from blk_lt X23.out)
      clear hb1 RI RO HB3 X23
      go_upto_region 6 with (fail)
      have n5_ := N5.out
      generalize w3.heap.size = g5 at *
      generalize w3.alloc (.cells #[.int .i64 (lev : Int), .slice Ai In.length ci, .slice Ao Ov.length co] 52) = w4 at *
      have y0 : w4.cell? ⟨g5, 0, none⟩ = some (.int .i64 (lev : Int)) := (blk_cell X54.out 0).trans rfl
      have y1 : w4.cell? ⟨g5, 1, none⟩ = some (.slice Ai In.length ci) := (blk_cell X54.out 1).trans rfl
      have l0 : ((In.length : Int) == 0) = false := by rw [beq_eq_false_iff_ne]; have := HPOS.out; omega
      have l1 : (In.length == 0) = false := by rw [beq_eq_false_iff_ne]; have := HPOS.out; omega
      have l2 : decide ((lev : Int) < 0) = false := decide_eq_false (by omega)
      have l3 : decide ((2 : Int) < (lev : Int)) = false := decide_eq_false (by omega)
      have l4 : decide (2 < lev) = false := decide_eq_false (by omega)
      have l5 : In.isEmpty = false := by have := HNE.out; cases In <;> simp_all
      go_upto_region 8 with (fail)
      obtain ⟨ad, ea, ha0, ha1, ha2, ha3, ha4, ha5, ha6⟩ := at_T58 CI.out 0 (by omega) (by have := HPOS.out; omega)
      have az : ad.add (Int.toNat 0 * 7) = ad := by show ad.add 0 = ad; unfold Addr.add; rw [if_pos rfl]
      rw [az] at ha0 ha1 ha2 ha3 ha4 ha5 ha6
      have EM := Aside0.mk (show rd_T58 In 0 = In.getD 0 z58 from rfl)
      generalize rd_T58 In 0 = m0 at *
      have p1 : (0 : Int) < (In.length : Int) := by have := HPOS.out; omega
      have p1n : 0 < In.length := HPOS.out
      rw [ea] at y1 ⊢
      have HAX := Aside0.mk ea
      have HB5 := Aside0.mk ((Below.refl w4.heap.size w4).alloc (Nat.le_refl _) (.cells #[.int .u64 m0.f0, .int .i64 m0.f1, .int .i64 m0.f2, .string m0.f3, .string m0.f4, .int .u64 m0.f5, .int .u64 m0.f6] 58))
      have X65 := Aside0.mk (blk_new w4 (.cells #[.int .u64 m0.f0, .int .i64 m0.f1, .int .i64 m0.f2, .string m0.f3, .string m0.f4, .int .u64 m0.f5, .int .u64 m0.f6] 58))
      clear ea
      go_wp2_with fail
      rw [← HAX.out]
      clear ha0 ha1 ha2 ha3 ha4 ha5 ha6 y0 y1 l0 l1 l2 l3 l4 l5 az p1 p1n
      have SK0 := Aside0.mk (show spK In 0 = some (m0.f3, m0.f4) by rw [spK_zero HPOS.out, ← EM.out])
      have X65 := Aside0.mk (show (w4.alloc (.cells #[.int .u64 m0.f0, .int .i64 m0.f1, .int .i64 m0.f2, .string m0.f3, .string m0.f4, .int .u64 m0.f5, .int .u64 m0.f6] 58)).heap[w4.heap.size]? = some (.cells #[.int .u64 m0.f0, .int .i64 m0.f1, .int .i64 m0.f2, .string (spF (spK In 0)), .string (spL (spK In 0)), .int .u64 m0.f5, .int .u64 m0.f6] 58 (0, 0)) by rw [SK0.out]; exact X65.out)
      generalize w4.alloc (.cells #[.int .u64 m0.f0, .int .i64 m0.f1, .int .i64 m0.f2, .string m0.f3, .string m0.f4, .int .u64 m0.f5, .int .u64 m0.f6] 58) = w5 at *
      go_loopg [8] In.length (fun kq v8 w' => ∃ i : Nat, v8 = .int .i64 (i : Int) ∧ Aside0 (kq + i = In.length) ∧ Aside0 (Below w4.heap.size w4 w') ∧ Aside0 (w'.heap[w4.heap.size]? = some (.cells #[.int .u64 m0.f0, .int .i64 m0.f1, .int .i64 m0.f2, .string (spF (spK In i)), .string (spL (spK In i)), .int .u64 m0.f5, .int .u64 m0.f6] 58 (0, 0))))
      case atStart => exact ⟨0, rfl, ⟨by omega⟩, HB5, X65⟩
      case round =>
        clear HB5 X65
        obtain ⟨i, rfl, HK, HB, X6⟩ := hrel
        have HM := Aside0.mk (show In.length ≤ 9223372036854775807 from CI.out.2.1)
        have X5 := Aside0.mk (blk_below X54.out HB.out)
        have y0 : wr.cell? ⟨g5, 0, none⟩ = some (.int .i64 (lev : Int)) := (blk_cell X5.out 0).trans rfl
        have y1 : wr.cell? ⟨g5, 1, none⟩ = some (.slice Ai In.length ci) := (blk_cell X5.out 1).trans rfl
        have y2 : wr.cell? ⟨g5, 2, none⟩ = some (.slice Ao Ov.length co) := (blk_cell X5.out 2).trans rfl
        cases gk with
        | zero =>
          have ei : i = In.length := by have := HK.out; omega
          subst ei
          have d0 : decide ((In.length : Int) < (In.length : Int)) = false := by simp
          obtain ⟨sp, hsp⟩ : ∃ q, spK In In.length = some q := spK_some HPOS.out
          rw [hsp] at X6
          replace X6 := Aside0.mk (show wr.heap[w4.heap.size]? = some (.cells (mCs ⟨m0.f0, m0.f1, m0.f2, sp.1, sp.2, m0.f5, m0.f6⟩) 58 (0, 0)) from X6.out)
          have SPO := Aside0.mk (show spanO In = some sp by rw [← spK_all HPOS.out]; exact hsp)
          obtain ⟨s, hs⟩ : ∃ s : S58, s = ⟨m0.f0, m0.f1, m0.f2, sp.1, sp.2, m0.f5, m0.f6⟩ := ⟨_, rfl⟩
          rw [← hs] at X6
          have OVF := Aside0.mk (show Ov = flt (v.lv (lev + 1)) s (v.lv (lev + 1)).length by
            rw [flt_all, OV.out]
            unfold ovrL
            congr 1
            funext m
            exact overB_congr (by rw [hs]; show spF (spanO In) = _; rw [SPO.out]; rfl) (by rw [hs]; show spL (spanO In) = _; rw [SPO.out]; rfl))
          clear hsp hs
          obtain ⟨j, hj⟩ : ∃ j : Nat, j = lev + 1 := ⟨_, rfl⟩
          rw [← hj] at OVF
          have HJ4 := Aside0.mk (show j < 4 by have := HL3.out; omega)
          have j0 : 0 ≤ (lev : Int) + 1 := by omega
          have j1 : (lev : Int) + 1 < 4 := by have := HL3.out; omega
          have hjw : (lev : Int) + 1 = (j : Int) := by omega
          have hjw2 : wrap64 ((lev : Int) + 1) = (j : Int) := by unfold wrap64; have := HL3.out; omega
          have hjw3 : IntKind.i64.wrap ((lev : Int) + 1) = (j : Int) := by rw [IntKind.wrap_i64]; have := HL3.out; omega
          have hjw4 : IntKind.i64.wrap (j : Int) = (j : Int) := by rw [IntKind.wrap_i64]; have := HJ4.out; omega
          have hjw5 : wrap64 (j : Int) = (j : Int) := by unfold wrap64; have := HJ4.out; omega
          have j2 : 0 ≤ (j : Int) := Int.natCast_nonneg _
          have j3 : (j : Int) < 4 := by have := HJ4.out; omega
          obtain ⟨l, hl⟩ : ∃ l, l = v.lv j := ⟨_, rfl⟩
          have LE := Aside0.mk hl
          rw [← hl] at OVF
          have HLL := Aside0.mk (show l.length ≤ 64 by rw [LE.out]; exact RV.out.2.1.1 j HJ4.out)
          have CL := Aside0.mk (show k58.C w4 (p.a j) l.length l by rw [LE.out]; exact ((HC.out.below HB4.out) j HJ4.out).1)
          clear hj hl
          go_wp2_with fail
          clear y0 y1 y2 X5
          have HR0 := Aside0.mk (show Kd.R k58 58 wr w4.heap.size (fun _ => True) (.slice none (flt l s 0).length 0) (flt l s 0) from Kd.R_nil _ _ _ _ _)
          go_loopg [9, 10] l.length (fun kq v9 v10 w' => ∃ (k : Nat) (B : Option Addr) (cb : Nat), v9 = .slice B (flt l s k).length cb ∧ v10 = .int .i64 (k : Int) ∧ Aside0 (kq + k = l.length) ∧ Aside0 (Below w4.heap.size w4 w') ∧ Aside0 (Tb w' w4.heap.size s) ∧ Aside0 (Kd.R k58 58 w' w4.heap.size (fun k => k ≠ w4.heap.size) (.slice B (flt l s k).length cb) (flt l s k)))
          case atStart => exact ⟨0, none, 0, rfl, rfl, ⟨by omega⟩, HB, X6, ⟨Kd.R_nil _ _ _ _ _⟩⟩
          case round =>
            clear HB X6 HR0
            obtain ⟨k, B, cb, rfl, rfl, HK, HB, X6, HR⟩ := hrel
            have X2 := Aside0.mk (blk_below X24.out HB.out)
            have X5 := Aside0.mk (blk_below X54.out HB.out)
            have y0 : wr.cell? ⟨g5, 0, none⟩ = some (.int .i64 (lev : Int)) := (blk_cell X5.out 0).trans rfl
            have y2 : wr.cell? ⟨g5, 2, none⟩ = some (.slice Ao Ov.length co) := (blk_cell X5.out 2).trans rfl
            have hv := vcell X2.out j HJ4.out
            rw [← LE.out] at hv
            cases gk with
            | zero =>
              have ek : k = l.length := by have := HK.out; omega
              subst ek
              have d0 : decide ((l.length : Int) < (l.length : Int)) = false := by simp
              have CO1 := Aside0.mk (Kd.C_below CO.out HB.out)
              rw [← OVF.out] at HR ⊢
              go_wp2_with fail
              refine (sameM_calls _ Ao B co cb Ov Ov CO1.out (Kd.R_reads' HR.out).2.2).mono ?_
              rw [decide_eq_true (rfl : Ov = Ov)]
              rintro e w8 ⟨rfl, hb⟩
              have HB8 := Aside0.mk (below_step HB4.out (below_step HB.out hb))
              clear hb y0 y2 hv
              go_wp2_with fail
              refine (awake16_calls _).mono ?_
              rintro e w9 ⟨rfl, hb⟩
              have HB9 := Aside0.mk (below_step HB8.out hb)
              clear hb
              go_wp2_with fail
              go_ret
              exact ⟨rfl, HB9.out⟩
            | succ q =>
              have hk : k < l.length := by have := HK.out; omega
              have d0 : decide ((k : Int) < (l.length : Int)) = true := decide_eq_true (by omega)
              have d1 : decide (k < l.length) = true := decide_eq_true hk
              have p0 : 0 ≤ (k : Int) := Int.natCast_nonneg _
              have p1 : (k : Int) < (l.length : Int) := by omega
              have CL1 := Aside0.mk (Kd.C_below CL.out HB.out)
              obtain ⟨ax, eb, ha0, ha1, ha2, ha3, ha4, ha5, ha6⟩ := at_T58 CL1.out (k : Int) p0 p1
              rw [Int.toNat_natCast] at ha0 ha1 ha2 ha3 ha4 ha5 ha6
              have EI := Aside0.mk (show rd_T58 l (k : Int) = l.getD k z58 by unfold rd_T58; rw [Int.toNat_natCast])
              generalize rd_T58 l (k : Int) = m at *
              have FS := Aside0.mk (flt_snoc l s hk)
              rw [← EI.out] at FS
              rw [eb] at hv
              have HAY := Aside0.mk eb
              have ew : wrap64 ((k : Int) + 1) = ((k + 1 : Nat) : Int) := by have h1 := HLL.out; unfold wrap64; omega
              have FL := Aside0.mk (show (flt l s k).length ≤ 1000000000 from Nat.le_trans (flt_len l s k) (by have := HLL.out; omega))
              clear eb hk
              have s0 : wr.cell? ⟨w4.heap.size, 0, none⟩ = some (.int .u64 s.f0) := (blk_cell X6.out 0).trans rfl
              have s1 : wr.cell? ⟨w4.heap.size, 1, none⟩ = some (.int .i64 s.f1) := (blk_cell X6.out 1).trans rfl
              have s2 : wr.cell? ⟨w4.heap.size, 2, none⟩ = some (.int .i64 s.f2) := (blk_cell X6.out 2).trans rfl
              have s3 : wr.cell? ⟨w4.heap.size, 3, none⟩ = some (.string s.f3) := (blk_cell X6.out 3).trans rfl
              have s4 : wr.cell? ⟨w4.heap.size, 4, none⟩ = some (.string s.f4) := (blk_cell X6.out 4).trans rfl
              have s5 : wr.cell? ⟨w4.heap.size, 5, none⟩ = some (.int .u64 s.f5) := (blk_cell X6.out 5).trans rfl
              have s6 : wr.cell? ⟨w4.heap.size, 6, none⟩ = some (.int .u64 s.f6) := (blk_cell X6.out 6).trans rfl
              go_wp2_with fail
              go_still_tail 10, (by kernel_rfl)
              go_wp2_with fail
              refine (over_calls _ m s).mono ?_
              rintro e w8 ⟨rfl, hb⟩
              replace hb : Below wr.heap.size wr w8 := (below_drew (Below.refl wr.heap.size wr)).trans hb
              have HB8 := Aside0.mk (below_step HB.out hb)
              have X68 := Aside0.mk (X6.out.below hb)
              have HR8 := Aside0.mk (Kd.R_below HR.out hb)
              have e0_ := (hb.cell (World.block_lt_of_cell? _ _ ha0)).trans ha0
              have e1_ := (hb.cell (World.block_lt_of_cell? _ _ ha1)).trans ha1
              have e2_ := (hb.cell (World.block_lt_of_cell? _ _ ha2)).trans ha2
              have e3_ := (hb.cell (World.block_lt_of_cell? _ _ ha3)).trans ha3
              have e4_ := (hb.cell (World.block_lt_of_cell? _ _ ha4)).trans ha4
              have e5_ := (hb.cell (World.block_lt_of_cell? _ _ ha5)).trans ha5
              have e6_ := (hb.cell (World.block_lt_of_cell? _ _ ha6)).trans ha6
              have z0_ := (hb.cell (World.block_lt_of_cell? _ _ y0)).trans y0
              have zv_ := (hb.cell (World.block_lt_of_cell? _ _ hv)).trans hv
              clear hb ha0 ha1 ha2 ha3 ha4 ha5 ha6 y0 y2 hv s0 s1 s2 s3 s4 s5 s6 X2 X5 CL1
              by_cases hov : overB m s = true
              · rw [hov]
                have FS2 := Aside0.mk (show flt l s (k + 1) = flt l s k ++ [m] by rw [FS.out, if_pos hov])
                clear hov
                go_wp2_with (first | ((with_reducible refine gate_builtin (b := .append) (xs := #[.tmp 90, .tmp 100]) rfl ?_); at_builtin; refine Kd.R_append k58 (w0 := w4) w4.heap.size rfl (.tmp 90) (.tmp 100) 23 58 (.agg #[(.int .u64 0), (.int .i64 0), (.int .i64 0), (.string ⟨#[]⟩), (.string ⟨#[]⟩), (.int .u64 0), (.int .u64 0)]) 72 rfl Try.underlying23 info58 rfl (show 0 < 7 by decide) (show 0 < 72 by decide) (.slice B (flt l s k).length cb) (flt l s k) m [.int .u64 m.f0, .int .i64 m.f1, .int .i64 m.f2, .string m.f3, .string m.f4, .int .u64 m.f5, .int .u64 m.f6] (fun k => k ≠ w4.heap.size) (fun _ => False) rfl rfl ?aPa (fun _ hk => hk.elim) ?aFa ?aOa ?aBa ?aSa ?aLa ?_; (case aPa => exact k58_mkM _ _ _ m); (case aBa => exact HB8.out); (case aFa => exact (fun k hk => by have := blk_lt X68.out; omega)); (case aOa => exact HR8.out); (case aSa => exact Below.size (HB8.out)); (case aLa => (have h1 := FL.out; omega)); intro va wa ho hb hg hat; have HBa := Aside0.mk hb; have X6a := Aside0.mk (show Tb _ w4.heap.size s from blk_grown X68.out hg (Kd.R_away HR8.out (fun k hk => hk))); obtain ⟨B', cb', hv⟩ := Kd.R_slice ho; subst hv; have HRa := Aside0.mk ho; clear ho hb hg hat) | fail)
                try rw [ew]
                rw [← FS2.out] at HRa
                clear hjw hjw2 hjw3 hjw4 hjw5 ew
                go_roundg q
                case measure => omega
                case rel => exact ⟨k + 1, B', cb', by rw [FS2.out, List.length_append]; rfl, rfl, ⟨by have := HK.out; omega⟩, HBa, X6a, HRa⟩
              · rw [eq_false_of_ne_true hov]
                have FS2 := Aside0.mk (show flt l s (k + 1) = flt l s k by rw [FS.out, if_neg hov])
                clear hov
                go_wp2_with fail
                try rw [ew]
                clear hjw hjw2 hjw3 hjw4 hjw5 ew
                go_roundg q
                case measure => omega
                case rel => exact ⟨k + 1, B, cb, by (show Value.slice B (flt l s k).length cb = _; rw [FS2.out]), rfl, ⟨by have := HK.out; omega⟩, HB8, X68, by rw [FS2.out]; exact HR8⟩
        | succ q =>
          have hk : i < In.length := by have := HK.out; omega
          have d0 : decide ((i : Int) < (In.length : Int)) = true := decide_eq_true (by omega)
          have d1 : decide (i < In.length) = true := decide_eq_true hk
          have p0 : 0 ≤ (i : Int) := Int.natCast_nonneg _
          have p1 : (i : Int) < (In.length : Int) := by omega
          have CI1 := Aside0.mk (Kd.C_below CI.out HB.out)
          obtain ⟨ax, eb, ha0, ha1, ha2, ha3, ha4, ha5, ha6⟩ := at_T58 CI1.out (i : Int) p0 p1
          rw [Int.toNat_natCast] at ha0 ha1 ha2 ha3 ha4 ha5 ha6
          have EI := Aside0.mk (show rd_T58 In (i : Int) = In.getD i z58 by unfold rd_T58; rw [Int.toNat_natCast])
          generalize rd_T58 In (i : Int) = m at *
          have TS := Aside0.mk (show spK In (i + 1) = some (smn (spF (spK In i)) m.f3, smx (spL (spK In i)) m.f4) by rw [spK_succ hk, ← EI.out])
          rw [eb] at y1 ⊢
          have HAY := Aside0.mk eb
          have ew : wrap64 ((i : Int) + 1) = ((i + 1 : Nat) : Int) := by have h1 := HM.out; unfold wrap64; omega
          obtain ⟨sf, hsf⟩ : ∃ s, s = spF (spK In i) := ⟨_, rfl⟩
          obtain ⟨sl, hsl⟩ : ∃ s, s = spL (spK In i) := ⟨_, rfl⟩
          rw [← hsf, ← hsl] at X6 TS
          clear eb hk hsf hsl
          have F3 := blk_frozen X6.out 3
          have s3 : wr.cell? ⟨w4.heap.size, 3, none⟩ = some (.string sf) := (blk_cell X6.out 3).trans rfl
          go_upto_region 12 with (fail)
          go_region
          have HB6 := Aside0.mk (below_drew (below_set (j := 3) (v := .string (smn sf m.f3)) HB.out (Nat.le_refl _)))
          have X66 := Aside0.mk (blk_drew (five_set (cs' := #[.int .u64 m0.f0, .int .i64 m0.f1, .int .i64 m0.f2, .string (smn sf m.f3), .string sl, .int .u64 m0.f5, .int .u64 m0.f6]) X6.out (j := 3) (.string (smn sf m.f3)) rfl))
          clear F3 s3 ha0 ha1 ha2 ha3 ha4 ha5 ha6 y0 y1 y2 CI1 X5
          go_upto_region 13 with (fail)
          generalize (wr.setCell ⟨w4.heap.size, 3, none⟩ (.string (smn sf m.f3))).drew = w6 at *
          have X5 := Aside0.mk (blk_below X54.out HB6.out)
          have y1 : w6.cell? ⟨g5, 1, none⟩ = some (.slice Ai In.length ci) := (blk_cell X5.out 1).trans rfl
          rw [HAY.out] at y1
          have CI1 := Aside0.mk (Kd.C_below CI.out HB6.out)
          obtain ⟨ay, ec, ha0, ha1, ha2, ha3, ha4, ha5, ha6⟩ := at_T58 CI1.out (i : Int) p0 p1
          obtain rfl : ax = ay := by rw [HAY.out] at ec; cases ec; rfl
          rw [Int.toNat_natCast] at ha0 ha1 ha2 ha3 ha4 ha5 ha6
          rw [show rd_T58 In (i : Int) = m from (by unfold rd_T58; rw [Int.toNat_natCast, EI.out])] at ha0 ha1 ha2 ha3 ha4 ha5 ha6
          have F4 := blk_frozen X66.out 4
          have s4 : w6.cell? ⟨w4.heap.size, 4, none⟩ = some (.string sl) := (blk_cell X66.out 4).trans rfl
          clear ec
          go_region
          have HB7 := Aside0.mk (below_drew (below_set (j := 4) (v := .string (smx sl m.f4)) HB6.out (Nat.le_refl _)))
          have X67 := Aside0.mk (blk_drew (five_set (cs' := #[.int .u64 m0.f0, .int .i64 m0.f1, .int .i64 m0.f2, .string (smn sf m.f3), .string (smx sl m.f4), .int .u64 m0.f5, .int .u64 m0.f6]) X66.out (j := 4) (.string (smx sl m.f4)) rfl))
          clear F4 s4 ha0 ha1 ha2 ha3 ha4 ha5 ha6 y1 CI1 X5
          go_wp2_with fail
          try rw [ew]
          rw [← HAY.out]
          go_roundg q
          case measure => omega
          case rel => exact ⟨i + 1, rfl, ⟨by have := HK.out; omega⟩, HB7, by rw [TS.out]; exact X67⟩
end Go.Proofs.Ytkjepfofiegcdaa.V
