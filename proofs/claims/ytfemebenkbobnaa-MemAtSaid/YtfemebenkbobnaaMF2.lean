import Derived.Test.YtfemebenkbobnaaMF1
/- The law MemAt, walked. Conditions: none. -/
namespace Go.Proofs.Ytfemebenkbobnaa.SM
set_option linter.unusedVariables false
set_option linter.unusedSimpArgs false
open Go.RowKit Go.Shelf Go.Proofs.YtfemebenkbobnaaW.PrintWords Go.Proofs.YtfemebenkbobnaaW.PrintLast Go.Proofs.YtfemebenkbobnaaW.PrintMore Go.Proofs.Ytfemebenkbobnaa.PB06
open Go.Proofs.Ytfemebenkbobnaa.H (k56 at_T74)
theorem info58 : (Try.prog.info? 58).map (fun i => (i.zero, i.size, i.bytes)) = some (some (.agg #[(.int .u64 0), (.slice none 0 0)]), 2, 32) := by kernel_rfl
attribute [local go_sem high] eqA28
set_option maxHeartbeats 8000000 in
set_option maxRecDepth 100000 in
theorem memAt_calls (w : World) (A0 : Option Addr) (c0 : Nat) (ls : List (List S72)) (hr0 : k56.C w A0 ls.length ls) (hc0 : ls.length ≤ c0) (upto : Int) (key : ByteArray) :
    Calls Try.prog 14 #[.slice A0 ls.length c0, .int .i64 upto, .string key] w fun e w' => e = .returned (.bool true) ∧ Below w.heap.size w w' := by
  have HR0 := Aside0.mk hr0
  have HC0 := Aside0.mk hc0
  clear hr0 hc0
  go_enter Try.func14, Try.ntmps14
  by_cases c : (ls.length : Int) > 20
  · have cb : decide (20 < (ls.length : Int)) = true := decide_eq_true c
    have cb2 : decide (20 < ls.length) = true := decide_eq_true (by omega)
    clear c
    go_wp2_with fail
    refine (awake09_calls _).mono ?_
    rintro e w3 ⟨rfl, hb⟩
    have HB2 := Aside0.mk hb
    clear hb
    go_wp2_with fail
    go_ret
    exact ⟨rfl, HB2.out⟩
  · have cb : decide (20 < (ls.length : Int)) = false := decide_eq_false c
    have cb2 : decide (20 < ls.length) = false := decide_eq_false (by omega)
    have CN := Aside0.mk (show ls.length ≤ 20 by omega)
    have DR := Aside0.mk (show Kd.R (Kd.fixed k58 w) 58 w w.heap.size (fun _ => True) (.slice none 0 0) (batN ls 0) from Kd.R_nil _ _ _ _ _)
    clear c
    go_wp2_with fail
    go_loopg [7, 8, 9, 10] ls.length (fun kq v7 v8 v9 v10 w' => ∃ (i : Nat) (A : Option Addr) (c : Nat), v7 = .int .u64 (seqN ls i : Int) ∧ v8 = .slice A i c ∧ v9 = .int .i64 (i : Int) ∧ Aside0 (kq + i = ls.length) ∧ Aside0 (∀ j, j < i → (ls.getD j []).length ≤ 20 ∧ checkS (seqN ls j : Int) (ls.getD j []) = 0) ∧ Aside0 (Kd.R (Kd.fixed k58 w) 58 w' w.heap.size (fun _ => True) (.slice A i c) (batN ls i)) ∧ Aside0 (Below w.heap.size w w'))
    case atStart => exact ⟨0, none, 0, rfl, rfl, rfl, ⟨by omega⟩, ⟨fun j hj => by omega⟩, DR, ⟨Below.refl _ _⟩⟩
    case round =>
      clear DR
      obtain ⟨i, A, c, rfl, rfl, rfl, HK, HJ, HR, HB⟩ := hrel
      have HI := Aside0.mk (show i ≤ 20 by have := HK.out; have := CN.out; omega)
      cases gk with
      | zero =>
        have ei : i = ls.length := by have := HK.out; omega
        subst ei
        have d0 : decide ((ls.length : Int) < (ls.length : Int)) = false := by simp
        go_upto_region 14 with (fail)
        go_cut [67] (fun v67 wc => ∃ b : Bool, v67 = .bool b ∧ Aside0 (b = true ∨ 0 ≤ upto ∧ upto ≤ (ls.length : Int)) ∧ wr = wc)
        case first =>
          by_cases h1 : upto < 0
          · go_wp2_with fail
            go_meet
            case rel => exact ⟨true, rfl, ⟨.inl rfl⟩, rfl⟩
          · by_cases h2 : upto > (ls.length : Int)
            · go_wp2_with fail
              go_meet
              case rel => exact ⟨true, rfl, ⟨.inl rfl⟩, rfl⟩
            · have h1' : 0 ≤ upto := by omega
              have h2' : upto ≤ (ls.length : Int) := by omega
              go_wp2_with fail
              go_meet
              case rel => exact ⟨false, rfl, ⟨.inr ⟨h1', h2'⟩⟩, rfl⟩
        case rest =>
          obtain ⟨b, rfl, HBB, rfl⟩ := hcut
          go_upto_if 67 with (fail)
          go_cut [11] (fun v11 wc => ∃ n : Nat, v11 = .int .i64 (n : Int) ∧ Aside0 (n ≤ ls.length) ∧ wr = wc)
          case first =>
            cases b with
            | true =>
              go_wp2_with fail
              go_meet
              case rel => exact ⟨ls.length, rfl, ⟨Nat.le_refl _⟩, rfl⟩
            | false =>
              obtain ⟨n, rfl⟩ := Int.eq_ofNat_of_zero_le (HBB.out.elim (fun h => by cases h) (fun h => h.1))
              have HN := Aside0.mk (show n ≤ ls.length by have := HBB.out.elim (fun h => by cases h) (fun h => h.2); omega)
              clear HBB
              go_wp2_with fail
              go_meet
              case rel => exact ⟨n, rfl, HN, rfl⟩
          case rest =>
            obtain ⟨n, rfl, HN, rfl⟩ := hcut
            clear HBB
            have LL := Aside0.mk (batN_len ls ls.length)
            obtain ⟨L, hL⟩ : ∃ L, L = batN ls ls.length := ⟨_, rfl⟩
            have LE := Aside0.mk hL
            rw [← hL] at HR LL
            clear hL
            go_wp2_with fail
            refine (new_calls _).mono ?_
            rintro e w1 ⟨g1, rfl, s1, l1, hb1⟩
            go_wp2_with fail
            refine (new_calls _).mono ?_
            rintro e w2 ⟨g2, rfl, s2, l2, hb2⟩
            go_wp2_with fail
            refine (new_calls _).mono ?_
            rintro e w3 ⟨g3, rfl, s3, l3, hb3⟩
            have ST := Aside0.mk (three_new s1 (Nat.le_trans HB.out.size l1) s2 l2 hb2 s3 l3 hb3 (below_step HB.out hb1) (Kd.R_below HR.out hb1) LL.out)
            clear s1 l1 s2 l2 s3 l3 hb1 hb2 hb3 HR HB
            go_wp2_with fail
            go_loopg [15, 16] ls.length (fun kq v15 v16 w' => ∃ (i : Nat) (r1 r2 r3 : List Nd) (t1 t2 t3 : Ts), v15 = .int .u64 ((seqN ls (min i n) : Int) - 1) ∧ v16 = .int .i64 (i : Int) ∧ Aside0 (kq + i = ls.length) ∧ Aside0 (S3 w w' g1 g2 g3 r1 r2 r3 t1 t2 t3 A ls.length c L (3 * i)) ∧ Aside0 (Has ls 0 (min i n) t1) ∧ Aside0 (Has ls 0 i t2) ∧ Aside0 (Has ls kq ls.length t3))
            case atStart => exact ⟨0, [], [], [], ⟨[], 0, 0, 0⟩, ⟨[], 0, 0, 0⟩, ⟨[], 0, 0, 0⟩, by rw [Nat.zero_min]; rfl, rfl, ⟨by omega⟩, ST, ⟨by rw [Nat.zero_min]; exact has_nil _ _⟩, ⟨has_nil _ _⟩, ⟨has_nil _ _⟩⟩
            case round =>
              clear ST
              obtain ⟨i, r1, r2, r3, t1, t2, t3, rfl, rfl, HK, ST, H1, H2, H3⟩ := hrel
              cases gk with
              | zero =>
                have ei : i = ls.length := by have := HK.out; omega
                subst ei
                have d0 : decide ((ls.length : Int) < (ls.length : Int)) = false := by simp
                rw [Nat.min_eq_right HN.out] at H1
                rw [Nat.min_eq_right HN.out]
                clear LE LL
                have HS1 := Aside0.mk ST.out.a.good.sorted
                have HS2 := Aside0.mk ST.out.b.good.sorted
                have HS3 := Aside0.mk ST.out.d.good.sorted
                have HE := Aside0.mk (sorted_ext HS3.out HS2.out (fun x => (H3.out x).trans (H2.out x).symm))
                have SN := Aside0.mk (show (seqN ls n : Int) ≤ 401 by have h1 := seqN_le (ls := ls) n (fun j hj => (HJ.out j (by have := HN.out; omega)).1); have h2 := HN.out; have h3 := CN.out; omega)
                have SP := Aside0.mk (show 1 ≤ (seqN ls n : Int) by have h1 := seqN_pos ls n; omega)
                have GT := Aside0.mk (H1.out.gets HN.out H2.out HS1.out HS2.out key ((seqN ls n : Int) - 1) rfl 18446744073709551615 (by have := SN.out; omega))
                obtain ⟨at_, hat⟩ : ∃ a, a = (seqN ls n : Int) - 1 := ⟨_, rfl⟩
                rw [← hat] at GT ⊢
                have b0 : 0 ≤ at_ := by have := SP.out; omega
                have b1 : at_ ≤ 401 := by have := SN.out; omega
                clear hat SN SP
                have GS := Aside0.mk (show ∀ x, getG key at_ (t1.l.map (·.1)) = some x → x.f0 = key ∧ x.f1 ≤ at_ from fun x hx => getG_some hx)
                have E1 := Aside0.mk (show getG key 18446744073709551615 (t1.l.map (·.1)) = getG key at_ (t1.l.map (·.1)) from GT.out.2)
                have E2 := Aside0.mk (show getG key at_ (t2.l.map (·.1)) = getG key at_ (t1.l.map (·.1)) from GT.out.1)
                have E3 := Aside0.mk (show getG key at_ (t3.l.map (·.1)) = getG key at_ (t1.l.map (·.1)) by rw [HE.out]; exact GT.out.1)
                clear H1 H2 H3 GT HS1 HS2 HS3
                obtain ⟨y, hy⟩ : ∃ y, y = (getG key at_ (t1.l.map (·.1))).getD zrow := ⟨_, rfl⟩
                obtain ⟨bk, hbk⟩ : ∃ b, b = (getG key at_ (t1.l.map (·.1))).isSome := ⟨_, rfl⟩
                have YB := Aside0.mk (show bk = true → y.f0 = key ∧ y.f1 ≤ at_ from fun h => by
                  rw [hbk, Option.isSome_iff_exists] at h
                  obtain ⟨x, hx⟩ := h
                  rw [hy, hx]
                  exact GS.out x hx)
                have YE := Aside0.mk (And.intro hy.symm hbk.symm)
                clear hy hbk GS

                go_wp2_with fail
                have hga := ST.out.get_calls (by have := CN.out; omega) key at_
                rw [YE.out.1, YE.out.2, show rowV y = .agg #[.string y.f0, .int .u64 y.f1, .int .i64 y.f2, .string y.f3] from rfl] at hga
                refine hga.mono ?_
                clear hga
                rintro e u0 ⟨rfl, hb⟩
                have hal := (Below.refl u0.heap.size u0).alloc (Nat.le_refl _) (.cells #[.string y.f0, .int .u64 y.f1, .int .i64 y.f2, .string y.f3] 28)
                have n0_ := Aside0.mk ((ST.out.below hb).below hal)
                have X0 := Aside0.mk (blk_new u0 (.cells #[.string y.f0, .int .u64 y.f1, .int .i64 y.f2, .string y.f3] 28))
                clear ST hb hal
                have ST := n0_
                clear n0_
                go_wp2_with fail
                generalize u0.heap.size = gx0 at *
                generalize u0.alloc (.cells #[.string y.f0, .int .u64 y.f1, .int .i64 y.f2, .string y.f3] 28) = v0 at *
                go_wp2_with fail
                have hga := ST.out.rot.get_calls (by have := CN.out; omega) key at_
                rw [E2.out, YE.out.1, YE.out.2, show rowV y = .agg #[.string y.f0, .int .u64 y.f1, .int .i64 y.f2, .string y.f3] from rfl] at hga
                refine hga.mono ?_
                clear hga
                rintro e u1 ⟨rfl, hb⟩
                have hal := (Below.refl u1.heap.size u1).alloc (Nat.le_refl _) (.cells #[.string y.f0, .int .u64 y.f1, .int .i64 y.f2, .string y.f3] 28)
                have n0_ := Aside0.mk ((ST.out.below hb).below hal)
                have m0_ := Aside0.mk (blk_below (blk_below X0.out hb) hal)
                have X1 := Aside0.mk (blk_new u1 (.cells #[.string y.f0, .int .u64 y.f1, .int .i64 y.f2, .string y.f3] 28))
                clear ST hb hal
                have ST := n0_
                clear X0; have X0 := m0_; clear m0_
                clear n0_
                go_wp2_with fail
                generalize u1.heap.size = gx1 at *
                generalize u1.alloc (.cells #[.string y.f0, .int .u64 y.f1, .int .i64 y.f2, .string y.f3] 28) = v1 at *
                go_wp2_with fail
                have hga := ST.out.rot.rot.get_calls (by have := CN.out; omega) key at_
                rw [E3.out, YE.out.1, YE.out.2, show rowV y = .agg #[.string y.f0, .int .u64 y.f1, .int .i64 y.f2, .string y.f3] from rfl] at hga
                refine hga.mono ?_
                clear hga
                rintro e u2 ⟨rfl, hb⟩
                have hal := (Below.refl u2.heap.size u2).alloc (Nat.le_refl _) (.cells #[.string y.f0, .int .u64 y.f1, .int .i64 y.f2, .string y.f3] 28)
                have n0_ := Aside0.mk ((ST.out.below hb).below hal)
                have m0_ := Aside0.mk (blk_below (blk_below X0.out hb) hal)
                have m1_ := Aside0.mk (blk_below (blk_below X1.out hb) hal)
                have X2 := Aside0.mk (blk_new u2 (.cells #[.string y.f0, .int .u64 y.f1, .int .i64 y.f2, .string y.f3] 28))
                clear ST hb hal
                have ST := n0_
                clear X0; have X0 := m0_; clear m0_
                clear X1; have X1 := m1_; clear m1_
                clear n0_
                go_wp2_with fail
                generalize u2.heap.size = gx2 at *
                generalize u2.alloc (.cells #[.string y.f0, .int .u64 y.f1, .int .i64 y.f2, .string y.f3] 28) = v2 at *
                go_wp2_with fail
                have hga := ST.out.get_calls (by have := CN.out; omega) key 18446744073709551615
                rw [E1.out, YE.out.1, YE.out.2, show rowV y = .agg #[.string y.f0, .int .u64 y.f1, .int .i64 y.f2, .string y.f3] from rfl] at hga
                refine hga.mono ?_
                clear hga
                rintro e u3 ⟨rfl, hb⟩
                have hal := (Below.refl u3.heap.size u3).alloc (Nat.le_refl _) (.cells #[.string y.f0, .int .u64 y.f1, .int .i64 y.f2, .string y.f3] 28)
                have n0_ := Aside0.mk ((ST.out.below hb).below hal)
                have m0_ := Aside0.mk (blk_below (blk_below X0.out hb) hal)
                have m1_ := Aside0.mk (blk_below (blk_below X1.out hb) hal)
                have m2_ := Aside0.mk (blk_below (blk_below X2.out hb) hal)
                have X3 := Aside0.mk (blk_new u3 (.cells #[.string y.f0, .int .u64 y.f1, .int .i64 y.f2, .string y.f3] 28))
                clear ST hb hal
                have ST := n0_
                clear X0; have X0 := m0_; clear m0_
                clear X1; have X1 := m1_; clear m1_
                clear X2; have X2 := m2_; clear m2_
                clear n0_
                go_upto_region 31 with (fail)
                generalize u3.heap.size = gx3 at *
                generalize u3.alloc (.cells #[.string y.f0, .int .u64 y.f1, .int .i64 y.f2, .string y.f3] 28) = v3 at *
                clear E1 E2 E3 YE
                have z00 : v3.cell? ⟨gx0, 0, none⟩ = some (.string y.f0) := (blk_cell X0.out 0).trans rfl
                have z01 : v3.cell? ⟨gx0, 1, none⟩ = some (.int .u64 y.f1) := (blk_cell X0.out 1).trans rfl
                have z02 : v3.cell? ⟨gx0, 2, none⟩ = some (.int .i64 y.f2) := (blk_cell X0.out 2).trans rfl
                have z03 : v3.cell? ⟨gx0, 3, none⟩ = some (.string y.f3) := (blk_cell X0.out 3).trans rfl
                have z10 : v3.cell? ⟨gx1, 0, none⟩ = some (.string y.f0) := (blk_cell X1.out 0).trans rfl
                have z11 : v3.cell? ⟨gx1, 1, none⟩ = some (.int .u64 y.f1) := (blk_cell X1.out 1).trans rfl
                have z12 : v3.cell? ⟨gx1, 2, none⟩ = some (.int .i64 y.f2) := (blk_cell X1.out 2).trans rfl
                have z13 : v3.cell? ⟨gx1, 3, none⟩ = some (.string y.f3) := (blk_cell X1.out 3).trans rfl
                have z20 : v3.cell? ⟨gx2, 0, none⟩ = some (.string y.f0) := (blk_cell X2.out 0).trans rfl
                have z21 : v3.cell? ⟨gx2, 1, none⟩ = some (.int .u64 y.f1) := (blk_cell X2.out 1).trans rfl
                have z22 : v3.cell? ⟨gx2, 2, none⟩ = some (.int .i64 y.f2) := (blk_cell X2.out 2).trans rfl
                have z23 : v3.cell? ⟨gx2, 3, none⟩ = some (.string y.f3) := (blk_cell X2.out 3).trans rfl
                have z30 : v3.cell? ⟨gx3, 0, none⟩ = some (.string y.f0) := (blk_cell X3.out 0).trans rfl
                have z31 : v3.cell? ⟨gx3, 1, none⟩ = some (.int .u64 y.f1) := (blk_cell X3.out 1).trans rfl
                have z32 : v3.cell? ⟨gx3, 2, none⟩ = some (.int .i64 y.f2) := (blk_cell X3.out 2).trans rfl
                have z33 : v3.cell? ⟨gx3, 3, none⟩ = some (.string y.f3) := (blk_cell X3.out 3).trans rfl
                clear X0 X1 X2 X3
                cases bk with
                | false =>
                  clear YB
                  go_wp2_with fail
                  have hrw := ST.out.rot.rows_calls (by have := CN.out; omega)
                  obtain ⟨Lr, hLr⟩ : ∃ Lr, Lr = t2.l.map (·.1) := ⟨_, rfl⟩
                  rw [← hLr] at hrw
                  have HLR := Aside0.mk hLr
                  have LLR := Aside0.mk (show Lr.length ≤ 4200 by rw [hLr, List.length_map]; have h1 := ST.out.b.small.len; have h2 := CN.out; omega)
                  clear hLr
                  refine hrw.mono ?_
                  clear hrw
                  rintro e w7 ⟨v, rfl, hR, hb⟩
                  obtain ⟨AR, cR, hv⟩ := Kd.R_slice hR
                  subst hv
                  have CA := Aside0.mk (Kd.R_reads' hR).2.2
                  have CAc := Aside0.mk (Kd.R_reads' hR).2.1
                  have n0_ := Aside0.mk (ST.out.below hb)
                  clear hR hb ST
                  have ST := n0_
                  clear n0_
                  go_wp2_with fail
                  have hrw := ST.out.rot.rot.rows_calls (by have := CN.out; omega)
                  rw [HE.out, ← HLR.out] at hrw
                  refine hrw.mono ?_
                  clear hrw
                  rintro e w8 ⟨v, rfl, hR, hb⟩
                  obtain ⟨AS, cS, hv⟩ := Kd.R_slice hR
                  subst hv
                  have CB := Aside0.mk (Kd.R_reads' hR).2.2
                  have CBc := Aside0.mk (Kd.R_reads' hR).2.1
                  have n1_ := Aside0.mk (Kd.C_below CA.out hb)
                  have n0_ := Aside0.mk (ST.out.below hb)
                  clear hR hb ST CA
                  have ST := n0_
                  have CA := n1_
                  clear n0_ n1_
                  go_wp2_with fail
                  refine (same_true w8 AR cR AS cS Lr CA.out CAc.out CB.out CBc.out (by have := LLR.out; omega)).mono ?_
                  rintro e w9 ⟨rfl, hb⟩
                  have n0_ := Aside0.mk (below_step ST.out.bel hb)
                  clear hb ST CA CB
                  go_wp2_with fail
                  refine (awake09_calls _).mono ?_
                  rintro e w10 ⟨rfl, hb⟩
                  have HB2 := Aside0.mk (below_step n0_.out hb)
                  clear hb n0_
                  go_wp2_with fail
                  go_ret
                  exact ⟨rfl, HB2.out⟩
                | true =>
                  obtain ⟨ek, es⟩ := YB.out rfl
                  have es_ : y.f1 ≤ at_ := es
                  subst ek
                  clear YB es
                  go_wp2_with fail
                  have hrw := ST.out.rot.rows_calls (by have := CN.out; omega)
                  obtain ⟨Lr, hLr⟩ : ∃ Lr, Lr = t2.l.map (·.1) := ⟨_, rfl⟩
                  rw [← hLr] at hrw
                  have HLR := Aside0.mk hLr
                  have LLR := Aside0.mk (show Lr.length ≤ 4200 by rw [hLr, List.length_map]; have h1 := ST.out.b.small.len; have h2 := CN.out; omega)
                  clear hLr
                  refine hrw.mono ?_
                  clear hrw
                  rintro e w7 ⟨v, rfl, hR, hb⟩
                  obtain ⟨AR, cR, hv⟩ := Kd.R_slice hR
                  subst hv
                  have CA := Aside0.mk (Kd.R_reads' hR).2.2
                  have CAc := Aside0.mk (Kd.R_reads' hR).2.1
                  have n0_ := Aside0.mk (ST.out.below hb)
                  clear hR hb ST
                  have ST := n0_
                  clear n0_
                  go_wp2_with fail
                  have hrw := ST.out.rot.rot.rows_calls (by have := CN.out; omega)
                  rw [HE.out, ← HLR.out] at hrw
                  refine hrw.mono ?_
                  clear hrw
                  rintro e w8 ⟨v, rfl, hR, hb⟩
                  obtain ⟨AS, cS, hv⟩ := Kd.R_slice hR
                  subst hv
                  have CB := Aside0.mk (Kd.R_reads' hR).2.2
                  have CBc := Aside0.mk (Kd.R_reads' hR).2.1
                  have n1_ := Aside0.mk (Kd.C_below CA.out hb)
                  have n0_ := Aside0.mk (ST.out.below hb)
                  clear hR hb ST CA
                  have ST := n0_
                  have CA := n1_
                  clear n0_ n1_
                  go_wp2_with fail
                  refine (same_true w8 AR cR AS cS Lr CA.out CAc.out CB.out CBc.out (by have := LLR.out; omega)).mono ?_
                  rintro e w9 ⟨rfl, hb⟩
                  have n0_ := Aside0.mk (below_step ST.out.bel hb)
                  clear hb ST CA CB
                  go_wp2_with fail
                  refine (awake09_calls _).mono ?_
                  rintro e w10 ⟨rfl, hb⟩
                  have HB2 := Aside0.mk (below_step n0_.out hb)
                  clear hb n0_
                  go_wp2_with fail
                  go_ret
                  exact ⟨rfl, HB2.out⟩
              | succ q =>
                have hi : i < ls.length := by have := HK.out; omega
                have d0 : decide ((i : Int) < (ls.length : Int)) = true := decide_eq_true (by omega)
                have d1 : decide (i < ls.length) = true := decide_eq_true hi
                have p0 : 0 ≤ (i : Int) := Int.natCast_nonneg _
                have p1 : (i : Int) < (ls.length : Int) := Int.ofNat_lt.mpr hi
                have ej : IntKind.i64.wrap (IntKind.i64.wrap ((ls.length : Int) - 1) - (i : Int)) = (q : Int) := by have h1 := HK.out; have h2 := CN.out; rw [IntKind.wrap_i64, IntKind.wrap_i64]; omega
                have ej1 : wrap64 (wrap64 ((ls.length : Int) - 1) - (i : Int)) = (q : Int) := by have h1 := HK.out; have h2 := CN.out; unfold wrap64; omega
                have EJ := Aside0.mk (show (ls.length : Int) - 1 - (i : Int) = (q : Int) by have h1 := HK.out; omega)
                have q0 : 0 ≤ (q : Int) := Int.natCast_nonneg _
                have q1 : (q : Int) < (ls.length : Int) := by have h1 := HK.out; omega
                have q2 : decide (q < ls.length) = true := decide_eq_true (by omega)
                have YI := Aside0.mk (show L.getD i z58 = ⟨(seqN ls i : Int), ls.getD i []⟩ by rw [LE.out]; exact batN_get ls hi)
                have YQ := Aside0.mk (show L.getD q z58 = ⟨(seqN ls q : Int), ls.getD q []⟩ by rw [LE.out]; exact batN_get ls (by have := HK.out; omega))
                have CI := Aside0.mk (HJ.out i hi)
                have CQ := Aside0.mk (HJ.out q (by have := HK.out; omega))
                obtain ⟨x, hx⟩ : ∃ x, x = ls.getD i [] := ⟨_, rfl⟩
                obtain ⟨y, hy⟩ : ∃ x, x = ls.getD q [] := ⟨_, rfl⟩
                obtain ⟨sx, hsx⟩ : ∃ s, s = seqN ls i := ⟨_, rfl⟩
                obtain ⟨sy, hsy⟩ : ∃ s, s = seqN ls q := ⟨_, rfl⟩
                have XE := Aside0.mk hx
                have YE := Aside0.mk hy
                have SX := Aside0.mk hsx
                have SY := Aside0.mk hsy
                rw [← hx, ← hsx] at YI CI
                rw [← hy, ← hsy] at YQ CQ
                clear hx hy hsx hsy
                by_cases hin : i < n
                · have e0 : decide ((i : Int) < (n : Int)) = true := decide_eq_true (by omega)
                  have e1 : decide (i < n) = true := decide_eq_true hin
                  have MI := Aside0.mk (show min i n = i ∧ min (i + 1) n = i + 1 from ⟨Nat.min_eq_left (by omega), Nat.min_eq_left (by omega)⟩)
                  rw [MI.out.1] at H1
                  have UP := H1.out.up (hs := []) (Nat.zero_le _) (by rw [← SX.out, ← XE.out]; exact CI.out.2)
                  rw [← SX.out, ← XE.out] at UP
                  have F1 := Aside0.mk (show ∀ r, r ∈ rowsL (sx : Int) 0 x → takenV r t1.l = false from fun r hr => UP.1 r (by unfold RJ; rw [← SX.out, ← XE.out]; exact hr))
                  have G1 := Aside0.mk (show Has ls 0 (min (i + 1) n) (addT [] (sx : Int) x t1) by rw [MI.out.2]; exact UP.2)
                  clear UP hin
                  obtain ⟨ad, X, d, ea, x0, x1, CXc, CX⟩ := at_L58 ST.out.row ST.out.len i (by rw [ST.out.len]; omega)
                  rw [YI.out] at x0 x1 CXc CX
                  cases ea
                  replace x0 : wr.cell? (ad.add (i * 2)) = some (.int .u64 (sx : Int)) := x0
                  replace x1 : wr.cell? ⟨(ad.add (i * 2)).block, (ad.add (i * 2)).off + 1, none⟩ = some (.slice X x.length d) := x1
                  replace CXc := Aside0.mk (show x.length ≤ d from CXc)
                  replace CX := Aside0.mk (show k72.C w X x.length x from CX)
                  go_wp2_with fail
                  refine (ST.out.add_calls (by have := HK.out; have := CN.out; omega) (sx : Int) CX.out CXc.out (by have := CI.out.1; omega) CI.out.2 F1.out).mono ?_
                  rintro e w5 ⟨r1', rfl, hs⟩
                  have n0_ := Aside0.mk hs
                  clear hs ST x0 x1 CX CXc
                  have ST := n0_
                  clear n0_
                  obtain ⟨ad, X, d, ea, x0, x1, CXc, CX⟩ := at_L58 ST.out.row ST.out.len i (by rw [ST.out.len]; omega)
                  rw [YI.out] at x0 x1 CXc CX
                  cases ea
                  replace x0 : w5.cell? (ad.add (i * 2)) = some (.int .u64 (sx : Int)) := x0
                  replace x1 : w5.cell? ⟨(ad.add (i * 2)).block, (ad.add (i * 2)).off + 1, none⟩ = some (.slice X x.length d) := x1
                  replace CXc := Aside0.mk (show x.length ≤ d from CXc)
                  replace CX := Aside0.mk (show k72.C w X x.length x from CX)
                  have SL_ := Aside0.mk (show (sx : Int) + (x.length : Int) ≤ 72057594037927936 by have h1 := (check_ok' CI.out.2).2.1; have h2 := CI.out.1; omega)
                  obtain ⟨kn, hkn⟩ := check_next CI.out.2 SL_.out
                  have KN := Aside0.mk hkn
                  clear hkn
                  go_wp2_with fail
                  refine (freshetref06_Next.calls kn (sx : Int) _ _ x _ _ (Kd.C_below CX.out ST.out.bel) CXc.out KN.out).mono ?_
                  rintro e w6 ⟨rfl, hb⟩
                  have n0_ := Aside0.mk (ST.out.below hb)
                  clear ST hb x0 x1 CX CXc
                  have ST := n0_
                  clear n0_
                  have EA := Aside0.mk (show (sx : Int) + (x.length : Int) - 1 = (seqN ls (min (i + 1) n) : Int) - 1 by rw [MI.out.2, seqN, ← SX.out, ← XE.out]; omega)
                  have a0 : 0 ≤ (sx : Int) + (x.length : Int) - 1 := by have h1 := (check_ok' CI.out.2).1; omega
                  have a1 : (sx : Int) + (x.length : Int) - 1 ≤ 72057594037927936 := by have h1 := SL_.out; omega
                  have eaw : IntKind.u64.wrap ((sx : Int) + (x.length : Int) - 1) = (sx : Int) + (x.length : Int) - 1 := by rw [IntKind.wrap_u64]; omega
                  have UP := H2.out.up (hs := []) (Nat.zero_le _) (by rw [← SX.out, ← XE.out]; exact CI.out.2)
                  rw [← SX.out, ← XE.out] at UP
                  have F2 := Aside0.mk (show ∀ r, r ∈ rowsL (sx : Int) 0 x → takenV r t2.l = false from fun r hr => UP.1 r (by unfold RJ; rw [← SX.out, ← XE.out]; exact hr))
                  have G2 := Aside0.mk UP.2
                  clear UP
                  have DN := H3.out.down (hs := []) (by have := HK.out; omega) (by rw [← SY.out, ← YE.out]; exact CQ.out.2)
                  rw [← SY.out, ← YE.out] at DN
                  have F3 := Aside0.mk (show ∀ r, r ∈ rowsL (sy : Int) 0 y → takenV r t3.l = false from fun r hr => DN.1 r (by unfold RJ; rw [← SY.out, ← YE.out]; exact hr))
                  have G3 := Aside0.mk DN.2
                  clear DN
                  obtain ⟨ad, X, d, ea, x0, x1, CXc, CX⟩ := at_L58 ST.out.row ST.out.len i (by rw [ST.out.len]; omega)
                  rw [YI.out] at x0 x1 CXc CX
                  cases ea
                  replace x0 : w6.cell? (ad.add (i * 2)) = some (.int .u64 (sx : Int)) := x0
                  replace x1 : w6.cell? ⟨(ad.add (i * 2)).block, (ad.add (i * 2)).off + 1, none⟩ = some (.slice X x.length d) := x1
                  replace CXc := Aside0.mk (show x.length ≤ d from CXc)
                  replace CX := Aside0.mk (show k72.C w X x.length x from CX)
                  go_wp2_with fail
                  refine (ST.out.rot.add_calls (by have := HK.out; have := CN.out; omega) (sx : Int) CX.out CXc.out (by have := CI.out.1; omega) CI.out.2 F2.out).mono ?_
                  rintro e w7 ⟨r2', rfl, hs⟩
                  have n0_ := Aside0.mk hs.rot.rot
                  clear hs ST x0 x1 CX CXc
                  have ST := n0_
                  clear n0_
                  obtain ⟨ad', X, d, ea, x0, x1, CXc, CX⟩ := at_L58 ST.out.row ST.out.len q (by rw [ST.out.len]; have := HK.out; omega)
                  rw [YQ.out] at x0 x1 CXc CX
                  cases ea
                  replace x0 : w7.cell? (ad.add (q * 2)) = some (.int .u64 (sy : Int)) := x0
                  replace x1 : w7.cell? ⟨(ad.add (q * 2)).block, (ad.add (q * 2)).off + 1, none⟩ = some (.slice X y.length d) := x1
                  replace CXc := Aside0.mk (show y.length ≤ d from CXc)
                  replace CX := Aside0.mk (show k72.C w X y.length y from CX)
                  go_wp2_with fail
                  refine (ST.out.rot.rot.add_calls (by have := HK.out; have := CN.out; omega) (sy : Int) CX.out CXc.out (by have := CQ.out.1; omega) CQ.out.2 F3.out).mono ?_
                  rintro e w8 ⟨r3', rfl, hs⟩
                  have n0_ := Aside0.mk hs.rot
                  clear hs ST x0 x1 CX CXc
                  have ST := n0_
                  clear n0_ ej ej1
                  go_wp2_with fail
                  have ew : wrap64 ((i : Int) + 1) = ((i + 1 : Nat) : Int) := by have h1 := HK.out; have h2 := CN.out; unfold wrap64; omega
                  try rw [ew]
                  go_roundg q
                  case measure => omega
                  case rel => exact ⟨i + 1, _, _, _, _, _, _, by rw [← EA.out], rfl, ⟨by have := HK.out; omega⟩, ⟨by have h := ST.out; exact h⟩, G1, G2, G3⟩
                · have e0 : decide ((i : Int) < (n : Int)) = false := decide_eq_false (by omega)
                  have e1 : decide (i < n) = false := decide_eq_false hin
                  have MI := Aside0.mk (show min i n = n ∧ min (i + 1) n = n from ⟨Nat.min_eq_right (by omega), Nat.min_eq_right (by omega)⟩)
                  rw [MI.out.1] at H1
                  have G1 := Aside0.mk (show Has ls 0 (min (i + 1) n) t1 by rw [MI.out.2]; exact H1.out)
                  rw [MI.out.1]
                  have EA := Aside0.mk (show (seqN ls n : Int) - 1 = (seqN ls (min (i + 1) n) : Int) - 1 by rw [MI.out.2])
                  have n0_ := Aside0.mk ST.out.more
                  clear ST hin
                  have ST := n0_
                  clear n0_
                  have UP := H2.out.up (hs := []) (Nat.zero_le _) (by rw [← SX.out, ← XE.out]; exact CI.out.2)
                  rw [← SX.out, ← XE.out] at UP
                  have F2 := Aside0.mk (show ∀ r, r ∈ rowsL (sx : Int) 0 x → takenV r t2.l = false from fun r hr => UP.1 r (by unfold RJ; rw [← SX.out, ← XE.out]; exact hr))
                  have G2 := Aside0.mk UP.2
                  clear UP
                  have DN := H3.out.down (hs := []) (by have := HK.out; omega) (by rw [← SY.out, ← YE.out]; exact CQ.out.2)
                  rw [← SY.out, ← YE.out] at DN
                  have F3 := Aside0.mk (show ∀ r, r ∈ rowsL (sy : Int) 0 y → takenV r t3.l = false from fun r hr => DN.1 r (by unfold RJ; rw [← SY.out, ← YE.out]; exact hr))
                  have G3 := Aside0.mk DN.2
                  clear DN
                  obtain ⟨ad, X, d, ea, x0, x1, CXc, CX⟩ := at_L58 ST.out.row ST.out.len i (by rw [ST.out.len]; omega)
                  rw [YI.out] at x0 x1 CXc CX
                  cases ea
                  replace x0 : wr.cell? (ad.add (i * 2)) = some (.int .u64 (sx : Int)) := x0
                  replace x1 : wr.cell? ⟨(ad.add (i * 2)).block, (ad.add (i * 2)).off + 1, none⟩ = some (.slice X x.length d) := x1
                  replace CXc := Aside0.mk (show x.length ≤ d from CXc)
                  replace CX := Aside0.mk (show k72.C w X x.length x from CX)
                  go_wp2_with fail
                  refine (ST.out.rot.add_calls (by have := HK.out; have := CN.out; omega) (sx : Int) CX.out CXc.out (by have := CI.out.1; omega) CI.out.2 F2.out).mono ?_
                  rintro e w7 ⟨r2', rfl, hs⟩
                  have n0_ := Aside0.mk hs.rot.rot
                  clear hs ST x0 x1 CX CXc
                  have ST := n0_
                  clear n0_
                  obtain ⟨ad', X, d, ea, x0, x1, CXc, CX⟩ := at_L58 ST.out.row ST.out.len q (by rw [ST.out.len]; have := HK.out; omega)
                  rw [YQ.out] at x0 x1 CXc CX
                  cases ea
                  replace x0 : w7.cell? (ad.add (q * 2)) = some (.int .u64 (sy : Int)) := x0
                  replace x1 : w7.cell? ⟨(ad.add (q * 2)).block, (ad.add (q * 2)).off + 1, none⟩ = some (.slice X y.length d) := x1
                  replace CXc := Aside0.mk (show y.length ≤ d from CXc)
                  replace CX := Aside0.mk (show k72.C w X y.length y from CX)
                  go_wp2_with fail
                  refine (ST.out.rot.rot.add_calls (by have := HK.out; have := CN.out; omega) (sy : Int) CX.out CXc.out (by have := CQ.out.1; omega) CQ.out.2 F3.out).mono ?_
                  rintro e w8 ⟨r3', rfl, hs⟩
                  have n0_ := Aside0.mk hs.rot
                  clear hs ST x0 x1 CX CXc
                  have ST := n0_
                  clear n0_ ej ej1
                  go_wp2_with fail
                  have ew : wrap64 ((i : Int) + 1) = ((i + 1 : Nat) : Int) := by have h1 := HK.out; have h2 := CN.out; unfold wrap64; omega
                  try rw [ew]
                  go_roundg q
                  case measure => omega
                  case rel => exact ⟨i + 1, _, _, _, _, _, _, by rw [← EA.out], rfl, ⟨by have := HK.out; omega⟩, ⟨by have h := ST.out; exact h⟩, G1, G2, G3⟩
      | succ q =>
        have hi : i < ls.length := by have := HK.out; omega
        have d0 : decide ((i : Int) < (ls.length : Int)) = true := decide_eq_true (by omega)
        have d1 : decide (i < ls.length) = true := decide_eq_true hi
        have p0 : 0 ≤ (i : Int) := Int.natCast_nonneg _
        have p1 : (i : Int) < (ls.length : Int) := Int.ofNat_lt.mpr hi
        obtain ⟨ad, X, d, ea, hx0, hl2, hC2⟩ := at_T74 HR0.out i hi
        cases ea
        rw [Nat.mul_one] at hx0
        obtain ⟨x, hx⟩ : ∃ x, x = ls.getD i [] := ⟨_, rfl⟩
        have XE := Aside0.mk hx
        rw [← hx] at hx0 hl2 hC2
        clear hx
        have x0 := (HB.out.cell (World.block_lt_of_cell? w _ hx0)).trans hx0
        have CX := Aside0.mk hC2
        have CXc := Aside0.mk hl2
        clear hx0 hl2 hC2
        obtain ⟨sq, hsq⟩ : ∃ s, s = seqN ls i := ⟨_, rfl⟩
        rw [← hsq]
        have SQ := Aside0.mk hsq
        clear hsq
        by_cases h20 : (x.length : Int) > 20
        · have cb3 : decide (20 < (x.length : Int)) = true := decide_eq_true h20
          have cb4 : decide (20 < x.length) = true := decide_eq_true (by omega)
          clear h20
          have NB := Aside0.mk (show some wr.heap.size ≠ (Value.slice A i c).ownBlock from fun e => by obtain ⟨inner, ho⟩ := Kd.R_own HR.out; have := own_lt ho _ e.symm; omega)
          have n3_ := Aside0.mk ((Below.refl wr.heap.size wr).alloc (Nat.le_refl _) (.cells #[.int .u64 (sq : Int), .slice X x.length d] 58))
          have n0_ := Aside0.mk (below_step HB.out n3_.out)
          have BX := Aside0.mk (blk_new wr (.cells #[.int .u64 (sq : Int), .slice X x.length d] 58))
          have n2_ := Aside0.mk (Kd.R_below HR.out n3_.out)
          have x0' := (n3_.out.cell (World.block_lt_of_cell? wr _ x0)).trans x0
          have b0 : (wr.alloc (.cells #[.int .u64 (sq : Int), .slice X x.length d] 58)).cell? ⟨wr.heap.size, 0, none⟩ = some (.int .u64 (sq : Int)) := (blk_cell BX.out 0).trans rfl
          have b1 : (wr.alloc (.cells #[.int .u64 (sq : Int), .slice X x.length d] 58)).cell? ⟨wr.heap.size, 1, none⟩ = some (.slice X x.length d) := (blk_cell BX.out 1).trans rfl
          have GX := Aside0.mk HB.out.size
          clear HB HR n3_
          have HB := n0_
          have HR := n2_
          clear n0_ n2_
          go_wp2_with fail
          clear x0
          generalize wr.heap.size = gb at *
          generalize (wr.alloc (.cells #[.int .u64 (sq : Int), .slice X x.length d] 58)) = w2 at *
          refine (awake09_calls _).mono ?_
          rintro e w9 ⟨rfl, hb⟩
          have HB2 := Aside0.mk (below_step HB.out hb)
          clear hb HB
          go_wp2_with fail
          go_ret
          exact ⟨rfl, HB2.out⟩
        · have cb3 : decide (20 < (x.length : Int)) = false := decide_eq_false h20
          have cb4 : decide (20 < x.length) = false := decide_eq_false (by omega)
          have X20 := Aside0.mk (show x.length ≤ 20 by omega)
          clear h20
          obtain ⟨kc, hkc⟩ := (ev_rCheck (sq : Int) x (by have := X20.out; omega)).rounds
          have KC := Aside0.mk hkc
          clear hkc
          obtain ⟨ck, hck⟩ : ∃ s, s = checkS (sq : Int) x := ⟨_, rfl⟩
          rw [← hck] at KC
          have CK := Aside0.mk hck
          clear hck
          have NB := Aside0.mk (show some wr.heap.size ≠ (Value.slice A i c).ownBlock from fun e => by obtain ⟨inner, ho⟩ := Kd.R_own HR.out; have := own_lt ho _ e.symm; omega)
          have n3_ := Aside0.mk ((Below.refl wr.heap.size wr).alloc (Nat.le_refl _) (.cells #[.int .u64 (sq : Int), .slice X x.length d] 58))
          have n0_ := Aside0.mk (below_step HB.out n3_.out)
          have BX := Aside0.mk (blk_new wr (.cells #[.int .u64 (sq : Int), .slice X x.length d] 58))
          have n2_ := Aside0.mk (Kd.R_below HR.out n3_.out)
          have x0' := (n3_.out.cell (World.block_lt_of_cell? wr _ x0)).trans x0
          have b0 : (wr.alloc (.cells #[.int .u64 (sq : Int), .slice X x.length d] 58)).cell? ⟨wr.heap.size, 0, none⟩ = some (.int .u64 (sq : Int)) := (blk_cell BX.out 0).trans rfl
          have b1 : (wr.alloc (.cells #[.int .u64 (sq : Int), .slice X x.length d] 58)).cell? ⟨wr.heap.size, 1, none⟩ = some (.slice X x.length d) := (blk_cell BX.out 1).trans rfl
          have GX := Aside0.mk HB.out.size
          clear HB HR n3_
          have HB := n0_
          have HR := n2_
          clear n0_ n2_
          go_wp2_with fail
          clear x0
          generalize wr.heap.size = gb at *
          generalize (wr.alloc (.cells #[.int .u64 (sq : Int), .slice X x.length d] 58)) = w2 at *
          refine (freshetref06_Check.calls kc (sq : Int) _ _ x ck _ (Kd.C_below CX.out HB.out) CXc.out KC.out).mono ?_
          rintro e w3 ⟨rfl, hb⟩
          have n0_ := Aside0.mk (below_step HB.out hb)
          have n1_ := Aside0.mk (blk_below BX.out hb)
          have n2_ := Aside0.mk (Kd.R_below HR.out hb)
          clear HB HR BX x0' hb b0 b1
          have HB := n0_
          have BX := n1_
          have HR := n2_
          clear n0_ n1_ n2_
          have b0 : w3.cell? ⟨gb, 0, none⟩ = some (.int .u64 (sq : Int)) := (blk_cell BX.out 0).trans rfl
          have b1 : w3.cell? ⟨gb, 1, none⟩ = some (.slice X x.length d) := (blk_cell BX.out 1).trans rfl
          by_cases hck : ck = 0
          · subst hck
            have SL_ := Aside0.mk (show (sq : Int) + (x.length : Int) ≤ 72057594037927936 by have h1 := (check_ok' CK.out.symm).2.1; have h2 := X20.out; omega)
            obtain ⟨kn, hkn⟩ := check_next CK.out.symm SL_.out
            have KN := Aside0.mk hkn
            clear hkn
            go_wp2_with (first | ((with_reducible refine gate_builtin (b := .append) (xs := #[.tmp 53, .tmp 55]) rfl ?_); at_builtin; refine Kd.R_append (Kd.fixed k58 w) (w0 := w) w.heap.size rfl (.tmp 53) (.tmp 55) 75 58 (.agg #[(.int .u64 0), (.slice none 0 0)]) 32 rfl Try.underlying75 info58 rfl (by show 0 < 2; decide) (by omega) (.slice A i c) (batN ls i) (⟨(sq : Int), x⟩ : S58) [.int .u64 (sq : Int), .slice X x.length d] (fun _ => True) (fun _ => False) rfl rfl ?aP (fun _ hk => hk.elim) ?aF ?aO ?aB ?aS ?aL ?_; (case aP => exact k58_mk w ⟨(sq : Int), x⟩ CXc.out CX.out); (case aB => exact HB.out); (case aF => exact (fun _ _ => trivial)); (case aO => exact HR.out); (case aS => exact HB.out.size); (case aL => (have h1 := HI.out; rw [batN_len]; omega)); intro va wa ho hb hg hat; have n1_ := Aside0.mk (blk_grown BX.out hg NB.out); rw [SQ.out, XE.out, ← batN_succ] at ho; have n0_ := Aside0.mk hb; clear HB HR hat hg hb b0 b1; have HB := n0_; obtain ⟨A', c', hv⟩ := Kd.R_slice ho; rw [batN_len] at hv; subst hv; have HR := Aside0.mk ho; clear n0_ ho; have b0 : wa.cell? ⟨gb, 0, none⟩ = some (.int .u64 (sq : Int)) := (blk_cell n1_.out 0).trans rfl; have b1 : wa.cell? ⟨gb, 1, none⟩ = some (.slice X x.length d) := (blk_cell n1_.out 1).trans rfl) | fail)
            refine (freshetref06_Next.calls kn (sq : Int) _ _ x _ _ (Kd.C_below CX.out HB.out) CXc.out KN.out).mono ?_
            rintro e w5 ⟨rfl, hb⟩
            have n0_ := Aside0.mk (below_step HB.out hb)
            have n2_ := Aside0.mk (Kd.R_below HR.out hb)
            have n3_ := Aside0.mk (show ∀ j, j < i + 1 → (ls.getD j []).length ≤ 20 ∧ checkS (seqN ls j : Int) (ls.getD j []) = 0 from fun j hj => by
              by_cases hji : j = i
              · subst hji; rw [← XE.out, ← SQ.out]; exact ⟨X20.out, CK.out.symm⟩
              · exact HJ.out j (by omega))
            have n4_ := Aside0.mk (show (sq : Int) + (x.length : Int) = (seqN ls (i + 1) : Int) by rw [seqN, ← SQ.out, ← XE.out]; omega)
            clear HB HR hb HJ BX b0 b1
            go_wp2_with fail
            have ew : wrap64 ((i : Int) + 1) = ((i + 1 : Nat) : Int) := by have h1 := HI.out; unfold wrap64; omega
            try rw [ew]
            go_roundg q
            case measure => omega
            case rel => exact ⟨i + 1, A', c', by rw [n4_.out], rfl, rfl, ⟨by have := HK.out; omega⟩, n3_, n2_, n0_⟩
          · have c3b0 : (ck == 0) = false := beq_eq_false_iff_ne.mpr hck
            have c3b1 : (ck != 0) = true := bne_iff_ne.mpr hck
            clear hck
            go_wp2_with fail
            refine (awake09_calls _).mono ?_
            rintro e w9 ⟨rfl, hb⟩
            have HB2 := Aside0.mk (below_step HB.out hb)
            clear hb HB
            go_wp2_with fail
            go_ret
            exact ⟨rfl, HB2.out⟩
end Go.Proofs.Ytfemebenkbobnaa.SM
