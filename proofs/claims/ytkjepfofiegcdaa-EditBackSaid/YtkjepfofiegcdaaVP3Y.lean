import Derived.Test.YtkjepfofiegcdaaVP2Y
/- edit.Encode (57), walked: what it writes. Conditions: the numbers are such as the machine has. -/
namespace Go.Proofs.Ytkjepfofiegcdaa.V
set_option linter.unusedVariables false
set_option linter.unusedSimpArgs false
open Go.RowKit Go.Proofs.YtkjepfofiegcdaaW.PrintWords Go.Proofs.YtkjepfofiegcdaaW.PrintLast Go.Proofs.YtkjepfofiegcdaaW.PrintMore Go.Proofs.Ytkjepfofiegcdaa.PB14
open H (putL)
theorem len_ak {l2 : List UInt8} {l : List S82} {k : Nat} (h1 : l2.length ≤ 6000) (h2 : (aBys (l.take k)).length ≤ 1120 * (l.take k).length) (h3 : l.length ≤ 256) : (l2 ++ aBys (l.take k)).length ≤ 400000 := by
  have h4 : (l.take k).length ≤ l.length := List.length_take_le' k l
  rw [List.length_append]
  omega
theorem len_gk {l2 : List UInt8} {l : List S84} {k : Nat} (h1 : l2.length ≤ 40) (h2 : (gBys (l.take k)).length ≤ 20 * (l.take k).length) (h3 : l.length ≤ 256) : (l2 ++ gBys (l.take k)).length ≤ 6000 := by
  have h4 : (l.take k).length ≤ l.length := List.length_take_le' k l
  rw [List.length_append]
  omega
theorem ret_si {s t : ByteArray} {a b : Int} (h : (s, a) = (t, b)) : Ending.returned (.tuple #[.string t, .int .i64 b]) = .returned (.tuple #[.string s, .int .i64 a]) := by
  injection h with h1 h2
  rw [h1, h2]
set_option maxHeartbeats 8000000 in
set_option maxRecDepth 100000 in
theorem encode_calls (w : World) (e : Edt) (A1 A2 : Option Addr) (c1 c2 : Nat) (h1 : k84.C w A1 e.gone.length e.gone) (h2 : k82.C w A2 e.added.length e.added) (hu : EU e) :
    Calls Try.prog 57 #[.agg (eCs e A1 c1 A2 c2)] w fun x w' => x = .returned (.tuple #[.string (encV e).1, .int .i64 (encV e).2]) ∧ Below w.heap.size w w' := by
  have H1 := Aside0.mk h1
  have H2 := Aside0.mk h2
  have HU := Aside0.mk hu
  have HB := Aside0.mk ((Below.refl w.heap.size w).alloc (Nat.le_refl _) (.cells (eCs e A1 c1 A2 c2) 70))
  have X1 := Aside0.mk (blk_new w (.cells (eCs e A1 c1 A2 c2) 70))
  clear h1 h2 hu
  obtain ⟨r1, r2, hr⟩ : ∃ r1 r2, (r1, r2) = encV e := ⟨_, _, rfl⟩
  rw [show (encV e).1 = r1 by rw [← hr], show (encV e).2 = r2 by rw [← hr]]
  have HRR := Aside0.mk hr
  clear hr
  go_enter Try.func57, Try.ntmps57
  go_upto_region 1 with (fail)
  generalize w.alloc (.cells (eCs e A1 c1 A2 c2) 70) = w1 at *
  have b0 : w1.cell? ⟨w.heap.size, 0, none⟩ = some (.int .u64 e.log) := (blk_cell X1.out 0).trans rfl
  have b1 : w1.cell? ⟨w.heap.size, 1, none⟩ = some (.int .u64 e.next) := (blk_cell X1.out 1).trans rfl
  have b2 : w1.cell? ⟨w.heap.size, 2, none⟩ = some (.int .u64 e.seq) := (blk_cell X1.out 2).trans rfl
  have b3 : w1.cell? ⟨w.heap.size, 3, none⟩ = some (.slice A1 e.gone.length c1) := (blk_cell X1.out 3).trans rfl
  have b4 : w1.cell? ⟨w.heap.size, 4, none⟩ = some (.slice A2 e.added.length c2) := (blk_cell X1.out 4).trans rfl
  go_wp2_with fail
  refine (listed_calls _ e A1 A2 c1 c2 (Kd.C_below H1.out HB.out) (Kd.C_below H2.out HB.out)).mono ?_
  rintro x w2 ⟨rfl, hb⟩
  have HB2 := Aside0.mk (below_step HB.out hb)
  have X2 := Aside0.mk (blk_below X1.out hb)
  clear hb b0 b1 b2 b3 b4
  have b0 : w2.cell? ⟨w.heap.size, 0, none⟩ = some (.int .u64 e.log) := (blk_cell X2.out 0).trans rfl
  have b1 : w2.cell? ⟨w.heap.size, 1, none⟩ = some (.int .u64 e.next) := (blk_cell X2.out 1).trans rfl
  have b2 : w2.cell? ⟨w.heap.size, 2, none⟩ = some (.int .u64 e.seq) := (blk_cell X2.out 2).trans rfl
  have b3 : w2.cell? ⟨w.heap.size, 3, none⟩ = some (.slice A1 e.gone.length c1) := (blk_cell X2.out 3).trans rfl
  have b4 : w2.cell? ⟨w.heap.size, 4, none⟩ = some (.slice A2 e.added.length c2) := (blk_cell X2.out 4).trans rfl
  by_cases hl : listedP e
  · rw [if_pos hl]
    have LP := Aside0.mk hl
    have M1 := Aside0.mk (show e.gone.length ≤ 9223372036854775807 from H1.out.2.1)
    have M2 := Aside0.mk (show e.added.length ≤ 9223372036854775807 from H2.out.2.1)
    clear hl
    by_cases hg : 256 < e.gone.length
    · have d0 : decide (256 < (e.gone.length : Int)) = true := decide_eq_true (by omega)
      have d1 : decide (256 < e.gone.length) = true := decide_eq_true hg
      have EV := Aside0.mk (show encV e = (⟨#[]⟩, 3) by unfold encV; rw [if_pos LP.out, if_pos (.inl hg)])
      rw [← HRR.out] at EV
      clear hg
      go_wp2_with fail
      go_ret2
      exact ⟨ret_si EV.out, HB2.out⟩
    · have d0 : decide (256 < (e.gone.length : Int)) = false := decide_eq_false (by omega)
      have d1 : decide (256 < e.gone.length) = false := decide_eq_false hg
      have G1 := Aside0.mk (show e.gone.length ≤ 256 by omega)
      by_cases hg2 : 256 < e.added.length
      · have d2 : decide (256 < (e.added.length : Int)) = true := decide_eq_true (by omega)
        have d3 : decide (256 < e.added.length) = true := decide_eq_true hg2
        have EV := Aside0.mk (show encV e = (⟨#[]⟩, 3) by unfold encV; rw [if_pos LP.out, if_pos (.inr hg2)])
        rw [← HRR.out] at EV
        clear hg hg2
        go_wp2_with fail
        go_ret2
        exact ⟨ret_si EV.out, HB2.out⟩
      · have d2 : decide (256 < (e.added.length : Int)) = false := decide_eq_false (by omega)
        have d3 : decide (256 < e.added.length) = false := decide_eq_false hg2
        have G2 := Aside0.mk (show e.added.length ≤ 256 by omega)
        have EV := Aside0.mk (show encV e = (bA (encB e), 0) by unfold encV; rw [if_pos LP.out, if_neg (by omega)])
        have wg : IntKind.u64.wrap (e.gone.length : Int) = (e.gone.length : Int) := wrap_u (by omega) (by have := M1.out; omega)
        have wa : IntKind.u64.wrap (e.added.length : Int) = (e.added.length : Int) := wrap_u (by omega) (by have := M2.out; omega)
        clear hg hg2
        go_upto_region 8 with (fail)
        have X3 := Aside0.mk (blk_alloc X2.out (.cells #[.slice none 0 0] 36))
        have HB3 := Aside0.mk (below_alloc HB2.out (.cells #[.slice none 0 0] 36))
        have O3 := Aside0.mk (show OUT (w2.alloc (.cells #[.slice none 0 0] 36)) w2.heap.size [] from ⟨_, blk_new w2 _, .inl ⟨rfl, rfl⟩⟩)
        have NG := Aside0.mk (show w.heap.size < w2.heap.size from blk_lt X2.out)
        clear HB2 X2 b0 b1 b2 b3 b4
        generalize w2.heap.size = go at *
        generalize w2.alloc (.cells #[.slice none 0 0] 36) = w3 at *
        have b0 : w3.cell? ⟨w.heap.size, 0, none⟩ = some (.int .u64 e.log) := (blk_cell X3.out 0).trans rfl
        have b1 : w3.cell? ⟨w.heap.size, 1, none⟩ = some (.int .u64 e.next) := (blk_cell X3.out 1).trans rfl
        have b2 : w3.cell? ⟨w.heap.size, 2, none⟩ = some (.int .u64 e.seq) := (blk_cell X3.out 2).trans rfl
        have b3 : w3.cell? ⟨w.heap.size, 3, none⟩ = some (.slice A1 e.gone.length c1) := (blk_cell X3.out 3).trans rfl
        have b4 : w3.cell? ⟨w.heap.size, 4, none⟩ = some (.slice A2 e.added.length c2) := (blk_cell X3.out 4).trans rfl
        go_wp2_with fail
        try rw [wg]
        have NR := new_row O3.out #[.int .u64 e.log, .int .u64 e.next, .int .u64 e.seq, .int .u64 (e.gone.length : Int)] 22
        refine (put111n _ go w3.heap.size 4 4 [] [e.log, e.next, e.seq, (e.gone.length : Int)] _ rfl NR.1 (blk_new w3 _) NR.2.2 cs4 (puts4 ⟨HU.out.1.1, HU.out.1.2.1, HU.out.1.2.2, ⟨by omega, by have := G1.out; omega⟩⟩) (by simp) (by decide)).mono ?_
        rintro x w4 ⟨⟨_, rfl⟩, ho, hk⟩
        rw [List.nil_append] at ho
        obtain ⟨l1, hl1⟩ : ∃ l1, l1 = putsL [e.log, e.next, e.seq, (e.gone.length : Int)] := ⟨_, rfl⟩
        rw [← hl1] at ho
        have LL1 := Aside0.mk (show l1.length ≤ 40 by rw [hl1]; exact putsL_len _ (puts4 ⟨HU.out.1.1, HU.out.1.2.1, HU.out.1.2.2, ⟨by omega, by have := G1.out; omega⟩⟩))
        have EL1 := Aside0.mk hl1
        have O4 := Aside0.mk ho
        have K4 := Aside0.mk (NR.2.1.trans hk)
        clear ho hk NR hl1 b0 b1 b2 b3 b4
        have X4 := Aside0.mk (K4.out.2 _ _ _ (by decide) (Nat.ne_of_lt NG.out) X3.out)
        have b3 : w4.cell? ⟨w.heap.size, 3, none⟩ = some (.slice A1 e.gone.length c1) := (blk_cell X4.out 3).trans rfl
        have b4 : w4.cell? ⟨w.heap.size, 4, none⟩ = some (.slice A2 e.added.length c2) := (blk_cell X4.out 4).trans rfl
        go_wp2_with fail
        clear b3 b4
        go_loopg [44] e.gone.length (fun kq v44 w' => ∃ k : Nat, v44 = .int .i64 (k : Int) ∧ Aside0 (kq + k = e.gone.length) ∧ Aside0 (OUT w' go (l1 ++ gBys (e.gone.take k))) ∧ Aside0 (OutK go w3 w'))
        case atStart => exact ⟨0, rfl, ⟨by omega⟩, ⟨by rw [List.take_zero, gBys, List.append_nil]; exact O4.out⟩, K4⟩
        case round =>
          clear O4 K4 X4
          obtain ⟨k, rfl, HK, HO, HKr⟩ := hrel
          have XR := Aside0.mk (HKr.out.2 _ _ _ (by decide) (Nat.ne_of_lt NG.out) X3.out)
          have HBR := Aside0.mk (HB3.out.trans (HKr.out.1.mono (Nat.le_of_lt NG.out)))
          cases gk with
          | zero =>
            have ek : k = e.gone.length := by have := HK.out; omega
            subst ek
            have d4 : decide ((e.gone.length : Int) < (e.gone.length : Int)) = false := by simp
            rw [List.take_length] at HO
            have b3 : wr.cell? ⟨w.heap.size, 3, none⟩ = some (.slice A1 e.gone.length c1) := (blk_cell XR.out 3).trans rfl
            have b4 : wr.cell? ⟨w.heap.size, 4, none⟩ = some (.slice A2 e.added.length c2) := (blk_cell XR.out 4).trans rfl
            go_wp2_with fail
            try rw [wa]
            have NR := new_row HO.out #[.int .u64 (e.added.length : Int)] 22
            refine (put111n _ go wr.heap.size 1 1 _ [(e.added.length : Int)] _ rfl NR.1 (blk_new wr _) NR.2.2 cs1 (puts1 ⟨by omega, by have := G2.out; omega⟩) (by rw [List.length_append]; have h1 := LL1.out; have h2 := gBys_len e.gone (fun y hy => ⟨⟨(LP.out.1 y hy).1, by have := (LP.out.1 y hy).2; omega⟩, HU.out.2 y hy⟩); have := G1.out; omega) (by decide)).mono ?_
            rintro x w4b ⟨⟨_, rfl⟩, ho, hk⟩
            obtain ⟨l2, hl2⟩ : ∃ l2, l2 = l1 ++ gBys e.gone ++ putsL [(e.added.length : Int)] := ⟨_, rfl⟩
            have LL2 := Aside0.mk (show l2.length ≤ 6000 by
              rw [hl2, List.length_append, List.length_append]
              have h1 := LL1.out
              have h2 := gBys_len e.gone (fun y hy => ⟨⟨(LP.out.1 y hy).1, by have := (LP.out.1 y hy).2; omega⟩, HU.out.2 y hy⟩)
              have h3 := putsL_len [(e.added.length : Int)] (puts1 ⟨by omega, by have := G2.out; omega⟩)
              have := G1.out
              simp only [List.length_cons, List.length_nil] at h3
              omega)
            rw [← hl2] at ho
            have EL2 := Aside0.mk hl2
            have O4 := Aside0.mk ho
            have K4 := Aside0.mk ((HKr.out.trans NR.2.1).trans hk)
            clear ho hk NR hl2 b3 b4 XR HBR HKr HO
            have X4 := Aside0.mk (K4.out.2 _ _ _ (by decide) (Nat.ne_of_lt NG.out) X3.out)
            have b3 : w4b.cell? ⟨w.heap.size, 3, none⟩ = some (.slice A1 e.gone.length c1) := (blk_cell X4.out 3).trans rfl
            have b4 : w4b.cell? ⟨w.heap.size, 4, none⟩ = some (.slice A2 e.added.length c2) := (blk_cell X4.out 4).trans rfl
            go_wp2_with fail
            clear b3 b4
            go_loopg [67] e.added.length (fun kq v67 w' => ∃ k : Nat, v67 = .int .i64 (k : Int) ∧ Aside0 (kq + k = e.added.length) ∧ Aside0 (OUT w' go (l2 ++ aBys (e.added.take k))) ∧ Aside0 (OutK go w3 w'))
            case atStart => exact ⟨0, rfl, ⟨by omega⟩, ⟨by rw [List.take_zero, aBys, List.append_nil]; exact O4.out⟩, K4⟩
            case round =>
              clear O4 K4 X4
              obtain ⟨k, rfl, HK, HO, HKr⟩ := hrel
              have HBR := Aside0.mk (HB3.out.trans (HKr.out.1.mono (Nat.le_of_lt NG.out)))
              cases gk with
              | zero =>
                have ek : k = e.added.length := by have := HK.out; omega
                subst ek
                have d6 : decide ((e.added.length : Int) < (e.added.length : Int)) = false := by simp
                rw [List.take_length] at HO
                obtain ⟨v0, x0, n0⟩ := HO.out
                have hc0 : wr.cell? ⟨go, 0, none⟩ = some v0 := (blk_cell x0 0).trans rfl
                have ER := Aside0.mk (show (r1, r2) = (bA (l2 ++ aBys e.added), 0) by refine (HRR.out.trans EV.out).trans ?_; congr 2; rw [EL2.out, EL1.out]; unfold encB; simp only [List.append_assoc])
                rcases n0 with ⟨rfl, hxs⟩ | hB
                · exfalso
                  have h1 := congrArg List.length hxs
                  rw [bts_len, List.length_append, EL2.out, List.length_append] at h1
                  have h2 := putL_pos ((e.added.length : Int)).toNat
                  simp only [putsL, List.length_append, List.length_nil] at h1
                  omega
                · have kc := H.BRow.to_string (P := Try.prog) (src := 36) (dst := 9) Try.underlying36 Try.underlying5 Try.underlying9 hB
                  rw [bts_str] at kc
                  go_wp2_with fail
                  go_ret2
                  exact ⟨ret_si ER.out, HBR.out⟩
              | succ q =>
                have hk : k < e.added.length := by have := HK.out; omega
                have d6 : decide ((k : Int) < (e.added.length : Int)) = true := decide_eq_true (by omega)
                have d7 : decide (k < e.added.length) = true := decide_eq_true hk
                have p0 : 0 ≤ (k : Int) := Int.natCast_nonneg _
                have p1 : (k : Int) < (e.added.length : Int) := by omega
                have CG := Kd.C_below H2.out HBR.out
                obtain ⟨ad, ea, ha0, ha1, ha2, ha3, ha4, ha5, ha6, ha7⟩ := at_T82 CG (k : Int) p0 p1
                rw [Int.toNat_natCast] at ha0 ha1 ha2 ha3 ha4 ha5 ha6 ha7
                have EM := Aside0.mk (show rd_T82 e.added (k : Int) = e.added.getD k z82 by unfold rd_T82; rw [Int.toNat_natCast])
                have hmx := getD_mem e.added z82 hk
                have TS := Aside0.mk (take_snoc e.added z82 hk)
                rw [← EM.out] at hmx TS
                generalize rd_T82 e.added (k : Int) = x at *
                have hgo := LP.out.2 x hmx
                have UX := Aside0.mk (add_nums hgo)
                have UL := Aside0.mk (aBy_len hgo)
                have wx0 := UX.out.1.wrap
                have wx1 := UX.out.2.2.1.wrap
                have wx2 := UX.out.2.2.2.1.wrap
                have SZ3 := Aside0.mk UX.out.2.2.2.2.2.2.1
                have SZ4 := Aside0.mk UX.out.2.2.2.2.2.2.2
                have F3 := Aside0.mk (fieldL_len x.f1.f3 (by have := SZ3.out; omega))
                have F4 := Aside0.mk (fieldL_len x.f1.f4 (by have := SZ4.out; omega))
                have HTK := Aside0.mk (aBys_len (e.added.take k) (fun y hy => LP.out.2 y (List.mem_of_mem_take hy)))
                have ew : wrap64 ((k : Int) + 1) = ((k + 1 : Nat) : Int) := by have h1 := G2.out; unfold wrap64; omega
                have z4 : (9223372036854775807 < (bA (fieldL x.f1.f3)).size + (bA (fieldL x.f1.f4)).size) = False := eq_false (by rw [bA_size, bA_size]; have := F3.out; have := F4.out; have := SZ3.out; have := SZ4.out; omega)
                have HP := Aside0.mk (show 0 < (bA (fieldL x.f1.f3) ++ bA (fieldL x.f1.f4)).size by rw [ByteArray.size_append, bA_size, bA_size, fieldL, List.length_append]; have := putL_pos x.f1.f3.size; omega)
                rw [ea]
                have HAX := Aside0.mk ea
                obtain ⟨l2k, hl2⟩ : ∃ l2k, l2k = l2 ++ aBys (e.added.take k) := ⟨_, rfl⟩
                have HLL := Aside0.mk (show l2k.length ≤ 400000 by rw [hl2]; exact len_ak LL2.out HTK.out G2.out)
                rw [← hl2] at HO
                have HL2 := Aside0.mk hl2
                clear hk ea hmx hgo CG hl2
                go_upto_region 18 with (fail)
                have NR1 := new_row HO.out (pCs x) 82
                have O5 := Aside0.mk NR1.1
                have K5 := Aside0.mk (HKr.out.trans NR1.2.1)
                have X5 := Aside0.mk (blk_new wr (.cells (pCs x) 82))
                have G5 := Aside0.mk NR1.2.2
                clear NR1 ha0 ha1 ha2 ha3 ha4 ha5 ha6 ha7
                generalize wr.heap.size = g5 at *
                generalize wr.alloc (.cells (pCs x) 82) = w5 at *
                have y1 : w5.cell? ⟨g5, 1, none⟩ = some (.int .u64 x.f1.f0) := (blk_cell X5.out 1).trans rfl
                have y2 : w5.cell? ⟨g5, 2, none⟩ = some (.int .i64 x.f1.f1) := (blk_cell X5.out 2).trans rfl
                have y3 : w5.cell? ⟨g5, 3, none⟩ = some (.int .i64 x.f1.f2) := (blk_cell X5.out 3).trans rfl
                have y4 : w5.cell? ⟨g5, 4, none⟩ = some (.string x.f1.f3) := (blk_cell X5.out 4).trans rfl
                have y5 : w5.cell? ⟨g5, 5, none⟩ = some (.string x.f1.f4) := (blk_cell X5.out 5).trans rfl
                have y6 : w5.cell? ⟨g5, 6, none⟩ = some (.int .u64 x.f1.f5) := (blk_cell X5.out 6).trans rfl
                have y7 : w5.cell? ⟨g5, 7, none⟩ = some (.int .u64 x.f1.f6) := (blk_cell X5.out 7).trans rfl
                go_upto_region 19 with (fail)
                have NR1 := new_row O5.out (mCs x.f1) 58
                have O6 := Aside0.mk NR1.1
                have K6 := Aside0.mk (K5.out.trans NR1.2.1)
                have X6 := Aside0.mk (blk_new w5 (.cells (mCs x.f1) 58))
                have X56 := Aside0.mk (blk_alloc X5.out (.cells (mCs x.f1) 58))
                have G6 := Aside0.mk NR1.2.2
                clear NR1 y1 y2 y3 y4 y5 y6 y7
                generalize w5.heap.size = g6 at *
                generalize w5.alloc (.cells (mCs x.f1) 58) = w6 at *
                have y0 : w6.cell? ⟨g5, 0, none⟩ = some (.int .i64 x.f0) := (blk_cell X56.out 0).trans rfl
                have z0 : w6.cell? ⟨g6, 0, none⟩ = some (.int .u64 x.f1.f0) := (blk_cell X6.out 0).trans rfl
                have z1 : w6.cell? ⟨g6, 1, none⟩ = some (.int .i64 x.f1.f1) := (blk_cell X6.out 1).trans rfl
                have z2 : w6.cell? ⟨g6, 2, none⟩ = some (.int .i64 x.f1.f2) := (blk_cell X6.out 2).trans rfl
                go_wp2_with fail
                try rw [wx0, wx1, wx2]
                have NR := new_row O6.out #[.int .u64 x.f0, .int .u64 x.f1.f0, .int .u64 x.f1.f1, .int .u64 x.f1.f2] 22
                refine (put111n _ go w6.heap.size 4 4 l2k [x.f0, x.f1.f0, x.f1.f1, x.f1.f2] _ rfl NR.1 (blk_new w6 _) NR.2.2 cs4 (puts4 ⟨UX.out.1, UX.out.2.1, UX.out.2.2.1, UX.out.2.2.2.1⟩) (by have := HLL.out; omega) (by decide)).mono ?_
                rintro x9 w8 ⟨⟨_, rfl⟩, ho, hk⟩
                obtain ⟨l3, hl3⟩ : ∃ l3, l3 = l2k ++ aBy1 x := ⟨_, rfl⟩
                have O8 := Aside0.mk (show OUT w8 go l3 by rw [hl3]; exact ho)
                have HLL3 := Aside0.mk (show l3.length ≤ 500000 by rw [hl3, List.length_append]; have := HLL.out; have := UL.out; omega)
                have EL3 := Aside0.mk hl3
                have K68 := NR.2.1.trans hk
                have K8 := Aside0.mk (K6.out.trans K68)
                have X8 := Aside0.mk (K68.2 g6 _ 58 (by decide) G6.out X6.out)
                clear ho hk NR hl3 K68 y0 z0 z1 z2 wx0 wx1 wx2 X56 X5
                obtain ⟨v0, x0, n0⟩ := O8.out
                have X0 := Aside0.mk x0
                have HN := Aside0.mk n0
                have hc0 : w8.cell? ⟨go, 0, none⟩ = some v0 := (blk_cell x0 0).trans rfl
                have HGO := Aside0.mk (show go + 1 ≤ w8.heap.size from blk_lt x0)
                have hc3 : w8.cell? ⟨g6, 3, none⟩ = some (.string x.f1.f3) := (blk_cell X8.out 3).trans rfl
                have hc4 : w8.cell? ⟨g6, 4, none⟩ = some (.string x.f1.f4) := (blk_cell X8.out 4).trans rfl
                clear x0 n0
                go_upto_region 20 with (fail)
                refine start_ (n := 10) (S := (fun w' => Below w8.heap.size w8 w' ∧ w'.cell? ⟨go, 0, none⟩ = some v0 ∧ w'.cell? ⟨g6, 3, none⟩ = some (.string x.f1.f3) ∧ w'.cell? ⟨g6, 4, none⟩ = some (.string x.f1.f4))) (ds := [8, 9]) #[false, false, false, false, false, false, false, false, false, false] (by kernel_rfl) rfl rfl ⟨below_drew (Below.refl _ _), hc0, hc3, hc4⟩ (fun hHeld => ?_)
                -- 0: Op.load 36 t5
                refine take_ (i := 0) (N := (some 87)) (v := ?_) (a' := ?_) #[true, false, false, false, false, false, false, false, false, false] rfl rfl (by kernel_rfl) (fun _ _ _ h => h) (Or.inl ⟨by rfl, ?_⟩) hHeld ?_ ?_
                rotate_left
                · rintro w' ⟨s0, s1, s2, s3⟩
                  go_simp
                  with_reducible rfl
                rotate_left
                · simp only [Act.put, List.setIfInBounds_toArray, List.set_cons_zero, List.set_cons_succ, i64_w, i32_w]
                  rfl
                -- 1: Op.fieldAddr 58 t11 3
                refine pure_ (i := 1) (N := (some 88)) (v := ?_) (a' := ?_) #[true, true, false, false, false, false, false, false, false, false] rfl rfl (by kernel_rfl) (fun _ _ _ h => h) (Or.inl ⟨by rfl, ?_⟩) ?_ ?_
                rotate_left
                · intro w'
                  go_simp
                  with_reducible rfl
                rotate_left
                · simp only [Act.put, List.setIfInBounds_toArray, List.set_cons_zero, List.set_cons_succ, i64_w, i32_w]
                  rfl
                -- 2: Op.load 9 t88
                refine take_ (i := 2) (N := (some 89)) (v := ?_) (a' := ?_) #[true, true, true, false, false, false, false, false, false, false] rfl rfl (by kernel_rfl) (fun _ _ _ h => h) (Or.inl ⟨by rfl, ?_⟩) hHeld ?_ ?_
                rotate_left
                · rintro w' ⟨s0, s1, s2, s3⟩
                  go_simp
                  with_reducible rfl
                rotate_left
                · simp only [Act.put, List.setIfInBounds_toArray, List.set_cons_zero, List.set_cons_succ, i64_w, i32_w]
                  rfl
                -- 4: Op.fieldAddr 58 t11 4
                refine pure_ (i := 4) (N := (some 91)) (v := ?_) (a' := ?_) #[true, true, true, false, true, false, false, false, false, false] rfl rfl (by kernel_rfl) (fun _ _ _ h => h) (Or.inl ⟨by rfl, ?_⟩) ?_ ?_
                rotate_left
                · intro w'
                  go_simp
                  with_reducible rfl
                rotate_left
                · simp only [Act.put, List.setIfInBounds_toArray, List.set_cons_zero, List.set_cons_succ, i64_w, i32_w]
                  rfl
                -- 5: Op.load 9 t91
                refine take_ (i := 5) (N := (some 92)) (v := ?_) (a' := ?_) #[true, true, true, false, true, true, false, false, false, false] rfl rfl (by kernel_rfl) (fun _ _ _ h => h) (Or.inl ⟨by rfl, ?_⟩) hHeld ?_ ?_
                rotate_left
                · rintro w' ⟨s0, s1, s2, s3⟩
                  go_simp
                  with_reducible rfl
                rotate_left
                · simp only [Act.put, List.setIfInBounds_toArray, List.set_cons_zero, List.set_cons_succ, i64_w, i32_w]
                  rfl
                -- 3: Op.call { value (Operand.func 113), args := #[t89], argTypes := #[9] }
                refine one_ (i := 3) (N := (some 90)) #[true, true, true, true, true, true, false, false, false, false] rfl rfl (by kernel_rfl) (by decide) (fun K hK => ?_)
                refine goes_ Try.func113 (by kernel_rfl) rfl #[.string x.f1.f3] (by rfl) rfl rfl (by (try simp only [List.map_toArray, List.map_cons, List.map_nil]); first | done | rfl) ?_
                (with_reducible refine (putField_calls _ x.f1.f3 (by have := SZ3.out; omega)).mono ?_)
                rintro e wA ⟨rfl, hb⟩
                refine ⟨_, rfl, ?_⟩
                have hOld := hHeld
                clear hHeld
                refine hK.out _ _ (⟨below_step hOld.1 hb, pw_cell_below hb hOld.2.1, pw_cell_below hb hOld.2.2.1, pw_cell_below hb hOld.2.2.2⟩) (fun hHeld => ?_)
                clear hOld hK K
                refine norm_ (a' := ?_) ?_ ?_
                rotate_left
                · show Act.put _ (some 90) _ = _
                  simp only [Act.put, List.setIfInBounds_toArray, List.set_cons_zero, List.set_cons_succ, i64_w, i32_w]
                  rfl
                -- 6: Op.call { value (Operand.func 113), args := #[t92], argTypes := #[9] }
                refine one_ (i := 6) (N := (some 93)) #[true, true, true, true, true, true, true, false, false, false] rfl rfl (by kernel_rfl) (by decide) (fun K hK => ?_)
                refine goes_ Try.func113 (by kernel_rfl) rfl #[.string x.f1.f4] (by rfl) rfl rfl (by (try simp only [List.map_toArray, List.map_cons, List.map_nil]); first | done | rfl) ?_
                (with_reducible refine (putField_calls _ x.f1.f4 (by have := SZ4.out; omega)).mono ?_)
                rintro e wB ⟨rfl, hb⟩
                refine ⟨_, rfl, ?_⟩
                have hOld := hHeld
                clear hHeld
                refine hK.out _ _ (⟨below_step hOld.1 hb, pw_cell_below hb hOld.2.1, pw_cell_below hb hOld.2.2.1, pw_cell_below hb hOld.2.2.2⟩) (fun hHeld => ?_)
                clear hOld hK K
                refine norm_ (a' := ?_) ?_ ?_
                rotate_left
                · show Act.put _ (some 93) _ = _
                  simp only [Act.put, List.setIfInBounds_toArray, List.set_cons_zero, List.set_cons_succ, i64_w, i32_w]
                  rfl
                have HB9 := Aside0.mk hHeld.1
                -- 7: Op.binOp BinOp.add 9 t90 t93 9
                refine pure_ (i := 7) (N := (some 94)) (v := ?_) (a' := ?_) #[true, true, true, true, true, true, true, true, false, false] rfl rfl (by kernel_rfl) (fun _ _ _ h => h) (Or.inl ⟨by rfl, ?_⟩) ?_ ?_
                rotate_left
                · intro w'
                  go_simp
                  with_reducible rfl
                rotate_left
                · simp only [Act.put, List.setIfInBounds_toArray, List.set_cons_zero, List.set_cons_succ, i64_w, i32_w]
                  rfl
                -- 8: Op.call { builtin append, args := #[t87, t94], argTypes := #[36, 9] }
                refine last_ (i := 8) (N := (some 95)) #[true, true, true, true, true, true, true, true, true, false] rfl rfl (by kernel_rfl) (by decide) (fun K hK => ?_)
                obtain ⟨v1, w9, hr_, hn_, hg_, ho_⟩ := (BN.below HN.out HB9.out).append_str 36 (bA (fieldL x.f1.f3) ++ bA (fieldL x.f1.f4)) HP.out (by rw [bts_len, ByteArray.size_append, bA_size, bA_size]; have := HLL3.out; have := F3.out; have := F4.out; have := SZ3.out; have := SZ4.out; omega) (Nat.le_trans HGO.out HB9.out.size)
                obtain ⟨A1_, n1_, c1_, rfl⟩ := hn_.form
                have HG9 := Aside0.mk hg_
                have HN9 := Aside0.mk (show BN w9 (go + 1) (.slice A1_ n1_ c1_) (bts (l3 ++ aBy2 x)) by rw [bts_append]; unfold aBy2; rw [bA_append] at hn_; exact hn_)
                clear hn_ hg_ ho_
                refine value_ (w1 := w9) (v := .slice A1_ n1_ c1_) (by rfl) rfl (H.exec_append (.tmp 87) (.tmp 94) 36 9 (by rfl) (by rfl) (by rfl) hr_) ?_
                try clear hHeld
                refine hK.out _ _ ?_
                clear hK K
                refine norm_ (a' := ?_) ?_ ?_
                rotate_left
                · show Act.put _ (some 95) _ = _
                  simp only [Act.put, List.setIfInBounds_toArray, List.set_cons_zero, List.set_cons_succ, i64_w, i32_w]
                  rfl
                -- 9: Op.store 36 t5 t95
                refine last_ (i := 9) (N := none) #[true, true, true, true, true, true, true, true, true, true] rfl rfl (by kernel_rfl) (by decide) (fun K hK => ?_)
                have hc_ : w9.cell? ⟨go, 0, none⟩ = some v0 := (blk_cell (blk_grown (blk_below X0.out HB9.out) HG9.out (BN.ne (BN.below HN.out HB9.out) (blk_below X0.out HB9.out) (by decide)).symm) 0).trans rfl
                have hf_ := blk_frozen (blk_grown (blk_below X0.out HB9.out) HG9.out (BN.ne (BN.below HN.out HB9.out) (blk_below X0.out HB9.out) (by decide)).symm) 0
                refine skip_ (w1 := w9.setCell ⟨go, 0, none⟩ (.slice A1_ n1_ c1_)) (by rfl) rfl (by go_simp) ?_
                clear hc_ hf_
                try clear hHeld
                refine hK.out _ _ ?_
                clear hK K
                refine done_ (by kernel_rfl) ?_
                have ST := out_step X0.out HN.out HB9.out HN9.out HG9.out
                have O9 := Aside0.mk ST.1
                have K9 := Aside0.mk (K8.out.trans ST.2)
                have X9 := Aside0.mk (ST.2.2 g6 _ 58 (by decide) G6.out X8.out)
                clear ST hc0 hc3 hc4 z4
                generalize w9.setCell ⟨go, 0, none⟩ (.slice A1_ n1_ c1_) = w10 at *
                have z5 : w10.cell? ⟨g6, 5, none⟩ = some (.int .u64 x.f1.f5) := (blk_cell X9.out 5).trans rfl
                have z6 : w10.cell? ⟨g6, 6, none⟩ = some (.int .u64 x.f1.f6) := (blk_cell X9.out 6).trans rfl
                go_wp2_with fail
                have NR := new_row O9.out #[.int .u64 x.f1.f5, .int .u64 x.f1.f6] 22
                refine (put111n _ go w10.heap.size 2 2 _ [x.f1.f5, x.f1.f6] _ rfl NR.1 (blk_new w10 _) NR.2.2 cs2 (puts2 ⟨UX.out.2.2.2.2.1, UX.out.2.2.2.2.2.1⟩) (by rw [List.length_append]; have := HLL3.out; have := UL.out; omega) (by decide)).mono ?_
                rintro x10 w12 ⟨⟨_, rfl⟩, ho, hk⟩
                have O12 := Aside0.mk ho
                have K12 := Aside0.mk ((K9.out.trans NR.2.1).trans hk)
                clear ho hk NR z5 z6
                go_wp2_with fail
                try rw [ew]
                rw [← HAX.out]
                clear ew
                go_roundg q
                case measure => omega
                case rel => exact ⟨k + 1, rfl, ⟨by have := HK.out; omega⟩, ⟨by
                  have h1 := O12.out
                  rw [TS.out, aBys_append, ← List.append_assoc, ← HL2.out, show aBys [x] = aBy1 x ++ aBy2 x ++ aBy3 x from List.append_nil _]
                  rw [EL3.out] at h1
                  rw [show l2k ++ (aBy1 x ++ aBy2 x ++ aBy3 x) = l2k ++ aBy1 x ++ aBy2 x ++ putsL [x.f1.f5, x.f1.f6] by unfold aBy3; simp only [List.append_assoc]]
                  exact h1⟩, K12⟩
          | succ q =>
            have hk : k < e.gone.length := by have := HK.out; omega
            have d4 : decide ((k : Int) < (e.gone.length : Int)) = true := decide_eq_true (by omega)
            have d5 : decide (k < e.gone.length) = true := decide_eq_true hk
            have p0 : 0 ≤ (k : Int) := Int.natCast_nonneg _
            have p1 : (k : Int) < (e.gone.length : Int) := by omega
            have CG := Kd.C_below H1.out HBR.out
            obtain ⟨ad, ea, ha0, ha1⟩ := at_T84 CG (k : Int) p0 p1
            rw [Int.toNat_natCast] at ha0 ha1
            have EM := Aside0.mk (show rd_T84 e.gone (k : Int) = e.gone.getD k z84 by unfold rd_T84; rw [Int.toNat_natCast])
            have hmx := getD_mem e.gone z84 hk
            have TS := Aside0.mk (take_snoc e.gone z84 hk)
            rw [← EM.out] at hmx TS
            generalize rd_T84 e.gone (k : Int) = x at *
            have hgo := LP.out.1 x hmx
            have UX := Aside0.mk (show U64 x.f0 from ⟨hgo.1, by have := hgo.2; omega⟩)
            have UY := Aside0.mk (HU.out.2 x hmx)
            have wx := UX.out.wrap
            have HTK := Aside0.mk (gBys_len (e.gone.take k) (fun y hy => ⟨⟨(LP.out.1 y (List.mem_of_mem_take hy)).1, by have := (LP.out.1 y (List.mem_of_mem_take hy)).2; omega⟩, HU.out.2 y (List.mem_of_mem_take hy)⟩))
            have ew : wrap64 ((k : Int) + 1) = ((k + 1 : Nat) : Int) := by have h1 := G1.out; unfold wrap64; omega
            rw [ea]
            have HAX := Aside0.mk ea
            obtain ⟨l2, hl2⟩ : ∃ l2, l2 = l1 ++ gBys (e.gone.take k) := ⟨_, rfl⟩
            have HLL := Aside0.mk (show l2.length ≤ 6000 by rw [hl2]; exact len_gk LL1.out HTK.out G1.out)
            rw [← hl2] at HO
            have HL2 := Aside0.mk hl2
            clear hk ea hmx hgo CG hl2
            go_upto_region 12 with (fail)
            have NR1 := new_row HO.out (gCs x) 84
            have O5 := Aside0.mk NR1.1
            have K5 := Aside0.mk (HKr.out.trans NR1.2.1)
            have X5 := Aside0.mk (blk_new wr (.cells (gCs x) 84))
            clear NR1
            generalize wr.heap.size = g5 at *
            generalize wr.alloc (.cells (gCs x) 84) = w5 at *
            have y0 : w5.cell? ⟨g5, 0, none⟩ = some (.int .i64 x.f0) := (blk_cell X5.out 0).trans rfl
            have y1 : w5.cell? ⟨g5, 1, none⟩ = some (.int .u64 x.f1) := (blk_cell X5.out 1).trans rfl
            clear ha0 ha1
            go_wp2_with fail
            try rw [wx]
            have NR := new_row O5.out #[.int .u64 x.f0, .int .u64 x.f1] 22
            refine (put111n _ go w5.heap.size 2 2 l2 [x.f0, x.f1] _ rfl NR.1 (blk_new w5 _) NR.2.2 cs2 (puts2 ⟨UX.out, UY.out⟩) (by have := HLL.out; omega) (by decide)).mono ?_
            rintro x9 w6 ⟨⟨_, rfl⟩, ho, hk⟩
            have O6 := Aside0.mk ho
            have K6 := Aside0.mk ((K5.out.trans NR.2.1).trans hk)
            clear ho hk NR y0 y1
            go_wp2_with fail
            try rw [ew]
            rw [← HAX.out]
            clear ew wx
            go_roundg q
            case measure => omega
            case rel => exact ⟨k + 1, rfl, ⟨by have := HK.out; omega⟩, ⟨by rw [TS.out, gBys_append, ← List.append_assoc, ← HL2.out, show gBys [x] = putsL [x.f0, x.f1] from List.append_nil _]; exact O6.out⟩, K6⟩
  · rw [if_neg hl]
    have EV := Aside0.mk (show encV e = (⟨#[]⟩, 2) by unfold encV; rw [if_neg hl])
    rw [← HRR.out] at EV
    clear hl
    go_wp2_with fail
    go_ret2
    exact ⟨ret_si EV.out, HB2.out⟩
end Go.Proofs.Ytkjepfofiegcdaa.V
