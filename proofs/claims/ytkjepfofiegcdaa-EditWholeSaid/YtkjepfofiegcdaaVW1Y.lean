import Derived.Test.YtkjepfofiegcdaaVE9Y
import Derived.Test.YtkjepfofiegcdaaVF1Y
import Derived.Test.YtkjepfofiegcdaaVH2Y
/- Whole: what it answers, in the plain; edit.Whole (59) and the reference's (60), walked. Conditions: the tables' numbers are such as the machine has. -/
namespace Go.Proofs.Ytkjepfofiegcdaa.V
set_option linter.unusedVariables false
set_option linter.unusedSimpArgs false
open Go.RowKit Go.Proofs.YtkjepfofiegcdaaW.PrintWords Go.Proofs.YtkjepfofiegcdaaW.PrintLast Go.Proofs.YtkjepfofiegcdaaW.PrintMore Go.Proofs.Ytkjepfofiegcdaa.PB14
theorem size70 : (Try.prog.info? 70).map (·.size) = some 5 := by kernel_rfl
/-- The tables of a level, placed. -/
def plL (i : Nat) (l : List S58) : List S82 := l.map fun m => ⟨(i : Int), m⟩
/-- The tables of the first levels, placed. -/
def whoL (v : Ver) : Nat → List S82
  | 0 => []
  | i + 1 => whoL v i ++ plL i (v.lv i)
def wholeE (v : Ver) : Edt := if rightP v then ⟨v.log, v.next, v.seq, [], whoL v 4⟩ else ⟨0, 0, 0, [], []⟩
theorem plL_snoc (i : Nat) (l : List S58) {k : Nat} (hk : k < l.length) : plL i (l.take (k + 1)) = plL i (l.take k) ++ [⟨(i : Int), l.getD k z58⟩] := by
  unfold plL
  rw [take_snoc l z58 hk, List.map_append]
  rfl
theorem plL_len (i : Nat) (l : List S58) : (plL i l).length = l.length := List.length_map ..
theorem whoL_len {v : Ver} (h : ∀ j, j < 4 → (v.lv j).length ≤ 64) : ∀ i, i ≤ 4 → (whoL v i).length ≤ 64 * i
  | 0, _ => by simp [whoL]
  | i + 1, hi => by
    have h1 := whoL_len h i (by omega)
    have h2 := h i (by omega)
    rw [whoL, List.length_append, plL_len]
    omega
set_option maxHeartbeats 8000000 in
set_option maxRecDepth 100000 in
theorem whole59_calls (w : World) (v : Ver) (p : Pl) (hC : VC w v p) (hW : VW v) : Calls Try.prog 59 #[.agg (vCs v p)] w fun x w' => ∃ (B : Option Addr) (cb : Nat), x = .returned (.agg (eCs (wholeE v) none 0 B cb)) ∧ ((wholeE v).added.length ≤ cb ∧ k82.C w' B (wholeE v).added.length (wholeE v).added) ∧ Below w.heap.size w w' := by
  obtain ⟨we, hwe⟩ : ∃ we, we = wholeE v := ⟨_, rfl⟩
  rw [← hwe]
  have WE := Aside0.mk (show we = if rightP v then ⟨v.log, v.next, v.seq, [], whoL v 4⟩ else ⟨0, 0, 0, [], []⟩ from hwe)
  clear hwe
  have HW := Aside0.mk hW
  clear hW
  have HC := Aside0.mk hC
  have HB1 := Aside0.mk (below_alloc ((Below.refl w.heap.size w).alloc (Nat.le_refl _) (.cells (vCs v p) 26)) (.cells #[.int .u64 0, .int .u64 0, .int .u64 0, .slice none 0 0, .slice none 0 0] 70))
  have X1 := Aside0.mk (blk_alloc (blk_new w (.cells (vCs v p) 26)) (.cells #[.int .u64 0, .int .u64 0, .int .u64 0, .slice none 0 0, .slice none 0 0] 70))
  have X2 := Aside0.mk (blk_new (w.alloc (.cells (vCs v p) 26)) (.cells #[.int .u64 0, .int .u64 0, .int .u64 0, .slice none 0 0, .slice none 0 0] 70))
  clear hC
  go_enter Try.func59, Try.ntmps59
  go_upto_region 1 with (fail)
  generalize hg2 : (w.alloc (.cells (vCs v p) 26)).heap.size = g2 at *
  have e2 : w.heap.size + 1 = g2 := by rw [← hg2]; simp
  try rw [e2]
  have N2 := Aside0.mk (show w.heap.size < g2 by omega)
  clear hg2 e2
  generalize (w.alloc (.cells (vCs v p) 26)).alloc (.cells #[.int .u64 0, .int .u64 0, .int .u64 0, .slice none 0 0, .slice none 0 0] 70) = w1 at *
  have b0 : w1.cell? ⟨w.heap.size, 0, none⟩ = some (.int .u64 v.log) := (blk_cell X1.out 0).trans rfl
  have b1 : w1.cell? ⟨w.heap.size, 1, none⟩ = some (.int .u64 v.next) := (blk_cell X1.out 1).trans rfl
  have b2 : w1.cell? ⟨w.heap.size, 2, none⟩ = some (.int .u64 v.seq) := (blk_cell X1.out 2).trans rfl
  have b3 : w1.cell? ⟨w.heap.size, 3, none⟩ = some (.slice p.a0 v.l0.length p.c0) := (blk_cell X1.out 3).trans rfl
  have b4 : w1.cell? ⟨w.heap.size, 4, none⟩ = some (.slice p.a1 v.l1.length p.c1) := (blk_cell X1.out 4).trans rfl
  have b5 : w1.cell? ⟨w.heap.size, 5, none⟩ = some (.slice p.a2 v.l2.length p.c2) := (blk_cell X1.out 5).trans rfl
  have b6 : w1.cell? ⟨w.heap.size, 6, none⟩ = some (.slice p.a3 v.l3.length p.c3) := (blk_cell X1.out 6).trans rfl
  go_wp2_with fail
  refine (right_calls _ v p (HC.out.below HB1.out) HW.out).mono ?_
  rintro x w2 ⟨rfl, hb⟩
  have HB2 := Aside0.mk (below_step HB1.out hb)
  have X12 := Aside0.mk (blk_below X1.out hb)
  have X22 := Aside0.mk (blk_below X2.out hb)
  clear hb b0 b1 b2 b3 b4 b5 b6
  by_cases hr : rightP v
  · rw [decide_eq_true hr]
    have RV := Aside0.mk hr
    clear hr
    have b0 : w2.cell? ⟨w.heap.size, 0, none⟩ = some (.int .u64 v.log) := (blk_cell X12.out 0).trans rfl
    have b1 : w2.cell? ⟨w.heap.size, 1, none⟩ = some (.int .u64 v.next) := (blk_cell X12.out 1).trans rfl
    have b2 : w2.cell? ⟨w.heap.size, 2, none⟩ = some (.int .u64 v.seq) := (blk_cell X12.out 2).trans rfl
    have b3 : w2.cell? ⟨w.heap.size, 3, none⟩ = some (.slice p.a0 v.l0.length p.c0) := (blk_cell X12.out 3).trans rfl
    have b4 : w2.cell? ⟨w.heap.size, 4, none⟩ = some (.slice p.a1 v.l1.length p.c1) := (blk_cell X12.out 4).trans rfl
    have b5 : w2.cell? ⟨w.heap.size, 5, none⟩ = some (.slice p.a2 v.l2.length p.c2) := (blk_cell X12.out 5).trans rfl
    have b6 : w2.cell? ⟨w.heap.size, 6, none⟩ = some (.slice p.a3 v.l3.length p.c3) := (blk_cell X12.out 6).trans rfl
    go_upto_region 4 with (fail)
    have X13 := Aside0.mk (blk_alloc X12.out (.cells #[.int .u64 v.log, .int .u64 v.next, .int .u64 v.seq, .slice none 0 0, .slice none 0 0] 70))
    have X23 := Aside0.mk (blk_alloc X22.out (.cells #[.int .u64 v.log, .int .u64 v.next, .int .u64 v.seq, .slice none 0 0, .slice none 0 0] 70))
    have X33 := Aside0.mk (blk_new w2 (.cells #[.int .u64 v.log, .int .u64 v.next, .int .u64 v.seq, .slice none 0 0, .slice none 0 0] 70))
    have HB3 := Aside0.mk (below_alloc (Below.refl w2.heap.size w2) (.cells #[.int .u64 v.log, .int .u64 v.next, .int .u64 v.seq, .slice none 0 0, .slice none 0 0] 70))
    have NG := Aside0.mk (show g2 < w2.heap.size from blk_lt X22.out)
    clear b0 b1 b2 b3 b4 b5 b6
    generalize w2.alloc (.cells #[.int .u64 v.log, .int .u64 v.next, .int .u64 v.seq, .slice none 0 0, .slice none 0 0] 70) = w3 at *
    have b3 : w3.cell? ⟨w.heap.size, 3, none⟩ = some (.slice p.a0 v.l0.length p.c0) := (blk_cell X13.out 3).trans rfl
    have b4 : w3.cell? ⟨w.heap.size, 4, none⟩ = some (.slice p.a1 v.l1.length p.c1) := (blk_cell X13.out 4).trans rfl
    have b5 : w3.cell? ⟨w.heap.size, 5, none⟩ = some (.slice p.a2 v.l2.length p.c2) := (blk_cell X13.out 5).trans rfl
    have b6 : w3.cell? ⟨w.heap.size, 6, none⟩ = some (.slice p.a3 v.l3.length p.c3) := (blk_cell X13.out 6).trans rfl
    go_wp2_with fail
    clear b3 b4 b5 b6
    go_loopg [21] 4 (fun kq v21 w' => ∃ (i : Nat) (acc : List S82) (B : Option Addr) (cb : Nat), v21 = .int .i64 (i : Int) ∧ Aside0 (kq + i = 4) ∧ Aside0 (Below w2.heap.size w2 w') ∧ Aside0 (w'.heap[w2.heap.size]? = some (.cells #[.int .u64 v.log, .int .u64 v.next, .int .u64 v.seq, .slice none 0 0, .slice B acc.length cb] 70 (0, 0))) ∧ Aside0 (Kd.R k82 82 w' w2.heap.size (fun _ => True) (.slice B acc.length cb) acc) ∧ Aside0 (acc = whoL v i))
    case atStart => exact ⟨0, [], none, 0, rfl, ⟨by omega⟩, HB3, X33, ⟨Kd.R_nil _ _ _ _ _⟩, ⟨rfl⟩⟩
    case round =>
      clear HB3 X13 X23 X33
      obtain ⟨i, acc, B, cb, rfl, HK, HB, X3, RA, GA⟩ := hrel
      have X1r := Aside0.mk (blk_below X12.out HB.out)
      have X2r := Aside0.mk (blk_below X22.out HB.out)
      have HBW := Aside0.mk (HB2.out.trans (HB.out.mono HB2.out.size))
      cases gk with
      | zero =>
        have ei : i = 4 := by have := HK.out; omega
        subst ei
        have ww : we = ⟨v.log, v.next, v.seq, [], acc⟩ := by rw [WE.out, if_pos RV.out, GA.out]
        subst ww
        have e0 : wr.cell? ⟨w2.heap.size, 0, none⟩ = some (.int .u64 v.log) := (blk_cell X3.out 0).trans rfl
        have e1 : wr.cell? ⟨w2.heap.size, 1, none⟩ = some (.int .u64 v.next) := (blk_cell X3.out 1).trans rfl
        have e2 : wr.cell? ⟨w2.heap.size, 2, none⟩ = some (.int .u64 v.seq) := (blk_cell X3.out 2).trans rfl
        have e3 : wr.cell? ⟨w2.heap.size, 3, none⟩ = some (.slice none 0 0) := (blk_cell X3.out 3).trans rfl
        have e4 : wr.cell? ⟨w2.heap.size, 4, none⟩ = some (.slice B acc.length cb) := (blk_cell X3.out 4).trans rfl
        go_wp2_with (first | (refine st_arr rfl 70 _ _ rfl g2 70 ?hx #[.int .u64 v.log, .int .u64 v.next, .int .u64 v.seq, .slice none 0 0, .slice B acc.length cb] ?hy _ X2r.out (by rw [size70]; rfl) rfl (by simp [Value.oneCell']) ?_; (case hx => rfl); (case hy => rfl); intro w7 hb7 hbb hk7 hs7; have HB7 := Aside0.mk (hbb _ _ HBW.out (show w.heap.size ≤ g2 by have := N2.out; omega)); have X7 := Aside0.mk hb7; have HK7 := Aside0.mk hk7; clear hb7 hbb hk7 hs7) | fail)
        have r0 : w7.cell? ⟨g2, 0, none⟩ = some (.int .u64 v.log) := (blk_cell X7.out 0).trans rfl
        have r1 : w7.cell? ⟨g2, 1, none⟩ = some (.int .u64 v.next) := (blk_cell X7.out 1).trans rfl
        have r2 : w7.cell? ⟨g2, 2, none⟩ = some (.int .u64 v.seq) := (blk_cell X7.out 2).trans rfl
        have r3 : w7.cell? ⟨g2, 3, none⟩ = some (.slice none 0 0) := (blk_cell X7.out 3).trans rfl
        have r4 : w7.cell? ⟨g2, 4, none⟩ = some (.slice B acc.length cb) := (blk_cell X7.out 4).trans rfl
        have RC := Kd.R_reads' (Kd.R_mono (Kd.R_step (Kd.R_types RA.out X2r.out (by intro x hx; simp [show k82.E = [] from rfl] at hx; omega)) (fun k ho _ => HK7.out k ho.2)) (ok' := fun _ => True) (fun _ _ => trivial))
        exact bodyPost_ret (v := .agg #[.int .u64 v.log, .int .u64 v.next, .int .u64 v.seq, .slice none 0 0, .slice B acc.length cb]) (by simp [results, Try.results59, go_sem, r0, r1, r2, r3, r4]) rfl ⟨B, cb, rfl, ⟨RC.2.1, RC.2.2⟩, HB7.out⟩
      | succ q =>
        have hi : i < 4 := by have := HK.out; omega
        have HI := Aside0.mk hi
        have d0 : decide ((i : Int) < 4) = true := decide_eq_true (by omega)
        have i0 : 0 ≤ (i : Int) := Int.natCast_nonneg _
        have i1 : (i : Int) < 4 := by omega
        have ew : wrap64 ((i : Int) + 1) = ((i + 1 : Nat) : Int) := by unfold wrap64; omega
        have hx : ∀ W : World, (Instr.index 24 (.agg #[.slice p.a0 v.l0.length p.c0, .slice p.a1 v.l1.length p.c1, .slice p.a2 v.l2.length p.c2, .slice p.a3 v.l3.length p.c3]) (.int .i64 (i : Int))).run Try.prog W = .ok (.slice (p.a i) (v.lv i).length (p.c i)) W := fun W => idx_lv v p i hi W
        obtain ⟨l, hl⟩ : ∃ l, v.lv i = l := ⟨_, rfl⟩
        rw [hl] at hx
        have LE := Aside0.mk hl
        have HLL := Aside0.mk (show l.length ≤ 64 by rw [← hl]; exact RV.out.2.1.1 i hi)
        have HAC := Aside0.mk (show acc.length ≤ 256 by rw [GA.out]; have := whoL_len RV.out.2.1.1 i (by omega); omega)
        have CV := Aside0.mk (show k58.C w2 (p.a i) l.length l by rw [← hl]; exact ((HC.out.below HB2.out) i hi).1)
        clear hl hi
        go_wp2_with fail
        go_loopg [27] l.length (fun kq v27 w' => ∃ (k : Nat) (acc : List S82) (B : Option Addr) (cb : Nat), v27 = .int .i64 (k : Int) ∧ Aside0 (kq + k = l.length) ∧ Aside0 (Below w2.heap.size w2 w') ∧ Aside0 (w'.heap[w2.heap.size]? = some (.cells #[.int .u64 v.log, .int .u64 v.next, .int .u64 v.seq, .slice none 0 0, .slice B acc.length cb] 70 (0, 0))) ∧ Aside0 (Kd.R k82 82 w' w2.heap.size (fun _ => True) (.slice B acc.length cb) acc) ∧ Aside0 (acc = whoL v i ++ plL i (l.take k)))
        case atStart => exact ⟨0, acc, B, cb, rfl, ⟨by omega⟩, HB, X3, RA, ⟨by rw [List.take_zero]; exact GA.out.trans (List.append_nil _).symm⟩⟩
        case round =>
          clear HB X3 RA GA X1r X2r HBW HAC
          obtain ⟨k, acc, B, cb, rfl, HKK, HB, X3, RA, GA⟩ := hrel
          cases gk with
          | zero =>
            have ek : k = l.length := by have := HKK.out; omega
            subst ek
            have d1 : decide ((l.length : Int) < (l.length : Int)) = false := by simp
            rw [List.take_length] at GA
            go_wp2_with fail
            try rw [ew]
            clear ew
            go_roundg q
            case measure => omega
            case rel => exact ⟨i + 1, acc, B, cb, rfl, ⟨by have := HK.out; omega⟩, HB, X3, RA, ⟨by rw [GA.out, whoL, LE.out]⟩⟩
          | succ g =>
            have hk : k < l.length := by have := HKK.out; omega
            have HKL := Aside0.mk hk
            have d1 : decide ((k : Int) < (l.length : Int)) = true := decide_eq_true (by omega)
            have d2 : decide (k < l.length) = true := decide_eq_true hk
            have p0 : 0 ≤ (k : Int) := Int.natCast_nonneg _
            have p1 : (k : Int) < (l.length : Int) := by omega
            have ew2 : wrap64 ((k : Int) + 1) = ((k + 1 : Nat) : Int) := by have h1 := HLL.out; unfold wrap64; omega
            have CV1 := Kd.C_below CV.out HB.out
            obtain ⟨ax, ea, ha0, ha1, ha2, ha3, ha4, ha5, ha6⟩ := at_T58 CV1 (k : Int) p0 p1
            rw [Int.toNat_natCast] at ha0 ha1 ha2 ha3 ha4 ha5 ha6
            have PS := Aside0.mk (plL_snoc i l hk)
            have EM := Aside0.mk (show rd_T58 l (k : Int) = l.getD k z58 by unfold rd_T58; rw [Int.toNat_natCast])
            rw [← EM.out] at PS
            generalize rd_T58 l (k : Int) = m at *
            have LAC := Aside0.mk (show acc.length ≤ 400 by rw [GA.out, List.length_append, plL_len]; have h1 := whoL_len RV.out.2.1.1 i (by have := HI.out; omega); have h2 := HLL.out; have h3 := HI.out; have h4 : (l.take k).length ≤ l.length := List.length_take_le' k l; omega)
            rw [ea]
            have HAX := Aside0.mk ea
            clear ea hk CV1
            go_upto_region 10 with (fail)
            have HBx := Aside0.mk (below_alloc HB.out (.cells (mCs m) 58))
            have X3x := Aside0.mk (blk_alloc X3.out (.cells (mCs m) 58))
            have XMx := Aside0.mk (blk_new wr (.cells (mCs m) 58))
            have RAx := Aside0.mk (Kd.R_below RA.out (below_alloc (Below.refl wr.heap.size wr) (.cells (mCs m) 58)))
            generalize wr.heap.size = gm at *
            generalize wr.alloc (.cells (mCs m) 58) = wx at *
            clear ha0 ha1 ha2 ha3 ha4 ha5 ha6
            have mx0 : wx.cell? ⟨gm, 0, none⟩ = some (.int .u64 m.f0) := (blk_cell XMx.out 0).trans rfl
            have mx1 : wx.cell? ⟨gm, 1, none⟩ = some (.int .i64 m.f1) := (blk_cell XMx.out 1).trans rfl
            have mx2 : wx.cell? ⟨gm, 2, none⟩ = some (.int .i64 m.f2) := (blk_cell XMx.out 2).trans rfl
            have mx3 : wx.cell? ⟨gm, 3, none⟩ = some (.string m.f3) := (blk_cell XMx.out 3).trans rfl
            have mx4 : wx.cell? ⟨gm, 4, none⟩ = some (.string m.f4) := (blk_cell XMx.out 4).trans rfl
            have mx5 : wx.cell? ⟨gm, 5, none⟩ = some (.int .u64 m.f5) := (blk_cell XMx.out 5).trans rfl
            have mx6 : wx.cell? ⟨gm, 6, none⟩ = some (.int .u64 m.f6) := (blk_cell XMx.out 6).trans rfl
            have zx4 : wx.cell? ⟨w2.heap.size, 4, none⟩ = some (.slice B acc.length cb) := (blk_cell X3x.out 4).trans rfl
            go_wp2_with (first | ((with_reducible refine gate_builtin (b := .append) (xs := #[.tmp 32, .tmp 36]) rfl ?_); at_builtin; refine Kd.R_append k82 (w0 := w2) w2.heap.size rfl (.tmp 32) (.tmp 36) 68 82 (.agg #[(.int .i64 0), (.int .u64 0), (.int .i64 0), (.int .i64 0), (.string ⟨#[]⟩), (.string ⟨#[]⟩), (.int .u64 0), (.int .u64 0)]) 80 rfl Try.underlying68 info82 rfl (show 0 < 8 by decide) (show 0 < 80 by decide) (.slice B acc.length cb) (acc) (⟨(i : Int), m⟩ : S82) [.int .i64 (i : Int), .int .u64 m.f0, .int .i64 m.f1, .int .i64 m.f2, .string m.f3, .string m.f4, .int .u64 m.f5, .int .u64 m.f6] (fun _ => True) (fun _ => False) rfl rfl ?aPa (fun _ hk => hk.elim) ?aFa ?aOa ?aBa ?aSa ?aLa ?_; (case aPa => exact k82_mkM _ _ _ (⟨(i : Int), m⟩ : S82)); (case aBa => exact HBx.out); (case aFa => exact (fun _ _ => trivial)); (case aOa => exact RAx.out); (case aSa => exact Below.size (HBx.out)); (case aLa => (have h1 := LAC.out; omega)); intro va wa ho hb hg hat; have HBa := Aside0.mk hb; have X3a := Aside0.mk (blk_grown X3x.out hg (Kd.R_ne RAx.out X3x.out (by decide))); have hc8 : wa.cell? ⟨w2.heap.size, 4, none⟩ = some (.slice B acc.length cb) := (blk_cell X3a.out 4).trans rfl; have hf8 := blk_frozen X3a.out 4; obtain ⟨AD2, hA2⟩ : ∃ A2, A2 = acc ++ [(⟨(i : Int), m⟩ : S82)] := ⟨_, rfl⟩; rw [← hA2] at ho; have AQ2 := Aside0.mk hA2; clear hA2; obtain ⟨B3, cb3, hv⟩ := Kd.R_slice ho; subst hv; have HRa := Aside0.mk ho; clear ho hb hg hat) | fail)
            have HBn := Aside0.mk (below_set (j := 4) (v := .slice B3 AD2.length cb3) HBa.out (Nat.le_refl _))
            have X3n := Aside0.mk (five_set (cs' := #[.int .u64 v.log, .int .u64 v.next, .int .u64 v.seq, .slice none 0 0, .slice B3 AD2.length cb3]) X3a.out (j := 4) (.slice B3 AD2.length cb3) rfl)
            have RAn := Aside0.mk (Kd.R_mono (Kd.R_set HRa.out X3a.out (by intro x hx; simp [show k82.E = [] from rfl] at hx; omega) 4 (.slice B3 AD2.length cb3)) (fun _ hk => hk))
            try rw [ew2]
            rw [← HAX.out]
            clear ew2 ew
            go_roundg g
            case measure => omega
            case rel => exact ⟨k + 1, AD2, B3, cb3, rfl, ⟨by have := HKK.out; omega⟩, HBn, X3n, RAn, ⟨by rw [AQ2.out, GA.out, PS.out, List.append_assoc]⟩⟩
  · rw [decide_eq_false hr]
    have NR := Aside0.mk hr
    clear hr
    go_wp2_with (first | (refine st_arr rfl 70 _ _ rfl g2 70 ?hx #[.int .u64 0, .int .u64 0, .int .u64 0, .slice none 0 0, .slice none 0 0] ?hy _ X22.out (by rw [size70]; rfl) rfl (by simp [Value.oneCell']) ?_; (case hx => rfl); (case hy => rfl); intro w7 hb7 hbb hk7 hs7; have HB7 := Aside0.mk (hbb _ _ HB2.out (show w.heap.size ≤ g2 by have := N2.out; omega)); have X7 := Aside0.mk hb7; have HK7 := Aside0.mk hk7; clear hb7 hbb hk7 hs7) | fail)
    have r0 : w7.cell? ⟨g2, 0, none⟩ = some (.int .u64 0) := (blk_cell X7.out 0).trans rfl
    have r1 : w7.cell? ⟨g2, 1, none⟩ = some (.int .u64 0) := (blk_cell X7.out 1).trans rfl
    have r2 : w7.cell? ⟨g2, 2, none⟩ = some (.int .u64 0) := (blk_cell X7.out 2).trans rfl
    have r3 : w7.cell? ⟨g2, 3, none⟩ = some (.slice none 0 0) := (blk_cell X7.out 3).trans rfl
    have r4 : w7.cell? ⟨g2, 4, none⟩ = some (.slice none 0 0) := (blk_cell X7.out 4).trans rfl
    have ww : we = ⟨0, 0, 0, [], []⟩ := by rw [WE.out, if_neg NR.out]
    subst ww
    exact bodyPost_ret (v := .agg #[.int .u64 0, .int .u64 0, .int .u64 0, .slice none 0 0, .slice none 0 0]) (by simp [results, Try.results59, go_sem, r0, r1, r2, r3, r4]) rfl ⟨none, 0, rfl, ⟨Nat.le_refl _, ⟨rfl, by simp, fun h => absurd h (Nat.lt_irrefl 0)⟩⟩, HB7.out⟩
set_option maxHeartbeats 8000000 in
set_option maxRecDepth 100000 in
theorem whole60_calls (w : World) (v : Ver) (p : Pl) (hC : VC w v p) (hW : VW v) : Calls Try.prog 60 #[.agg (vCs v p)] w fun x w' => ∃ (B : Option Addr) (cb : Nat), x = .returned (.agg (eCs (wholeE v) none 0 B cb)) ∧ ((wholeE v).added.length ≤ cb ∧ k82.C w' B (wholeE v).added.length (wholeE v).added) ∧ Below w.heap.size w w' := by
  obtain ⟨we, hwe⟩ : ∃ we, we = wholeE v := ⟨_, rfl⟩
  rw [← hwe]
  have WE := Aside0.mk (show we = if rightP v then ⟨v.log, v.next, v.seq, [], whoL v 4⟩ else ⟨0, 0, 0, [], []⟩ from hwe)
  clear hwe
  clear hW
  have HC := Aside0.mk hC
  have HB1 := Aside0.mk (below_alloc ((Below.refl w.heap.size w).alloc (Nat.le_refl _) (.cells (vCs v p) 26)) (.cells #[.int .u64 0, .int .u64 0, .int .u64 0, .slice none 0 0, .slice none 0 0] 70))
  have X1 := Aside0.mk (blk_alloc (blk_new w (.cells (vCs v p) 26)) (.cells #[.int .u64 0, .int .u64 0, .int .u64 0, .slice none 0 0, .slice none 0 0] 70))
  have X2 := Aside0.mk (blk_new (w.alloc (.cells (vCs v p) 26)) (.cells #[.int .u64 0, .int .u64 0, .int .u64 0, .slice none 0 0, .slice none 0 0] 70))
  clear hC
  go_enter Try.func60, Try.ntmps60
  go_upto_region 1 with (fail)
  generalize hg2 : (w.alloc (.cells (vCs v p) 26)).heap.size = g2 at *
  have e2 : w.heap.size + 1 = g2 := by rw [← hg2]; simp
  try rw [e2]
  have N2 := Aside0.mk (show w.heap.size < g2 by omega)
  clear hg2 e2
  generalize (w.alloc (.cells (vCs v p) 26)).alloc (.cells #[.int .u64 0, .int .u64 0, .int .u64 0, .slice none 0 0, .slice none 0 0] 70) = w1 at *
  have b0 : w1.cell? ⟨w.heap.size, 0, none⟩ = some (.int .u64 v.log) := (blk_cell X1.out 0).trans rfl
  have b1 : w1.cell? ⟨w.heap.size, 1, none⟩ = some (.int .u64 v.next) := (blk_cell X1.out 1).trans rfl
  have b2 : w1.cell? ⟨w.heap.size, 2, none⟩ = some (.int .u64 v.seq) := (blk_cell X1.out 2).trans rfl
  have b3 : w1.cell? ⟨w.heap.size, 3, none⟩ = some (.slice p.a0 v.l0.length p.c0) := (blk_cell X1.out 3).trans rfl
  have b4 : w1.cell? ⟨w.heap.size, 4, none⟩ = some (.slice p.a1 v.l1.length p.c1) := (blk_cell X1.out 4).trans rfl
  have b5 : w1.cell? ⟨w.heap.size, 5, none⟩ = some (.slice p.a2 v.l2.length p.c2) := (blk_cell X1.out 5).trans rfl
  have b6 : w1.cell? ⟨w.heap.size, 6, none⟩ = some (.slice p.a3 v.l3.length p.c3) := (blk_cell X1.out 6).trans rfl
  go_wp2_with fail
  refine (rightR_calls _ v p (HC.out.below HB1.out)).mono ?_
  rintro x w2 ⟨rfl, hb⟩
  have HB2 := Aside0.mk (below_step HB1.out hb)
  have X12 := Aside0.mk (blk_below X1.out hb)
  have X22 := Aside0.mk (blk_below X2.out hb)
  clear hb b0 b1 b2 b3 b4 b5 b6
  by_cases hr : rightP v
  · rw [decide_eq_true hr]
    have RV := Aside0.mk hr
    clear hr
    have b0 : w2.cell? ⟨w.heap.size, 0, none⟩ = some (.int .u64 v.log) := (blk_cell X12.out 0).trans rfl
    have b1 : w2.cell? ⟨w.heap.size, 1, none⟩ = some (.int .u64 v.next) := (blk_cell X12.out 1).trans rfl
    have b2 : w2.cell? ⟨w.heap.size, 2, none⟩ = some (.int .u64 v.seq) := (blk_cell X12.out 2).trans rfl
    have b3 : w2.cell? ⟨w.heap.size, 3, none⟩ = some (.slice p.a0 v.l0.length p.c0) := (blk_cell X12.out 3).trans rfl
    have b4 : w2.cell? ⟨w.heap.size, 4, none⟩ = some (.slice p.a1 v.l1.length p.c1) := (blk_cell X12.out 4).trans rfl
    have b5 : w2.cell? ⟨w.heap.size, 5, none⟩ = some (.slice p.a2 v.l2.length p.c2) := (blk_cell X12.out 5).trans rfl
    have b6 : w2.cell? ⟨w.heap.size, 6, none⟩ = some (.slice p.a3 v.l3.length p.c3) := (blk_cell X12.out 6).trans rfl
    go_upto_region 4 with (fail)
    have X13 := Aside0.mk (blk_alloc X12.out (.cells #[.int .u64 v.log, .int .u64 v.next, .int .u64 v.seq, .slice none 0 0, .slice none 0 0] 70))
    have X23 := Aside0.mk (blk_alloc X22.out (.cells #[.int .u64 v.log, .int .u64 v.next, .int .u64 v.seq, .slice none 0 0, .slice none 0 0] 70))
    have X33 := Aside0.mk (blk_new w2 (.cells #[.int .u64 v.log, .int .u64 v.next, .int .u64 v.seq, .slice none 0 0, .slice none 0 0] 70))
    have HB3 := Aside0.mk (below_alloc (Below.refl w2.heap.size w2) (.cells #[.int .u64 v.log, .int .u64 v.next, .int .u64 v.seq, .slice none 0 0, .slice none 0 0] 70))
    have NG := Aside0.mk (show g2 < w2.heap.size from blk_lt X22.out)
    clear b0 b1 b2 b3 b4 b5 b6
    generalize w2.alloc (.cells #[.int .u64 v.log, .int .u64 v.next, .int .u64 v.seq, .slice none 0 0, .slice none 0 0] 70) = w3 at *
    go_wp2_with fail
    go_loopg [4, 5] 4 (fun kq v4 v5 w' => ∃ (i : Nat) (acc : List S82) (B : Option Addr) (cb : Nat), v4 = .int .i64 (i : Int) ∧ Aside0 (kq + i = 4) ∧ Aside0 (Below w2.heap.size w2 w') ∧ Aside0 (w'.heap[w2.heap.size]? = some (.cells #[.int .u64 v.log, .int .u64 v.next, .int .u64 v.seq, .slice none 0 0, .slice B acc.length cb] 70 (0, 0))) ∧ Aside0 (Kd.R k82 82 w' w2.heap.size (fun _ => True) (.slice B acc.length cb) acc) ∧ Aside0 (acc = whoL v i))
    case atStart => exact ⟨0, [], none, 0, rfl, ⟨by omega⟩, HB3, X33, ⟨Kd.R_nil _ _ _ _ _⟩, ⟨rfl⟩⟩
    case round =>
      clear HB3 X13 X23 X33
      obtain ⟨i, acc, B, cb, rfl, HK, HB, X3, RA, GA⟩ := hrel
      have X1r := Aside0.mk (blk_below X12.out HB.out)
      have X2r := Aside0.mk (blk_below X22.out HB.out)
      have HBW := Aside0.mk (HB2.out.trans (HB.out.mono HB2.out.size))
      cases gk with
      | zero =>
        have ei : i = 4 := by have := HK.out; omega
        subst ei
        have ww : we = ⟨v.log, v.next, v.seq, [], acc⟩ := by rw [WE.out, if_pos RV.out, GA.out]
        subst ww
        have e0 : wr.cell? ⟨w2.heap.size, 0, none⟩ = some (.int .u64 v.log) := (blk_cell X3.out 0).trans rfl
        have e1 : wr.cell? ⟨w2.heap.size, 1, none⟩ = some (.int .u64 v.next) := (blk_cell X3.out 1).trans rfl
        have e2 : wr.cell? ⟨w2.heap.size, 2, none⟩ = some (.int .u64 v.seq) := (blk_cell X3.out 2).trans rfl
        have e3 : wr.cell? ⟨w2.heap.size, 3, none⟩ = some (.slice none 0 0) := (blk_cell X3.out 3).trans rfl
        have e4 : wr.cell? ⟨w2.heap.size, 4, none⟩ = some (.slice B acc.length cb) := (blk_cell X3.out 4).trans rfl
        go_wp2_with (first | (refine st_arr rfl 70 _ _ rfl g2 70 ?hx #[.int .u64 v.log, .int .u64 v.next, .int .u64 v.seq, .slice none 0 0, .slice B acc.length cb] ?hy _ X2r.out (by rw [size70]; rfl) rfl (by simp [Value.oneCell']) ?_; (case hx => rfl); (case hy => rfl); intro w7 hb7 hbb hk7 hs7; have HB7 := Aside0.mk (hbb _ _ HBW.out (show w.heap.size ≤ g2 by have := N2.out; omega)); have X7 := Aside0.mk hb7; have HK7 := Aside0.mk hk7; clear hb7 hbb hk7 hs7) | fail)
        have r0 : w7.cell? ⟨g2, 0, none⟩ = some (.int .u64 v.log) := (blk_cell X7.out 0).trans rfl
        have r1 : w7.cell? ⟨g2, 1, none⟩ = some (.int .u64 v.next) := (blk_cell X7.out 1).trans rfl
        have r2 : w7.cell? ⟨g2, 2, none⟩ = some (.int .u64 v.seq) := (blk_cell X7.out 2).trans rfl
        have r3 : w7.cell? ⟨g2, 3, none⟩ = some (.slice none 0 0) := (blk_cell X7.out 3).trans rfl
        have r4 : w7.cell? ⟨g2, 4, none⟩ = some (.slice B acc.length cb) := (blk_cell X7.out 4).trans rfl
        have RC := Kd.R_reads' (Kd.R_mono (Kd.R_step (Kd.R_types RA.out X2r.out (by intro x hx; simp [show k82.E = [] from rfl] at hx; omega)) (fun k ho _ => HK7.out k ho.2)) (ok' := fun _ => True) (fun _ _ => trivial))
        exact bodyPost_ret (v := .agg #[.int .u64 v.log, .int .u64 v.next, .int .u64 v.seq, .slice none 0 0, .slice B acc.length cb]) (by simp [results, Try.results60, go_sem, r0, r1, r2, r3, r4]) rfl ⟨B, cb, rfl, ⟨RC.2.1, RC.2.2⟩, HB7.out⟩
      | succ q =>
        have hi : i < 4 := by have := HK.out; omega
        have HI := Aside0.mk hi
        have d0 : decide ((i : Int) < 4) = true := decide_eq_true (by omega)
        have i0 : 0 ≤ (i : Int) := Int.natCast_nonneg _
        have i1 : (i : Int) < 4 := by omega
        have ew : wrap64 ((i : Int) + 1) = ((i + 1 : Nat) : Int) := by unfold wrap64; omega
        obtain ⟨l, hl⟩ : ∃ l, v.lv i = l := ⟨_, rfl⟩
        have LE := Aside0.mk hl
        have HLL := Aside0.mk (show l.length ≤ 64 by rw [← hl]; exact RV.out.2.1.1 i hi)
        have HAC := Aside0.mk (show acc.length ≤ 256 by rw [GA.out]; have := whoL_len RV.out.2.1.1 i (by omega); omega)
        have CV := Aside0.mk (show k58.C w2 (p.a i) l.length l by rw [← hl]; exact ((HC.out.below HB2.out) i hi).1)
        clear hl hi
        go_wp2_with fail
        go_loopg [5] l.length (fun kq v5 w' => ∃ (k : Nat) (acc : List S82) (B : Option Addr) (cb : Nat), v5 = .int .i64 (k : Int) ∧ Aside0 (kq + k = l.length) ∧ Aside0 (Below w2.heap.size w2 w') ∧ Aside0 (w'.heap[w2.heap.size]? = some (.cells #[.int .u64 v.log, .int .u64 v.next, .int .u64 v.seq, .slice none 0 0, .slice B acc.length cb] 70 (0, 0))) ∧ Aside0 (Kd.R k82 82 w' w2.heap.size (fun _ => True) (.slice B acc.length cb) acc) ∧ Aside0 (acc = whoL v i ++ plL i (l.take k)))
        case atStart => exact ⟨0, acc, B, cb, rfl, ⟨by omega⟩, HB, X3, RA, ⟨by rw [List.take_zero]; exact GA.out.trans (List.append_nil _).symm⟩⟩
        case round =>
          clear HB X3 RA GA X1r X2r HBW HAC
          obtain ⟨k, acc, B, cb, rfl, HKK, HB, X3, RA, GA⟩ := hrel
          have X1r := Aside0.mk (blk_below X12.out HB.out)
          have hvv := vcell X1r.out i HI.out
          rw [LE.out] at hvv
          cases gk with
          | zero =>
            have ek : k = l.length := by have := HKK.out; omega
            subst ek
            have d1 : decide ((l.length : Int) < (l.length : Int)) = false := by simp
            rw [List.take_length] at GA
            go_wp2_with fail
            try rw [ew]
            clear ew
            go_roundg q
            case measure => omega
            case rel => exact ⟨i + 1, acc, B, cb, rfl, ⟨by have := HK.out; omega⟩, HB, X3, RA, ⟨by rw [GA.out, whoL, LE.out]⟩⟩
          | succ g =>
            have hk : k < l.length := by have := HKK.out; omega
            have HKL := Aside0.mk hk
            have d1 : decide ((k : Int) < (l.length : Int)) = true := decide_eq_true (by omega)
            have d2 : decide (k < l.length) = true := decide_eq_true hk
            have p0 : 0 ≤ (k : Int) := Int.natCast_nonneg _
            have p1 : (k : Int) < (l.length : Int) := by omega
            have ew2 : wrap64 ((k : Int) + 1) = ((k + 1 : Nat) : Int) := by have h1 := HLL.out; unfold wrap64; omega
            have CV1 := Kd.C_below CV.out HB.out
            obtain ⟨ax, ea, ha0, ha1, ha2, ha3, ha4, ha5, ha6⟩ := at_T58 CV1 (k : Int) p0 p1
            rw [Int.toNat_natCast] at ha0 ha1 ha2 ha3 ha4 ha5 ha6
            have PS := Aside0.mk (plL_snoc i l hk)
            have EM := Aside0.mk (show rd_T58 l (k : Int) = l.getD k z58 by unfold rd_T58; rw [Int.toNat_natCast])
            rw [← EM.out] at PS
            generalize rd_T58 l (k : Int) = m at *
            have LAC := Aside0.mk (show acc.length ≤ 400 by rw [GA.out, List.length_append, plL_len]; have h1 := whoL_len RV.out.2.1.1 i (by have := HI.out; omega); have h2 := HLL.out; have h3 := HI.out; have h4 : (l.take k).length ≤ l.length := List.length_take_le' k l; omega)
            have HAX := Aside0.mk ea
            rw [ea] at hvv
            clear hk CV1
            go_upto_region 10 with (fail)
            clear hvv
            refine start_ (n := 15) (S := (fun w' => w'.heap[w.heap.size]? = some (.cells (vCs v p) 26 (0, 0)) ∧ w'.heap[w2.heap.size]? = some (.cells #[.int .u64 v.log, .int .u64 v.next, .int .u64 v.seq, .slice none 0 0, .slice B acc.length cb] 70 (0, 0)) ∧ w'.cell? (ax.add (k * 7)) = some (.int .u64 m.f0) ∧ w'.cell? ⟨(ax.add (k * 7)).block, (ax.add (k * 7)).off + 1, none⟩ = some (.int .i64 m.f1) ∧ w'.cell? ⟨(ax.add (k * 7)).block, (ax.add (k * 7)).off + 2, none⟩ = some (.int .i64 m.f2) ∧ w'.cell? ⟨(ax.add (k * 7)).block, (ax.add (k * 7)).off + 3, none⟩ = some (.string m.f3) ∧ w'.cell? ⟨(ax.add (k * 7)).block, (ax.add (k * 7)).off + 4, none⟩ = some (.string m.f4) ∧ w'.cell? ⟨(ax.add (k * 7)).block, (ax.add (k * 7)).off + 5, none⟩ = some (.int .u64 m.f5) ∧ w'.cell? ⟨(ax.add (k * 7)).block, (ax.add (k * 7)).off + 6, none⟩ = some (.int .u64 m.f6))) (ds := [12, 14]) #[false, false, false, false, false, false, false, false, false, false, false, false, false, false, false] (by kernel_rfl) rfl rfl ⟨blk_drew X1r.out, blk_drew X3.out, ha0, ha1, ha2, ha3, ha4, ha5, ha6⟩ (fun hHeld => ?_)
            have RA9 := Aside0.mk (Kd.R_drew RA.out)
            have HB9 := Aside0.mk (below_drew HB.out)
            have X3d := Aside0.mk (blk_drew X3.out)
            generalize wr.drew = w9 at *
            -- 0: Op.fieldAddr 70 t3 4
            refine pure_ (i := 0) (N := (some 30)) (v := ?_) (a' := ?_) #[true, false, false, false, false, false, false, false, false, false, false, false, false, false, false] rfl rfl (by kernel_rfl) (fun _ _ _ h => h) (Or.inl ⟨by rfl, ?_⟩) ?_ ?_
            rotate_left
            · intro w'
              go_simp
              with_reducible rfl
            rotate_left
            · simp only [Act.put, List.setIfInBounds_toArray, List.set_cons_zero, List.set_cons_succ, i64_w, i32_w]
              rfl
            -- 1: Op.load 68 t30
            refine take_ (i := 1) (N := (some 31)) (v := ?_) (a' := ?_) #[true, true, false, false, false, false, false, false, false, false, false, false, false, false, false] rfl rfl (by kernel_rfl) (fun _ _ _ h => h) (Or.inl ⟨by rfl, ?_⟩) hHeld ?_ ?_
            rotate_left
            · rintro w' ⟨s0, s1, s2, s3, s4, s5, s6, s7, s8⟩
              have z4 : w'.cell? ⟨w2.heap.size, 4, none⟩ = some (.slice B acc.length cb) := (blk_cell s1 4).trans rfl
              go_simp
              with_reducible rfl
            rotate_left
            · simp only [Act.put, List.setIfInBounds_toArray, List.set_cons_zero, List.set_cons_succ, i64_w, i32_w]
              rfl
            -- 2: Op.move t4
            refine pure_ (i := 2) (N := (some 32)) (v := ?_) (a' := ?_) #[true, true, true, false, false, false, false, false, false, false, false, false, false, false, false] rfl rfl (by kernel_rfl) (fun _ _ _ h => h) (Or.inl ⟨by rfl, ?_⟩) ?_ ?_
            rotate_left
            · intro w'
              go_simp
              with_reducible rfl
            rotate_left
            · simp only [Act.put, List.setIfInBounds_toArray, List.set_cons_zero, List.set_cons_succ, i64_w, i32_w]
              rfl
            -- 3: Op.move t4
            refine pure_ (i := 3) (N := (some 33)) (v := ?_) (a' := ?_) #[true, true, true, true, false, false, false, false, false, false, false, false, false, false, false] rfl rfl (by kernel_rfl) (fun _ _ _ h => h) (Or.inl ⟨by rfl, ?_⟩) ?_ ?_
            rotate_left
            · intro w'
              go_simp
              with_reducible rfl
            rotate_left
            · simp only [Act.put, List.setIfInBounds_toArray, List.set_cons_zero, List.set_cons_succ, i64_w, i32_w]
              rfl
            -- 4: Op.fieldAddr 26 t1 3
            refine pure_ (i := 4) (N := (some 34)) (v := ?_) (a' := ?_) #[true, true, true, true, true, false, false, false, false, false, false, false, false, false, false] rfl rfl (by kernel_rfl) (fun _ _ _ h => h) (Or.inl ⟨by rfl, ?_⟩) ?_ ?_
            rotate_left
            · intro w'
              go_simp
              with_reducible rfl
            rotate_left
            · simp only [Act.put, List.setIfInBounds_toArray, List.set_cons_zero, List.set_cons_succ, i64_w, i32_w]
              rfl
            -- 5: Op.indexAddr 24 t34 t33
            refine pure_ (i := 5) (N := (some 35)) (v := ?_) (a' := ?_) #[true, true, true, true, true, true, false, false, false, false, false, false, false, false, false] rfl rfl (by kernel_rfl) (fun _ _ _ h => h) (Or.inl ⟨by rfl, ?_⟩) ?_ ?_
            rotate_left
            · intro w'
              go_simp
              with_reducible rfl
            rotate_left
            · simp only [Act.put, List.setIfInBounds_toArray, List.set_cons_zero, List.set_cons_succ, i64_w, i32_w]
              rfl
            -- 6: Op.load 23 t35
            refine take_ (i := 6) (N := (some 36)) (v := ?_) (a' := ?_) #[true, true, true, true, true, true, true, false, false, false, false, false, false, false, false] rfl rfl (by kernel_rfl) (fun _ _ _ h => h) (Or.inl ⟨by rfl, ?_⟩) hHeld ?_ ?_
            rotate_left
            · rintro w' ⟨s0, s1, s2, s3, s4, s5, s6, s7, s8⟩
              have hv_ := vcell s0 i HI.out
              rw [LE.out] at hv_
              go_simp
              with_reducible rfl
            rotate_left
            · simp only [Act.put, List.setIfInBounds_toArray, List.set_cons_zero, List.set_cons_succ, i64_w, i32_w]
              rfl
            -- 7: Op.move t5
            refine pure_ (i := 7) (N := (some 37)) (v := ?_) (a' := ?_) #[true, true, true, true, true, true, true, true, false, false, false, false, false, false, false] rfl rfl (by kernel_rfl) (fun _ _ _ h => h) (Or.inl ⟨by rfl, ?_⟩) ?_ ?_
            rotate_left
            · intro w'
              go_simp
              with_reducible rfl
            rotate_left
            · simp only [Act.put, List.setIfInBounds_toArray, List.set_cons_zero, List.set_cons_succ, i64_w, i32_w]
              rfl
            -- 8: Op.indexAddr 23 t36 t37
            refine pure_ (i := 8) (N := (some 38)) (v := ?_) (a' := ?_) #[true, true, true, true, true, true, true, true, true, false, false, false, false, false, false] rfl rfl (by kernel_rfl) (fun _ _ _ h => h) (Or.inl ⟨by rfl, ?_⟩) ?_ ?_
            rotate_left
            · intro w'
              go_simp
              with_reducible rfl
            rotate_left
            · simp only [Act.put, List.setIfInBounds_toArray, List.set_cons_zero, List.set_cons_succ, i64_w, i32_w]
              rfl
            -- 9: Op.load 58 t38
            refine take_ (i := 9) (N := (some 39)) (v := ?_) (a' := ?_) #[true, true, true, true, true, true, true, true, true, true, false, false, false, false, false] rfl rfl (by kernel_rfl) (fun _ _ _ h => h) (Or.inl ⟨by rfl, ?_⟩) hHeld ?_ ?_
            rotate_left
            · rintro w' ⟨s0, s1, s2, s3, s4, s5, s6, s7, s8⟩
              go_simp
              with_reducible rfl
            rotate_left
            · simp only [Act.put, List.setIfInBounds_toArray, List.set_cons_zero, List.set_cons_succ, i64_w, i32_w]
              rfl
            -- 10: Op.build 82 #[(0, t32), (1, t39)]
            refine pure_ (i := 10) (N := (some 40)) (v := ?_) (a' := ?_) #[true, true, true, true, true, true, true, true, true, true, true, false, false, false, false] rfl rfl (by kernel_rfl) (fun _ _ _ h => h) (Or.inl ⟨by rfl, ?_⟩) ?_ ?_
            rotate_left
            · intro w'
              go_simp
              with_reducible rfl
            rotate_left
            · simp only [Act.put, List.setIfInBounds_toArray, List.set_cons_zero, List.set_cons_succ, i64_w, i32_w]
              rfl
            -- 11: Op.buildSlice 68 1 #[(0, t40)]
            refine one_ (i := 11) (N := (some 41)) #[true, true, true, true, true, true, true, true, true, true, true, true, false, false, false] rfl rfl (by kernel_rfl) (by decide) (fun K hK => ?_)
            refine value_ (w1 := w9.alloc (.cells #[.int .i64 (i : Int), .int .u64 m.f0, .int .i64 m.f1, .int .i64 m.f2, .string m.f3, .string m.f4, .int .u64 m.f5, .int .u64 m.f6] 82)) (v := .slice (some ⟨w9.heap.size, 0, none⟩) 1 1) (by rfl) rfl (by go_simp) ?_
            have hOld := hHeld
            clear hHeld
            refine hK.out _ _ (⟨blk_alloc hOld.1 _, blk_alloc hOld.2.1 _, pw_cell_below (below_alloc (Below.refl w9.heap.size w9) _) hOld.2.2.1, pw_cell_below (below_alloc (Below.refl w9.heap.size w9) _) hOld.2.2.2.1, pw_cell_below (below_alloc (Below.refl w9.heap.size w9) _) hOld.2.2.2.2.1, pw_cell_below (below_alloc (Below.refl w9.heap.size w9) _) hOld.2.2.2.2.2.1, pw_cell_below (below_alloc (Below.refl w9.heap.size w9) _) hOld.2.2.2.2.2.2.1, pw_cell_below (below_alloc (Below.refl w9.heap.size w9) _) hOld.2.2.2.2.2.2.2.1, pw_cell_below (below_alloc (Below.refl w9.heap.size w9) _) hOld.2.2.2.2.2.2.2.2⟩) (fun hHeld => ?_)
            clear hOld hK K
            refine norm_ (a' := ?_) ?_ ?_
            rotate_left
            · show Act.put _ (some 41) _ = _
              simp only [Act.put, List.setIfInBounds_toArray, List.set_cons_zero, List.set_cons_succ, i64_w, i32_w]
              rfl
            -- 12: Op.call { builtin append, args := #[t31, t41], argTypes := #[68, 68] }
            refine last_ (i := 12) (N := (some 42)) #[true, true, true, true, true, true, true, true, true, true, true, true, true, false, false] rfl rfl (by kernel_rfl) (by decide) (fun K hK => ?_)
            refine Kd.R_append_step k82 (w0 := w2) (W := w9) w2.heap.size (by rfl) (.tmp 31) (.tmp 41) 68 82 (.agg #[(.int .i64 0), (.int .u64 0), (.int .i64 0), (.int .i64 0), (.string ⟨#[]⟩), (.string ⟨#[]⟩), (.int .u64 0), (.int .u64 0)]) 80 (by rfl) Try.underlying68 info82 rfl (by decide) (by omega) (.slice B acc.length cb) acc (⟨(i : Int), m⟩ : S82) [.int .i64 (i : Int), .int .u64 m.f0, .int .i64 m.f1, .int .i64 m.f2, .string m.f3, .string m.f4, .int .u64 m.f5, .int .u64 m.f6] (fun _ => True) (fun _ => False) (by rfl) (by rfl) (k82_mkM _ _ _ (⟨(i : Int), m⟩ : S82)) (fun _ h => h.elim) (fun _ _ => trivial) RA9.out HB9.out HB9.out.size (by have := LAC.out; omega) ?_
            intro va wa ho hb hg hat
            have HBa := Aside0.mk hb
            have X3a := Aside0.mk (blk_grown X3d.out hg (Kd.R_ne RA9.out X3d.out (by decide)))
            obtain ⟨AD2, hA2⟩ : ∃ G2, G2 = acc ++ [(⟨(i : Int), m⟩ : S82)] := ⟨_, rfl⟩
            rw [← hA2] at ho
            have AQ2 := Aside0.mk hA2
            clear hA2
            obtain ⟨B3, cb3, hv⟩ := Kd.R_slice ho
            subst hv
            have HRa := Aside0.mk ho
            clear ho hb hg hat
            try clear hHeld
            refine hK.out _ _ ?_
            clear hK K
            refine norm_ (a' := ?_) ?_ ?_
            rotate_left
            · show Act.put _ (some 42) _ = _
              simp only [Act.put, List.setIfInBounds_toArray, List.set_cons_zero, List.set_cons_succ, i64_w, i32_w]
              rfl
            -- 13: Op.fieldAddr 70 t3 4
            refine pure_ (i := 13) (N := (some 43)) (v := ?_) (a' := ?_) #[true, true, true, true, true, true, true, true, true, true, true, true, true, true, false] rfl rfl (by kernel_rfl) (fun _ _ _ h => h) (Or.inl ⟨by rfl, ?_⟩) ?_ ?_
            rotate_left
            · intro w'
              go_simp
              with_reducible rfl
            rotate_left
            · simp only [Act.put, List.setIfInBounds_toArray, List.set_cons_zero, List.set_cons_succ, i64_w, i32_w]
              rfl
            -- 14: Op.store 68 t43 t42
            refine last_ (i := 14) (N := none) #[true, true, true, true, true, true, true, true, true, true, true, true, true, true, true] rfl rfl (by kernel_rfl) (by decide) (fun K hK => ?_)
            have hc_ : wa.cell? ⟨w2.heap.size, 4, none⟩ = some (.slice B acc.length cb) := (blk_cell X3a.out 4).trans rfl
            have hf_ := blk_frozen X3a.out 4
            refine skip_ (w1 := wa.setCell ⟨w2.heap.size, 4, none⟩ (.slice B3 AD2.length cb3)) (by rfl) rfl (by go_simp) ?_
            clear hc_ hf_
            try clear hHeld
            refine hK.out _ _ ?_
            clear hK K
            refine done_ (by kernel_rfl) ?_
            have HBn := Aside0.mk (below_set (j := 4) (v := .slice B3 AD2.length cb3) HBa.out (Nat.le_refl _))
            have X3n := Aside0.mk (five_set (cs' := #[.int .u64 v.log, .int .u64 v.next, .int .u64 v.seq, .slice none 0 0, .slice B3 AD2.length cb3]) X3a.out (j := 4) (.slice B3 AD2.length cb3) rfl)
            have RAn := Aside0.mk (Kd.R_mono (Kd.R_set HRa.out X3a.out (by intro x hx; simp [show k82.E = [] from rfl] at hx; omega) 4 (.slice B3 AD2.length cb3)) (fun _ hk => hk))
            go_wp2_with fail
            try rw [ew2]
            clear ew2 ew
            go_roundg g
            case measure => omega
            case rel => exact ⟨k + 1, AD2, B3, cb3, rfl, ⟨by have := HKK.out; omega⟩, HBn, X3n, RAn, ⟨by rw [AQ2.out, GA.out, PS.out, List.append_assoc]⟩⟩
  · rw [decide_eq_false hr]
    have NR := Aside0.mk hr
    clear hr
    go_wp2_with (first | (refine st_arr rfl 70 _ _ rfl g2 70 ?hx #[.int .u64 0, .int .u64 0, .int .u64 0, .slice none 0 0, .slice none 0 0] ?hy _ X22.out (by rw [size70]; rfl) rfl (by simp [Value.oneCell']) ?_; (case hx => rfl); (case hy => rfl); intro w7 hb7 hbb hk7 hs7; have HB7 := Aside0.mk (hbb _ _ HB2.out (show w.heap.size ≤ g2 by have := N2.out; omega)); have X7 := Aside0.mk hb7; have HK7 := Aside0.mk hk7; clear hb7 hbb hk7 hs7) | fail)
    have r0 : w7.cell? ⟨g2, 0, none⟩ = some (.int .u64 0) := (blk_cell X7.out 0).trans rfl
    have r1 : w7.cell? ⟨g2, 1, none⟩ = some (.int .u64 0) := (blk_cell X7.out 1).trans rfl
    have r2 : w7.cell? ⟨g2, 2, none⟩ = some (.int .u64 0) := (blk_cell X7.out 2).trans rfl
    have r3 : w7.cell? ⟨g2, 3, none⟩ = some (.slice none 0 0) := (blk_cell X7.out 3).trans rfl
    have r4 : w7.cell? ⟨g2, 4, none⟩ = some (.slice none 0 0) := (blk_cell X7.out 4).trans rfl
    have ww : we = ⟨0, 0, 0, [], []⟩ := by rw [WE.out, if_neg NR.out]
    subst ww
    exact bodyPost_ret (v := .agg #[.int .u64 0, .int .u64 0, .int .u64 0, .slice none 0 0, .slice none 0 0]) (by simp [results, Try.results60, go_sem, r0, r1, r2, r3, r4]) rfl ⟨none, 0, rfl, ⟨Nat.le_refl _, ⟨rfl, by simp, fun h => absurd h (Nat.lt_irrefl 0)⟩⟩, HB7.out⟩
end Go.Proofs.Ytkjepfofiegcdaa.V
