import Derived.Test.YtkjepfofiegcdaaVX1Y
import Derived.Test.YtkjepfofiegcdaaWEqStruct
/- Texts of the walks joined into one (VB14, VB15, VB16, VB17, VC1, VC2, VD1, VD2, VD3, VE1). Conditions: told at each. -/
namespace Go.Proofs.Ytkjepfofiegcdaa.V
section
/- VB14: pick.Pick, walked. Conditions: none. -/
set_option linter.unusedVariables false
set_option linter.unusedSimpArgs false
open Go.RowKit Go.Proofs.YtkjepfofiegcdaaW.PrintWords Go.Proofs.YtkjepfofiegcdaaW.PrintLast Go.Proofs.YtkjepfofiegcdaaW.PrintMore Go.Proofs.Ytkjepfofiegcdaa.PB14
structure Cmp where
  lev : Int
  inn : List S58
  ovr : List S58
def dueAt (v : Ver) (many base times : Int) : Nat := if dueL v many base times 0 ≠ [] then 0 else if dueL v many base times 1 ≠ [] then 1 else if dueL v many base times 2 ≠ [] then 2 else 3
instance : DecidableEq S58 := fun a b => if h : a.f0 = b.f0 ∧ a.f1 = b.f1 ∧ a.f2 = b.f2 ∧ a.f3 = b.f3 ∧ a.f4 = b.f4 ∧ a.f5 = b.f5 ∧ a.f6 = b.f6 then isTrue (by cases a; cases b; simp at h; obtain ⟨rfl, rfl, rfl, rfl, rfl, rfl, rfl⟩ := h; rfl) else isFalse (fun e => h (by subst e; simp))
def ovrL (v : Ver) (l : Nat) (In : List S58) : List S58 := (v.lv (l + 1)).filter fun m => overB m (spanM In)
def pickC (v : Ver) (many base times : Int) : Cmp :=
  if rightP v ∧ optP many base times ∧ dueAt v many base times < 3 then ⟨(dueAt v many base times : Nat), dueL v many base times (dueAt v many base times), ovrL v (dueAt v many base times) (dueL v many base times (dueAt v many base times))⟩ else ⟨0, [], []⟩
def pickE (v : Ver) (many base times : Int) : Int := if rightP v ∧ optP many base times then (if dueAt v many base times < 3 then 0 else 4) else 2
def PickPost (w w' : World) (e : Ending) (c : Cmp) (f : Int) : Prop := ∃ vi vo, e = .returned (.tuple #[.agg #[.int .i64 c.lev, vi, vo], .int .i64 f]) ∧ Kd.R k58 58 w' w.heap.size (fun _ => True) vi c.inn ∧ Kd.R k58 58 w' w.heap.size (fun _ => True) vo c.ovr ∧ Below w.heap.size w w'
theorem C23_one (w : World) (A : Option Addr) (c : Nat) (L : List S58) (hC : k58.C w A L.length L) (hc : L.length ≤ c) : k23.C (w.alloc (.cells #[.slice A L.length c] 23)) (some ⟨w.heap.size, 0, none⟩) 1 [L] := by
  refine ⟨rfl, by decide, fun _ => ⟨_, rfl, fun j p hj => ⟨[.slice A p.length c], rfl, ?_, fun i u hu => ?_⟩⟩⟩
  · have h0 : j = 0 := by
      cases j with
      | zero => rfl
      | succ n => simp at hj
    subst h0
    simp at hj
    subst hj
    exact ⟨A, c, rfl, hc, Kd.C_below hC ((Below.refl w.heap.size w).alloc (Nat.le_refl _) _)⟩
  · have h0 : j = 0 := by
      cases j with
      | zero => rfl
      | succ n => simp at hj
    have h1 : i = 0 := by
      cases i with
      | zero => rfl
      | succ n => simp at hu
    subst h0 h1
    simp at hj hu
    subst hj
    rw [← hu]
    show (w.alloc _).cell? ((⟨w.heap.size, 0, none⟩ : Addr).add (0 * 1 + 0)) = _
    rw [Addr.add_mid, blk_cell (blk_new w _)]
    rfl
theorem R58_other {w w' : World} {base g : Nat} {cs : Array Value} {v : Value} {xs : List S58} (h : Kd.R k58 58 w base (fun _ => True) v xs) (hg : w.heap[g]? = some (.cells cs 52 (0, 0))) (hk : ∀ k, k ≠ g → w'.heap[k]? = w.heap[k]?) : Kd.R k58 58 w' base (fun _ => True) v xs := by
  refine Kd.R_mono (Kd.R_step (Kd.R_types h hg (by intro q hq; simp [show k58.E = [] from rfl] at hq; omega)) (fun k ho _ => hk k ho.2)) (fun _ _ => trivial)
theorem size52 : (Try.prog.info? 52).map (·.size) = some 3 := by kernel_rfl
set_option maxHeartbeats 8000000 in
set_option maxRecDepth 100000 in
theorem pick_calls (w : World) (v : Ver) (p : Pl) (hC : VC w v p) (hW : VW v) (many base times : Int) : Calls Try.prog 36 #[.agg (vCs v p), .agg #[.int .i64 many, .int .i64 base, .int .i64 times]] w fun e w' => PickPost w w' e (pickC v many base times) (pickE v many base times) := by
  have HC := Aside0.mk hC
  have HW := Aside0.mk hW
  have HB := Aside0.mk (below_alloc (below_alloc ((Below.refl w.heap.size w).alloc (Nat.le_refl _) (.cells (vCs v p) 26)) (.cells #[.int .i64 many, .int .i64 base, .int .i64 times] 48)) (.cells #[.int .i64 0, .slice none 0 0, .slice none 0 0] 52))
  have X2 := Aside0.mk (blk_alloc (blk_alloc (blk_new w (.cells (vCs v p) 26)) (.cells #[.int .i64 many, .int .i64 base, .int .i64 times] 48)) (.cells #[.int .i64 0, .slice none 0 0, .slice none 0 0] 52))
  have X3 := Aside0.mk (blk_alloc (blk_new (w.alloc (.cells (vCs v p) 26)) (.cells #[.int .i64 many, .int .i64 base, .int .i64 times] 48)) (.cells #[.int .i64 0, .slice none 0 0, .slice none 0 0] 52))
  have X4 := Aside0.mk (blk_new ((w.alloc (.cells (vCs v p) 26)).alloc (.cells #[.int .i64 many, .int .i64 base, .int .i64 times] 48)) (.cells #[.int .i64 0, .slice none 0 0, .slice none 0 0] 52))
  clear hC hW
  obtain ⟨cc, hcc⟩ : ∃ c, c = pickC v many base times := ⟨_, rfl⟩
  obtain ⟨ee, hee⟩ : ∃ c, c = pickE v many base times := ⟨_, rfl⟩
  rw [← hcc, ← hee]
  have HCC := Aside0.mk hcc
  have HEE := Aside0.mk hee
  clear hcc hee
  go_enter Try.func36, Try.ntmps36
  go_wp2_with fail
  generalize hg4 : ((w.alloc (.cells (vCs v p) 26)).alloc (.cells #[.int .i64 many, .int .i64 base, .int .i64 times] 48)).heap.size = g4 at *
  generalize hg3 : (w.alloc (.cells (vCs v p) 26)).heap.size = g3 at *
  have e3 : w.heap.size + 1 = g3 := by rw [← hg3]; simp
  have e4 : g3 + 1 = g4 := by rw [← hg4, ← hg3]; simp
  try rw [e3]
  try rw [e4]
  have N1 := Aside0.mk (show w.heap.size < g3 ∧ g3 < g4 by omega)
  clear hg3 hg4 e3 e4
  generalize (((w.alloc (.cells (vCs v p) 26)).alloc (.cells #[.int .i64 many, .int .i64 base, .int .i64 times] 48)).alloc (.cells #[.int .i64 0, .slice none 0 0, .slice none 0 0] 52)) = w1 at *
  have b0 : w1.cell? ⟨w.heap.size, 0, none⟩ = some (.int .u64 v.log) := (blk_cell X2.out 0).trans rfl
  have b1 : w1.cell? ⟨w.heap.size, 1, none⟩ = some (.int .u64 v.next) := (blk_cell X2.out 1).trans rfl
  have b2 : w1.cell? ⟨w.heap.size, 2, none⟩ = some (.int .u64 v.seq) := (blk_cell X2.out 2).trans rfl
  have b3 : w1.cell? ⟨w.heap.size, 3, none⟩ = some (.slice p.a0 v.l0.length p.c0) := (blk_cell X2.out 3).trans rfl
  have b4 : w1.cell? ⟨w.heap.size, 4, none⟩ = some (.slice p.a1 v.l1.length p.c1) := (blk_cell X2.out 4).trans rfl
  have b5 : w1.cell? ⟨w.heap.size, 5, none⟩ = some (.slice p.a2 v.l2.length p.c2) := (blk_cell X2.out 5).trans rfl
  have b6 : w1.cell? ⟨w.heap.size, 6, none⟩ = some (.slice p.a3 v.l3.length p.c3) := (blk_cell X2.out 6).trans rfl
  go_step3
  go_wp2_with fail
  refine (right_calls _ v p (HC.out.below HB.out) HW.out).mono ?_
  rintro e w2 ⟨rfl, hb⟩
  have HB2 := Aside0.mk (below_step HB.out hb)
  have X22 := Aside0.mk (blk_below X2.out hb)
  have X32 := Aside0.mk (blk_below X3.out hb)
  have X42 := Aside0.mk (blk_below X4.out hb)
  clear hb HB X2 X3 X4 b0 b1 b2 b3 b4 b5 b6
  have o0 : w2.cell? ⟨g3, 0, none⟩ = some (.int .i64 many) := (blk_cell X32.out 0).trans rfl
  have o1 : w2.cell? ⟨g3, 1, none⟩ = some (.int .i64 base) := (blk_cell X32.out 1).trans rfl
  have o2 : w2.cell? ⟨g3, 2, none⟩ = some (.int .i64 times) := (blk_cell X32.out 2).trans rfl
  by_cases hr : rightP v
  · rw [decide_eq_true hr]
    have RV := Aside0.mk hr
    clear hr
    go_wp2_with fail
    refine (check_calls _ many base times).mono ?_
    rintro e w3 ⟨rfl, hb⟩
    have HB3 := Aside0.mk (below_step HB2.out hb)
    have X23 := Aside0.mk (blk_below X22.out hb)
    have X33 := Aside0.mk (blk_below X32.out hb)
    have X43 := Aside0.mk (blk_below X42.out hb)
    clear hb HB2 X22 X32 X42 o0 o1 o2
    by_cases ho : optP many base times
    · rw [optE, if_pos ho]
      have OV := Aside0.mk ho
      clear ho
      have HB4 := Aside0.mk (below_alloc HB3.out (.cells #[.int .i64 0, .slice none 0 0, .slice none 0 0] 52))
      have X24 := Aside0.mk (blk_alloc X23.out (.cells #[.int .i64 0, .slice none 0 0, .slice none 0 0] 52))
      have X34 := Aside0.mk (blk_alloc X33.out (.cells #[.int .i64 0, .slice none 0 0, .slice none 0 0] 52))
      have X44 := Aside0.mk (blk_alloc X43.out (.cells #[.int .i64 0, .slice none 0 0, .slice none 0 0] 52))
      have X64 := Aside0.mk (blk_new w3 (.cells #[.int .i64 0, .slice none 0 0, .slice none 0 0] 52))
      have N6 := Aside0.mk (show g4 < w3.heap.size from blk_lt X43.out)
      clear HB3 X23 X33 X43
      go_wp2_with fail
      have n0_ := N6.out
      generalize w3.heap.size = g6 at *
      generalize w3.alloc (.cells #[.int .i64 0, .slice none 0 0, .slice none 0 0] 52) = w4 at *
      have y0 : w4.cell? ⟨g6, 0, none⟩ = some (.int .i64 0) := (blk_cell X64.out 0).trans rfl
      have f0 := blk_frozen X64.out 0
      have N7 := Aside0.mk (show w.heap.size < g6 ∧ g3 < g6 ∧ g4 < g6 by have := N1.out; omega)
      have HB5 := Aside0.mk (below_set (j := 0) (v := .int .i64 0) HB4.out (show w.heap.size ≤ g6 by have := N7.out; omega))
      have X25 := Aside0.mk (blk_far X24.out (p := ⟨g6, 0, none⟩) (show w.heap.size ≠ g6 by have := N7.out; omega) (.int .i64 0))
      have X35 := Aside0.mk (blk_far X34.out (p := ⟨g6, 0, none⟩) (show g3 ≠ g6 by have := N7.out; omega) (.int .i64 0))
      have X45 := Aside0.mk (blk_far X44.out (p := ⟨g6, 0, none⟩) (show g4 ≠ g6 by have := N7.out; omega) (.int .i64 0))
      have X65 := Aside0.mk (blk_put (cs' := #[.int .i64 0, .slice none 0 0, .slice none 0 0]) X64.out 0 (.int .i64 0) rfl)
      clear n0_ N6 HB4 X24 X34 X44 X64
      go_step3
      go_wp2_with fail
      generalize w4.setCell ⟨g6, 0, none⟩ (.int .i64 0) = w5 at *
      clear y0 f0
      go_loopg [20] 3 (fun kq v20 w' => ∃ (lev : Nat) (A : Option Addr) (c : Nat), Aside0 (kq + lev = 3) ∧ Aside0 (∀ j, j < lev → dueL v many base times j = []) ∧ Aside0 (Below w.heap.size w w') ∧ Aside0 (w'.heap[w.heap.size]? = some (.cells (vCs v p) 26 (0, 0))) ∧ Aside0 (w'.heap[g3]? = some (.cells #[.int .i64 many, .int .i64 base, .int .i64 times] 48 (0, 0))) ∧ Aside0 (w'.heap[g4]? = some (.cells #[.int .i64 0, .slice none 0 0, .slice none 0 0] 52 (0, 0))) ∧ Aside0 (w'.heap[g6]? = some (.cells #[.int .i64 (lev : Int), .slice A 0 c, .slice none 0 0] 52 (0, 0))))
      case atStart => exact ⟨0, none, 0, ⟨by omega⟩, ⟨fun j hj => by omega⟩, HB5, X25, X35, X45, X65⟩
      case round =>
        clear HB5 X25 X35 X45 X65
        obtain ⟨lev, A, c, HK, HJ, HB, X2, X3, X4, X6⟩ := hrel
        have y0 : wr.cell? ⟨g6, 0, none⟩ = some (.int .i64 (lev : Int)) := (blk_cell X6.out 0).trans rfl
        have y1 : wr.cell? ⟨g6, 1, none⟩ = some (.slice A 0 c) := (blk_cell X6.out 1).trans rfl
        have y2 : wr.cell? ⟨g6, 2, none⟩ = some (.slice none 0 0) := (blk_cell X6.out 2).trans rfl
        cases gk with
        | zero =>
          have ei : lev = 3 := by have := HK.out; omega
          subst ei
          have DA := Aside0.mk (show dueAt v many base times = 3 by unfold dueAt; rw [HJ.out 0 (by omega), HJ.out 1 (by omega), HJ.out 2 (by omega)]; rfl)
          have E1 := Aside0.mk (show cc = ⟨0, [], []⟩ by rw [HCC.out, pickC, if_neg (fun h => by have := h.2.2; rw [DA.out] at this; omega)])
          have E2 := Aside0.mk (show ee = 4 by rw [HEE.out, pickE, if_pos ⟨RV.out, OV.out⟩, if_neg (by rw [DA.out]; omega)])
          go_wp2_with (first | (refine st_arr rfl 52 _ _ rfl g4 52 ?hx #[.int .i64 0, .slice none 0 0, .slice none 0 0] ?hy _ X4.out (by rw [size52]; rfl) rfl (by simp [Value.oneCell']) ?_; (case hx => rfl); (case hy => rfl); intro w5 hb5 hbb hk5 hs5; have HB5 := Aside0.mk (hbb _ _ HB.out (by have := N1.out; omega)); have X45 := Aside0.mk hb5; clear hb5 hbb hk5 hs5) | fail)
          have r0 : w5.cell? ⟨g4, 0, none⟩ = some (.int .i64 0) := (blk_cell X45.out 0).trans rfl
          have r1 : w5.cell? ⟨g4, 1, none⟩ = some (.slice none 0 0) := (blk_cell X45.out 1).trans rfl
          have r2 : w5.cell? ⟨g4, 2, none⟩ = some (.slice none 0 0) := (blk_cell X45.out 2).trans rfl
          try rw [Exit.noGoto_ret]
          exact bodyPost_ret (v := .tuple #[.agg #[.int .i64 0, .slice none 0 0, .slice none 0 0], .int .i64 4]) (by simp [results, Try.results36, go_sem, r0, r1, r2]) rfl ⟨_, _, by rw [E1.out, E2.out], by rw [E1.out]; exact Kd.R_nil _ _ _ _ _, by rw [E1.out]; exact Kd.R_nil _ _ _ _ _, HB5.out⟩
        | succ q =>
          have d0 : decide ((lev : Int) < 3) = true := decide_eq_true (by have := HK.out; omega)
          have b0 : wr.cell? ⟨w.heap.size, 0, none⟩ = some (.int .u64 v.log) := (blk_cell X2.out 0).trans rfl
          have b1 : wr.cell? ⟨w.heap.size, 1, none⟩ = some (.int .u64 v.next) := (blk_cell X2.out 1).trans rfl
          have b2 : wr.cell? ⟨w.heap.size, 2, none⟩ = some (.int .u64 v.seq) := (blk_cell X2.out 2).trans rfl
          have b3 : wr.cell? ⟨w.heap.size, 3, none⟩ = some (.slice p.a0 v.l0.length p.c0) := (blk_cell X2.out 3).trans rfl
          have b4 : wr.cell? ⟨w.heap.size, 4, none⟩ = some (.slice p.a1 v.l1.length p.c1) := (blk_cell X2.out 4).trans rfl
          have b5 : wr.cell? ⟨w.heap.size, 5, none⟩ = some (.slice p.a2 v.l2.length p.c2) := (blk_cell X2.out 5).trans rfl
          have b6 : wr.cell? ⟨w.heap.size, 6, none⟩ = some (.slice p.a3 v.l3.length p.c3) := (blk_cell X2.out 6).trans rfl
          have o0 : wr.cell? ⟨g3, 0, none⟩ = some (.int .i64 many) := (blk_cell X3.out 0).trans rfl
          have o1 : wr.cell? ⟨g3, 1, none⟩ = some (.int .i64 base) := (blk_cell X3.out 1).trans rfl
          have o2 : wr.cell? ⟨g3, 2, none⟩ = some (.int .i64 times) := (blk_cell X3.out 2).trans rfl
          have hk3 := HK.out
          rcases (by omega : lev = 0 ∨ lev = 1 ∨ lev = 2) with rfl | rfl | rfl
          · obtain ⟨L, hL⟩ : ∃ L, L = dueL v many base times 0 := ⟨_, rfl⟩
            have LE := Aside0.mk hL
            have hdue := due0_calls _ v p (HC.out.below HB.out) many base times OV.out (RV.out.2.1.1 0 (by omega))
            rw [← hL] at hdue
            clear hL
            go_wp2_with fail
            refine hdue.mono ?_
            clear hdue
            rintro e w5 ⟨x, rfl, hR, hb⟩
            obtain ⟨A', c', hv⟩ := Kd.R_slice hR
            subst hv
            have HB5 := Aside0.mk (below_step HB.out hb)
            have HR5 := Aside0.mk (Kd.R_lower hR HB.out.size)
            have X25 := Aside0.mk (blk_below X2.out hb)
            have X35 := Aside0.mk (blk_below X3.out hb)
            have X45 := Aside0.mk (blk_below X4.out hb)
            have X65 := Aside0.mk (blk_below X6.out hb)
            clear hR hb HB X2 X3 X4 X6 y0 y1 y2 b0 b1 b2 b3 b4 b5 b6 o0 o1 o2
            have y0 : w5.cell? ⟨g6, 0, none⟩ = some (.int .i64 0) := (blk_cell X65.out 0).trans rfl
            have y1 : w5.cell? ⟨g6, 1, none⟩ = some (.slice A 0 c) := (blk_cell X65.out 1).trans rfl
            have f0 := blk_frozen X65.out 0
            have f1 := blk_frozen X65.out 1
            obtain ⟨u, hu⟩ : ∃ u, u = Value.slice A' L.length c' := ⟨_, rfl⟩
            have HB6 := Aside0.mk (below_set (j := 1) (v := u) HB5.out (show w.heap.size ≤ g6 by have := N7.out; omega))
            have X26 := Aside0.mk (blk_far X25.out (p := ⟨g6, 1, none⟩) (show w.heap.size ≠ g6 by have := N7.out; omega) u)
            have X36 := Aside0.mk (blk_far X35.out (p := ⟨g6, 1, none⟩) (show g3 ≠ g6 by have := N7.out; omega) u)
            have X46 := Aside0.mk (blk_far X45.out (p := ⟨g6, 1, none⟩) (show g4 ≠ g6 by have := N7.out; omega) u)
            have X66 := Aside0.mk (blk_put (cs' := #[.int .i64 0, u, .slice none 0 0]) X65.out 1 u rfl)
            have HR6 := Aside0.mk (Kd.R_set HR5.out X65.out (by intro q hq; simp [show k58.E = [] from rfl] at hq; omega) 1 u)
            clear HB5 X25 X35 X45 X65 HR5
            by_cases hL : L = []
            · have L0 := Aside0.mk hL
              subst hu
              subst hL
              go_wp2_with fail
              have HB7 := Aside0.mk (below_set (j := 0) (v := .int .i64 1) HB6.out (show w.heap.size ≤ g6 by have := N7.out; omega))
              have X27 := Aside0.mk (blk_far X26.out (p := ⟨g6, 0, none⟩) (show w.heap.size ≠ g6 by have := N7.out; omega) (.int .i64 1))
              have X37 := Aside0.mk (blk_far X36.out (p := ⟨g6, 0, none⟩) (show g3 ≠ g6 by have := N7.out; omega) (.int .i64 1))
              have X47 := Aside0.mk (blk_far X46.out (p := ⟨g6, 0, none⟩) (show g4 ≠ g6 by have := N7.out; omega) (.int .i64 1))
              have X67 := Aside0.mk (blk_put (cs' := #[.int .i64 1, .slice A' 0 c', .slice none 0 0]) X66.out 0 (.int .i64 1) rfl)
              go_roundg q
              case measure => omega
              case rel => exact ⟨1, A', c', ⟨by have := HK.out; omega⟩, ⟨fun j hj => by
                by_cases e : j = 0
                · subst e; exact LE.out.symm
                · exact HJ.out j (by omega)⟩, HB7, X27, X37, X47, X67⟩
            · have LP := Aside0.mk (List.length_pos_iff.mpr hL)
              have d2 : decide (0 < (L.length : Int)) = true := decide_eq_true (by have := LP.out; omega)
              have d3 : decide (0 < L.length) = true := decide_eq_true LP.out
              have d4 : ((L.length : Int) == 0) = false := by rw [beq_eq_false_iff_ne]; have := LP.out; omega
              have NL := Aside0.mk hL
              subst hu
              clear hL
              have DA := Aside0.mk (show dueAt v many base times = 0 by unfold dueAt; rw [if_pos (by rw [← LE.out]; exact NL.out)])
              have E1 := Aside0.mk (show cc = ⟨0, L, ovrL v 0 L⟩ by rw [HCC.out, pickC, if_pos ⟨RV.out, OV.out, by rw [DA.out]; omega⟩, DA.out, ← LE.out]; rfl)
              have E2 := Aside0.mk (show ee = 0 by rw [HEE.out, pickE, if_pos ⟨RV.out, OV.out⟩, if_pos (by rw [DA.out]; omega)])
              go_wp2_with fail
              have hsz : (w5.setCell ⟨g6, 1, none⟩ (.slice A' L.length c')).heap.size = w5.heap.size := by simp [World.setCell]
              have hsp := span_calls _ _ 1 [L] (C23_one (w5.setCell ⟨g6, 1, none⟩ (.slice A' L.length c')) A' c' L (Kd.R_reads' HR6.out).2.2 (Kd.R_reads' HR6.out).2.1)
              rw [show [L].flatten = L by simp, hsz] at hsp
              refine hsp.mono ?_
              clear hsp hsz
              rintro e w8 ⟨rfl, hb⟩
              obtain ⟨sp, hsp⟩ : ∃ s, s = spanM L := ⟨_, rfl⟩
              rw [← hsp]
              have SP := Aside0.mk hsp
              clear hsp
              replace hb := below_step (below_alloc (Below.refl _ _) _) hb
              have HB8 := Aside0.mk (below_alloc (below_step HB6.out hb) (.cells (mCs sp) 58))
              have X28 := Aside0.mk (blk_alloc (blk_below X26.out hb) (.cells (mCs sp) 58))
              have X48 := Aside0.mk (blk_alloc (blk_below X46.out hb) (.cells (mCs sp) 58))
              have X68 := Aside0.mk (blk_alloc (blk_below X66.out hb) (.cells (mCs sp) 58))
              have HR8 := Aside0.mk (Kd.R_below (Kd.R_below HR6.out hb) ((Below.refl w8.heap.size w8).alloc (Nat.le_refl _) (.cells (mCs sp) 58)))
              have XS := Aside0.mk (show Tb (w8.alloc (.cells (mCs sp) 58)) w8.heap.size sp from blk_new w8 _)
              have y0 : (w8.alloc (.cells (mCs sp) 58)).cell? ⟨g6, 0, none⟩ = some (.int .i64 0) := (blk_cell X68.out 0).trans rfl
              have bl : (w8.alloc (.cells (mCs sp) 58)).cell? ⟨w.heap.size, 4, none⟩ = some (.slice p.a1 v.l1.length p.c1) := (blk_cell X28.out 4).trans rfl
              clear hb HB6 X26 X36 X46 X66 HR6
              go_wp2_with fail
              have hch := chosen93_calls _ p.a1 p.c1 v.l1 (HC.out.below HB8.out 1 (by omega)).1 (by have h1 : v.l1.length ≤ 64 := RV.out.2.1.1 1 (by omega); omega) sp w8.heap.size XS.out
              refine hch.mono ?_
              clear hch
              rintro e w10 ⟨xo, rfl, hRo, hb⟩
              obtain ⟨Ao, co, hv⟩ := Kd.R_slice hRo
              subst hv
              have OVE := Aside0.mk (show (v.l1.filter fun m => overB m sp) = ovrL v 0 L by rw [SP.out]; rfl)
              rw [OVE.out] at hRo
              rw [OVE.out]
              obtain ⟨O, hO⟩ : ∃ O, O = ovrL v 0 L := ⟨_, rfl⟩
              rw [← hO] at hRo ⊢
              have EO := Aside0.mk hO
              have HB10 := Aside0.mk (below_step HB8.out hb)
              have HRo := Aside0.mk (Kd.R_lower hRo HB8.out.size)
              have HR10 := Aside0.mk (Kd.R_below HR8.out hb)
              have X410 := Aside0.mk (blk_below X48.out hb)
              have X610 := Aside0.mk (blk_below X68.out hb)
              clear hRo hb hO HB8 X28 X48 X68 HR8 XS y0 bl
              have y0 : w10.cell? ⟨g6, 0, none⟩ = some (.int .i64 0) := (blk_cell X610.out 0).trans rfl
              have y1 : w10.cell? ⟨g6, 1, none⟩ = some (.slice A' L.length c') := (blk_cell X610.out 1).trans rfl
              have y2 : w10.cell? ⟨g6, 2, none⟩ = some (.slice none 0 0) := (blk_cell X610.out 2).trans rfl
              have f2 := blk_frozen X610.out 2
              have X411 := Aside0.mk (blk_far X410.out (p := ⟨g6, 2, none⟩) (show g4 ≠ g6 by have := N7.out; omega) (.slice Ao O.length co))
              have HB11 := Aside0.mk (below_set (j := 2) (v := .slice Ao O.length co) HB10.out (show w.heap.size ≤ g6 by have := N7.out; omega))
              have HR11 := Aside0.mk (Kd.R_set HR10.out X610.out (by intro q hq; simp [show k58.E = [] from rfl] at hq; omega) 2 (.slice Ao O.length co))
              have HRo11 := Aside0.mk (Kd.R_set HRo.out X610.out (by intro q hq; simp [show k58.E = [] from rfl] at hq; omega) 2 (.slice Ao O.length co))
              go_wp2_with (first | (refine st_arr rfl 52 _ _ rfl g4 52 ?hx #[.int .i64 0, .slice A' L.length c', .slice Ao O.length co] ?hy _ X411.out (by rw [size52]; rfl) rfl (by simp [Value.oneCell']) ?_; (case hx => rfl); (case hy => rfl); intro w12 hb5 hbb hk5 hs5; have HB12 := Aside0.mk (hbb _ _ HB11.out (by have := N1.out; omega)); have X412 := Aside0.mk hb5; have HK5 := Aside0.mk hk5; clear hb5 hbb hk5 hs5) | fail)
              have r0 : w12.cell? ⟨g4, 0, none⟩ = some (.int .i64 0) := (blk_cell X412.out 0).trans rfl
              have r1 : w12.cell? ⟨g4, 1, none⟩ = some (.slice A' L.length c') := (blk_cell X412.out 1).trans rfl
              have r2 : w12.cell? ⟨g4, 2, none⟩ = some (.slice Ao O.length co) := (blk_cell X412.out 2).trans rfl
              try rw [Exit.noGoto_ret]
              exact bodyPost_ret (v := .tuple #[.agg #[.int .i64 0, .slice A' L.length c', .slice Ao O.length co], .int .i64 0]) (by simp [results, Try.results36, go_sem, r0, r1, r2]) rfl ⟨_, _, by rw [E1.out, E2.out], by rw [E1.out]; exact R58_other HR11.out X411.out HK5.out, by rw [E1.out, ← EO.out]; exact R58_other HRo11.out X411.out HK5.out, HB12.out⟩
          · obtain ⟨L, hL⟩ : ∃ L, L = dueL v many base times 1 := ⟨_, rfl⟩
            have LE := Aside0.mk hL
            have hdue := due1_calls _ v p (HC.out.below HB.out) many base times OV.out (RV.out.2.1.1 1 (by omega))
            rw [← hL] at hdue
            clear hL
            go_wp2_with fail
            refine hdue.mono ?_
            clear hdue
            rintro e w5 ⟨x, rfl, hR, hb⟩
            obtain ⟨A', c', hv⟩ := Kd.R_slice hR
            subst hv
            have HB5 := Aside0.mk (below_step HB.out hb)
            have HR5 := Aside0.mk (Kd.R_lower hR HB.out.size)
            have X25 := Aside0.mk (blk_below X2.out hb)
            have X35 := Aside0.mk (blk_below X3.out hb)
            have X45 := Aside0.mk (blk_below X4.out hb)
            have X65 := Aside0.mk (blk_below X6.out hb)
            clear hR hb HB X2 X3 X4 X6 y0 y1 y2 b0 b1 b2 b3 b4 b5 b6 o0 o1 o2
            have y0 : w5.cell? ⟨g6, 0, none⟩ = some (.int .i64 1) := (blk_cell X65.out 0).trans rfl
            have y1 : w5.cell? ⟨g6, 1, none⟩ = some (.slice A 0 c) := (blk_cell X65.out 1).trans rfl
            have f0 := blk_frozen X65.out 0
            have f1 := blk_frozen X65.out 1
            obtain ⟨u, hu⟩ : ∃ u, u = Value.slice A' L.length c' := ⟨_, rfl⟩
            have HB6 := Aside0.mk (below_set (j := 1) (v := u) HB5.out (show w.heap.size ≤ g6 by have := N7.out; omega))
            have X26 := Aside0.mk (blk_far X25.out (p := ⟨g6, 1, none⟩) (show w.heap.size ≠ g6 by have := N7.out; omega) u)
            have X36 := Aside0.mk (blk_far X35.out (p := ⟨g6, 1, none⟩) (show g3 ≠ g6 by have := N7.out; omega) u)
            have X46 := Aside0.mk (blk_far X45.out (p := ⟨g6, 1, none⟩) (show g4 ≠ g6 by have := N7.out; omega) u)
            have X66 := Aside0.mk (blk_put (cs' := #[.int .i64 1, u, .slice none 0 0]) X65.out 1 u rfl)
            have HR6 := Aside0.mk (Kd.R_set HR5.out X65.out (by intro q hq; simp [show k58.E = [] from rfl] at hq; omega) 1 u)
            clear HB5 X25 X35 X45 X65 HR5
            by_cases hL : L = []
            · have L0 := Aside0.mk hL
              subst hu
              subst hL
              go_wp2_with fail
              have HB7 := Aside0.mk (below_set (j := 0) (v := .int .i64 2) HB6.out (show w.heap.size ≤ g6 by have := N7.out; omega))
              have X27 := Aside0.mk (blk_far X26.out (p := ⟨g6, 0, none⟩) (show w.heap.size ≠ g6 by have := N7.out; omega) (.int .i64 2))
              have X37 := Aside0.mk (blk_far X36.out (p := ⟨g6, 0, none⟩) (show g3 ≠ g6 by have := N7.out; omega) (.int .i64 2))
              have X47 := Aside0.mk (blk_far X46.out (p := ⟨g6, 0, none⟩) (show g4 ≠ g6 by have := N7.out; omega) (.int .i64 2))
              have X67 := Aside0.mk (blk_put (cs' := #[.int .i64 2, .slice A' 0 c', .slice none 0 0]) X66.out 0 (.int .i64 2) rfl)
              go_roundg q
              case measure => omega
              case rel => exact ⟨2, A', c', ⟨by have := HK.out; omega⟩, ⟨fun j hj => by
                by_cases e : j = 1
                · subst e; exact LE.out.symm
                · exact HJ.out j (by omega)⟩, HB7, X27, X37, X47, X67⟩
            · have LP := Aside0.mk (List.length_pos_iff.mpr hL)
              have d2 : decide (0 < (L.length : Int)) = true := decide_eq_true (by have := LP.out; omega)
              have d3 : decide (0 < L.length) = true := decide_eq_true LP.out
              have d4 : ((L.length : Int) == 0) = false := by rw [beq_eq_false_iff_ne]; have := LP.out; omega
              have NL := Aside0.mk hL
              subst hu
              clear hL
              have DA := Aside0.mk (show dueAt v many base times = 1 by unfold dueAt; rw [if_neg (fun h => h (HJ.out 0 (by omega))), if_pos (by rw [← LE.out]; exact NL.out)])
              have E1 := Aside0.mk (show cc = ⟨1, L, ovrL v 1 L⟩ by rw [HCC.out, pickC, if_pos ⟨RV.out, OV.out, by rw [DA.out]; omega⟩, DA.out, ← LE.out]; rfl)
              have E2 := Aside0.mk (show ee = 0 by rw [HEE.out, pickE, if_pos ⟨RV.out, OV.out⟩, if_pos (by rw [DA.out]; omega)])
              go_wp2_with fail
              have hsz : (w5.setCell ⟨g6, 1, none⟩ (.slice A' L.length c')).heap.size = w5.heap.size := by simp [World.setCell]
              have hsp := span_calls _ _ 1 [L] (C23_one (w5.setCell ⟨g6, 1, none⟩ (.slice A' L.length c')) A' c' L (Kd.R_reads' HR6.out).2.2 (Kd.R_reads' HR6.out).2.1)
              rw [show [L].flatten = L by simp, hsz] at hsp
              refine hsp.mono ?_
              clear hsp hsz
              rintro e w8 ⟨rfl, hb⟩
              obtain ⟨sp, hsp⟩ : ∃ s, s = spanM L := ⟨_, rfl⟩
              rw [← hsp]
              have SP := Aside0.mk hsp
              clear hsp
              replace hb := below_step (below_alloc (Below.refl _ _) _) hb
              have HB8 := Aside0.mk (below_alloc (below_step HB6.out hb) (.cells (mCs sp) 58))
              have X28 := Aside0.mk (blk_alloc (blk_below X26.out hb) (.cells (mCs sp) 58))
              have X48 := Aside0.mk (blk_alloc (blk_below X46.out hb) (.cells (mCs sp) 58))
              have X68 := Aside0.mk (blk_alloc (blk_below X66.out hb) (.cells (mCs sp) 58))
              have HR8 := Aside0.mk (Kd.R_below (Kd.R_below HR6.out hb) ((Below.refl w8.heap.size w8).alloc (Nat.le_refl _) (.cells (mCs sp) 58)))
              have XS := Aside0.mk (show Tb (w8.alloc (.cells (mCs sp) 58)) w8.heap.size sp from blk_new w8 _)
              have y0 : (w8.alloc (.cells (mCs sp) 58)).cell? ⟨g6, 0, none⟩ = some (.int .i64 1) := (blk_cell X68.out 0).trans rfl
              have bl : (w8.alloc (.cells (mCs sp) 58)).cell? ⟨w.heap.size, 5, none⟩ = some (.slice p.a2 v.l2.length p.c2) := (blk_cell X28.out 5).trans rfl
              clear hb HB6 X26 X36 X46 X66 HR6
              go_wp2_with fail
              have hch := chosen93_calls _ p.a2 p.c2 v.l2 (HC.out.below HB8.out 2 (by omega)).1 (by have h1 : v.l2.length ≤ 64 := RV.out.2.1.1 2 (by omega); omega) sp w8.heap.size XS.out
              refine hch.mono ?_
              clear hch
              rintro e w10 ⟨xo, rfl, hRo, hb⟩
              obtain ⟨Ao, co, hv⟩ := Kd.R_slice hRo
              subst hv
              have OVE := Aside0.mk (show (v.l2.filter fun m => overB m sp) = ovrL v 1 L by rw [SP.out]; rfl)
              rw [OVE.out] at hRo
              rw [OVE.out]
              obtain ⟨O, hO⟩ : ∃ O, O = ovrL v 1 L := ⟨_, rfl⟩
              rw [← hO] at hRo ⊢
              have EO := Aside0.mk hO
              have HB10 := Aside0.mk (below_step HB8.out hb)
              have HRo := Aside0.mk (Kd.R_lower hRo HB8.out.size)
              have HR10 := Aside0.mk (Kd.R_below HR8.out hb)
              have X410 := Aside0.mk (blk_below X48.out hb)
              have X610 := Aside0.mk (blk_below X68.out hb)
              clear hRo hb hO HB8 X28 X48 X68 HR8 XS y0 bl
              have y0 : w10.cell? ⟨g6, 0, none⟩ = some (.int .i64 1) := (blk_cell X610.out 0).trans rfl
              have y1 : w10.cell? ⟨g6, 1, none⟩ = some (.slice A' L.length c') := (blk_cell X610.out 1).trans rfl
              have y2 : w10.cell? ⟨g6, 2, none⟩ = some (.slice none 0 0) := (blk_cell X610.out 2).trans rfl
              have f2 := blk_frozen X610.out 2
              have X411 := Aside0.mk (blk_far X410.out (p := ⟨g6, 2, none⟩) (show g4 ≠ g6 by have := N7.out; omega) (.slice Ao O.length co))
              have HB11 := Aside0.mk (below_set (j := 2) (v := .slice Ao O.length co) HB10.out (show w.heap.size ≤ g6 by have := N7.out; omega))
              have HR11 := Aside0.mk (Kd.R_set HR10.out X610.out (by intro q hq; simp [show k58.E = [] from rfl] at hq; omega) 2 (.slice Ao O.length co))
              have HRo11 := Aside0.mk (Kd.R_set HRo.out X610.out (by intro q hq; simp [show k58.E = [] from rfl] at hq; omega) 2 (.slice Ao O.length co))
              go_wp2_with (first | (refine st_arr rfl 52 _ _ rfl g4 52 ?hx #[.int .i64 1, .slice A' L.length c', .slice Ao O.length co] ?hy _ X411.out (by rw [size52]; rfl) rfl (by simp [Value.oneCell']) ?_; (case hx => rfl); (case hy => rfl); intro w12 hb5 hbb hk5 hs5; have HB12 := Aside0.mk (hbb _ _ HB11.out (by have := N1.out; omega)); have X412 := Aside0.mk hb5; have HK5 := Aside0.mk hk5; clear hb5 hbb hk5 hs5) | fail)
              have r0 : w12.cell? ⟨g4, 0, none⟩ = some (.int .i64 1) := (blk_cell X412.out 0).trans rfl
              have r1 : w12.cell? ⟨g4, 1, none⟩ = some (.slice A' L.length c') := (blk_cell X412.out 1).trans rfl
              have r2 : w12.cell? ⟨g4, 2, none⟩ = some (.slice Ao O.length co) := (blk_cell X412.out 2).trans rfl
              try rw [Exit.noGoto_ret]
              exact bodyPost_ret (v := .tuple #[.agg #[.int .i64 1, .slice A' L.length c', .slice Ao O.length co], .int .i64 0]) (by simp [results, Try.results36, go_sem, r0, r1, r2]) rfl ⟨_, _, by rw [E1.out, E2.out], by rw [E1.out]; exact R58_other HR11.out X411.out HK5.out, by rw [E1.out, ← EO.out]; exact R58_other HRo11.out X411.out HK5.out, HB12.out⟩
          · obtain ⟨L, hL⟩ : ∃ L, L = dueL v many base times 2 := ⟨_, rfl⟩
            have LE := Aside0.mk hL
            have hdue := due2_calls _ v p (HC.out.below HB.out) many base times OV.out (RV.out.2.1.1 2 (by omega))
            rw [← hL] at hdue
            clear hL
            go_wp2_with fail
            refine hdue.mono ?_
            clear hdue
            rintro e w5 ⟨x, rfl, hR, hb⟩
            obtain ⟨A', c', hv⟩ := Kd.R_slice hR
            subst hv
            have HB5 := Aside0.mk (below_step HB.out hb)
            have HR5 := Aside0.mk (Kd.R_lower hR HB.out.size)
            have X25 := Aside0.mk (blk_below X2.out hb)
            have X35 := Aside0.mk (blk_below X3.out hb)
            have X45 := Aside0.mk (blk_below X4.out hb)
            have X65 := Aside0.mk (blk_below X6.out hb)
            clear hR hb HB X2 X3 X4 X6 y0 y1 y2 b0 b1 b2 b3 b4 b5 b6 o0 o1 o2
            have y0 : w5.cell? ⟨g6, 0, none⟩ = some (.int .i64 2) := (blk_cell X65.out 0).trans rfl
            have y1 : w5.cell? ⟨g6, 1, none⟩ = some (.slice A 0 c) := (blk_cell X65.out 1).trans rfl
            have f0 := blk_frozen X65.out 0
            have f1 := blk_frozen X65.out 1
            obtain ⟨u, hu⟩ : ∃ u, u = Value.slice A' L.length c' := ⟨_, rfl⟩
            have HB6 := Aside0.mk (below_set (j := 1) (v := u) HB5.out (show w.heap.size ≤ g6 by have := N7.out; omega))
            have X26 := Aside0.mk (blk_far X25.out (p := ⟨g6, 1, none⟩) (show w.heap.size ≠ g6 by have := N7.out; omega) u)
            have X36 := Aside0.mk (blk_far X35.out (p := ⟨g6, 1, none⟩) (show g3 ≠ g6 by have := N7.out; omega) u)
            have X46 := Aside0.mk (blk_far X45.out (p := ⟨g6, 1, none⟩) (show g4 ≠ g6 by have := N7.out; omega) u)
            have X66 := Aside0.mk (blk_put (cs' := #[.int .i64 2, u, .slice none 0 0]) X65.out 1 u rfl)
            have HR6 := Aside0.mk (Kd.R_set HR5.out X65.out (by intro q hq; simp [show k58.E = [] from rfl] at hq; omega) 1 u)
            clear HB5 X25 X35 X45 X65 HR5
            by_cases hL : L = []
            · have L0 := Aside0.mk hL
              subst hu
              subst hL
              go_wp2_with fail
              have HB7 := Aside0.mk (below_set (j := 0) (v := .int .i64 3) HB6.out (show w.heap.size ≤ g6 by have := N7.out; omega))
              have X27 := Aside0.mk (blk_far X26.out (p := ⟨g6, 0, none⟩) (show w.heap.size ≠ g6 by have := N7.out; omega) (.int .i64 3))
              have X37 := Aside0.mk (blk_far X36.out (p := ⟨g6, 0, none⟩) (show g3 ≠ g6 by have := N7.out; omega) (.int .i64 3))
              have X47 := Aside0.mk (blk_far X46.out (p := ⟨g6, 0, none⟩) (show g4 ≠ g6 by have := N7.out; omega) (.int .i64 3))
              have X67 := Aside0.mk (blk_put (cs' := #[.int .i64 3, .slice A' 0 c', .slice none 0 0]) X66.out 0 (.int .i64 3) rfl)
              go_roundg q
              case measure => omega
              case rel => exact ⟨3, A', c', ⟨by have := HK.out; omega⟩, ⟨fun j hj => by
                by_cases e : j = 2
                · subst e; exact LE.out.symm
                · exact HJ.out j (by omega)⟩, HB7, X27, X37, X47, X67⟩
            · have LP := Aside0.mk (List.length_pos_iff.mpr hL)
              have d2 : decide (0 < (L.length : Int)) = true := decide_eq_true (by have := LP.out; omega)
              have d3 : decide (0 < L.length) = true := decide_eq_true LP.out
              have d4 : ((L.length : Int) == 0) = false := by rw [beq_eq_false_iff_ne]; have := LP.out; omega
              have NL := Aside0.mk hL
              subst hu
              clear hL
              have DA := Aside0.mk (show dueAt v many base times = 2 by unfold dueAt; rw [if_neg (fun h => h (HJ.out 0 (by omega))), if_neg (fun h => h (HJ.out 1 (by omega))), if_pos (by rw [← LE.out]; exact NL.out)])
              have E1 := Aside0.mk (show cc = ⟨2, L, ovrL v 2 L⟩ by rw [HCC.out, pickC, if_pos ⟨RV.out, OV.out, by rw [DA.out]; omega⟩, DA.out, ← LE.out]; rfl)
              have E2 := Aside0.mk (show ee = 0 by rw [HEE.out, pickE, if_pos ⟨RV.out, OV.out⟩, if_pos (by rw [DA.out]; omega)])
              go_wp2_with fail
              have hsz : (w5.setCell ⟨g6, 1, none⟩ (.slice A' L.length c')).heap.size = w5.heap.size := by simp [World.setCell]
              have hsp := span_calls _ _ 1 [L] (C23_one (w5.setCell ⟨g6, 1, none⟩ (.slice A' L.length c')) A' c' L (Kd.R_reads' HR6.out).2.2 (Kd.R_reads' HR6.out).2.1)
              rw [show [L].flatten = L by simp, hsz] at hsp
              refine hsp.mono ?_
              clear hsp hsz
              rintro e w8 ⟨rfl, hb⟩
              obtain ⟨sp, hsp⟩ : ∃ s, s = spanM L := ⟨_, rfl⟩
              rw [← hsp]
              have SP := Aside0.mk hsp
              clear hsp
              replace hb := below_step (below_alloc (Below.refl _ _) _) hb
              have HB8 := Aside0.mk (below_alloc (below_step HB6.out hb) (.cells (mCs sp) 58))
              have X28 := Aside0.mk (blk_alloc (blk_below X26.out hb) (.cells (mCs sp) 58))
              have X48 := Aside0.mk (blk_alloc (blk_below X46.out hb) (.cells (mCs sp) 58))
              have X68 := Aside0.mk (blk_alloc (blk_below X66.out hb) (.cells (mCs sp) 58))
              have HR8 := Aside0.mk (Kd.R_below (Kd.R_below HR6.out hb) ((Below.refl w8.heap.size w8).alloc (Nat.le_refl _) (.cells (mCs sp) 58)))
              have XS := Aside0.mk (show Tb (w8.alloc (.cells (mCs sp) 58)) w8.heap.size sp from blk_new w8 _)
              have y0 : (w8.alloc (.cells (mCs sp) 58)).cell? ⟨g6, 0, none⟩ = some (.int .i64 2) := (blk_cell X68.out 0).trans rfl
              have bl : (w8.alloc (.cells (mCs sp) 58)).cell? ⟨w.heap.size, 6, none⟩ = some (.slice p.a3 v.l3.length p.c3) := (blk_cell X28.out 6).trans rfl
              clear hb HB6 X26 X36 X46 X66 HR6
              go_wp2_with fail
              have hch := chosen93_calls _ p.a3 p.c3 v.l3 (HC.out.below HB8.out 3 (by omega)).1 (by have h1 : v.l3.length ≤ 64 := RV.out.2.1.1 3 (by omega); omega) sp w8.heap.size XS.out
              refine hch.mono ?_
              clear hch
              rintro e w10 ⟨xo, rfl, hRo, hb⟩
              obtain ⟨Ao, co, hv⟩ := Kd.R_slice hRo
              subst hv
              have OVE := Aside0.mk (show (v.l3.filter fun m => overB m sp) = ovrL v 2 L by rw [SP.out]; rfl)
              rw [OVE.out] at hRo
              rw [OVE.out]
              obtain ⟨O, hO⟩ : ∃ O, O = ovrL v 2 L := ⟨_, rfl⟩
              rw [← hO] at hRo ⊢
              have EO := Aside0.mk hO
              have HB10 := Aside0.mk (below_step HB8.out hb)
              have HRo := Aside0.mk (Kd.R_lower hRo HB8.out.size)
              have HR10 := Aside0.mk (Kd.R_below HR8.out hb)
              have X410 := Aside0.mk (blk_below X48.out hb)
              have X610 := Aside0.mk (blk_below X68.out hb)
              clear hRo hb hO HB8 X28 X48 X68 HR8 XS y0 bl
              have y0 : w10.cell? ⟨g6, 0, none⟩ = some (.int .i64 2) := (blk_cell X610.out 0).trans rfl
              have y1 : w10.cell? ⟨g6, 1, none⟩ = some (.slice A' L.length c') := (blk_cell X610.out 1).trans rfl
              have y2 : w10.cell? ⟨g6, 2, none⟩ = some (.slice none 0 0) := (blk_cell X610.out 2).trans rfl
              have f2 := blk_frozen X610.out 2
              have X411 := Aside0.mk (blk_far X410.out (p := ⟨g6, 2, none⟩) (show g4 ≠ g6 by have := N7.out; omega) (.slice Ao O.length co))
              have HB11 := Aside0.mk (below_set (j := 2) (v := .slice Ao O.length co) HB10.out (show w.heap.size ≤ g6 by have := N7.out; omega))
              have HR11 := Aside0.mk (Kd.R_set HR10.out X610.out (by intro q hq; simp [show k58.E = [] from rfl] at hq; omega) 2 (.slice Ao O.length co))
              have HRo11 := Aside0.mk (Kd.R_set HRo.out X610.out (by intro q hq; simp [show k58.E = [] from rfl] at hq; omega) 2 (.slice Ao O.length co))
              go_wp2_with (first | (refine st_arr rfl 52 _ _ rfl g4 52 ?hx #[.int .i64 2, .slice A' L.length c', .slice Ao O.length co] ?hy _ X411.out (by rw [size52]; rfl) rfl (by simp [Value.oneCell']) ?_; (case hx => rfl); (case hy => rfl); intro w12 hb5 hbb hk5 hs5; have HB12 := Aside0.mk (hbb _ _ HB11.out (by have := N1.out; omega)); have X412 := Aside0.mk hb5; have HK5 := Aside0.mk hk5; clear hb5 hbb hk5 hs5) | fail)
              have r0 : w12.cell? ⟨g4, 0, none⟩ = some (.int .i64 2) := (blk_cell X412.out 0).trans rfl
              have r1 : w12.cell? ⟨g4, 1, none⟩ = some (.slice A' L.length c') := (blk_cell X412.out 1).trans rfl
              have r2 : w12.cell? ⟨g4, 2, none⟩ = some (.slice Ao O.length co) := (blk_cell X412.out 2).trans rfl
              try rw [Exit.noGoto_ret]
              exact bodyPost_ret (v := .tuple #[.agg #[.int .i64 2, .slice A' L.length c', .slice Ao O.length co], .int .i64 0]) (by simp [results, Try.results36, go_sem, r0, r1, r2]) rfl ⟨_, _, by rw [E1.out, E2.out], by rw [E1.out]; exact R58_other HR11.out X411.out HK5.out, by rw [E1.out, ← EO.out]; exact R58_other HRo11.out X411.out HK5.out, HB12.out⟩
    · rw [optE, if_neg ho]
      have E1 := Aside0.mk (show cc = ⟨0, [], []⟩ by rw [HCC.out, pickC, if_neg (fun h => ho h.2.1)])
      have E2 := Aside0.mk (show ee = 2 by rw [HEE.out, pickE, if_neg (fun h => ho h.2)])
      clear ho
      go_wp2_with (first | (refine st_arr rfl 52 _ _ rfl g4 52 ?hx #[.int .i64 0, .slice none 0 0, .slice none 0 0] ?hy _ X43.out (by rw [size52]; rfl) rfl (by simp [Value.oneCell']) ?_; (case hx => rfl); (case hy => rfl); intro w5 hb5 hbb hk5 hs5; have HB5 := Aside0.mk (hbb _ _ HB3.out (by have := N1.out; omega)); have X45 := Aside0.mk hb5; clear hb5 hbb hk5 hs5) | fail)
      have r0 : w5.cell? ⟨g4, 0, none⟩ = some (.int .i64 0) := (blk_cell X45.out 0).trans rfl
      have r1 : w5.cell? ⟨g4, 1, none⟩ = some (.slice none 0 0) := (blk_cell X45.out 1).trans rfl
      have r2 : w5.cell? ⟨g4, 2, none⟩ = some (.slice none 0 0) := (blk_cell X45.out 2).trans rfl
      try rw [Exit.noGoto_ret]
      exact bodyPost_ret (v := .tuple #[.agg #[.int .i64 0, .slice none 0 0, .slice none 0 0], .int .i64 2]) (by simp [results, Try.results36, go_sem, r0, r1, r2]) rfl ⟨_, _, by rw [E1.out, E2.out], by rw [E1.out]; exact Kd.R_nil _ _ _ _ _, by rw [E1.out]; exact Kd.R_nil _ _ _ _ _, HB5.out⟩
  · rw [decide_eq_false hr]
    have E1 := Aside0.mk (show cc = ⟨0, [], []⟩ by rw [HCC.out, pickC, if_neg (fun h => hr h.1)])
    have E2 := Aside0.mk (show ee = 2 by rw [HEE.out, pickE, if_neg (fun h => hr h.1)])
    clear hr
    go_wp2_with (first | (refine st_arr rfl 52 _ _ rfl g4 52 ?hx #[.int .i64 0, .slice none 0 0, .slice none 0 0] ?hy _ X42.out (by rw [size52]; rfl) rfl (by simp [Value.oneCell']) ?_; (case hx => rfl); (case hy => rfl); intro w5 hb5 hbb hk5 hs5; have HB5 := Aside0.mk (hbb _ _ HB2.out (by have := N1.out; omega)); have X45 := Aside0.mk hb5; clear hb5 hbb hk5 hs5) | fail)
    have r0 : w5.cell? ⟨g4, 0, none⟩ = some (.int .i64 0) := (blk_cell X45.out 0).trans rfl
    have r1 : w5.cell? ⟨g4, 1, none⟩ = some (.slice none 0 0) := (blk_cell X45.out 1).trans rfl
    have r2 : w5.cell? ⟨g4, 2, none⟩ = some (.slice none 0 0) := (blk_cell X45.out 2).trans rfl
    try rw [Exit.noGoto_ret]
    exact bodyPost_ret (v := .tuple #[.agg #[.int .i64 0, .slice none 0 0, .slice none 0 0], .int .i64 2]) (by simp [results, Try.results36, go_sem, r0, r1, r2]) rfl ⟨_, _, by rw [E1.out, E2.out], by rw [E1.out]; exact Kd.R_nil _ _ _ _ _, by rw [E1.out]; exact Kd.R_nil _ _ _ _ _, HB5.out⟩
end
section
/- VB15: pick.Bottom, walked. Conditions: none. -/
set_option linter.unusedVariables false
set_option linter.unusedSimpArgs false
open Go.RowKit Go.Proofs.YtkjepfofiegcdaaW.PrintWords Go.Proofs.YtkjepfofiegcdaaW.PrintLast Go.Proofs.YtkjepfofiegcdaaW.PrintMore Go.Proofs.Ytkjepfofiegcdaa.PB14
def askP (v : Ver) (lev : Int) : Prop := rightP v ∧ 0 ≤ lev ∧ lev < 3
instance (v : Ver) (lev : Int) : Decidable (askP v lev) := by unfold askP; infer_instance
set_option maxHeartbeats 4000000 in
set_option maxRecDepth 100000 in
theorem asked_calls (w : World) (v : Ver) (p : Pl) (hC : VC w v p) (hW : VW v) (lev : Int) (A1 : Option Addr) (c1 : Nat) (In : List S58) (A2 : Option Addr) (c2 : Nat) (Ov : List S58) :
    Calls Try.prog 96 #[.agg (vCs v p), .agg #[.int .i64 lev, .slice A1 In.length c1, .slice A2 Ov.length c2]] w fun e w' => e = .returned (.bool (decide (askP v lev))) ∧ Below w.heap.size w w' := by
  have HC := Aside0.mk hC
  have HW := Aside0.mk hW
  have HB := Aside0.mk (below_alloc ((Below.refl w.heap.size w).alloc (Nat.le_refl _) (.cells (vCs v p) 26)) (.cells #[.int .i64 lev, .slice A1 In.length c1, .slice A2 Ov.length c2] 52))
  have X3 := Aside0.mk (blk_new (w.alloc (.cells (vCs v p) 26)) (.cells #[.int .i64 lev, .slice A1 In.length c1, .slice A2 Ov.length c2] 52))
  clear hC hW
  go_enter Try.func96, Try.ntmps96
  go_wp2_with fail
  refine (right_calls _ v p (HC.out.below HB.out) HW.out).mono ?_
  rintro e w2 ⟨rfl, hb⟩
  have HB2 := Aside0.mk (below_step HB.out hb)
  have X32 := Aside0.mk (blk_below X3.out hb)
  have y0 : w2.cell? ⟨w.heap.size + 1, 0, none⟩ = some (.int .i64 lev) := by
    have h1 := (blk_cell X32.out 0).trans rfl
    rw [show (w.alloc (.cells (vCs v p) 26)).heap.size = w.heap.size + 1 by simp] at h1
    exact h1
  clear hb HB X3
  by_cases hr : rightP v
  · rw [decide_eq_true hr]
    have RV := Aside0.mk hr
    clear hr
    by_cases h0 : 0 ≤ lev
    · by_cases h1 : lev < 3
      · go_wp2_with fail
        go_ret
        exact ⟨ret_bool (by symm; rw [decide_eq_true_iff]; exact ⟨RV.out, by omega, by omega⟩), HB2.out⟩
      · go_wp2_with fail
        go_ret
        exact ⟨ret_bool (by rw [decide_eq_decide]; exact ⟨fun h => ⟨RV.out, by omega, by omega⟩, fun h => h.2.2⟩), HB2.out⟩
    · go_wp2_with fail
      go_ret
      exact ⟨ret_bool (by symm; rw [decide_eq_false_iff_not]; rintro ⟨_, a, b⟩; omega), HB2.out⟩
  · rw [decide_eq_false hr]
    have RV := Aside0.mk hr
    clear hr
    go_wp2_with fail
    go_ret
    exact ⟨ret_bool (by symm; rw [decide_eq_false_iff_not]; rintro ⟨a, _, _⟩; exact RV.out a), HB2.out⟩
def BotP (v : Ver) (lev : Nat) (L : List S58) : Prop := L = [] ∨ ∀ i, i < 4 → lev + 2 ≤ i → ∀ m, m ∈ v.lv i → overB m (spanM L) = false
instance (v : Ver) (lev : Nat) (L : List S58) : Decidable (BotP v lev L) := by unfold BotP; infer_instance
def botB (v : Ver) (lev : Int) (L : List S58) : Bool := decide (askP v lev) && decide (BotP v lev.toNat L)
def botE (v : Ver) (lev : Int) : Int := if askP v lev then 0 else 2
theorem C23_two (w : World) (A1 A2 : Option Addr) (c1 c2 : Nat) (L1 L2 : List S58) (h1 : k58.C w A1 L1.length L1) (hc1 : L1.length ≤ c1) (h2 : k58.C w A2 L2.length L2) (hc2 : L2.length ≤ c2) : k23.C (w.alloc (.cells #[.slice A1 L1.length c1, .slice A2 L2.length c2] 23)) (some ⟨w.heap.size, 0, none⟩) 2 [L1, L2] := by
  have hb := (Below.refl w.heap.size w).alloc (Nat.le_refl _) (.cells #[.slice A1 L1.length c1, .slice A2 L2.length c2] 23)
  have hn := blk_new w (.cells #[.slice A1 L1.length c1, .slice A2 L2.length c2] 23)
  refine ⟨rfl, by decide, fun _ => ⟨_, rfl, fun j q hj => ?_⟩⟩
  have hj2 : j = 0 ∨ j = 1 := by
    match j, hj with
    | 0, _ => exact .inl rfl
    | 1, _ => exact .inr rfl
    | n + 2, hj => simp at hj
  rcases hj2 with rfl | rfl
  · simp at hj
    subst hj
    refine ⟨[.slice A1 L1.length c1], rfl, ⟨A1, c1, rfl, hc1, Kd.C_below h1 hb⟩, fun i u hu => ?_⟩
    have h0 : i = 0 := by
      cases i with
      | zero => rfl
      | succ n => simp at hu
    subst h0
    simp at hu
    rw [← hu]
    show (w.alloc _).cell? ((⟨w.heap.size, 0, none⟩ : Addr).add (0 * 1 + 0)) = _
    rw [Addr.add_mid, blk_cell hn]
    rfl
  · simp at hj
    subst hj
    refine ⟨[.slice A2 L2.length c2], rfl, ⟨A2, c2, rfl, hc2, Kd.C_below h2 hb⟩, fun i u hu => ?_⟩
    have h0 : i = 0 := by
      cases i with
      | zero => rfl
      | succ n => simp at hu
    subst h0
    simp at hu
    rw [← hu]
    show (w.alloc _).cell? ((⟨w.heap.size, 0, none⟩ : Addr).add (1 * 1 + 0)) = _
    rw [Addr.add_mid, blk_cell hn]
    rfl
theorem spanO_some (L : List S58) : (spanO L).isSome = true ↔ L ≠ [] := by
  rcases List.eq_nil_or_concat L with rfl | ⟨L', m, rfl⟩
  · simp [spanO]
  · rw [List.concat_eq_append, spanO_snoc]
    simp [spanS]
set_option maxHeartbeats 8000000 in
set_option maxRecDepth 100000 in
theorem bottom_calls (w : World) (v : Ver) (p : Pl) (hC : VC w v p) (hW : VW v) (lev : Int) (A1 : Option Addr) (c1 : Nat) (In : List S58) (A2 : Option Addr) (c2 : Nat) (Ov : List S58) (h1 : k58.C w A1 In.length In) (hc1 : In.length ≤ c1) (h2 : k58.C w A2 Ov.length Ov) (hc2 : Ov.length ≤ c2) :
    Calls Try.prog 45 #[.agg (vCs v p), .agg #[.int .i64 lev, .slice A1 In.length c1, .slice A2 Ov.length c2]] w fun e w' => e = .returned (.tuple #[.bool (botB v lev (In ++ Ov)), .int .i64 (botE v lev)]) ∧ Below w.heap.size w w' := by
  have HC := Aside0.mk hC
  have HW := Aside0.mk hW
  have H1 := Aside0.mk h1
  have H2 := Aside0.mk h2
  have Hc1 := Aside0.mk hc1
  have Hc2 := Aside0.mk hc2
  have HB := Aside0.mk (below_alloc ((Below.refl w.heap.size w).alloc (Nat.le_refl _) (.cells (vCs v p) 26)) (.cells #[.int .i64 lev, .slice A1 In.length c1, .slice A2 Ov.length c2] 52))
  have X2 := Aside0.mk (blk_alloc (blk_new w (.cells (vCs v p) 26)) (.cells #[.int .i64 lev, .slice A1 In.length c1, .slice A2 Ov.length c2] 52))
  have X3 := Aside0.mk (blk_new (w.alloc (.cells (vCs v p) 26)) (.cells #[.int .i64 lev, .slice A1 In.length c1, .slice A2 Ov.length c2] 52))
  clear hC hW h1 h2 hc1 hc2
  obtain ⟨bb, hbb⟩ : ∃ c, c = botB v lev (In ++ Ov) := ⟨_, rfl⟩
  obtain ⟨ee, hee⟩ : ∃ c, c = botE v lev := ⟨_, rfl⟩
  rw [← hbb, ← hee]
  have HBB := Aside0.mk hbb
  have HEE := Aside0.mk hee
  clear hbb hee
  go_enter Try.func45, Try.ntmps45
  go_wp2_with fail
  generalize hg3 : (w.alloc (.cells (vCs v p) 26)).heap.size = g3 at *
  have e3 : w.heap.size + 1 = g3 := by rw [← hg3]; simp
  try rw [e3]
  have N1 := Aside0.mk (show w.heap.size < g3 by omega)
  clear hg3 e3
  generalize (w.alloc (.cells (vCs v p) 26)).alloc (.cells #[.int .i64 lev, .slice A1 In.length c1, .slice A2 Ov.length c2] 52) = w1 at *
  refine (asked_calls w1 v p (HC.out.below HB.out) HW.out lev A1 c1 In A2 c2 Ov).mono ?_
  rintro e w2 ⟨rfl, hb⟩
  have HB2 := Aside0.mk (below_step HB.out hb)
  have X22 := Aside0.mk (blk_below X2.out hb)
  have X32 := Aside0.mk (blk_below X3.out hb)
  clear hb HB X2 X3
  by_cases ha : askP v lev
  · rw [decide_eq_true ha]
    have AV := Aside0.mk ha
    have E2 := Aside0.mk (show ee = 0 by rw [HEE.out, botE, if_pos ha])
    have y0 : w2.cell? ⟨g3, 0, none⟩ = some (.int .i64 lev) := (blk_cell X32.out 0).trans rfl
    have y1 : w2.cell? ⟨g3, 1, none⟩ = some (.slice A1 In.length c1) := (blk_cell X32.out 1).trans rfl
    have y2 : w2.cell? ⟨g3, 2, none⟩ = some (.slice A2 Ov.length c2) := (blk_cell X32.out 2).trans rfl
    clear ha
    go_wp2_with fail
    have hsp := span_calls _ _ 2 [In, Ov] (C23_two w2 A1 A2 c1 c2 In Ov (Kd.C_below H1.out HB2.out) Hc1.out (Kd.C_below H2.out HB2.out) Hc2.out)
    rw [show [In, Ov].flatten = In ++ Ov by simp] at hsp
    refine hsp.mono ?_
    clear hsp
    rintro e w4 ⟨rfl, hb⟩
    replace hb := below_step (below_alloc (Below.refl _ _) _) hb
    obtain ⟨sp, hsp⟩ : ∃ s, s = spanM (In ++ Ov) := ⟨_, rfl⟩
    obtain ⟨ok, hok⟩ : ∃ s, s = (spanO (In ++ Ov)).isSome := ⟨_, rfl⟩
    rw [← hsp, ← hok]
    have SP := Aside0.mk hsp
    have OK := Aside0.mk hok
    have HB4 := Aside0.mk (below_alloc (below_step HB2.out hb) (.cells (mCs sp) 58))
    have X24 := Aside0.mk (blk_alloc (blk_below X22.out hb) (.cells (mCs sp) 58))
    have X34 := Aside0.mk (blk_alloc (blk_below X32.out hb) (.cells (mCs sp) 58))
    have XS := Aside0.mk (show Tb (w4.alloc (.cells (mCs sp) 58)) w4.heap.size sp from blk_new w4 _)
    have y3 : (w4.alloc (.cells (mCs sp) 58)).cell? ⟨g3, 0, none⟩ = some (.int .i64 lev) := (blk_cell X34.out 0).trans rfl
    clear hb HB2 X22 X32 y0 y1 y2 hsp hok
    obtain ⟨l, rfl⟩ := Int.eq_ofNat_of_zero_le AV.out.2.1
    have hl3 := AV.out.2.2
    rcases (by omega : l = 0 ∨ l = 1 ∨ l = 2) with rfl | rfl | rfl
    · have hz : ((0 : Nat) : Int) = 0 := rfl
      rw [hz] at *
      clear hz hl3
      go_wp2_with fail
      clear y3
      generalize w4.heap.size = gs at *
      generalize w4.alloc (.cells (mCs sp) 58) = w5 at *
      have LO := Aside0.mk (show ok = true → ∀ i, 2 ≤ i → i < 2 + 0 → ∀ m, m ∈ v.lv i → overB m sp = false from fun _ i h1 h2 => by omega)
      go_loopg [9, 29] 2 (fun kq v9 v29 w' => ∃ j : Nat, v29 = .int .i64 (j : Int) ∧ Aside0 (kq + j = 2) ∧ Aside0 (Below w.heap.size w w') ∧ Aside0 (w'.heap[w.heap.size]? = some (.cells (vCs v p) 26 (0, 0))) ∧ Aside0 (Tb w' gs sp) ∧ Aside0 (ok = true → ∀ i, 2 ≤ i → i < 2 + j → ∀ m, m ∈ v.lv i → overB m sp = false))
      case atStart => exact ⟨0, rfl, ⟨by omega⟩, HB4, X24, XS, LO⟩
      case round =>
        clear HB4 X24 XS LO
        obtain ⟨j, rfl, HK, HB, X2, XS, LO⟩ := hrel
        cases gk with
        | zero =>
          have ej : j = 2 := by have := HK.out; omega
          subst ej
          have E1 := Aside0.mk (show bb = true by
            rw [HBB.out, botB, decide_eq_true AV.out, Bool.true_and, decide_eq_true_iff]
            by_cases hL : In ++ Ov = []
            · exact .inl hL
            · refine .inr fun i hi h2 m hm => ?_
              have h3 := LO.out (by rw [OK.out, spanO_some]; exact hL) i h2 (by omega) m hm
              rw [← SP.out]; exact h3)
          go_wp2_with fail
          exact bodyPost_ret (v := .tuple #[.bool true, .int .i64 0]) (by simp [results, Try.results45, go_sem]) rfl ⟨by rw [E1.out, E2.out], HB.out⟩
        | succ q =>
          have hj : j < 2 := by have := HK.out; omega
          have d0 : decide ((j : Int) < 2) = true := decide_eq_true (by omega)
          have d1 : decide (j < 2) = true := decide_eq_true (by omega)
          have p0 : 0 ≤ (j : Int) := Int.natCast_nonneg _
          have p1 : (j : Int) < 2 := by omega
          have HI := Aside0.mk (show 2 + j < 4 by omega)
          have hv := vcell X2.out (2 + j) HI.out
          rw [show 3 + (2 + j) = 5 + j by omega] at hv
          have hC1 := (HC.out.below HB.out) (2 + j) HI.out
          have hlen := AV.out.1.2.1.1 (2 + j) HI.out
          obtain ⟨l, hl⟩ : ∃ l, l = v.lv (2 + j) := ⟨_, rfl⟩
          rw [← hl] at hv hC1 hlen
          have LE := Aside0.mk hl
          have HC1 := Aside0.mk hC1.1
          have HL1 := Aside0.mk (show l.length ≤ 1000000000 by omega)
          have ew : wrap64 ((j : Int) + 1) = ((j + 1 : Nat) : Int) := by unfold wrap64; omega
          clear hl hC1 hlen hj
          cases ok with
          | false =>
            go_wp2_with fail
            try rw [ew]
            go_roundg q
            case measure => omega
            case rel => exact ⟨j + 1, rfl, ⟨by have := HK.out; omega⟩, HB, X2, XS, ⟨fun h => by cases h⟩⟩
          | true =>
            go_wp2_with fail
            refine (chosen97_calls _ _ _ l HC1.out HL1.out sp gs XS.out).mono ?_
            rintro e w7 ⟨x, rfl, hR, hb⟩
            obtain ⟨Ax, cx, hvx⟩ := Kd.R_slice hR
            subst hvx
            have HB7 := Aside0.mk (below_step HB.out hb)
            have X27 := Aside0.mk (blk_below X2.out hb)
            have XS7 := Aside0.mk (XS.out.below hb)
            obtain ⟨F, hF⟩ : ∃ F, F = l.filter fun m => overB m sp := ⟨_, rfl⟩
            rw [← hF]
            have FE := Aside0.mk hF
            clear hR hb hF hv
            by_cases hE : F = []
            · have FN := Aside0.mk (show ∀ m, m ∈ l → overB m sp = false from fun m hm => by
                cases hq : overB m sp with
                | false => rfl
                | true => have h1 : m ∈ F := by { rw [FE.out, List.mem_filter]; exact ⟨hm, hq⟩ }; rw [hE] at h1; simp at h1)
              subst hE
              go_wp2_with fail
              try rw [ew]
              go_roundg q
              case measure => omega
              case rel => exact ⟨j + 1, rfl, ⟨by have := HK.out; omega⟩, HB7, X27, XS7, ⟨fun h i h1 h2 m hm => by
                by_cases e : i = 2 + j
                · subst e; rw [← LE.out] at hm; exact FN.out m hm
                · exact LO.out h i h1 (by omega) m hm⟩⟩
            · have FP := Aside0.mk (List.length_pos_iff.mpr hE)
              have d2 : decide (0 < (F.length : Int)) = true := decide_eq_true (by have := FP.out; omega)
              have d3 : decide (0 < F.length) = true := decide_eq_true FP.out
              have E1 := Aside0.mk (show bb = false by
                rw [HBB.out, botB, decide_eq_true AV.out, Bool.true_and, decide_eq_false_iff_not]
                rintro (h1 | h1)
                · rw [h1] at OK; have := OK.out; simp [spanO] at this
                · apply hE
                  rw [FE.out, List.filter_eq_nil_iff]
                  intro m hm
                  have h2 := h1 (2 + j) HI.out (by show ((0 : Int)).toNat + 2 ≤ _; omega) m (by rw [← LE.out]; exact hm)
                  rw [SP.out, h2]; simp)
              clear hE
              go_wp2_with fail
              exact bodyPost_ret (v := .tuple #[.bool false, .int .i64 0]) (by simp [results, Try.results45, go_sem]) rfl ⟨by rw [E1.out, E2.out], HB7.out⟩
    · have hz : ((1 : Nat) : Int) = 1 := rfl
      rw [hz] at *
      clear hz hl3
      go_wp2_with fail
      clear y3
      generalize w4.heap.size = gs at *
      generalize w4.alloc (.cells (mCs sp) 58) = w5 at *
      have LO := Aside0.mk (show ok = true → ∀ i, 3 ≤ i → i < 3 + 0 → ∀ m, m ∈ v.lv i → overB m sp = false from fun _ i h1 h2 => by omega)
      go_loopg [9, 29] 1 (fun kq v9 v29 w' => ∃ j : Nat, v29 = .int .i64 (j : Int) ∧ Aside0 (kq + j = 1) ∧ Aside0 (Below w.heap.size w w') ∧ Aside0 (w'.heap[w.heap.size]? = some (.cells (vCs v p) 26 (0, 0))) ∧ Aside0 (Tb w' gs sp) ∧ Aside0 (ok = true → ∀ i, 3 ≤ i → i < 3 + j → ∀ m, m ∈ v.lv i → overB m sp = false))
      case atStart => exact ⟨0, rfl, ⟨by omega⟩, HB4, X24, XS, LO⟩
      case round =>
        clear HB4 X24 XS LO
        obtain ⟨j, rfl, HK, HB, X2, XS, LO⟩ := hrel
        cases gk with
        | zero =>
          have ej : j = 1 := by have := HK.out; omega
          subst ej
          have E1 := Aside0.mk (show bb = true by
            rw [HBB.out, botB, decide_eq_true AV.out, Bool.true_and, decide_eq_true_iff]
            by_cases hL : In ++ Ov = []
            · exact .inl hL
            · refine .inr fun i hi h2 m hm => ?_
              have h3 := LO.out (by rw [OK.out, spanO_some]; exact hL) i h2 (by omega) m hm
              rw [← SP.out]; exact h3)
          go_wp2_with fail
          exact bodyPost_ret (v := .tuple #[.bool true, .int .i64 0]) (by simp [results, Try.results45, go_sem]) rfl ⟨by rw [E1.out, E2.out], HB.out⟩
        | succ q =>
          have hj : j < 1 := by have := HK.out; omega
          have d0 : decide ((j : Int) < 1) = true := decide_eq_true (by omega)
          have d1 : decide (j < 1) = true := decide_eq_true (by omega)
          have p0 : 0 ≤ (j : Int) := Int.natCast_nonneg _
          have p1 : (j : Int) < 1 := by omega
          have HI := Aside0.mk (show 3 + j < 4 by omega)
          have hv := vcell X2.out (3 + j) HI.out
          rw [show 3 + (3 + j) = 6 + j by omega] at hv
          have hC1 := (HC.out.below HB.out) (3 + j) HI.out
          have hlen := AV.out.1.2.1.1 (3 + j) HI.out
          obtain ⟨l, hl⟩ : ∃ l, l = v.lv (3 + j) := ⟨_, rfl⟩
          rw [← hl] at hv hC1 hlen
          have LE := Aside0.mk hl
          have HC1 := Aside0.mk hC1.1
          have HL1 := Aside0.mk (show l.length ≤ 1000000000 by omega)
          have ew : wrap64 ((j : Int) + 1) = ((j + 1 : Nat) : Int) := by unfold wrap64; omega
          clear hl hC1 hlen hj
          cases ok with
          | false =>
            go_wp2_with fail
            try rw [ew]
            go_roundg q
            case measure => omega
            case rel => exact ⟨j + 1, rfl, ⟨by have := HK.out; omega⟩, HB, X2, XS, ⟨fun h => by cases h⟩⟩
          | true =>
            go_wp2_with fail
            refine (chosen97_calls _ _ _ l HC1.out HL1.out sp gs XS.out).mono ?_
            rintro e w7 ⟨x, rfl, hR, hb⟩
            obtain ⟨Ax, cx, hvx⟩ := Kd.R_slice hR
            subst hvx
            have HB7 := Aside0.mk (below_step HB.out hb)
            have X27 := Aside0.mk (blk_below X2.out hb)
            have XS7 := Aside0.mk (XS.out.below hb)
            obtain ⟨F, hF⟩ : ∃ F, F = l.filter fun m => overB m sp := ⟨_, rfl⟩
            rw [← hF]
            have FE := Aside0.mk hF
            clear hR hb hF hv
            by_cases hE : F = []
            · have FN := Aside0.mk (show ∀ m, m ∈ l → overB m sp = false from fun m hm => by
                cases hq : overB m sp with
                | false => rfl
                | true => have h1 : m ∈ F := by { rw [FE.out, List.mem_filter]; exact ⟨hm, hq⟩ }; rw [hE] at h1; simp at h1)
              subst hE
              go_wp2_with fail
              try rw [ew]
              go_roundg q
              case measure => omega
              case rel => exact ⟨j + 1, rfl, ⟨by have := HK.out; omega⟩, HB7, X27, XS7, ⟨fun h i h1 h2 m hm => by
                by_cases e : i = 3 + j
                · subst e; rw [← LE.out] at hm; exact FN.out m hm
                · exact LO.out h i h1 (by omega) m hm⟩⟩
            · have FP := Aside0.mk (List.length_pos_iff.mpr hE)
              have d2 : decide (0 < (F.length : Int)) = true := decide_eq_true (by have := FP.out; omega)
              have d3 : decide (0 < F.length) = true := decide_eq_true FP.out
              have E1 := Aside0.mk (show bb = false by
                rw [HBB.out, botB, decide_eq_true AV.out, Bool.true_and, decide_eq_false_iff_not]
                rintro (h1 | h1)
                · rw [h1] at OK; have := OK.out; simp [spanO] at this
                · apply hE
                  rw [FE.out, List.filter_eq_nil_iff]
                  intro m hm
                  have h2 := h1 (3 + j) HI.out (by show ((1 : Int)).toNat + 2 ≤ _; omega) m (by rw [← LE.out]; exact hm)
                  rw [SP.out, h2]; simp)
              clear hE
              go_wp2_with fail
              exact bodyPost_ret (v := .tuple #[.bool false, .int .i64 0]) (by simp [results, Try.results45, go_sem]) rfl ⟨by rw [E1.out, E2.out], HB7.out⟩
    · have hz : ((2 : Nat) : Int) = 2 := rfl
      rw [hz] at *
      clear hz hl3
      go_wp2_with fail
      clear y3
      generalize w4.heap.size = gs at *
      generalize w4.alloc (.cells (mCs sp) 58) = w5 at *
      have LO := Aside0.mk (show ok = true → ∀ i, 4 ≤ i → i < 4 + 0 → ∀ m, m ∈ v.lv i → overB m sp = false from fun _ i h1 h2 => by omega)
      go_loopg [9, 29] 0 (fun kq v9 v29 w' => ∃ j : Nat, v29 = .int .i64 (j : Int) ∧ Aside0 (kq + j = 0) ∧ Aside0 (Below w.heap.size w w') ∧ Aside0 (w'.heap[w.heap.size]? = some (.cells (vCs v p) 26 (0, 0))) ∧ Aside0 (Tb w' gs sp) ∧ Aside0 (ok = true → ∀ i, 4 ≤ i → i < 4 + j → ∀ m, m ∈ v.lv i → overB m sp = false))
      case atStart => exact ⟨0, rfl, ⟨by omega⟩, HB4, X24, XS, LO⟩
      case round =>
        clear HB4 X24 XS LO
        obtain ⟨j, rfl, HK, HB, X2, XS, LO⟩ := hrel
        cases gk with
        | zero =>
          have ej : j = 0 := by have := HK.out; omega
          subst ej
          have E1 := Aside0.mk (show bb = true by
            rw [HBB.out, botB, decide_eq_true AV.out, Bool.true_and, decide_eq_true_iff]
            by_cases hL : In ++ Ov = []
            · exact .inl hL
            · refine .inr fun i hi h2 m hm => ?_
              have h3 := LO.out (by rw [OK.out, spanO_some]; exact hL) i h2 (by omega) m hm
              rw [← SP.out]; exact h3)
          go_wp2_with fail
          exact bodyPost_ret (v := .tuple #[.bool true, .int .i64 0]) (by simp [results, Try.results45, go_sem]) rfl ⟨by rw [E1.out, E2.out], HB.out⟩
        | succ q =>
          exact absurd HK.out (by omega)
  · rw [decide_eq_false ha]
    have E1 := Aside0.mk (show bb = false by rw [HBB.out, botB, decide_eq_false ha]; rfl)
    have E2 := Aside0.mk (show ee = 2 by rw [HEE.out, botE, if_neg ha])
    clear ha
    go_wp2_with fail
    exact bodyPost_ret (v := .tuple #[.bool false, .int .i64 2]) (by simp [results, Try.results45, go_sem]) rfl ⟨by rw [E1.out, E2.out], HB2.out⟩
end
section
/- VB16: The version of the document's example (sample), walked. Conditions: none. -/
set_option linter.unusedVariables false
set_option linter.unusedSimpArgs false
open Go.RowKit Go.Proofs.YtkjepfofiegcdaaW.PrintWords Go.Proofs.YtkjepfofiegcdaaW.PrintLast Go.Proofs.YtkjepfofiegcdaaW.PrintMore Go.Proofs.Ytkjepfofiegcdaa.PB14
def tb1 : S58 := ⟨1, 9, 1, ⟨#[97]⟩, ⟨#[99]⟩, 1, 1⟩
def tb2 : S58 := ⟨2, 9, 1, ⟨#[98]⟩, ⟨#[100]⟩, 2, 2⟩
def tb3 : S58 := ⟨3, 60, 1, ⟨#[97]⟩, ⟨#[97]⟩, 1, 1⟩
def tb4 : S58 := ⟨4, 50, 1, ⟨#[101]⟩, ⟨#[102]⟩, 1, 1⟩
def samV : Ver := ⟨1, 5, 9, [tb1, tb2], [tb3, tb4], [], []⟩
theorem C58_two (x y : S58) {w : World} {g t : Nat} (hg : w.heap[g]? = some (.cells (mCs x ++ mCs y) t (0, 0))) : k58.C w (some ⟨g, 0, none⟩) 2 [x, y] := by
  refine ⟨rfl, by decide, fun _ => ⟨_, rfl, fun j q hj => ?_⟩⟩
  have hj2 : j = 0 ∨ j = 1 := by
    match j, hj with
    | 0, _ => exact .inl rfl
    | 1, _ => exact .inr rfl
    | n + 2, hj => simp at hj
  rcases hj2 with rfl | rfl
  · simp at hj
    subst hj
    refine ⟨(mCs x).toList, rfl, k58_mk w x, fun i u hu => ?_⟩
    show w.cell? ((⟨g, 0, none⟩ : Addr).add (0 * 7 + i)) = _
    rw [Addr.add_mid, blk_cell hg]
    have hi : i < 7 := (List.getElem?_eq_some_iff.mp hu).1
    rcases (by omega : i = 0 ∨ i = 1 ∨ i = 2 ∨ i = 3 ∨ i = 4 ∨ i = 5 ∨ i = 6) with rfl | rfl | rfl | rfl | rfl | rfl | rfl <;> exact hu
  · simp at hj
    subst hj
    refine ⟨(mCs y).toList, rfl, k58_mk w y, fun i u hu => ?_⟩
    show w.cell? ((⟨g, 0, none⟩ : Addr).add (1 * 7 + i)) = _
    rw [Addr.add_mid, blk_cell hg]
    have hi : i < 7 := (List.getElem?_eq_some_iff.mp hu).1
    rcases (by omega : i = 0 ∨ i = 1 ∨ i = 2 ∨ i = 3 ∨ i = 4 ∨ i = 5 ∨ i = 6) with rfl | rfl | rfl | rfl | rfl | rfl | rfl <;> exact hu
theorem size26 : (Try.prog.info? 26).map (·.size) = some 7 := by kernel_rfl
set_option maxHeartbeats 8000000 in
set_option maxRecDepth 100000 in
theorem sample_calls (w : World) : Calls Try.prog 89 #[] w fun e w' => ∃ p : Pl, e = .returned (.agg (vCs samV p)) ∧ VC w' samV p ∧ Below w.heap.size w w' := by
  have HB := Aside0.mk (below_alloc ((Below.refl w.heap.size w).alloc (Nat.le_refl _) (.cells #[.int .u64 0, .int .u64 0, .int .u64 0, .slice none 0 0, .slice none 0 0, .slice none 0 0, .slice none 0 0] 26)) (.cells #[.int .u64 1, .int .u64 5, .int .u64 9, .slice none 0 0, .slice none 0 0, .slice none 0 0, .slice none 0 0] 26))
  have X0 := Aside0.mk (blk_alloc (blk_new w (.cells #[.int .u64 0, .int .u64 0, .int .u64 0, .slice none 0 0, .slice none 0 0, .slice none 0 0, .slice none 0 0] 26)) (.cells #[.int .u64 1, .int .u64 5, .int .u64 9, .slice none 0 0, .slice none 0 0, .slice none 0 0, .slice none 0 0] 26))
  have X1 := Aside0.mk (blk_new (w.alloc (.cells #[.int .u64 0, .int .u64 0, .int .u64 0, .slice none 0 0, .slice none 0 0, .slice none 0 0, .slice none 0 0] 26)) (.cells #[.int .u64 1, .int .u64 5, .int .u64 9, .slice none 0 0, .slice none 0 0, .slice none 0 0, .slice none 0 0] 26))
  go_enter Try.func89, Try.ntmps89
  go_upto_region 2 with (fail)
  generalize hg1 : (w.alloc (.cells #[.int .u64 0, .int .u64 0, .int .u64 0, .slice none 0 0, .slice none 0 0, .slice none 0 0, .slice none 0 0] 26)).heap.size = g1 at *
  have e1 : w.heap.size + 1 = g1 := by rw [← hg1]; simp
  try rw [e1]
  have N1 := Aside0.mk (show w.heap.size < g1 by omega)
  clear hg1 e1
  generalize (w.alloc (.cells #[.int .u64 0, .int .u64 0, .int .u64 0, .slice none 0 0, .slice none 0 0, .slice none 0 0, .slice none 0 0] 26)).alloc (.cells #[.int .u64 1, .int .u64 5, .int .u64 9, .slice none 0 0, .slice none 0 0, .slice none 0 0, .slice none 0 0] 26) = w1 at *
  have HB2 := Aside0.mk (below_set (j := 3) (v := .slice (some ⟨w1.heap.size, 0, none⟩) 2 2) (below_alloc HB.out (.cells #[.int .u64 1, .int .i64 9, .int .i64 1, .string ⟨#[97]⟩, .string ⟨#[99]⟩, .int .u64 1, .int .u64 1, .int .u64 2, .int .i64 9, .int .i64 1, .string ⟨#[98]⟩, .string ⟨#[100]⟩, .int .u64 2, .int .u64 2] 58)) (show w.heap.size ≤ g1 by have := N1.out; omega))
  have X02 := Aside0.mk (blk_far (blk_alloc X0.out (.cells #[.int .u64 1, .int .i64 9, .int .i64 1, .string ⟨#[97]⟩, .string ⟨#[99]⟩, .int .u64 1, .int .u64 1, .int .u64 2, .int .i64 9, .int .i64 1, .string ⟨#[98]⟩, .string ⟨#[100]⟩, .int .u64 2, .int .u64 2] 58)) (p := ⟨g1, 3, none⟩) (show w.heap.size ≠ g1 by have := N1.out; omega) (.slice (some ⟨w1.heap.size, 0, none⟩) 2 2))
  have X1a := Aside0.mk (blk_alloc X1.out (.cells #[.int .u64 1, .int .i64 9, .int .i64 1, .string ⟨#[97]⟩, .string ⟨#[99]⟩, .int .u64 1, .int .u64 1, .int .u64 2, .int .i64 9, .int .i64 1, .string ⟨#[98]⟩, .string ⟨#[100]⟩, .int .u64 2, .int .u64 2] 58))
  have X12 := Aside0.mk (blk_put (cs' := #[.int .u64 1, .int .u64 5, .int .u64 9, .slice (some ⟨w1.heap.size, 0, none⟩) 2 2, .slice none 0 0, .slice none 0 0, .slice none 0 0]) X1a.out 3 (.slice (some ⟨w1.heap.size, 0, none⟩) 2 2) rfl)
  have NG := Aside0.mk (show g1 < w1.heap.size from blk_lt X1.out)
  have A12 := Aside0.mk ((blk_far (blk_new w1 (.cells #[.int .u64 1, .int .i64 9, .int .i64 1, .string ⟨#[97]⟩, .string ⟨#[99]⟩, .int .u64 1, .int .u64 1, .int .u64 2, .int .i64 9, .int .i64 1, .string ⟨#[98]⟩, .string ⟨#[100]⟩, .int .u64 2, .int .u64 2] 58)) (p := ⟨g1, 3, none⟩) (show w1.heap.size ≠ g1 by have := NG.out; omega) (.slice (some ⟨w1.heap.size, 0, none⟩) 2 2)))
  have y3 : (w1.alloc (.cells #[.int .u64 1, .int .i64 9, .int .i64 1, .string ⟨#[97]⟩, .string ⟨#[99]⟩, .int .u64 1, .int .u64 1, .int .u64 2, .int .i64 9, .int .i64 1, .string ⟨#[98]⟩, .string ⟨#[100]⟩, .int .u64 2, .int .u64 2] 58)).cell? ⟨g1, 3, none⟩ = some (.slice none 0 0) := (blk_cell X1a.out 3).trans rfl
  have f3 := blk_frozen X1a.out 3
  clear HB X0 X1
  go_upto_region 3 with (fail)
  clear y3 f3 X1a
  generalize hga : w1.heap.size = ga at *
  generalize (w1.alloc (.cells #[.int .u64 1, .int .i64 9, .int .i64 1, .string ⟨#[97]⟩, .string ⟨#[99]⟩, .int .u64 1, .int .u64 1, .int .u64 2, .int .i64 9, .int .i64 1, .string ⟨#[98]⟩, .string ⟨#[100]⟩, .int .u64 2, .int .u64 2] 58)).setCell ⟨g1, 3, none⟩ (.slice (some ⟨ga, 0, none⟩) 2 2) = w2 at *
  clear hga
  have HB3 := Aside0.mk (below_set (j := 4) (v := .slice (some ⟨w2.heap.size, 0, none⟩) 2 2) (below_alloc HB2.out (.cells #[.int .u64 3, .int .i64 60, .int .i64 1, .string ⟨#[97]⟩, .string ⟨#[97]⟩, .int .u64 1, .int .u64 1, .int .u64 4, .int .i64 50, .int .i64 1, .string ⟨#[101]⟩, .string ⟨#[102]⟩, .int .u64 1, .int .u64 1] 58)) (show w.heap.size ≤ g1 by have := N1.out; omega))
  have X03 := Aside0.mk (blk_far (blk_alloc X02.out (.cells #[.int .u64 3, .int .i64 60, .int .i64 1, .string ⟨#[97]⟩, .string ⟨#[97]⟩, .int .u64 1, .int .u64 1, .int .u64 4, .int .i64 50, .int .i64 1, .string ⟨#[101]⟩, .string ⟨#[102]⟩, .int .u64 1, .int .u64 1] 58)) (p := ⟨g1, 4, none⟩) (show w.heap.size ≠ g1 by have := N1.out; omega) (.slice (some ⟨w2.heap.size, 0, none⟩) 2 2))
  have X1b := Aside0.mk (blk_alloc X12.out (.cells #[.int .u64 3, .int .i64 60, .int .i64 1, .string ⟨#[97]⟩, .string ⟨#[97]⟩, .int .u64 1, .int .u64 1, .int .u64 4, .int .i64 50, .int .i64 1, .string ⟨#[101]⟩, .string ⟨#[102]⟩, .int .u64 1, .int .u64 1] 58))
  have X13 := Aside0.mk (blk_put (cs' := #[.int .u64 1, .int .u64 5, .int .u64 9, .slice (some ⟨ga, 0, none⟩) 2 2, .slice (some ⟨w2.heap.size, 0, none⟩) 2 2, .slice none 0 0, .slice none 0 0]) X1b.out 4 (.slice (some ⟨w2.heap.size, 0, none⟩) 2 2) rfl)
  have NG2 := Aside0.mk (show g1 < w2.heap.size from blk_lt X12.out)
  have A13 := Aside0.mk (blk_far (blk_alloc A12.out (.cells #[.int .u64 3, .int .i64 60, .int .i64 1, .string ⟨#[97]⟩, .string ⟨#[97]⟩, .int .u64 1, .int .u64 1, .int .u64 4, .int .i64 50, .int .i64 1, .string ⟨#[101]⟩, .string ⟨#[102]⟩, .int .u64 1, .int .u64 1] 58)) (p := ⟨g1, 4, none⟩) (show ga ≠ g1 by have := NG.out; omega) (.slice (some ⟨w2.heap.size, 0, none⟩) 2 2))
  have B13 := Aside0.mk ((blk_far (blk_new w2 (.cells #[.int .u64 3, .int .i64 60, .int .i64 1, .string ⟨#[97]⟩, .string ⟨#[97]⟩, .int .u64 1, .int .u64 1, .int .u64 4, .int .i64 50, .int .i64 1, .string ⟨#[101]⟩, .string ⟨#[102]⟩, .int .u64 1, .int .u64 1] 58)) (p := ⟨g1, 4, none⟩) (show w2.heap.size ≠ g1 by have := NG2.out; omega) (.slice (some ⟨w2.heap.size, 0, none⟩) 2 2)))
  have y4 : (w2.alloc (.cells #[.int .u64 3, .int .i64 60, .int .i64 1, .string ⟨#[97]⟩, .string ⟨#[97]⟩, .int .u64 1, .int .u64 1, .int .u64 4, .int .i64 50, .int .i64 1, .string ⟨#[101]⟩, .string ⟨#[102]⟩, .int .u64 1, .int .u64 1] 58)).cell? ⟨g1, 4, none⟩ = some (.slice none 0 0) := (blk_cell X1b.out 4).trans rfl
  have f4 := blk_frozen X1b.out 4
  clear HB2 X02 X12
  go_upto_region 4 with (fail)
  clear y4 f4 X1b A12
  generalize hgb : w2.heap.size = gb at *
  generalize (w2.alloc (.cells #[.int .u64 3, .int .i64 60, .int .i64 1, .string ⟨#[97]⟩, .string ⟨#[97]⟩, .int .u64 1, .int .u64 1, .int .u64 4, .int .i64 50, .int .i64 1, .string ⟨#[101]⟩, .string ⟨#[102]⟩, .int .u64 1, .int .u64 1] 58)).setCell ⟨g1, 4, none⟩ (.slice (some ⟨gb, 0, none⟩) 2 2) = w3 at *
  clear hgb
  have c0 : w3.cell? ⟨g1, 0, none⟩ = some (.int .u64 1) := (blk_cell X13.out 0).trans rfl
  have c1 : w3.cell? ⟨g1, 1, none⟩ = some (.int .u64 5) := (blk_cell X13.out 1).trans rfl
  have c2 : w3.cell? ⟨g1, 2, none⟩ = some (.int .u64 9) := (blk_cell X13.out 2).trans rfl
  have c3 : w3.cell? ⟨g1, 3, none⟩ = some (.slice (some ⟨ga, 0, none⟩) 2 2) := (blk_cell X13.out 3).trans rfl
  have c4 : w3.cell? ⟨g1, 4, none⟩ = some (.slice (some ⟨gb, 0, none⟩) 2 2) := (blk_cell X13.out 4).trans rfl
  have c5 : w3.cell? ⟨g1, 5, none⟩ = some (.slice none 0 0) := (blk_cell X13.out 5).trans rfl
  have c6 : w3.cell? ⟨g1, 6, none⟩ = some (.slice none 0 0) := (blk_cell X13.out 6).trans rfl
  go_wp2_with (first | (refine st_arr rfl 26 _ _ rfl w.heap.size 26 ?hx #[.int .u64 1, .int .u64 5, .int .u64 9, .slice (some ⟨ga, 0, none⟩) 2 2, .slice (some ⟨gb, 0, none⟩) 2 2, .slice none 0 0, .slice none 0 0] ?hy _ X03.out (by rw [size26]; rfl) rfl (by simp [Value.oneCell']) ?_; (case hx => rfl); (case hy => rfl); intro w4 hb5 hbb hk5 hs5; have HB4 := Aside0.mk (hbb _ _ HB3.out (Nat.le_refl _)); have X04 := Aside0.mk hb5; have HK5 := Aside0.mk hk5; clear hb5 hbb hk5 hs5) | fail)
  have r0 : w4.cell? ⟨w.heap.size, 0, none⟩ = some (.int .u64 1) := (blk_cell X04.out 0).trans rfl
  have r1 : w4.cell? ⟨w.heap.size, 1, none⟩ = some (.int .u64 5) := (blk_cell X04.out 1).trans rfl
  have r2 : w4.cell? ⟨w.heap.size, 2, none⟩ = some (.int .u64 9) := (blk_cell X04.out 2).trans rfl
  have r3 : w4.cell? ⟨w.heap.size, 3, none⟩ = some (.slice (some ⟨ga, 0, none⟩) 2 2) := (blk_cell X04.out 3).trans rfl
  have r4 : w4.cell? ⟨w.heap.size, 4, none⟩ = some (.slice (some ⟨gb, 0, none⟩) 2 2) := (blk_cell X04.out 4).trans rfl
  have r5 : w4.cell? ⟨w.heap.size, 5, none⟩ = some (.slice none 0 0) := (blk_cell X04.out 5).trans rfl
  have r6 : w4.cell? ⟨w.heap.size, 6, none⟩ = some (.slice none 0 0) := (blk_cell X04.out 6).trans rfl
  refine bodyPost_ret (v := .agg #[.int .u64 1, .int .u64 5, .int .u64 9, .slice (some ⟨ga, 0, none⟩) 2 2, .slice (some ⟨gb, 0, none⟩) 2 2, .slice none 0 0, .slice none 0 0]) (by simp [results, Try.results89, go_sem, r0, r1, r2, r3, r4, r5, r6]) rfl ⟨⟨some ⟨ga, 0, none⟩, some ⟨gb, 0, none⟩, none, none, 2, 2, 0, 0⟩, rfl, fun i hi => ?_, HB4.out⟩
  rcases (by omega : i = 0 ∨ i = 1 ∨ i = 2 ∨ i = 3) with rfl | rfl | rfl | rfl
  · exact ⟨C58_two tb1 tb2 ((HK5.out ga (by have := NG.out; have := N1.out; omega)).trans A13.out), Nat.le_refl _⟩
  · exact ⟨C58_two tb3 tb4 ((HK5.out gb (by have := NG2.out; have := N1.out; omega)).trans B13.out), Nat.le_refl _⟩
  · exact ⟨Kd.C_nil _ _, Nat.le_refl _⟩
  · exact ⟨Kd.C_nil _ _, Nat.le_refl _⟩
end
section
/- VB17: An answer that the document fixes (awake of layer 16), walked. Conditions: none. -/
set_option linter.unusedVariables false
set_option linter.unusedSimpArgs false
open Go.RowKit Go.Proofs.YtkjepfofiegcdaaW.PrintWords Go.Proofs.YtkjepfofiegcdaaW.PrintLast Go.Proofs.YtkjepfofiegcdaaW.PrintMore Go.Proofs.Ytkjepfofiegcdaa.PB14
def emV : Ver := ⟨1, 1, 0, [], [], [], []⟩
theorem aw_c : pickC samV 2 100 10 = ⟨0, [tb1, tb2], [tb3]⟩ := by kernel_rfl
theorem aw_e : pickE samV 2 100 10 = 0 := by kernel_rfl
theorem aw_b : botB samV 0 ([tb1, tb2] ++ [tb3]) = true := by kernel_rfl
theorem aw_f : botE samV 0 = 0 := by kernel_rfl
theorem aw_g : pickE emV 2 100 10 = 4 := by kernel_rfl
theorem aw_h : pickC emV 2 100 10 = ⟨0, [], []⟩ := by kernel_rfl
theorem samW : VW samV := fun i hi m hm => by
  rcases (by omega : i = 0 ∨ i = 1 ∨ i = 2 ∨ i = 3) with rfl | rfl | rfl | rfl
  · rcases List.mem_cons.mp hm with rfl | hm
    · decide
    · rw [List.mem_singleton.mp hm]; decide
  · rcases List.mem_cons.mp hm with rfl | hm
    · decide
    · rw [List.mem_singleton.mp hm]; decide
  · exact absurd hm List.not_mem_nil
  · exact absurd hm List.not_mem_nil
theorem emW : VW emV := fun i hi m hm => by
  rcases (by omega : i = 0 ∨ i = 1 ∨ i = 2 ∨ i = 3) with rfl | rfl | rfl | rfl <;> exact absurd hm List.not_mem_nil
def emP : Pl := ⟨none, none, none, none, 0, 0, 0, 0⟩
theorem emC (w : World) : VC w emV emP := fun i hi => by
  rcases (by omega : i = 0 ∨ i = 1 ∨ i = 2 ∨ i = 3) with rfl | rfl | rfl | rfl <;> exact ⟨Kd.C_nil _ _, Nat.le_refl _⟩
theorem pick_samV (w : World) (p : Pl) (hC : VC w samV p) : Calls Try.prog 36 #[.agg (vCs samV p), .agg #[.int .i64 2, .int .i64 100, .int .i64 10]] w fun e w' => ∃ Ai ci Ao co, e = .returned (.tuple #[.agg #[.int .i64 0, .slice Ai 2 ci, .slice Ao 1 co], .int .i64 0]) ∧ 2 ≤ ci ∧ 1 ≤ co ∧ k58.C w' Ai 2 [tb1, tb2] ∧ k58.C w' Ao 1 [tb3] ∧ Below w.heap.size w w' := by
  refine (pick_calls w samV p hC samW 2 100 10).mono ?_
  rw [aw_c, aw_e]
  rintro e w3 ⟨vi, vo, he, hRi, hRo, hb⟩
  obtain ⟨Ai, ci, hv⟩ := Kd.R_slice hRi
  subst hv
  obtain ⟨Ao, co, hv⟩ := Kd.R_slice hRo
  subst hv
  exact ⟨Ai, ci, Ao, co, he, (Kd.R_reads' hRi).2.1, (Kd.R_reads' hRo).2.1, (Kd.R_reads' hRi).2.2, (Kd.R_reads' hRo).2.2, hb⟩
theorem pick_emV (w : World) : Calls Try.prog 36 #[.agg #[.int .u64 1, .int .u64 1, .int .u64 0, .slice none 0 0, .slice none 0 0, .slice none 0 0, .slice none 0 0], .agg #[.int .i64 2, .int .i64 100, .int .i64 10]] w fun e w' => ∃ vi vo, e = .returned (.tuple #[.agg #[.int .i64 0, vi, vo], .int .i64 4]) ∧ (∃ A c, vi = .slice A 0 c) ∧ (∃ A c, vo = .slice A 0 c) ∧ Below w.heap.size w w' := by
  refine (pick_calls w emV emP (emC w) emW 2 100 10).mono ?_
  rw [aw_h, aw_g]
  rintro e w3 ⟨vi, vo, he, hRi, hRo, hb⟩
  exact ⟨vi, vo, he, Kd.R_slice hRi, Kd.R_slice hRo, hb⟩
theorem bottom_samV (w : World) (p : Pl) (hC : VC w samV p) (Ai : Option Addr) (ci : Nat) (Ao : Option Addr) (co : Nat) (h1 : k58.C w Ai 2 [tb1, tb2]) (hc1 : 2 ≤ ci) (h2 : k58.C w Ao 1 [tb3]) (hc2 : 1 ≤ co) : Calls Try.prog 45 #[.agg (vCs samV p), .agg #[.int .i64 0, .slice Ai 2 ci, .slice Ao 1 co]] w fun e w' => e = .returned (.tuple #[.bool true, .int .i64 0]) ∧ Below w.heap.size w w' := by
  have h := bottom_calls w samV p hC samW 0 Ai ci [tb1, tb2] Ao co [tb3] h1 hc1 h2 hc2
  rw [aw_b, aw_f] at h
  exact h
set_option maxHeartbeats 8000000 in
set_option maxRecDepth 100000 in
theorem awake16_calls (w : World) : Calls Try.prog 34 #[] w fun e w' => e = .returned (.bool true) ∧ Below w.heap.size w w' := by
  go_enter Try.func34, Try.ntmps34
  go_wp2_with fail
  refine (sample_calls w).mono ?_
  rintro e w1 ⟨p, rfl, hC, hb⟩
  have hb1 := (Below.refl w1.heap.size w1).alloc (Nat.le_refl _) (.cells (vCs samV p) 26)
  have HB := Aside0.mk (below_step hb hb1)
  have HC := Aside0.mk (hC.below hb1)
  have XV := Aside0.mk (blk_new w1 (.cells (vCs samV p) 26))
  clear hC hb hb1
  go_wp2_with fail
  generalize w1.heap.size = g1 at *
  generalize w1.alloc (.cells (vCs samV p) 26) = w2 at *
  refine (pick_samV w2 p HC.out).mono ?_
  rintro e w3 ⟨Ai, ci, Ao, co, rfl, h1, h2, hC1, hC2, hb⟩
  have hb1 := (Below.refl w3.heap.size w3).alloc (Nat.le_refl _) (.cells #[.int .i64 0, .slice Ai 2 ci, .slice Ao 1 co] 52)
  have HB4 := Aside0.mk (below_step (below_step HB.out hb) hb1)
  have HC4 := Aside0.mk ((HC.out.below hb).below hb1)
  have XV4 := Aside0.mk (blk_below (blk_below XV.out hb) hb1)
  have XC4 := Aside0.mk (blk_new w3 (.cells #[.int .i64 0, .slice Ai 2 ci, .slice Ao 1 co] 52))
  have K1 := Aside0.mk h1
  have K2 := Aside0.mk h2
  have C1 := Aside0.mk (Kd.C_below hC1 hb1)
  have C2 := Aside0.mk (Kd.C_below hC2 hb1)
  have v0 : (w3.alloc (.cells #[.int .i64 0, .slice Ai 2 ci, .slice Ao 1 co] 52)).cell? ⟨g1, 0, none⟩ = some (.int .u64 samV.log) := (blk_cell XV4.out 0).trans rfl
  have v1 : (w3.alloc (.cells #[.int .i64 0, .slice Ai 2 ci, .slice Ao 1 co] 52)).cell? ⟨g1, 1, none⟩ = some (.int .u64 samV.next) := (blk_cell XV4.out 1).trans rfl
  have v2 : (w3.alloc (.cells #[.int .i64 0, .slice Ai 2 ci, .slice Ao 1 co] 52)).cell? ⟨g1, 2, none⟩ = some (.int .u64 samV.seq) := (blk_cell XV4.out 2).trans rfl
  have v3 : (w3.alloc (.cells #[.int .i64 0, .slice Ai 2 ci, .slice Ao 1 co] 52)).cell? ⟨g1, 3, none⟩ = some (.slice p.a0 samV.l0.length p.c0) := (blk_cell XV4.out 3).trans rfl
  have v4 : (w3.alloc (.cells #[.int .i64 0, .slice Ai 2 ci, .slice Ao 1 co] 52)).cell? ⟨g1, 4, none⟩ = some (.slice p.a1 samV.l1.length p.c1) := (blk_cell XV4.out 4).trans rfl
  have v5 : (w3.alloc (.cells #[.int .i64 0, .slice Ai 2 ci, .slice Ao 1 co] 52)).cell? ⟨g1, 5, none⟩ = some (.slice p.a2 samV.l2.length p.c2) := (blk_cell XV4.out 5).trans rfl
  have v6 : (w3.alloc (.cells #[.int .i64 0, .slice Ai 2 ci, .slice Ao 1 co] 52)).cell? ⟨g1, 6, none⟩ = some (.slice p.a3 samV.l3.length p.c3) := (blk_cell XV4.out 6).trans rfl
  clear hb hb1 HB HC XV h1 h2 hC1 hC2
  go_wp2_with fail
  generalize w3.heap.size = g2 at *
  generalize w3.alloc (.cells #[.int .i64 0, .slice Ai 2 ci, .slice Ao 1 co] 52) = w4 at *
  refine (bottom_samV w4 p HC4.out Ai ci Ao co C1.out K1.out C2.out K2.out).mono ?_
  rintro e w5 ⟨rfl, hb⟩
  have HB5 := Aside0.mk (below_step HB4.out hb)
  have XC5 := Aside0.mk (blk_below XC4.out hb)
  have C25 := Aside0.mk (Kd.C_below C2.out hb)
  clear hb HB4 HC4 XV4 XC4 C1 C2 v0 v1 v2 v3 v4 v5 v6
  go_wp2_with fail
  refine (pick_emV w5).mono ?_
  rintro e w6 ⟨vi, vo, rfl, ⟨A5, c5, rfl⟩, ⟨A6, c6, rfl⟩, hb⟩
  have hb1 := (Below.refl w6.heap.size w6).alloc (Nat.le_refl _) (.cells #[.int .i64 0, .slice A5 0 c5, .slice A6 0 c6] 52)
  have HB7 := Aside0.mk (below_step (below_step HB5.out hb) hb1)
  have XC7 := Aside0.mk (blk_below (blk_below XC5.out hb) hb1)
  have C27 := Aside0.mk (Kd.C_below (Kd.C_below C25.out hb) hb1)
  clear hb hb1 HB5 XC5 C25
  have y0 : (w6.alloc (.cells #[.int .i64 0, .slice A5 0 c5, .slice A6 0 c6] 52)).cell? ⟨g2, 0, none⟩ = some (.int .i64 0) := (blk_cell XC7.out 0).trans rfl
  have y1 : (w6.alloc (.cells #[.int .i64 0, .slice A5 0 c5, .slice A6 0 c6] 52)).cell? ⟨g2, 1, none⟩ = some (.slice Ai 2 ci) := (blk_cell XC7.out 1).trans rfl
  have y2 : (w6.alloc (.cells #[.int .i64 0, .slice A5 0 c5, .slice A6 0 c6] 52)).cell? ⟨g2, 2, none⟩ = some (.slice Ao 1 co) := (blk_cell XC7.out 2).trans rfl
  obtain ⟨ad, ea, ha0, _, _, _, _, _, _⟩ := at_T58 C27.out 0 (by omega) (by omega)
  have az : ad.add (Int.toNat 0 * 7) = ad := by show ad.add 0 = ad; unfold Addr.add; rw [if_pos rfl]
  rw [az] at ha0
  replace ha0 : (w6.alloc (.cells #[.int .i64 0, .slice A5 0 c5, .slice A6 0 c6] 52)).cell? ad = some (.int .u64 3) := ha0
  subst ea
  clear az
  go_wp2_with fail
  go_ret
  exact ⟨rfl, HB7.out⟩
end
section
/- VC1: The law PickOverlap, walked. Conditions: none. -/
set_option linter.unusedVariables false
set_option linter.unusedSimpArgs false
open Go.RowKit Go.Proofs.YtkjepfofiegcdaaW.PrintWords Go.Proofs.YtkjepfofiegcdaaW.PrintLast Go.Proofs.YtkjepfofiegcdaaW.PrintMore Go.Proofs.Ytkjepfofiegcdaa.PB14
end
section
/- VC2: The law PickMeets, walked. Conditions: none. -/
set_option linter.unusedVariables false
set_option linter.unusedSimpArgs false
open Go.RowKit Go.Proofs.YtkjepfofiegcdaaW.PrintWords Go.Proofs.YtkjepfofiegcdaaW.PrintLast Go.Proofs.YtkjepfofiegcdaaW.PrintMore Go.Proofs.Ytkjepfofiegcdaa.PB14
end
section
/- VD1: Are there too many tables (freshetlaw16.many, freshetlaw14.many), walked. Conditions: none. -/
set_option linter.unusedVariables false
set_option linter.unusedSimpArgs false
open Go.RowKit Go.Proofs.YtkjepfofiegcdaaW.PrintWords Go.Proofs.YtkjepfofiegcdaaW.PrintLast Go.Proofs.YtkjepfofiegcdaaW.PrintMore Go.Proofs.Ytkjepfofiegcdaa.PB14
def manyP (v : Ver) : Prop := ∃ i, i < 4 ∧ 80 < (v.lv i).length
instance (v : Ver) : Decidable (manyP v) := decidable_of_iff (¬ ∀ i, i < 4 → (v.lv i).length ≤ 80) ⟨fun h => by
  rw [Classical.not_forall] at h
  obtain ⟨i, hi⟩ := h
  rw [Classical.not_imp] at hi
  exact ⟨i, hi.1, by omega⟩, fun ⟨i, hi, h2⟩ h => by have := h i hi; omega⟩
set_option maxHeartbeats 4000000 in
set_option maxRecDepth 100000 in
theorem many33_calls (w : World) (v : Ver) (p : Pl) : Calls Try.prog 33 #[.agg (vCs v p)] w fun e w' => e = .returned (.bool (decide (manyP v))) ∧ Below w.heap.size w w' := by
  have HB := Aside0.mk ((Below.refl w.heap.size w).alloc (Nat.le_refl _) (.cells (vCs v p) 26))
  have BX := Aside0.mk (blk_new w (.cells (vCs v p) 26))
  go_enter Try.func33, Try.ntmps33
  go_wp2_with fail
  generalize w.alloc (.cells (vCs v p) 26) = w1 at *
  go_loopg [3] 4 (fun kq v3 w' => ∃ i : Nat, v3 = .int .i64 (i : Int) ∧ Aside0 (kq + i = 4) ∧ Aside0 (Below w.heap.size w w') ∧ Aside0 (w'.heap[w.heap.size]? = some (.cells (vCs v p) 26 (0, 0))) ∧ Aside0 (∀ j, j < i → (v.lv j).length ≤ 80))
  case atStart => exact ⟨0, rfl, ⟨by omega⟩, HB, BX, ⟨fun j hj => by omega⟩⟩
  case round =>
    clear HB BX
    obtain ⟨i, rfl, HK, HB, BX, HJ⟩ := hrel
    cases gk with
    | zero =>
      have ei : i = 4 := by have := HK.out; omega
      subst ei
      go_wp2_with fail
      go_ret
      exact ⟨ret_bool (by symm; rw [decide_eq_false_iff_not]; rintro ⟨j, hj, h2⟩; have := HJ.out j hj; omega), HB.out⟩
    | succ q =>
      have hi : i < 4 := by have := HK.out; omega
      have HI := Aside0.mk hi
      have d0 : decide ((i : Int) < 4) = true := decide_eq_true (by omega)
      have i0 : 0 ≤ (i : Int) := Int.natCast_nonneg _
      have i1 : (i : Int) < 4 := by omega
      have hv := vcell BX.out i hi
      have ew : wrap64 ((i : Int) + 1) = ((i + 1 : Nat) : Int) := by unfold wrap64; omega
      obtain ⟨l, hl⟩ : ∃ l, l = v.lv i := ⟨_, rfl⟩
      rw [← hl] at hv
      have LE := Aside0.mk hl
      clear hl hi
      by_cases h80 : (l.length : Int) > 80
      · have t0 : decide (80 < (l.length : Int)) = true := decide_eq_true h80
        have t1 : decide (80 < l.length) = true := decide_eq_true (by omega)
        have M := Aside0.mk (show manyP v from ⟨i, HI.out, by rw [← LE.out]; omega⟩)
        clear h80
        go_wp2_with fail
        go_ret
        exact ⟨ret_bool (by symm; rw [decide_eq_true_iff]; exact M.out), HB.out⟩
      · have t0 : decide (80 < (l.length : Int)) = false := decide_eq_false h80
        have t1 : decide (80 < l.length) = false := decide_eq_false (by omega)
        have M := Aside0.mk (show (v.lv i).length ≤ 80 by rw [← LE.out]; omega)
        clear h80
        go_wp2_with fail
        try rw [ew]
        go_roundg q
        case measure => omega
        case rel => exact ⟨i + 1, rfl, ⟨by have := HK.out; omega⟩, HB, BX, ⟨fun j hj => by
          by_cases e : j = i
          · subst e; exact M.out
          · exact HJ.out j (by omega)⟩⟩
end
section
/- VD2: freshetref14.May, walked. Conditions: none. -/
set_option linter.unusedVariables false
set_option linter.unusedSimpArgs false
open Go.RowKit Go.Proofs.YtkjepfofiegcdaaW.PrintWords Go.Proofs.YtkjepfofiegcdaaW.PrintLast Go.Proofs.YtkjepfofiegcdaaW.PrintMore Go.Proofs.Ytkjepfofiegcdaa.PB14
theorem toList_len (a : ByteArray) : a.toList.length = a.size := by rw [ByteArray.toList_eq, Array.length_toList]; rfl
def mayQ (m : S58) : Prop := (1 ≤ m.f0 ∧ m.f0 ≤ 99999998 ∧ 1 ≤ m.f1 ∧ m.f1 ≤ 262144 ∧ 1 ≤ m.f2 ∧ m.f2 ≤ 262144) ∧ ((1 : Int) ≤ m.f3.size ∧ (m.f3.size : Int) ≤ 520 ∧ (1 : Int) ≤ m.f4.size ∧ (m.f4.size : Int) ≤ 520 ∧ (Op.bytesLess m.f3.toList m.f4.toList = true ∨ m.f3.toList = m.f4.toList)) ∧ 1 ≤ m.f5 ∧ m.f5 ≤ m.f6 ∧ m.f6 < 72057594037927936
instance (m : S58) : Decidable (mayQ m) := by unfold mayQ; infer_instance
theorem mayP_iff {m : S58} : mayP m ↔ mayQ m := by
  have h3 := toList_len m.f3
  have h4 := toList_len m.f4
  constructor
  · rintro ⟨a1, a2, a3, a4, a5, a6, a7, a8, a9, b1, b2, b3, b4⟩
    have n3 : m.f3.toList.length ≠ 0 := fun h => a7 (List.eq_nil_of_length_eq_zero h)
    have n4 : m.f4.toList.length ≠ 0 := fun h => by
      rw [List.eq_nil_of_length_eq_zero h] at b1
      cases hq : m.f3.toList with
      | nil => exact a7 hq
      | cons x r => rw [hq] at b1; simp [Op.bytesLess] at b1
    exact ⟨⟨a1, by omega, a3, a4, a5, a6⟩, ⟨by omega, by omega, by omega, by omega, le_less.mpr b1⟩, b2, b3, b4⟩
  · rintro ⟨⟨a1, a2, a3, a4, a5, a6⟩, ⟨a7, a8, a9, b0, b1⟩, b2, b3, b4⟩
    exact ⟨a1, by omega, a3, a4, a5, a6, fun h => by rw [h] at h3; simp at h3; omega, by omega, by omega, le_less.mp b1, b2, b3, b4⟩
set_option maxHeartbeats 8000000 in
set_option maxRecDepth 100000 in
theorem mayR_calls (w : World) (m : S58) : Calls Try.prog 120 #[.agg #[.int .u64 m.f0, .int .i64 m.f1, .int .i64 m.f2, .string m.f3, .string m.f4, .int .u64 m.f5, .int .u64 m.f6]] w fun e w' => e = .returned (.bool (decide (mayP m))) ∧ Below w.heap.size w w' := by
  have HB := Aside0.mk ((Below.refl w.heap.size w).alloc (Nat.le_refl _) (.cells #[.int .u64 m.f0, .int .i64 m.f1, .int .i64 m.f2, .string m.f3, .string m.f4, .int .u64 m.f5, .int .u64 m.f6] 58))
  go_enter Try.func120, Try.ntmps120
  go_wp2_with fail
  all_goals
    go_ret
    refine ⟨ret_bool ?_, HB.out⟩
    rw [show decide (mayP m) = decide (mayQ m) from decide_eq_decide.mpr mayP_iff]
    first
      | (symm; rw [decide_eq_false_iff_not]; rintro ⟨⟨a1, a2, a3, a4, a5, a6⟩, ⟨a7, a8, a9, b0, b1⟩, b2, b3, b4⟩; first | contradiction | omega)
      | (symm; rw [decide_eq_false_iff_not]; rintro ⟨⟨a1, a2, a3, a4, a5, a6⟩, ⟨a7, a8, a9, b0, b1⟩, b2, b3, b4⟩; rename_i hz; rcases hz with hz | hz; (omega); (rcases b1 with b1 | b1 <;> simp [b1] at hz))
      | (rw [Bool.eq_iff_iff]; simp only [Bool.and_eq_true, Bool.or_eq_true, decide_eq_true_eq, beq_iff_eq]; exact ⟨fun h => ⟨⟨by omega, by omega, by omega, by omega, by omega, by omega⟩, ⟨by omega, by omega, by omega, by omega, by assumption⟩, by omega, by omega, by first | exact h | exact h.2⟩, fun h => by first | exact h.2.2.2.2 | exact ⟨⟨h.2.2.1, h.2.2.2.1⟩, h.2.2.2.2⟩⟩)
      | (rw [decide_eq_decide]; exact ⟨fun h => ⟨⟨by assumption, by assumption, by assumption, by assumption, by assumption, by omega⟩, ⟨by assumption, by assumption, by assumption, by assumption, by assumption⟩, by assumption, by assumption, h⟩, fun h => h.2.2.2.2⟩)
      | (rename_i hz h5 h6
         have hl : Op.bytesLess m.f3.toList m.f4.toList = true ∨ m.f3.toList = m.f4.toList := by
           rcases hz.2 with h | h
           · left; simpa using h
           · right; simpa using h
         rw [decide_eq_decide]
         exact ⟨fun h => ⟨⟨by assumption, by assumption, by assumption, by assumption, by assumption, by omega⟩, ⟨by assumption, by assumption, by assumption, by assumption, hl⟩, h5, h6, h⟩, fun h => h.2.2.2.2⟩)
      | trace_state
end
section
/- VD3: The span of tables and what overlaps it, in the plain. Conditions: none. -/
set_option linter.unusedVariables false
set_option linter.unusedSimpArgs false
open Go.RowKit Go.Proofs.YtkjepfofiegcdaaW.PrintWords Go.Proofs.YtkjepfofiegcdaaW.PrintLast Go.Proofs.YtkjepfofiegcdaaW.PrintMore Go.Proofs.Ytkjepfofiegcdaa.PB14
abbrev leB (a b : ByteArray) : Prop := Op.bytesLess b.toList a.toList = false
theorem leB_refl (a : ByteArray) : leB a a := less_irr _
theorem leB_trans {a b c : ByteArray} (h1 : leB a b) (h2 : leB b c) : leB a c := by
  unfold leB at *
  rw [← le_less] at h1 h2 ⊢
  rcases h1 with h1 | h1
  · rcases h2 with h2 | h2
    · exact .inl (less_trans h1 h2)
    · exact .inl (h2 ▸ h1)
  · rw [h1]; exact h2
theorem leB_of_less {a b : ByteArray} (h : Op.bytesLess a.toList b.toList = true) : leB a b := le_less.mp (.inl h)
theorem smn_l (x y : ByteArray) : leB (smn x y) x := by
  unfold smn
  split
  · rename_i h; exact leB_of_less h
  · exact leB_refl _
theorem smn_r (x y : ByteArray) : leB (smn x y) y := by
  unfold smn
  split
  · exact leB_refl _
  · rename_i h; exact eq_false_of_ne_true h
theorem smx_l (x y : ByteArray) : leB x (smx x y) := by
  unfold smx
  split
  · rename_i h; exact leB_of_less h
  · exact leB_refl _
theorem smx_r (x y : ByteArray) : leB y (smx x y) := by
  unfold smx
  split
  · exact leB_refl _
  · rename_i h; exact eq_false_of_ne_true h
theorem snoc_ind {α : Type} {P : List α → Prop} (h0 : P []) (h1 : ∀ L x, P L → P (L ++ [x])) : ∀ L, P L := by
  intro L
  have h : ∀ n, ∀ L : List α, L.length = n → P L := by
    intro n
    induction n with
    | zero => intro L hL; rw [List.eq_nil_of_length_eq_zero hL]; exact h0
    | succ n ih =>
      intro L hL
      rcases List.eq_nil_or_concat L with rfl | ⟨M, x, rfl⟩
      · exact h0
      · rw [List.concat_eq_append] at hL ⊢
        exact h1 M x (ih M (by simp at hL; omega))
  exact h _ L rfl
theorem span_in (L : List S58) : ∀ m : S58, m ∈ L → leB (spanM L).f3 m.f3 ∧ leB m.f4 (spanM L).f4 := by
  induction L using snoc_ind with
  | h0 => intro m hm; cases hm
  | h1 L x ih =>
    intro m hm
    unfold spanM
    rw [spanO_snoc]
    cases hs : spanO L with
    | none =>
      have hL : L = [] := by
        have h0 : ¬ L ≠ [] := fun h => by
          have := (spanO_some L).mpr h
          rw [hs] at this
          cases this
        simpa using h0
      subst hL
      simp at hm
      subst hm
      exact ⟨leB_refl _, leB_refl _⟩
    | some q =>
      have e : spanM L = ⟨0, 0, 0, q.1, q.2, 0, 0⟩ := by unfold spanM; rw [hs]; rfl
      rcases List.mem_append.mp hm with hm | hm
      · obtain ⟨h1, h2⟩ := ih m hm
        rw [e] at h1 h2
        exact ⟨leB_trans (smn_l _ _) h1, leB_trans h2 (smx_l _ _)⟩
      · simp at hm
        subst hm
        exact ⟨smn_r _ _, smx_r _ _⟩
end
section
/- VE1: Are two lists of tables the same (freshetref14.SameMetas), walked. Conditions: none. -/
set_option linter.unusedVariables false
set_option linter.unusedSimpArgs false
open Go.RowKit Go.Proofs.YtkjepfofiegcdaaW.PrintWords Go.Proofs.YtkjepfofiegcdaaW.PrintLast Go.Proofs.YtkjepfofiegcdaaW.PrintMore Go.Proofs.Ytkjepfofiegcdaa.PB14
theorem bytes_eq {a b : ByteArray} (h : a.toList = b.toList) : a = b := by
  rw [ByteArray.toList_eq, ByteArray.toList_eq] at h
  exact ByteArray.ext (Array.toList_inj.mp h)
theorem eqA58 (d : Nat) (w : World) (a b : S58) :
    (Op.equalIn (d + 2) 58 (.agg #[.int .u64 a.f0, .int .i64 a.f1, .int .i64 a.f2, .string a.f3, .string a.f4, .int .u64 a.f5, .int .u64 a.f6]) (.agg #[.int .u64 b.f0, .int .i64 b.f1, .int .i64 b.f2, .string b.f3, .string b.f4, .int .u64 b.f5, .int .u64 b.f6])).run Try.prog w = .ok (decide (a = b)) w := by
  have e : decide (a = b) = (a.f0 == b.f0 && (a.f1 == b.f1 && (a.f2 == b.f2 && (a.f3.toList == b.f3.toList && (a.f4.toList == b.f4.toList && (a.f5 == b.f5 && (a.f6 == b.f6))))))) := by
    rw [Bool.eq_iff_iff]
    simp only [decide_eq_true_eq, Bool.and_eq_true, beq_iff_eq]
    constructor
    · rintro rfl
      simp
    · rintro ⟨h0, h1, h2, h3, h4, h5, h6⟩
      have h3 := bytes_eq h3
      have h4 := bytes_eq h4
      cases a
      cases b
      simp_all
  rw [e]
  refine eqA_of Try.underlying58 (by kernel_rfl) ?_
  refine eqf_cons (by rfl) (by go_simp; rfl) (by go_simp; rfl) (by go_simp) ?_
  refine eqf_cons (by rfl) (by go_simp; rfl) (by go_simp; rfl) (by go_simp) ?_
  refine eqf_cons (by rfl) (by go_simp; rfl) (by go_simp; rfl) (by go_simp) ?_
  refine eqf_cons (by rfl) (by go_simp; rfl) (by go_simp; rfl) (by go_simp) ?_
  refine eqf_cons (by rfl) (by go_simp; rfl) (by go_simp; rfl) (by go_simp) ?_
  refine eqf_cons (by rfl) (by go_simp; rfl) (by go_simp; rfl) (by go_simp) ?_
  exact eqf_last (by rfl) (by go_simp; rfl) (by go_simp; rfl) (by go_simp)
attribute [local go_sem high] eqA58
theorem take_ne {xs ys : List S58} {k : Nat} (hx : k < xs.length) (hy : k < ys.length) (h : ¬ xs.getD k z58 = ys.getD k z58) : ¬ xs = ys := fun e => h (by rw [e])
theorem take_eq {xs ys : List S58} {k : Nat} (hx : k < xs.length) (hy : k < ys.length) (h : xs.getD k z58 = ys.getD k z58) (ht : xs.take k = ys.take k) : xs.take (k + 1) = ys.take (k + 1) := by rw [take_snoc xs z58 hx, take_snoc ys z58 hy, h, ht]
set_option maxHeartbeats 8000000 in
set_option maxRecDepth 100000 in
theorem sameM_calls (w : World) (A B : Option Addr) (c d : Nat) (xs ys : List S58) (hx : k58.C w A xs.length xs) (hy : k58.C w B ys.length ys) : Calls Try.prog 47 #[.slice A xs.length c, .slice B ys.length d] w fun e w' => e = .returned (.bool (decide (xs = ys))) ∧ Below w.heap.size w w' := by
  have HX := Aside0.mk hx
  have HY := Aside0.mk hy
  clear hx hy
  obtain ⟨r, hr⟩ : ∃ r, r = decide (xs = ys) := ⟨_, rfl⟩
  rw [← hr]
  have HRR := Aside0.mk hr
  clear hr
  by_cases hl : xs.length = ys.length
  · have l0 : ((xs.length : Int) != (ys.length : Int)) = false := by rw [hl]; simp
    have l1 : (xs.length != ys.length) = false := by rw [hl]; simp
    have l2 : ((xs.length : Int) == (ys.length : Int)) = true := by rw [hl]; simp
    have l3 : (xs.length == ys.length) = true := by rw [hl]; simp
    have HL := Aside0.mk hl
    clear hl
    go_enter Try.func47, Try.ntmps47
    go_wp2_with fail
    clear l0 l1 l2 l3
    go_loopg [5] xs.length (fun kq v5 w' => ∃ k : Nat, v5 = .int .i64 (k : Int) ∧ Aside0 (kq + k = xs.length) ∧ Aside0 (Below w.heap.size w w') ∧ Aside0 (xs.take k = ys.take k))
    case atStart => exact ⟨0, rfl, ⟨by omega⟩, ⟨Below.refl _ _⟩, ⟨rfl⟩⟩
    case round =>
      obtain ⟨k, rfl, HK, HB, HT⟩ := hrel
      cases gk with
      | zero =>
        have ek : k = xs.length := by have := HK.out; omega
        subst ek
        have d0 : decide ((xs.length : Int) < (xs.length : Int)) = false := by simp
        go_wp2_with fail
        go_ret
        refine ⟨ret_bool ?_, HB.out⟩
        have h1 := HT.out
        rw [List.take_length] at h1
        have h2 : xs = ys := h1.trans (List.take_of_length_le (by have := HL.out; omega))
        rw [HRR.out]
        symm
        exact decide_eq_true h2
      | succ q =>
        have hk : k < xs.length := by have := HK.out; omega
        have HM := Aside0.mk (show xs.length ≤ 9223372036854775807 from HX.out.2.1)
        have d0 : decide ((k : Int) < (xs.length : Int)) = true := decide_eq_true (by omega)
        have d1 : decide (k < xs.length) = true := decide_eq_true hk
        have p0 : 0 ≤ (k : Int) := Int.natCast_nonneg _
        have p1 : (k : Int) < (xs.length : Int) := by omega
        have p2 : (k : Int) < (ys.length : Int) := by have := HL.out; omega
        have CX := Kd.C_below HX.out HB.out
        have CY := Kd.C_below HY.out HB.out
        obtain ⟨ad, ea, ha0, ha1, ha2, ha3, ha4, ha5, ha6⟩ := at_T58 CX (k : Int) p0 p1
        obtain ⟨bd, eb, hb0, hb1, hb2, hb3, hb4, hb5, hb6⟩ := at_T58 CY (k : Int) p0 p2
        rw [Int.toNat_natCast] at ha0 ha1 ha2 ha3 ha4 ha5 ha6 hb0 hb1 hb2 hb3 hb4 hb5 hb6
        clear CX CY
        have EA := Aside0.mk (show rd_T58 xs (k : Int) = xs.getD k z58 by unfold rd_T58; rw [Int.toNat_natCast])
        have EB := Aside0.mk (show rd_T58 ys (k : Int) = ys.getD k z58 by unfold rd_T58; rw [Int.toNat_natCast])
        generalize rd_T58 xs (k : Int) = a at *
        generalize rd_T58 ys (k : Int) = b at *
        rw [ea, eb]
        have HAX := Aside0.mk ea
        have HBX := Aside0.mk eb
        have HK1 := Aside0.mk hk
        have ew : wrap64 ((k : Int) + 1) = ((k + 1 : Nat) : Int) := by have h1 := HM.out; unfold wrap64; omega
        clear ea eb hk
        by_cases hab : a = b
        · have e0 : decide (a = b) = true := decide_eq_true hab
          have HAB := Aside0.mk (show xs.getD k z58 = ys.getD k z58 by rw [← EA.out, ← EB.out, hab])
          clear hab
          go_wp2_with fail
          go_quiet (fail)
          go_wp2_with fail
          try rw [ew]
          rw [← HAX.out, ← HBX.out]
          go_roundg q
          case measure => omega
          case rel => exact ⟨k + 1, rfl, ⟨by have := HK.out; omega⟩, ⟨pw_below_drewN HB.out nq⟩, ⟨take_eq HK1.out (by have := HL.out; have := HK1.out; omega) HAB.out HT.out⟩⟩
        · have e0 : decide (a = b) = false := decide_eq_false hab
          have HAB := Aside0.mk (show ¬ xs = ys from take_ne HK1.out (by have := HL.out; have := HK1.out; omega) (by rw [← EA.out, ← EB.out]; exact hab))
          clear hab
          go_wp2_with fail
          go_quiet (fail)
          go_wp2_with fail
          go_ret
          exact ⟨ret_bool (by rw [HRR.out]; symm; exact decide_eq_false HAB.out), pw_below_drewN HB.out nq⟩
  · have l0 : ((xs.length : Int) != (ys.length : Int)) = true := by simp; omega
    have l1 : (xs.length != ys.length) = true := by simp [hl]
    have l2 : ((xs.length : Int) == (ys.length : Int)) = false := by simp; omega
    have l3 : (xs.length == ys.length) = false := by simp [hl]
    have HN := Aside0.mk (show ¬ xs = ys from fun e => hl (by rw [e]))
    clear hl
    go_enter Try.func47, Try.ntmps47
    go_wp2_with fail
    go_ret
    exact ⟨ret_bool (by rw [HRR.out]; symm; exact decide_eq_false HN.out), Below.refl _ _⟩
end
end Go.Proofs.Ytkjepfofiegcdaa.V
