import Derived.Test.YtkjepfofiegcdaaVB13
/- pick.Pick, walked. Conditions: none. -/
namespace Go.Proofs.Ytkjepfofiegcdaa.V
set_option linter.unusedVariables false
set_option linter.unusedSimpArgs false
open Go.RowKit Go.Proofs.YtkjepfofiegcdaaW.PrintWords Go.Proofs.YtkjepfofiegcdaaW.PrintLast Go.Proofs.YtkjepfofiegcdaaW.PrintMore Go.Proofs.Ytkjepfofiegcdaa.PB14
/-- A compaction: its level, what goes in, what lies over. -/
structure Cmp where
  lev : Int
  inn : List S58
  ovr : List S58
/-- The level whose compaction is due; 3: none. -/
def dueAt (v : Ver) (many base times : Int) : Nat := if dueL v many base times 0 ≠ [] then 0 else if dueL v many base times 1 ≠ [] then 1 else if dueL v many base times 2 ≠ [] then 2 else 3
instance : DecidableEq S58 := fun a b => if h : a.f0 = b.f0 ∧ a.f1 = b.f1 ∧ a.f2 = b.f2 ∧ a.f3 = b.f3 ∧ a.f4 = b.f4 ∧ a.f5 = b.f5 ∧ a.f6 = b.f6 then isTrue (by cases a; cases b; simp at h; obtain ⟨rfl, rfl, rfl, rfl, rfl, rfl, rfl⟩ := h; rfl) else isFalse (fun e => h (by subst e; simp))
def ovrL (v : Ver) (l : Nat) (In : List S58) : List S58 := (v.lv (l + 1)).filter fun m => overB m (spanM In)
def pickC (v : Ver) (many base times : Int) : Cmp :=
  if rightP v ∧ optP many base times ∧ dueAt v many base times < 3 then ⟨(dueAt v many base times : Nat), dueL v many base times (dueAt v many base times), ovrL v (dueAt v many base times) (dueL v many base times (dueAt v many base times))⟩ else ⟨0, [], []⟩
def pickE (v : Ver) (many base times : Int) : Int := if rightP v ∧ optP many base times then (if dueAt v many base times < 3 then 0 else 4) else 2
def PickPost (w w' : World) (e : Ending) (c : Cmp) (f : Int) : Prop := ∃ vi vo, e = .returned (.tuple #[.agg #[.int .i64 c.lev, vi, vo], .int .i64 f]) ∧ Kd.R k58 58 w' w.heap.size (fun _ => True) vi c.inn ∧ Kd.R k58 58 w' w.heap.size (fun _ => True) vo c.ovr ∧ Below w.heap.size w w'
theorem C23_one (w : World) (A : Option Addr) (c : Nat) (L : List S58) (hC : k58.C w A L.length L) (hc : L.length ≤ c) : k23.C (w.alloc (.cells #[.slice A L.length c] 23)) (some ⟨w.heap.size, 0, none⟩) 1 [L] := by
  refine ⟨rfl, by decide, fun _ => ⟨_, rfl, fun j p hj => ⟨[.slice A p.length c], rfl, ?_, fun i u hu => ?_⟩⟩⟩
  · have h0 : j = 0 := by
      cases j with
      | zero => rfl
      | succ n => simp at hj
    subst h0
    simp at hj
    subst hj
    exact ⟨A, c, rfl, hc, Kd.C_below hC ((Below.refl w.heap.size w).alloc (Nat.le_refl _) _)⟩
  · have h0 : j = 0 := by
      cases j with
      | zero => rfl
      | succ n => simp at hj
    have h1 : i = 0 := by
      cases i with
      | zero => rfl
      | succ n => simp at hu
    subst h0 h1
    simp at hj hu
    subst hj
    rw [← hu]
    show (w.alloc _).cell? ((⟨w.heap.size, 0, none⟩ : Addr).add (0 * 1 + 0)) = _
    rw [Addr.add_mid, blk_cell (blk_new w _)]
    rfl
theorem R58_other {w w' : World} {base g : Nat} {cs : Array Value} {v : Value} {xs : List S58} (h : Kd.R k58 58 w base (fun _ => True) v xs) (hg : w.heap[g]? = some (.cells cs 52 (0, 0))) (hk : ∀ k, k ≠ g → w'.heap[k]? = w.heap[k]?) : Kd.R k58 58 w' base (fun _ => True) v xs := by
  refine Kd.R_mono (Kd.R_step (Kd.R_types h hg (by intro q hq; simp [show k58.E = [] from rfl] at hq; omega)) (fun k ho _ => hk k ho.2)) (fun _ _ => trivial)
theorem size52 : (Try.prog.info? 52).map (·.size) = some 3 := by kernel_rfl
set_option maxHeartbeats 8000000 in
set_option maxRecDepth 100000 in
theorem pick_calls (w : World) (v : Ver) (p : Pl) (hC : VC w v p) (hW : VW v) (many base times : Int) : Calls Try.prog 36 #[.agg (vCs v p), .agg #[.int .i64 many, .int .i64 base, .int .i64 times]] w fun e w' => PickPost w w' e (pickC v many base times) (pickE v many base times) := by
  have HC := Aside0.mk hC
  have HW := Aside0.mk hW
  have HB := Aside0.mk (below_alloc (below_alloc ((Below.refl w.heap.size w).alloc (Nat.le_refl _) (.cells (vCs v p) 26)) (.cells #[.int .i64 many, .int .i64 base, .int .i64 times] 48)) (.cells #[.int .i64 0, .slice none 0 0, .slice none 0 0] 52))
  have X2 := Aside0.mk (blk_alloc (blk_alloc (blk_new w (.cells (vCs v p) 26)) (.cells #[.int .i64 many, .int .i64 base, .int .i64 times] 48)) (.cells #[.int .i64 0, .slice none 0 0, .slice none 0 0] 52))
  have X3 := Aside0.mk (blk_alloc (blk_new (w.alloc (.cells (vCs v p) 26)) (.cells #[.int .i64 many, .int .i64 base, .int .i64 times] 48)) (.cells #[.int .i64 0, .slice none 0 0, .slice none 0 0] 52))
  have X4 := Aside0.mk (blk_new ((w.alloc (.cells (vCs v p) 26)).alloc (.cells #[.int .i64 many, .int .i64 base, .int .i64 times] 48)) (.cells #[.int .i64 0, .slice none 0 0, .slice none 0 0] 52))
  clear hC hW
  obtain ⟨cc, hcc⟩ : ∃ c, c = pickC v many base times := ⟨_, rfl⟩
  obtain ⟨ee, hee⟩ : ∃ c, c = pickE v many base times := ⟨_, rfl⟩
  rw [← hcc, ← hee]
  have HCC := Aside0.mk hcc
  have HEE := Aside0.mk hee
  clear hcc hee
  go_enter Try.func36, Try.ntmps36
  go_wp2_with fail
  generalize hg4 : ((w.alloc (.cells (vCs v p) 26)).alloc (.cells #[.int .i64 many, .int .i64 base, .int .i64 times] 48)).heap.size = g4 at *
  generalize hg3 : (w.alloc (.cells (vCs v p) 26)).heap.size = g3 at *
  have e3 : w.heap.size + 1 = g3 := by rw [← hg3]; simp
  have e4 : g3 + 1 = g4 := by rw [← hg4, ← hg3]; simp
  try rw [e3]
  try rw [e4]
  have N1 := Aside0.mk (show w.heap.size < g3 ∧ g3 < g4 by omega)
  clear hg3 hg4 e3 e4
  generalize (((w.alloc (.cells (vCs v p) 26)).alloc (.cells #[.int .i64 many, .int .i64 base, .int .i64 times] 48)).alloc (.cells #[.int .i64 0, .slice none 0 0, .slice none 0 0] 52)) = w1 at *
  have b0 : w1.cell? ⟨w.heap.size, 0, none⟩ = some (.int .u64 v.log) := (blk_cell X2.out 0).trans rfl
  have b1 : w1.cell? ⟨w.heap.size, 1, none⟩ = some (.int .u64 v.next) := (blk_cell X2.out 1).trans rfl
  have b2 : w1.cell? ⟨w.heap.size, 2, none⟩ = some (.int .u64 v.seq) := (blk_cell X2.out 2).trans rfl
  have b3 : w1.cell? ⟨w.heap.size, 3, none⟩ = some (.slice p.a0 v.l0.length p.c0) := (blk_cell X2.out 3).trans rfl
  have b4 : w1.cell? ⟨w.heap.size, 4, none⟩ = some (.slice p.a1 v.l1.length p.c1) := (blk_cell X2.out 4).trans rfl
  have b5 : w1.cell? ⟨w.heap.size, 5, none⟩ = some (.slice p.a2 v.l2.length p.c2) := (blk_cell X2.out 5).trans rfl
  have b6 : w1.cell? ⟨w.heap.size, 6, none⟩ = some (.slice p.a3 v.l3.length p.c3) := (blk_cell X2.out 6).trans rfl
  go_step3
  go_wp2_with fail
  refine (right_calls _ v p (HC.out.below HB.out) HW.out).mono ?_
  rintro e w2 ⟨rfl, hb⟩
  have HB2 := Aside0.mk (below_step HB.out hb)
  have X22 := Aside0.mk (blk_below X2.out hb)
  have X32 := Aside0.mk (blk_below X3.out hb)
  have X42 := Aside0.mk (blk_below X4.out hb)
  clear hb HB X2 X3 X4 b0 b1 b2 b3 b4 b5 b6
  have o0 : w2.cell? ⟨g3, 0, none⟩ = some (.int .i64 many) := (blk_cell X32.out 0).trans rfl
  have o1 : w2.cell? ⟨g3, 1, none⟩ = some (.int .i64 base) := (blk_cell X32.out 1).trans rfl
  have o2 : w2.cell? ⟨g3, 2, none⟩ = some (.int .i64 times) := (blk_cell X32.out 2).trans rfl
  by_cases hr : rightP v
  · rw [decide_eq_true hr]
    have RV := Aside0.mk hr
    clear hr
    go_wp2_with fail
    refine (check_calls _ many base times).mono ?_
    rintro e w3 ⟨rfl, hb⟩
    have HB3 := Aside0.mk (below_step HB2.out hb)
    have X23 := Aside0.mk (blk_below X22.out hb)
    have X33 := Aside0.mk (blk_below X32.out hb)
    have X43 := Aside0.mk (blk_below X42.out hb)
    clear hb HB2 X22 X32 X42 o0 o1 o2
    by_cases ho : optP many base times
    · rw [optE, if_pos ho]
      have OV := Aside0.mk ho
      clear ho
      have HB4 := Aside0.mk (below_alloc HB3.out (.cells #[.int .i64 0, .slice none 0 0, .slice none 0 0] 52))
      have X24 := Aside0.mk (blk_alloc X23.out (.cells #[.int .i64 0, .slice none 0 0, .slice none 0 0] 52))
      have X34 := Aside0.mk (blk_alloc X33.out (.cells #[.int .i64 0, .slice none 0 0, .slice none 0 0] 52))
      have X44 := Aside0.mk (blk_alloc X43.out (.cells #[.int .i64 0, .slice none 0 0, .slice none 0 0] 52))
      have X64 := Aside0.mk (blk_new w3 (.cells #[.int .i64 0, .slice none 0 0, .slice none 0 0] 52))
      have N6 := Aside0.mk (show g4 < w3.heap.size from blk_lt X43.out)
      clear HB3 X23 X33 X43
      go_wp2_with fail
      have n0_ := N6.out
      generalize w3.heap.size = g6 at *
      generalize w3.alloc (.cells #[.int .i64 0, .slice none 0 0, .slice none 0 0] 52) = w4 at *
      have y0 : w4.cell? ⟨g6, 0, none⟩ = some (.int .i64 0) := (blk_cell X64.out 0).trans rfl
      have f0 := blk_frozen X64.out 0
      have N7 := Aside0.mk (show w.heap.size < g6 ∧ g3 < g6 ∧ g4 < g6 by have := N1.out; omega)
      have HB5 := Aside0.mk (below_set (j := 0) (v := .int .i64 0) HB4.out (show w.heap.size ≤ g6 by have := N7.out; omega))
      have X25 := Aside0.mk (blk_far X24.out (p := ⟨g6, 0, none⟩) (show w.heap.size ≠ g6 by have := N7.out; omega) (.int .i64 0))
      have X35 := Aside0.mk (blk_far X34.out (p := ⟨g6, 0, none⟩) (show g3 ≠ g6 by have := N7.out; omega) (.int .i64 0))
      have X45 := Aside0.mk (blk_far X44.out (p := ⟨g6, 0, none⟩) (show g4 ≠ g6 by have := N7.out; omega) (.int .i64 0))
      have X65 := Aside0.mk (blk_put (cs' := #[.int .i64 0, .slice none 0 0, .slice none 0 0]) X64.out 0 (.int .i64 0) rfl)
      clear n0_ N6 HB4 X24 X34 X44 X64
      go_step3
      go_wp2_with fail
      generalize w4.setCell ⟨g6, 0, none⟩ (.int .i64 0) = w5 at *
      clear y0 f0
      go_loopg [20] 3 (fun kq v20 w' => ∃ (lev : Nat) (A : Option Addr) (c : Nat), Aside0 (kq + lev = 3) ∧ Aside0 (∀ j, j < lev → dueL v many base times j = []) ∧ Aside0 (Below w.heap.size w w') ∧ Aside0 (w'.heap[w.heap.size]? = some (.cells (vCs v p) 26 (0, 0))) ∧ Aside0 (w'.heap[g3]? = some (.cells #[.int .i64 many, .int .i64 base, .int .i64 times] 48 (0, 0))) ∧ Aside0 (w'.heap[g4]? = some (.cells #[.int .i64 0, .slice none 0 0, .slice none 0 0] 52 (0, 0))) ∧ Aside0 (w'.heap[g6]? = some (.cells #[.int .i64 (lev : Int), .slice A 0 c, .slice none 0 0] 52 (0, 0))))
      case atStart => exact ⟨0, none, 0, ⟨by omega⟩, ⟨fun j hj => by omega⟩, HB5, X25, X35, X45, X65⟩
      case round =>
        clear HB5 X25 X35 X45 X65
        obtain ⟨lev, A, c, HK, HJ, HB, X2, X3, X4, X6⟩ := hrel
        have y0 : wr.cell? ⟨g6, 0, none⟩ = some (.int .i64 (lev : Int)) := (blk_cell X6.out 0).trans rfl
        have y1 : wr.cell? ⟨g6, 1, none⟩ = some (.slice A 0 c) := (blk_cell X6.out 1).trans rfl
        have y2 : wr.cell? ⟨g6, 2, none⟩ = some (.slice none 0 0) := (blk_cell X6.out 2).trans rfl
        cases gk with
        | zero =>
          have ei : lev = 3 := by have := HK.out; omega
          subst ei
          have DA := Aside0.mk (show dueAt v many base times = 3 by unfold dueAt; rw [HJ.out 0 (by omega), HJ.out 1 (by omega), HJ.out 2 (by omega)]; rfl)
          have E1 := Aside0.mk (show cc = ⟨0, [], []⟩ by rw [HCC.out, pickC, if_neg (fun h => by have := h.2.2; rw [DA.out] at this; omega)])
          have E2 := Aside0.mk (show ee = 4 by rw [HEE.out, pickE, if_pos ⟨RV.out, OV.out⟩, if_neg (by rw [DA.out]; omega)])
          go_wp2_with (first | (refine st_arr rfl 52 _ _ rfl g4 52 ?hx #[.int .i64 0, .slice none 0 0, .slice none 0 0] ?hy _ X4.out (by rw [size52]; rfl) rfl (by simp [Value.oneCell']) ?_; (case hx => rfl); (case hy => rfl); intro w5 hb5 hbb hk5 hs5; have HB5 := Aside0.mk (hbb _ _ HB.out (by have := N1.out; omega)); have X45 := Aside0.mk hb5; clear hb5 hbb hk5 hs5) | fail)
          have r0 : w5.cell? ⟨g4, 0, none⟩ = some (.int .i64 0) := (blk_cell X45.out 0).trans rfl
          have r1 : w5.cell? ⟨g4, 1, none⟩ = some (.slice none 0 0) := (blk_cell X45.out 1).trans rfl
          have r2 : w5.cell? ⟨g4, 2, none⟩ = some (.slice none 0 0) := (blk_cell X45.out 2).trans rfl
          try rw [Exit.noGoto_ret]
          exact bodyPost_ret (v := .tuple #[.agg #[.int .i64 0, .slice none 0 0, .slice none 0 0], .int .i64 4]) (by simp [results, Try.results36, go_sem, r0, r1, r2]) rfl ⟨_, _, by rw [E1.out, E2.out], by rw [E1.out]; exact Kd.R_nil _ _ _ _ _, by rw [E1.out]; exact Kd.R_nil _ _ _ _ _, HB5.out⟩
        | succ q =>
          have d0 : decide ((lev : Int) < 3) = true := decide_eq_true (by have := HK.out; omega)
          have b0 : wr.cell? ⟨w.heap.size, 0, none⟩ = some (.int .u64 v.log) := (blk_cell X2.out 0).trans rfl
          have b1 : wr.cell? ⟨w.heap.size, 1, none⟩ = some (.int .u64 v.next) := (blk_cell X2.out 1).trans rfl
          have b2 : wr.cell? ⟨w.heap.size, 2, none⟩ = some (.int .u64 v.seq) := (blk_cell X2.out 2).trans rfl
          have b3 : wr.cell? ⟨w.heap.size, 3, none⟩ = some (.slice p.a0 v.l0.length p.c0) := (blk_cell X2.out 3).trans rfl
          have b4 : wr.cell? ⟨w.heap.size, 4, none⟩ = some (.slice p.a1 v.l1.length p.c1) := (blk_cell X2.out 4).trans rfl
          have b5 : wr.cell? ⟨w.heap.size, 5, none⟩ = some (.slice p.a2 v.l2.length p.c2) := (blk_cell X2.out 5).trans rfl
          have b6 : wr.cell? ⟨w.heap.size, 6, none⟩ = some (.slice p.a3 v.l3.length p.c3) := (blk_cell X2.out 6).trans rfl
          have o0 : wr.cell? ⟨g3, 0, none⟩ = some (.int .i64 many) := (blk_cell X3.out 0).trans rfl
          have o1 : wr.cell? ⟨g3, 1, none⟩ = some (.int .i64 base) := (blk_cell X3.out 1).trans rfl
          have o2 : wr.cell? ⟨g3, 2, none⟩ = some (.int .i64 times) := (blk_cell X3.out 2).trans rfl
          have hk3 := HK.out
          rcases (by omega : lev = 0 ∨ lev = 1 ∨ lev = 2) with rfl | rfl | rfl
          · obtain ⟨L, hL⟩ : ∃ L, L = dueL v many base times 0 := ⟨_, rfl⟩
            have LE := Aside0.mk hL
            have hdue := due0_calls _ v p (HC.out.below HB.out) many base times OV.out (RV.out.2.1.1 0 (by omega))
            rw [← hL] at hdue
            clear hL
            go_wp2_with fail
            refine hdue.mono ?_
            clear hdue
            rintro e w5 ⟨x, rfl, hR, hb⟩
            obtain ⟨A', c', hv⟩ := Kd.R_slice hR
            subst hv
            have HB5 := Aside0.mk (below_step HB.out hb)
            have HR5 := Aside0.mk (Kd.R_lower hR HB.out.size)
            have X25 := Aside0.mk (blk_below X2.out hb)
            have X35 := Aside0.mk (blk_below X3.out hb)
            have X45 := Aside0.mk (blk_below X4.out hb)
            have X65 := Aside0.mk (blk_below X6.out hb)
            clear hR hb HB X2 X3 X4 X6 y0 y1 y2 b0 b1 b2 b3 b4 b5 b6 o0 o1 o2
            have y0 : w5.cell? ⟨g6, 0, none⟩ = some (.int .i64 0) := (blk_cell X65.out 0).trans rfl
            have y1 : w5.cell? ⟨g6, 1, none⟩ = some (.slice A 0 c) := (blk_cell X65.out 1).trans rfl
            have f0 := blk_frozen X65.out 0
            have f1 := blk_frozen X65.out 1
            obtain ⟨u, hu⟩ : ∃ u, u = Value.slice A' L.length c' := ⟨_, rfl⟩
            have HB6 := Aside0.mk (below_set (j := 1) (v := u) HB5.out (show w.heap.size ≤ g6 by have := N7.out; omega))
            have X26 := Aside0.mk (blk_far X25.out (p := ⟨g6, 1, none⟩) (show w.heap.size ≠ g6 by have := N7.out; omega) u)
            have X36 := Aside0.mk (blk_far X35.out (p := ⟨g6, 1, none⟩) (show g3 ≠ g6 by have := N7.out; omega) u)
            have X46 := Aside0.mk (blk_far X45.out (p := ⟨g6, 1, none⟩) (show g4 ≠ g6 by have := N7.out; omega) u)
            have X66 := Aside0.mk (blk_put (cs' := #[.int .i64 0, u, .slice none 0 0]) X65.out 1 u rfl)
            have HR6 := Aside0.mk (Kd.R_set HR5.out X65.out (by intro q hq; simp [show k58.E = [] from rfl] at hq; omega) 1 u)
            clear HB5 X25 X35 X45 X65 HR5
            by_cases hL : L = []
            · have L0 := Aside0.mk hL
              subst hu
              subst hL
              go_wp2_with fail
              have HB7 := Aside0.mk (below_set (j := 0) (v := .int .i64 1) HB6.out (show w.heap.size ≤ g6 by have := N7.out; omega))
              have X27 := Aside0.mk (blk_far X26.out (p := ⟨g6, 0, none⟩) (show w.heap.size ≠ g6 by have := N7.out; omega) (.int .i64 1))
              have X37 := Aside0.mk (blk_far X36.out (p := ⟨g6, 0, none⟩) (show g3 ≠ g6 by have := N7.out; omega) (.int .i64 1))
              have X47 := Aside0.mk (blk_far X46.out (p := ⟨g6, 0, none⟩) (show g4 ≠ g6 by have := N7.out; omega) (.int .i64 1))
              have X67 := Aside0.mk (blk_put (cs' := #[.int .i64 1, .slice A' 0 c', .slice none 0 0]) X66.out 0 (.int .i64 1) rfl)
              go_roundg q
              case measure => omega
              case rel => exact ⟨1, A', c', ⟨by have := HK.out; omega⟩, ⟨fun j hj => by
                by_cases e : j = 0
                · subst e; exact LE.out.symm
                · exact HJ.out j (by omega)⟩, HB7, X27, X37, X47, X67⟩
            · have LP := Aside0.mk (List.length_pos_iff.mpr hL)
              have d2 : decide (0 < (L.length : Int)) = true := decide_eq_true (by have := LP.out; omega)
              have d3 : decide (0 < L.length) = true := decide_eq_true LP.out
              have d4 : ((L.length : Int) == 0) = false := by rw [beq_eq_false_iff_ne]; have := LP.out; omega
              have NL := Aside0.mk hL
              subst hu
              clear hL
              have DA := Aside0.mk (show dueAt v many base times = 0 by unfold dueAt; rw [if_pos (by rw [← LE.out]; exact NL.out)])
              have E1 := Aside0.mk (show cc = ⟨0, L, ovrL v 0 L⟩ by rw [HCC.out, pickC, if_pos ⟨RV.out, OV.out, by rw [DA.out]; omega⟩, DA.out, ← LE.out]; rfl)
              have E2 := Aside0.mk (show ee = 0 by rw [HEE.out, pickE, if_pos ⟨RV.out, OV.out⟩, if_pos (by rw [DA.out]; omega)])
              go_wp2_with fail
              have hsz : (w5.setCell ⟨g6, 1, none⟩ (.slice A' L.length c')).heap.size = w5.heap.size := by simp [World.setCell]
              have hsp := span_calls _ _ 1 [L] (C23_one (w5.setCell ⟨g6, 1, none⟩ (.slice A' L.length c')) A' c' L (Kd.R_reads' HR6.out).2.2 (Kd.R_reads' HR6.out).2.1)
              rw [show [L].flatten = L by simp, hsz] at hsp
              refine hsp.mono ?_
              clear hsp hsz
              rintro e w8 ⟨rfl, hb⟩
              obtain ⟨sp, hsp⟩ : ∃ s, s = spanM L := ⟨_, rfl⟩
              rw [← hsp]
              have SP := Aside0.mk hsp
              clear hsp
              replace hb := below_step (below_alloc (Below.refl _ _) _) hb
              have HB8 := Aside0.mk (below_alloc (below_step HB6.out hb) (.cells (mCs sp) 58))
              have X28 := Aside0.mk (blk_alloc (blk_below X26.out hb) (.cells (mCs sp) 58))
              have X48 := Aside0.mk (blk_alloc (blk_below X46.out hb) (.cells (mCs sp) 58))
              have X68 := Aside0.mk (blk_alloc (blk_below X66.out hb) (.cells (mCs sp) 58))
              have HR8 := Aside0.mk (Kd.R_below (Kd.R_below HR6.out hb) ((Below.refl w8.heap.size w8).alloc (Nat.le_refl _) (.cells (mCs sp) 58)))
              have XS := Aside0.mk (show Tb (w8.alloc (.cells (mCs sp) 58)) w8.heap.size sp from blk_new w8 _)
              have y0 : (w8.alloc (.cells (mCs sp) 58)).cell? ⟨g6, 0, none⟩ = some (.int .i64 0) := (blk_cell X68.out 0).trans rfl
              have bl : (w8.alloc (.cells (mCs sp) 58)).cell? ⟨w.heap.size, 4, none⟩ = some (.slice p.a1 v.l1.length p.c1) := (blk_cell X28.out 4).trans rfl
              clear hb HB6 X26 X36 X46 X66 HR6
              go_wp2_with fail
              have hch := chosen93_calls _ p.a1 p.c1 v.l1 (HC.out.below HB8.out 1 (by omega)).1 (by have h1 : v.l1.length ≤ 64 := RV.out.2.1.1 1 (by omega); omega) sp w8.heap.size XS.out
              refine hch.mono ?_
              clear hch
              rintro e w10 ⟨xo, rfl, hRo, hb⟩
              obtain ⟨Ao, co, hv⟩ := Kd.R_slice hRo
              subst hv
              have OVE := Aside0.mk (show (v.l1.filter fun m => overB m sp) = ovrL v 0 L by rw [SP.out]; rfl)
              rw [OVE.out] at hRo
              rw [OVE.out]
              obtain ⟨O, hO⟩ : ∃ O, O = ovrL v 0 L := ⟨_, rfl⟩
              rw [← hO] at hRo ⊢
              have EO := Aside0.mk hO
              have HB10 := Aside0.mk (below_step HB8.out hb)
              have HRo := Aside0.mk (Kd.R_lower hRo HB8.out.size)
              have HR10 := Aside0.mk (Kd.R_below HR8.out hb)
              have X410 := Aside0.mk (blk_below X48.out hb)
              have X610 := Aside0.mk (blk_below X68.out hb)
              clear hRo hb hO HB8 X28 X48 X68 HR8 XS y0 bl
              have y0 : w10.cell? ⟨g6, 0, none⟩ = some (.int .i64 0) := (blk_cell X610.out 0).trans rfl
              have y1 : w10.cell? ⟨g6, 1, none⟩ = some (.slice A' L.length c') := (blk_cell X610.out 1).trans rfl
              have y2 : w10.cell? ⟨g6, 2, none⟩ = some (.slice none 0 0) := (blk_cell X610.out 2).trans rfl
              have f2 := blk_frozen X610.out 2
              have X411 := Aside0.mk (blk_far X410.out (p := ⟨g6, 2, none⟩) (show g4 ≠ g6 by have := N7.out; omega) (.slice Ao O.length co))
              have HB11 := Aside0.mk (below_set (j := 2) (v := .slice Ao O.length co) HB10.out (show w.heap.size ≤ g6 by have := N7.out; omega))
              have HR11 := Aside0.mk (Kd.R_set HR10.out X610.out (by intro q hq; simp [show k58.E = [] from rfl] at hq; omega) 2 (.slice Ao O.length co))
              have HRo11 := Aside0.mk (Kd.R_set HRo.out X610.out (by intro q hq; simp [show k58.E = [] from rfl] at hq; omega) 2 (.slice Ao O.length co))
              go_wp2_with (first | (refine st_arr rfl 52 _ _ rfl g4 52 ?hx #[.int .i64 0, .slice A' L.length c', .slice Ao O.length co] ?hy _ X411.out (by rw [size52]; rfl) rfl (by simp [Value.oneCell']) ?_; (case hx => rfl); (case hy => rfl); intro w12 hb5 hbb hk5 hs5; have HB12 := Aside0.mk (hbb _ _ HB11.out (by have := N1.out; omega)); have X412 := Aside0.mk hb5; have HK5 := Aside0.mk hk5; clear hb5 hbb hk5 hs5) | fail)
              have r0 : w12.cell? ⟨g4, 0, none⟩ = some (.int .i64 0) := (blk_cell X412.out 0).trans rfl
              have r1 : w12.cell? ⟨g4, 1, none⟩ = some (.slice A' L.length c') := (blk_cell X412.out 1).trans rfl
              have r2 : w12.cell? ⟨g4, 2, none⟩ = some (.slice Ao O.length co) := (blk_cell X412.out 2).trans rfl
              try rw [Exit.noGoto_ret]
              exact bodyPost_ret (v := .tuple #[.agg #[.int .i64 0, .slice A' L.length c', .slice Ao O.length co], .int .i64 0]) (by simp [results, Try.results36, go_sem, r0, r1, r2]) rfl ⟨_, _, by rw [E1.out, E2.out], by rw [E1.out]; exact R58_other HR11.out X411.out HK5.out, by rw [E1.out, ← EO.out]; exact R58_other HRo11.out X411.out HK5.out, HB12.out⟩
          · obtain ⟨L, hL⟩ : ∃ L, L = dueL v many base times 1 := ⟨_, rfl⟩
            have LE := Aside0.mk hL
            have hdue := due1_calls _ v p (HC.out.below HB.out) many base times OV.out (RV.out.2.1.1 1 (by omega))
            rw [← hL] at hdue
            clear hL
            go_wp2_with fail
            refine hdue.mono ?_
            clear hdue
            rintro e w5 ⟨x, rfl, hR, hb⟩
            obtain ⟨A', c', hv⟩ := Kd.R_slice hR
            subst hv
            have HB5 := Aside0.mk (below_step HB.out hb)
            have HR5 := Aside0.mk (Kd.R_lower hR HB.out.size)
            have X25 := Aside0.mk (blk_below X2.out hb)
            have X35 := Aside0.mk (blk_below X3.out hb)
            have X45 := Aside0.mk (blk_below X4.out hb)
            have X65 := Aside0.mk (blk_below X6.out hb)
            clear hR hb HB X2 X3 X4 X6 y0 y1 y2 b0 b1 b2 b3 b4 b5 b6 o0 o1 o2
            have y0 : w5.cell? ⟨g6, 0, none⟩ = some (.int .i64 1) := (blk_cell X65.out 0).trans rfl
            have y1 : w5.cell? ⟨g6, 1, none⟩ = some (.slice A 0 c) := (blk_cell X65.out 1).trans rfl
            have f0 := blk_frozen X65.out 0
            have f1 := blk_frozen X65.out 1
            obtain ⟨u, hu⟩ : ∃ u, u = Value.slice A' L.length c' := ⟨_, rfl⟩
            have HB6 := Aside0.mk (below_set (j := 1) (v := u) HB5.out (show w.heap.size ≤ g6 by have := N7.out; omega))
            have X26 := Aside0.mk (blk_far X25.out (p := ⟨g6, 1, none⟩) (show w.heap.size ≠ g6 by have := N7.out; omega) u)
            have X36 := Aside0.mk (blk_far X35.out (p := ⟨g6, 1, none⟩) (show g3 ≠ g6 by have := N7.out; omega) u)
            have X46 := Aside0.mk (blk_far X45.out (p := ⟨g6, 1, none⟩) (show g4 ≠ g6 by have := N7.out; omega) u)
            have X66 := Aside0.mk (blk_put (cs' := #[.int .i64 1, u, .slice none 0 0]) X65.out 1 u rfl)
            have HR6 := Aside0.mk (Kd.R_set HR5.out X65.out (by intro q hq; simp [show k58.E = [] from rfl] at hq; omega) 1 u)
            clear HB5 X25 X35 X45 X65 HR5
            by_cases hL : L = []
            · have L0 := Aside0.mk hL
              subst hu
              subst hL
              go_wp2_with fail
              have HB7 := Aside0.mk (below_set (j := 0) (v := .int .i64 2) HB6.out (show w.heap.size ≤ g6 by have := N7.out; omega))
              have X27 := Aside0.mk (blk_far X26.out (p := ⟨g6, 0, none⟩) (show w.heap.size ≠ g6 by have := N7.out; omega) (.int .i64 2))
              have X37 := Aside0.mk (blk_far X36.out (p := ⟨g6, 0, none⟩) (show g3 ≠ g6 by have := N7.out; omega) (.int .i64 2))
              have X47 := Aside0.mk (blk_far X46.out (p := ⟨g6, 0, none⟩) (show g4 ≠ g6 by have := N7.out; omega) (.int .i64 2))
              have X67 := Aside0.mk (blk_put (cs' := #[.int .i64 2, .slice A' 0 c', .slice none 0 0]) X66.out 0 (.int .i64 2) rfl)
              go_roundg q
              case measure => omega
              case rel => exact ⟨2, A', c', ⟨by have := HK.out; omega⟩, ⟨fun j hj => by
                by_cases e : j = 1
                · subst e; exact LE.out.symm
                · exact HJ.out j (by omega)⟩, HB7, X27, X37, X47, X67⟩
            · have LP := Aside0.mk (List.length_pos_iff.mpr hL)
              have d2 : decide (0 < (L.length : Int)) = true := decide_eq_true (by have := LP.out; omega)
              have d3 : decide (0 < L.length) = true := decide_eq_true LP.out
              have d4 : ((L.length : Int) == 0) = false := by rw [beq_eq_false_iff_ne]; have := LP.out; omega
              have NL := Aside0.mk hL
              subst hu
              clear hL
              have DA := Aside0.mk (show dueAt v many base times = 1 by unfold dueAt; rw [if_neg (fun h => h (HJ.out 0 (by omega))), if_pos (by rw [← LE.out]; exact NL.out)])
              have E1 := Aside0.mk (show cc = ⟨1, L, ovrL v 1 L⟩ by rw [HCC.out, pickC, if_pos ⟨RV.out, OV.out, by rw [DA.out]; omega⟩, DA.out, ← LE.out]; rfl)
              have E2 := Aside0.mk (show ee = 0 by rw [HEE.out, pickE, if_pos ⟨RV.out, OV.out⟩, if_pos (by rw [DA.out]; omega)])
              go_wp2_with fail
              have hsz : (w5.setCell ⟨g6, 1, none⟩ (.slice A' L.length c')).heap.size = w5.heap.size := by simp [World.setCell]
              have hsp := span_calls _ _ 1 [L] (C23_one (w5.setCell ⟨g6, 1, none⟩ (.slice A' L.length c')) A' c' L (Kd.R_reads' HR6.out).2.2 (Kd.R_reads' HR6.out).2.1)
              rw [show [L].flatten = L by simp, hsz] at hsp
              refine hsp.mono ?_
              clear hsp hsz
              rintro e w8 ⟨rfl, hb⟩
              obtain ⟨sp, hsp⟩ : ∃ s, s = spanM L := ⟨_, rfl⟩
              rw [← hsp]
              have SP := Aside0.mk hsp
              clear hsp
              replace hb := below_step (below_alloc (Below.refl _ _) _) hb
              have HB8 := Aside0.mk (below_alloc (below_step HB6.out hb) (.cells (mCs sp) 58))
              have X28 := Aside0.mk (blk_alloc (blk_below X26.out hb) (.cells (mCs sp) 58))
              have X48 := Aside0.mk (blk_alloc (blk_below X46.out hb) (.cells (mCs sp) 58))
              have X68 := Aside0.mk (blk_alloc (blk_below X66.out hb) (.cells (mCs sp) 58))
              have HR8 := Aside0.mk (Kd.R_below (Kd.R_below HR6.out hb) ((Below.refl w8.heap.size w8).alloc (Nat.le_refl _) (.cells (mCs sp) 58)))
              have XS := Aside0.mk (show Tb (w8.alloc (.cells (mCs sp) 58)) w8.heap.size sp from blk_new w8 _)
              have y0 : (w8.alloc (.cells (mCs sp) 58)).cell? ⟨g6, 0, none⟩ = some (.int .i64 1) := (blk_cell X68.out 0).trans rfl
              have bl : (w8.alloc (.cells (mCs sp) 58)).cell? ⟨w.heap.size, 5, none⟩ = some (.slice p.a2 v.l2.length p.c2) := (blk_cell X28.out 5).trans rfl
              clear hb HB6 X26 X36 X46 X66 HR6
              go_wp2_with fail
              have hch := chosen93_calls _ p.a2 p.c2 v.l2 (HC.out.below HB8.out 2 (by omega)).1 (by have h1 : v.l2.length ≤ 64 := RV.out.2.1.1 2 (by omega); omega) sp w8.heap.size XS.out
              refine hch.mono ?_
              clear hch
              rintro e w10 ⟨xo, rfl, hRo, hb⟩
              obtain ⟨Ao, co, hv⟩ := Kd.R_slice hRo
              subst hv
              have OVE := Aside0.mk (show (v.l2.filter fun m => overB m sp) = ovrL v 1 L by rw [SP.out]; rfl)
              rw [OVE.out] at hRo
              rw [OVE.out]
              obtain ⟨O, hO⟩ : ∃ O, O = ovrL v 1 L := ⟨_, rfl⟩
              rw [← hO] at hRo ⊢
              have EO := Aside0.mk hO
              have HB10 := Aside0.mk (below_step HB8.out hb)
              have HRo := Aside0.mk (Kd.R_lower hRo HB8.out.size)
              have HR10 := Aside0.mk (Kd.R_below HR8.out hb)
              have X410 := Aside0.mk (blk_below X48.out hb)
              have X610 := Aside0.mk (blk_below X68.out hb)
              clear hRo hb hO HB8 X28 X48 X68 HR8 XS y0 bl
              have y0 : w10.cell? ⟨g6, 0, none⟩ = some (.int .i64 1) := (blk_cell X610.out 0).trans rfl
              have y1 : w10.cell? ⟨g6, 1, none⟩ = some (.slice A' L.length c') := (blk_cell X610.out 1).trans rfl
              have y2 : w10.cell? ⟨g6, 2, none⟩ = some (.slice none 0 0) := (blk_cell X610.out 2).trans rfl
              have f2 := blk_frozen X610.out 2
              have X411 := Aside0.mk (blk_far X410.out (p := ⟨g6, 2, none⟩) (show g4 ≠ g6 by have := N7.out; omega) (.slice Ao O.length co))
              have HB11 := Aside0.mk (below_set (j := 2) (v := .slice Ao O.length co) HB10.out (show w.heap.size ≤ g6 by have := N7.out; omega))
              have HR11 := Aside0.mk (Kd.R_set HR10.out X610.out (by intro q hq; simp [show k58.E = [] from rfl] at hq; omega) 2 (.slice Ao O.length co))
              have HRo11 := Aside0.mk (Kd.R_set HRo.out X610.out (by intro q hq; simp [show k58.E = [] from rfl] at hq; omega) 2 (.slice Ao O.length co))
              go_wp2_with (first | (refine st_arr rfl 52 _ _ rfl g4 52 ?hx #[.int .i64 1, .slice A' L.length c', .slice Ao O.length co] ?hy _ X411.out (by rw [size52]; rfl) rfl (by simp [Value.oneCell']) ?_; (case hx => rfl); (case hy => rfl); intro w12 hb5 hbb hk5 hs5; have HB12 := Aside0.mk (hbb _ _ HB11.out (by have := N1.out; omega)); have X412 := Aside0.mk hb5; have HK5 := Aside0.mk hk5; clear hb5 hbb hk5 hs5) | fail)
              have r0 : w12.cell? ⟨g4, 0, none⟩ = some (.int .i64 1) := (blk_cell X412.out 0).trans rfl
              have r1 : w12.cell? ⟨g4, 1, none⟩ = some (.slice A' L.length c') := (blk_cell X412.out 1).trans rfl
              have r2 : w12.cell? ⟨g4, 2, none⟩ = some (.slice Ao O.length co) := (blk_cell X412.out 2).trans rfl
              try rw [Exit.noGoto_ret]
              exact bodyPost_ret (v := .tuple #[.agg #[.int .i64 1, .slice A' L.length c', .slice Ao O.length co], .int .i64 0]) (by simp [results, Try.results36, go_sem, r0, r1, r2]) rfl ⟨_, _, by rw [E1.out, E2.out], by rw [E1.out]; exact R58_other HR11.out X411.out HK5.out, by rw [E1.out, ← EO.out]; exact R58_other HRo11.out X411.out HK5.out, HB12.out⟩
          · obtain ⟨L, hL⟩ : ∃ L, L = dueL v many base times 2 := ⟨_, rfl⟩
            have LE := Aside0.mk hL
            have hdue := due2_calls _ v p (HC.out.below HB.out) many base times OV.out (RV.out.2.1.1 2 (by omega))
            rw [← hL] at hdue
            clear hL
            go_wp2_with fail
            refine hdue.mono ?_
            clear hdue
            rintro e w5 ⟨x, rfl, hR, hb⟩
            obtain ⟨A', c', hv⟩ := Kd.R_slice hR
            subst hv
            have HB5 := Aside0.mk (below_step HB.out hb)
            have HR5 := Aside0.mk (Kd.R_lower hR HB.out.size)
            have X25 := Aside0.mk (blk_below X2.out hb)
            have X35 := Aside0.mk (blk_below X3.out hb)
            have X45 := Aside0.mk (blk_below X4.out hb)
            have X65 := Aside0.mk (blk_below X6.out hb)
            clear hR hb HB X2 X3 X4 X6 y0 y1 y2 b0 b1 b2 b3 b4 b5 b6 o0 o1 o2
            have y0 : w5.cell? ⟨g6, 0, none⟩ = some (.int .i64 2) := (blk_cell X65.out 0).trans rfl
            have y1 : w5.cell? ⟨g6, 1, none⟩ = some (.slice A 0 c) := (blk_cell X65.out 1).trans rfl
            have f0 := blk_frozen X65.out 0
            have f1 := blk_frozen X65.out 1
            obtain ⟨u, hu⟩ : ∃ u, u = Value.slice A' L.length c' := ⟨_, rfl⟩
            have HB6 := Aside0.mk (below_set (j := 1) (v := u) HB5.out (show w.heap.size ≤ g6 by have := N7.out; omega))
            have X26 := Aside0.mk (blk_far X25.out (p := ⟨g6, 1, none⟩) (show w.heap.size ≠ g6 by have := N7.out; omega) u)
            have X36 := Aside0.mk (blk_far X35.out (p := ⟨g6, 1, none⟩) (show g3 ≠ g6 by have := N7.out; omega) u)
            have X46 := Aside0.mk (blk_far X45.out (p := ⟨g6, 1, none⟩) (show g4 ≠ g6 by have := N7.out; omega) u)
            have X66 := Aside0.mk (blk_put (cs' := #[.int .i64 2, u, .slice none 0 0]) X65.out 1 u rfl)
            have HR6 := Aside0.mk (Kd.R_set HR5.out X65.out (by intro q hq; simp [show k58.E = [] from rfl] at hq; omega) 1 u)
            clear HB5 X25 X35 X45 X65 HR5
            by_cases hL : L = []
            · have L0 := Aside0.mk hL
              subst hu
              subst hL
              go_wp2_with fail
              have HB7 := Aside0.mk (below_set (j := 0) (v := .int .i64 3) HB6.out (show w.heap.size ≤ g6 by have := N7.out; omega))
              have X27 := Aside0.mk (blk_far X26.out (p := ⟨g6, 0, none⟩) (show w.heap.size ≠ g6 by have := N7.out; omega) (.int .i64 3))
              have X37 := Aside0.mk (blk_far X36.out (p := ⟨g6, 0, none⟩) (show g3 ≠ g6 by have := N7.out; omega) (.int .i64 3))
              have X47 := Aside0.mk (blk_far X46.out (p := ⟨g6, 0, none⟩) (show g4 ≠ g6 by have := N7.out; omega) (.int .i64 3))
              have X67 := Aside0.mk (blk_put (cs' := #[.int .i64 3, .slice A' 0 c', .slice none 0 0]) X66.out 0 (.int .i64 3) rfl)
              go_roundg q
              case measure => omega
              case rel => exact ⟨3, A', c', ⟨by have := HK.out; omega⟩, ⟨fun j hj => by
                by_cases e : j = 2
                · subst e; exact LE.out.symm
                · exact HJ.out j (by omega)⟩, HB7, X27, X37, X47, X67⟩
            · have LP := Aside0.mk (List.length_pos_iff.mpr hL)
              have d2 : decide (0 < (L.length : Int)) = true := decide_eq_true (by have := LP.out; omega)
              have d3 : decide (0 < L.length) = true := decide_eq_true LP.out
              have d4 : ((L.length : Int) == 0) = false := by rw [beq_eq_false_iff_ne]; have := LP.out; omega
              have NL := Aside0.mk hL
              subst hu
              clear hL
              have DA := Aside0.mk (show dueAt v many base times = 2 by unfold dueAt; rw [if_neg (fun h => h (HJ.out 0 (by omega))), if_neg (fun h => h (HJ.out 1 (by omega))), if_pos (by rw [← LE.out]; exact NL.out)])
              have E1 := Aside0.mk (show cc = ⟨2, L, ovrL v 2 L⟩ by rw [HCC.out, pickC, if_pos ⟨RV.out, OV.out, by rw [DA.out]; omega⟩, DA.out, ← LE.out]; rfl)
              have E2 := Aside0.mk (show ee = 0 by rw [HEE.out, pickE, if_pos ⟨RV.out, OV.out⟩, if_pos (by rw [DA.out]; omega)])
              go_wp2_with fail
              have hsz : (w5.setCell ⟨g6, 1, none⟩ (.slice A' L.length c')).heap.size = w5.heap.size := by simp [World.setCell]
              have hsp := span_calls _ _ 1 [L] (C23_one (w5.setCell ⟨g6, 1, none⟩ (.slice A' L.length c')) A' c' L (Kd.R_reads' HR6.out).2.2 (Kd.R_reads' HR6.out).2.1)
              rw [show [L].flatten = L by simp, hsz] at hsp
              refine hsp.mono ?_
              clear hsp hsz
              rintro e w8 ⟨rfl, hb⟩
              obtain ⟨sp, hsp⟩ : ∃ s, s = spanM L := ⟨_, rfl⟩
              rw [← hsp]
              have SP := Aside0.mk hsp
              clear hsp
              replace hb := below_step (below_alloc (Below.refl _ _) _) hb
              have HB8 := Aside0.mk (below_alloc (below_step HB6.out hb) (.cells (mCs sp) 58))
              have X28 := Aside0.mk (blk_alloc (blk_below X26.out hb) (.cells (mCs sp) 58))
              have X48 := Aside0.mk (blk_alloc (blk_below X46.out hb) (.cells (mCs sp) 58))
              have X68 := Aside0.mk (blk_alloc (blk_below X66.out hb) (.cells (mCs sp) 58))
              have HR8 := Aside0.mk (Kd.R_below (Kd.R_below HR6.out hb) ((Below.refl w8.heap.size w8).alloc (Nat.le_refl _) (.cells (mCs sp) 58)))
              have XS := Aside0.mk (show Tb (w8.alloc (.cells (mCs sp) 58)) w8.heap.size sp from blk_new w8 _)
              have y0 : (w8.alloc (.cells (mCs sp) 58)).cell? ⟨g6, 0, none⟩ = some (.int .i64 2) := (blk_cell X68.out 0).trans rfl
              have bl : (w8.alloc (.cells (mCs sp) 58)).cell? ⟨w.heap.size, 6, none⟩ = some (.slice p.a3 v.l3.length p.c3) := (blk_cell X28.out 6).trans rfl
              clear hb HB6 X26 X36 X46 X66 HR6
              go_wp2_with fail
              have hch := chosen93_calls _ p.a3 p.c3 v.l3 (HC.out.below HB8.out 3 (by omega)).1 (by have h1 : v.l3.length ≤ 64 := RV.out.2.1.1 3 (by omega); omega) sp w8.heap.size XS.out
              refine hch.mono ?_
              clear hch
              rintro e w10 ⟨xo, rfl, hRo, hb⟩
              obtain ⟨Ao, co, hv⟩ := Kd.R_slice hRo
              subst hv
              have OVE := Aside0.mk (show (v.l3.filter fun m => overB m sp) = ovrL v 2 L by rw [SP.out]; rfl)
              rw [OVE.out] at hRo
              rw [OVE.out]
              obtain ⟨O, hO⟩ : ∃ O, O = ovrL v 2 L := ⟨_, rfl⟩
              rw [← hO] at hRo ⊢
              have EO := Aside0.mk hO
              have HB10 := Aside0.mk (below_step HB8.out hb)
              have HRo := Aside0.mk (Kd.R_lower hRo HB8.out.size)
              have HR10 := Aside0.mk (Kd.R_below HR8.out hb)
              have X410 := Aside0.mk (blk_below X48.out hb)
              have X610 := Aside0.mk (blk_below X68.out hb)
              clear hRo hb hO HB8 X28 X48 X68 HR8 XS y0 bl
              have y0 : w10.cell? ⟨g6, 0, none⟩ = some (.int .i64 2) := (blk_cell X610.out 0).trans rfl
              have y1 : w10.cell? ⟨g6, 1, none⟩ = some (.slice A' L.length c') := (blk_cell X610.out 1).trans rfl
              have y2 : w10.cell? ⟨g6, 2, none⟩ = some (.slice none 0 0) := (blk_cell X610.out 2).trans rfl
              have f2 := blk_frozen X610.out 2
              have X411 := Aside0.mk (blk_far X410.out (p := ⟨g6, 2, none⟩) (show g4 ≠ g6 by have := N7.out; omega) (.slice Ao O.length co))
              have HB11 := Aside0.mk (below_set (j := 2) (v := .slice Ao O.length co) HB10.out (show w.heap.size ≤ g6 by have := N7.out; omega))
              have HR11 := Aside0.mk (Kd.R_set HR10.out X610.out (by intro q hq; simp [show k58.E = [] from rfl] at hq; omega) 2 (.slice Ao O.length co))
              have HRo11 := Aside0.mk (Kd.R_set HRo.out X610.out (by intro q hq; simp [show k58.E = [] from rfl] at hq; omega) 2 (.slice Ao O.length co))
              go_wp2_with (first | (refine st_arr rfl 52 _ _ rfl g4 52 ?hx #[.int .i64 2, .slice A' L.length c', .slice Ao O.length co] ?hy _ X411.out (by rw [size52]; rfl) rfl (by simp [Value.oneCell']) ?_; (case hx => rfl); (case hy => rfl); intro w12 hb5 hbb hk5 hs5; have HB12 := Aside0.mk (hbb _ _ HB11.out (by have := N1.out; omega)); have X412 := Aside0.mk hb5; have HK5 := Aside0.mk hk5; clear hb5 hbb hk5 hs5) | fail)
              have r0 : w12.cell? ⟨g4, 0, none⟩ = some (.int .i64 2) := (blk_cell X412.out 0).trans rfl
              have r1 : w12.cell? ⟨g4, 1, none⟩ = some (.slice A' L.length c') := (blk_cell X412.out 1).trans rfl
              have r2 : w12.cell? ⟨g4, 2, none⟩ = some (.slice Ao O.length co) := (blk_cell X412.out 2).trans rfl
              try rw [Exit.noGoto_ret]
              exact bodyPost_ret (v := .tuple #[.agg #[.int .i64 2, .slice A' L.length c', .slice Ao O.length co], .int .i64 0]) (by simp [results, Try.results36, go_sem, r0, r1, r2]) rfl ⟨_, _, by rw [E1.out, E2.out], by rw [E1.out]; exact R58_other HR11.out X411.out HK5.out, by rw [E1.out, ← EO.out]; exact R58_other HRo11.out X411.out HK5.out, HB12.out⟩
    · rw [optE, if_neg ho]
      have E1 := Aside0.mk (show cc = ⟨0, [], []⟩ by rw [HCC.out, pickC, if_neg (fun h => ho h.2.1)])
      have E2 := Aside0.mk (show ee = 2 by rw [HEE.out, pickE, if_neg (fun h => ho h.2)])
      clear ho
      go_wp2_with (first | (refine st_arr rfl 52 _ _ rfl g4 52 ?hx #[.int .i64 0, .slice none 0 0, .slice none 0 0] ?hy _ X43.out (by rw [size52]; rfl) rfl (by simp [Value.oneCell']) ?_; (case hx => rfl); (case hy => rfl); intro w5 hb5 hbb hk5 hs5; have HB5 := Aside0.mk (hbb _ _ HB3.out (by have := N1.out; omega)); have X45 := Aside0.mk hb5; clear hb5 hbb hk5 hs5) | fail)
      have r0 : w5.cell? ⟨g4, 0, none⟩ = some (.int .i64 0) := (blk_cell X45.out 0).trans rfl
      have r1 : w5.cell? ⟨g4, 1, none⟩ = some (.slice none 0 0) := (blk_cell X45.out 1).trans rfl
      have r2 : w5.cell? ⟨g4, 2, none⟩ = some (.slice none 0 0) := (blk_cell X45.out 2).trans rfl
      try rw [Exit.noGoto_ret]
      exact bodyPost_ret (v := .tuple #[.agg #[.int .i64 0, .slice none 0 0, .slice none 0 0], .int .i64 2]) (by simp [results, Try.results36, go_sem, r0, r1, r2]) rfl ⟨_, _, by rw [E1.out, E2.out], by rw [E1.out]; exact Kd.R_nil _ _ _ _ _, by rw [E1.out]; exact Kd.R_nil _ _ _ _ _, HB5.out⟩
  · rw [decide_eq_false hr]
    have E1 := Aside0.mk (show cc = ⟨0, [], []⟩ by rw [HCC.out, pickC, if_neg (fun h => hr h.1)])
    have E2 := Aside0.mk (show ee = 2 by rw [HEE.out, pickE, if_neg (fun h => hr h.1)])
    clear hr
    go_wp2_with (first | (refine st_arr rfl 52 _ _ rfl g4 52 ?hx #[.int .i64 0, .slice none 0 0, .slice none 0 0] ?hy _ X42.out (by rw [size52]; rfl) rfl (by simp [Value.oneCell']) ?_; (case hx => rfl); (case hy => rfl); intro w5 hb5 hbb hk5 hs5; have HB5 := Aside0.mk (hbb _ _ HB2.out (by have := N1.out; omega)); have X45 := Aside0.mk hb5; clear hb5 hbb hk5 hs5) | fail)
    have r0 : w5.cell? ⟨g4, 0, none⟩ = some (.int .i64 0) := (blk_cell X45.out 0).trans rfl
    have r1 : w5.cell? ⟨g4, 1, none⟩ = some (.slice none 0 0) := (blk_cell X45.out 1).trans rfl
    have r2 : w5.cell? ⟨g4, 2, none⟩ = some (.slice none 0 0) := (blk_cell X45.out 2).trans rfl
    try rw [Exit.noGoto_ret]
    exact bodyPost_ret (v := .tuple #[.agg #[.int .i64 0, .slice none 0 0, .slice none 0 0], .int .i64 2]) (by simp [results, Try.results36, go_sem, r0, r1, r2]) rfl ⟨_, _, by rw [E1.out, E2.out], by rw [E1.out]; exact Kd.R_nil _ _ _ _ _, by rw [E1.out]; exact Kd.R_nil _ _ _ _ _, HB5.out⟩
end Go.Proofs.Ytkjepfofiegcdaa.V
