import Derived.Test.YtkjepfofiegcdaaVM1Y
/- pick.Edit, walked. Conditions: lists of at most 10 to the 8th tables. -/
namespace Go.Proofs.Ytkjepfofiegcdaa.V
set_option linter.unusedVariables false
set_option linter.unusedSimpArgs false
open Go.RowKit Go.Proofs.YtkjepfofiegcdaaW.PrintWords Go.Proofs.YtkjepfofiegcdaaW.PrintLast Go.Proofs.YtkjepfofiegcdaaW.PrintMore Go.Proofs.Ytkjepfofiegcdaa.PB14
def lvOf (lev : Int) (In : List S58) (i : Nat) : Int := if i < In.length then lev else lev + 1
def goneL (lev : Int) (In Ov : List S58) (k : Nat) : List S84 := (List.range k).map fun i => ⟨lvOf lev In i, ((In ++ Ov).getD i z58).f0⟩
theorem goneL_snoc (lev : Int) (In Ov : List S58) (k : Nat) : goneL lev In Ov (k + 1) = goneL lev In Ov k ++ [⟨lvOf lev In k, ((In ++ Ov).getD k z58).f0⟩] := by unfold goneL; rw [List.range_succ, List.map_append]; rfl
theorem goneL_len (lev : Int) (In Ov : List S58) (k : Nat) : (goneL lev In Ov k).length = k := by simp [goneL]
def goneP (v : Ver) (lev : Int) (In Ov : List S58) (k : Nat) : Prop := (∀ i, i < k → (In ++ Ov).getD i z58 ∈ v.lv (lvOf lev In i).toNat) ∧ (nums ((In ++ Ov).take k)).Nodup
instance (v : Ver) (lev : Int) (In Ov : List S58) (k : Nat) : Decidable (goneP v lev In Ov k) := by unfold goneP; infer_instance
theorem nodup_snoc {L : List S58} {m : S58} : (nums (L ++ [m])).Nodup ↔ (nums L).Nodup ∧ m.f0 ∉ nums L := by
 unfold nums
 rw [List.map_append, List.nodup_append]
 constructor
 ·rintro ⟨h1, _, h3⟩
  exact ⟨h1, fun hm => h3 _ hm m.f0 (by simp) rfl⟩
 ·rintro ⟨h1, h2⟩
  refine ⟨h1, by simp, fun a ha b hb => ?_⟩
  simp at hb
  subst hb
  exact fun e => h2 (e ▸ ha)
theorem goneP_succ {v : Ver} {lev : Int} {In Ov : List S58} {k : Nat} (hk : k < (In ++ Ov).length) : goneP v lev In Ov (k + 1) ↔ goneP v lev In Ov k ∧ (In ++ Ov).getD k z58 ∈ v.lv (lvOf lev In k).toNat ∧ ((In ++ Ov).getD k z58).f0 ∉ nums ((In ++ Ov).take k) := by
 unfold goneP
 rw [take_snoc _ z58 hk, nodup_snoc]
 constructor
 ·rintro ⟨h1, h2, h3⟩
  exact ⟨⟨fun i hi => h1 i (by omega), h2⟩, h1 k (by omega), h3⟩
 ·rintro ⟨⟨h1, h2⟩, h3, h4⟩
  refine ⟨fun i hi => ?_, h2, h4⟩
  by_cases e : i = k
  ·subst e; exact h3
  ·exact h1 i (by omega)
theorem goneP_pre {v : Ver} {lev : Int} {In Ov : List S58} {k n : Nat} (h : goneP v lev In Ov n) (hk : k ≤ n) : goneP v lev In Ov k := by
 refine ⟨fun i hi => h.1 i (by omega), ?_⟩
 have h2 := h.2
 have h3 : (In ++ Ov).take n = (In ++ Ov).take k ++ ((In ++ Ov).take n).drop k := by
  have := List.take_append_drop k ((In ++ Ov).take n)
  rw [List.take_take, Nat.min_eq_left hk] at this
  exact this.symm
 rw [h3] at h2
 unfold nums at h2 ⊢
 rw [List.map_append, List.nodup_append] at h2
 exact h2.1
def mxL (L : List S58) : Int := L.foldl (fun a m => if a < m.f0 then m.f0 else a) 0
theorem mxL_snoc (L : List S58) (m : S58) : mxL (L ++ [m]) = if mxL L < m.f0 then m.f0 else mxL L := by unfold mxL; rw [List.foldl_append]; rfl
theorem mxL_pos (L : List S58) : 0 ≤ mxL L := by
 induction L using snoc_ind with
 | h0 => show (0 : Int) ≤ 0; omega
 | h1 L x ih => rw [mxL_snoc]; split <;> omega
def nxtL (v : Ver) (L : List S58) : Int := if v.next ≤ mxL L then mxL L + 1 else 0
theorem nxtL_snoc {v : Ver} (hv : 1 ≤ v.next) (L : List S58) (m : S58) (h1 : 1 ≤ m.f0) : nxtL v (L ++ [m]) = if v.next ≤ m.f0 ∧ nxtL v L ≤ m.f0 then m.f0 + 1 else nxtL v L := by
 have := mxL_pos L
 unfold nxtL
 rw [mxL_snoc]
 repeat' split
 all_goals omega
theorem nxtL_nil {v : Ver} (hv : 1 ≤ v.next) : nxtL v [] = 0 := by unfold nxtL; rw [if_neg (by show ¬ v.next ≤ 0; omega)]
def addL (lev : Int) (L : List S58) : List S82 := L.map fun m => ⟨lev + 1, m⟩
theorem addL_snoc (lev : Int) (L : List S58) (m : S58) : addL lev (L ++ [m]) = addL lev L ++ [⟨lev + 1, m⟩] := by simp [addL]
def cameP (L : List S58) (m : S58) : Prop := L ≠ [] ∧ Op.bytesLess m.f3.toList (spanM L).f3.toList = false ∧ Op.bytesLess (spanM L).f4.toList m.f4.toList = false ∧ 1 ≤ m.f0 ∧ m.f0 ≤ 99999998
instance (L : List S58) (m : S58) : Decidable (cameP L m) := by unfold cameP; infer_instance
def zE : Edt := ⟨0, 0, 0, [], []⟩
def edG (v : Ver) (lev : Int) (In Ov out : List S58) : Prop := goneP v lev In Ov (In ++ Ov).length ∧ ∀ m, m ∈ out → cameP (In ++ Ov) m
instance (v : Ver) (lev : Int) (In Ov out : List S58) : Decidable (edG v lev In Ov out) := by unfold edG; infer_instance
def edV (v : Ver) (lev : Int) (In Ov out : List S58) : Edt := if askP v lev ∧ edG v lev In Ov out then ⟨0, nxtL v out, 0, goneL lev In Ov (In ++ Ov).length, addL lev out⟩ else zE
def edE (v : Ver) (lev : Int) (In Ov out : List S58) : Int := if askP v lev then (if edG v lev In Ov out then 0 else 11) else 2
def EdPost (w w' : World) (x : Ending) (e : Edt) (f : Int) : Prop := ∃ A1 c1 A2 c2, x = .returned (.tuple #[.agg (eCs e A1 c1 A2 c2), .int .i64 f]) ∧ Kd.R k84 84 w' w.heap.size (fun _ => True) (.slice A1 e.gone.length c1) e.gone ∧ Kd.R k82 82 w' w.heap.size (fun _ => True) (.slice A2 e.added.length c2) e.added ∧ Below w.heap.size w w'
theorem size70 : (Try.prog.info? 70).map (·.size) = some 5 := by kernel_rfl
theorem R84_other {w w' : World} {base g : Nat} {cs : Array Value} {v : Value} {xs : List S84} (h : Kd.R k84 84 w base (fun _ => True) v xs) (hg : w.heap[g]? = some (.cells cs 70 (0, 0))) (hk : ∀ k, k ≠ g → w'.heap[k]? = w.heap[k]?) : Kd.R k84 84 w' base (fun _ => True) v xs :=
 Kd.R_mono (Kd.R_step (Kd.R_types h hg (by intro q hq; simp [show k84.E = [] from rfl] at hq; omega)) (fun k ho _ => hk k ho.2)) (fun _ _ => trivial)
theorem R82_other {w w' : World} {base g : Nat} {cs : Array Value} {v : Value} {xs : List S82} (h : Kd.R k82 82 w base (fun _ => True) v xs) (hg : w.heap[g]? = some (.cells cs 70 (0, 0))) (hk : ∀ k, k ≠ g → w'.heap[k]? = w.heap[k]?) : Kd.R k82 82 w' base (fun _ => True) v xs :=
 Kd.R_mono (Kd.R_step (Kd.R_types h hg (by intro q hq; simp [show k82.E = [] from rfl] at hq; omega)) (fun k ho _ => hk k ho.2)) (fun _ _ => trivial)
theorem arr0 (s0 s1 : Value) (w : World) : (Instr.index 125 (.agg #[s0, s1]) (.int .i64 0)).run Try.prog w = .ok s0 w := by kernel_rfl
theorem arr1 (s0 s1 : Value) (w : World) : (Instr.index 125 (.agg #[s0, s1]) (.int .i64 1)).run Try.prog w = .ok s1 w := by kernel_rfl
def offN (In Ov : List S58) (i : Nat) : Nat := if i = 0 then 0 else if i = 1 then In.length else In.length + Ov.length
theorem Cnt.put_ {w : World} {b n : Nat} {F : Int → Int} (h : Cnt w b n F) {g : Nat} (hg : g ≠ b) (j : Nat) (u : Value) : Cnt (w.setCell ⟨g, j, none⟩ u) b n F :=
 h.kept (row := some g) ⟨rfl, rfl, rfl, by simp [World.setCell], fun i hi hne => Below.heap_setCell w ⟨g, j, none⟩ u i (fun e => hne (by rw [e]))⟩ (fun e => hg (by injection e with e; exact e.symm))
attribute [local go_sem] arr0 arr1
set_option maxHeartbeats 8000000 in
set_option maxRecDepth 100000 in
theorem edit_calls (w : World) (v : Ver) (p : Pl) (hC : VC w v p) (hW : VW v) (lev : Int) (A1 : Option Addr) (c1 : Nat) (In : List S58) (A2 : Option Addr) (c2 : Nat) (Ov : List S58) (A5 : Option Addr) (c5 : Nat) (out : List S58) (h1 : k58.C w A1 In.length In) (hc1 : In.length ≤ c1) (h2 : k58.C w A2 Ov.length Ov) (hc2 : Ov.length ≤ c2) (h5 : k58.C w A5 out.length out)
  (l1 : In.length ≤ 100000000) (l2 : Ov.length ≤ 100000000) (l5 : out.length ≤ 100000000) (n1 : ∀ m, m ∈ In → 0 ≤ m.f0 ∧ m.f0 ≤ 18446744073709551615) (n2 : ∀ m, m ∈ Ov → 0 ≤ m.f0 ∧ m.f0 ≤ 18446744073709551615) :
  Calls Try.prog 48 #[.agg (vCs v p), .agg #[.int .i64 lev, .slice A1 In.length c1, .slice A2 Ov.length c2], .slice A5 out.length c5] w fun x w' => EdPost w w' x (edV v lev In Ov out) (edE v lev In Ov out) := by
 have HC := Aside0.mk hC
 have HW := Aside0.mk hW
 have H1 := Aside0.mk h1
 have H2 := Aside0.mk h2
 have H5 := Aside0.mk h5
 have Hc1 := Aside0.mk hc1
 have Hc2 := Aside0.mk hc2
 have LI := Aside0.mk l1
 have LO := Aside0.mk l2
 have LT := Aside0.mk l5
 have WI := Aside0.mk n1
 have WO := Aside0.mk n2
 have HB := Aside0.mk (below_alloc (below_alloc ((Below.refl w.heap.size w).alloc (Nat.le_refl _) (.cells (vCs v p) 26)) (.cells #[.int .i64 lev, .slice A1 In.length c1, .slice A2 Ov.length c2] 52)) (.cells #[.int .u64 0, .int .u64 0, .int .u64 0, .slice none 0 0, .slice none 0 0] 70))
 have X2 := Aside0.mk (blk_alloc (blk_alloc (blk_new w (.cells (vCs v p) 26)) (.cells #[.int .i64 lev, .slice A1 In.length c1, .slice A2 Ov.length c2] 52)) (.cells #[.int .u64 0, .int .u64 0, .int .u64 0, .slice none 0 0, .slice none 0 0] 70))
 have X4 := Aside0.mk (blk_alloc (blk_new (w.alloc (.cells (vCs v p) 26)) (.cells #[.int .i64 lev, .slice A1 In.length c1, .slice A2 Ov.length c2] 52)) (.cells #[.int .u64 0, .int .u64 0, .int .u64 0, .slice none 0 0, .slice none 0 0] 70))
 have X6 := Aside0.mk (blk_new ((w.alloc (.cells (vCs v p) 26)).alloc (.cells #[.int .i64 lev, .slice A1 In.length c1, .slice A2 Ov.length c2] 52)) (.cells #[.int .u64 0, .int .u64 0, .int .u64 0, .slice none 0 0, .slice none 0 0] 70))
 clear hC hW h1 h2 h5 hc1 hc2 l1 l2 l5 n1 n2
 obtain ⟨xe, hxe⟩ : ∃ c, c = edV v lev In Ov out := ⟨_, rfl⟩
 obtain ⟨xf, hxf⟩ : ∃ c, c = edE v lev In Ov out := ⟨_, rfl⟩
 rw [← hxe, ← hxf]
 have XE := Aside0.mk hxe
 have XF := Aside0.mk hxf
 clear hxe hxf
 go_enter Try.func48, Try.ntmps48
 go_upto_region 1 with (fail)
 generalize hg6 : ((w.alloc (.cells (vCs v p) 26)).alloc (.cells #[.int .i64 lev, .slice A1 In.length c1, .slice A2 Ov.length c2] 52)).heap.size = g6 at *
 generalize hg4 : (w.alloc (.cells (vCs v p) 26)).heap.size = g4 at *
 have e4 : w.heap.size + 1 = g4 := by rw [← hg4]; simp
 have e6 : g4 + 1 = g6 := by rw [← hg6, ← hg4]; simp
 try rw [e4]
 try rw [e6]
 have N1 := Aside0.mk (show w.heap.size < g4 ∧ g4 < g6 by omega)
 clear hg4 hg6 e4 e6
 generalize ((w.alloc (.cells (vCs v p) 26)).alloc (.cells #[.int .i64 lev, .slice A1 In.length c1, .slice A2 Ov.length c2] 52)).alloc (.cells #[.int .u64 0, .int .u64 0, .int .u64 0, .slice none 0 0, .slice none 0 0] 70) = w1 at *
 have b0 : w1.cell? ⟨w.heap.size, 0, none⟩ = some (.int .u64 v.log) := (blk_cell X2.out 0).trans rfl
 have b1 : w1.cell? ⟨w.heap.size, 1, none⟩ = some (.int .u64 v.next) := (blk_cell X2.out 1).trans rfl
 have b2 : w1.cell? ⟨w.heap.size, 2, none⟩ = some (.int .u64 v.seq) := (blk_cell X2.out 2).trans rfl
 have b3 : w1.cell? ⟨w.heap.size, 3, none⟩ = some (.slice p.a0 v.l0.length p.c0) := (blk_cell X2.out 3).trans rfl
 have b4 : w1.cell? ⟨w.heap.size, 4, none⟩ = some (.slice p.a1 v.l1.length p.c1) := (blk_cell X2.out 4).trans rfl
 have b5 : w1.cell? ⟨w.heap.size, 5, none⟩ = some (.slice p.a2 v.l2.length p.c2) := (blk_cell X2.out 5).trans rfl
 have b6 : w1.cell? ⟨w.heap.size, 6, none⟩ = some (.slice p.a3 v.l3.length p.c3) := (blk_cell X2.out 6).trans rfl
 have y0 : w1.cell? ⟨g4, 0, none⟩ = some (.int .i64 lev) := (blk_cell X4.out 0).trans rfl
 have y1 : w1.cell? ⟨g4, 1, none⟩ = some (.slice A1 In.length c1) := (blk_cell X4.out 1).trans rfl
 have y2 : w1.cell? ⟨g4, 2, none⟩ = some (.slice A2 Ov.length c2) := (blk_cell X4.out 2).trans rfl
 go_wp2_with fail
 refine (asked_calls _ v p (HC.out.below HB.out) HW.out lev A1 c1 In A2 c2 Ov).mono ?_
 rintro e w3 ⟨rfl, hb⟩
 have HB3 := Aside0.mk (below_step HB.out hb)
 have X23 := Aside0.mk (blk_below X2.out hb)
 have X43 := Aside0.mk (blk_below X4.out hb)
 have X63 := Aside0.mk (blk_below X6.out hb)
 clear hb HB X2 X4 X6
 by_cases ha : askP v lev
 ·rw [decide_eq_true ha]
  have ASK := Aside0.mk ha
  have RV := Aside0.mk ha.1
  have h0 := ha.2.1
  have h1 := ha.2.2
  clear ha
  obtain ⟨ll, hll⟩ := Int.eq_ofNat_of_zero_le h0
  subst hll
  have LL3 := Aside0.mk (show ll < 3 by omega)
  clear h0 h1 y0 y1 y2 b0 b1 b2 b3 b4 b5 b6
  have hmm := @run_makeMap Try.prog
  have y0 : w3.cell? ⟨g4, 0, none⟩ = some (.int .i64 (ll : Int)) := (blk_cell X43.out 0).trans rfl
  have y1 : w3.cell? ⟨g4, 1, none⟩ = some (.slice A1 In.length c1) := (blk_cell X43.out 1).trans rfl
  have y2 : w3.cell? ⟨g4, 2, none⟩ = some (.slice A2 Ov.length c2) := (blk_cell X43.out 2).trans rfl
  have VN := Aside0.mk (show 1 ≤ v.next from RV.out.1.2.2.1)
  have X8 := Aside0.mk (blk_alloc (blk_new w3 (.cells #[.int .u64 0, .int .u64 0, .int .u64 0, .slice none 0 0, .slice none 0 0] 70)) (.map #[] 0))
  have CM := Aside0.mk (Cnt.made (w3.alloc (.cells #[.int .u64 0, .int .u64 0, .int .u64 0, .slice none 0 0, .slice none 0 0] 70)))
  have HB := Aside0.mk (below_alloc ((Below.refl w3.heap.size w3).alloc (Nat.le_refl _) (.cells #[.int .u64 0, .int .u64 0, .int .u64 0, .slice none 0 0, .slice none 0 0] 70)) (.map #[] 0))
  rw [show (w3.alloc (.cells #[.int .u64 0, .int .u64 0, .int .u64 0, .slice none 0 0, .slice none 0 0] 70)).heap.size = w3.heap.size + 1 by simp] at CM
  have X4i := Aside0.mk (blk_below X43.out HB.out)
  clear y0 y1 y2
  have y0 : ((w3.alloc (.cells #[.int .u64 0, .int .u64 0, .int .u64 0, .slice none 0 0, .slice none 0 0] 70)).alloc (.map #[] 0)).cell? ⟨g4, 0, none⟩ = some (.int .i64 (ll : Int)) := (blk_cell X4i.out 0).trans rfl
  have y1 : ((w3.alloc (.cells #[.int .u64 0, .int .u64 0, .int .u64 0, .slice none 0 0, .slice none 0 0] 70)).alloc (.map #[] 0)).cell? ⟨g4, 1, none⟩ = some (.slice A1 In.length c1) := (blk_cell X4i.out 1).trans rfl
  have y2 : ((w3.alloc (.cells #[.int .u64 0, .int .u64 0, .int .u64 0, .slice none 0 0, .slice none 0 0] 70)).alloc (.map #[] 0)).cell? ⟨g4, 2, none⟩ = some (.slice A2 Ov.length c2) := (blk_cell X4i.out 2).trans rfl
  go_wp2_with fail
  clear y0 y1 y2 hmm X4i
  try rw [show (w3.alloc (.cells #[.int .u64 0, .int .u64 0, .int .u64 0, .slice none 0 0, .slice none 0 0] 70)).heap.size = w3.heap.size + 1 by simp]
  generalize (w3.alloc (.cells #[.int .u64 0, .int .u64 0, .int .u64 0, .slice none 0 0, .slice none 0 0] 70)).alloc (.map #[] 0) = w4 at *
  go_loopg [10, 11, 13, 29, 33, 34, 35] 2 (fun kq v10 v11 v13 v29 v33 v34 v35 w' => ∃ (i : Nat) (B : Option Addr) (cb : Nat), v29 = .int .i64 (i : Int) ∧ Aside0 (kq + i = 2) ∧ Aside0 (Below w3.heap.size w3 w') ∧ Aside0 (w'.heap[w3.heap.size]? = some (.cells #[.int .u64 0, .int .u64 0, .int .u64 0, .slice B (goneL (ll : Int) In Ov (offN In Ov i)).length cb, .slice none 0 0] 70 (0, 0))) ∧ Aside0 (Kd.R k84 84 w' w3.heap.size (fun k => k ≠ w3.heap.size + 1) (.slice B (goneL (ll : Int) In Ov (offN In Ov i)).length cb) (goneL (ll : Int) In Ov (offN In Ov i))) ∧ Aside0 (Cnt w' (w3.heap.size + 1) ((In ++ Ov).take (offN In Ov i)).length (cntF ((In ++ Ov).take (offN In Ov i)))) ∧ Aside0 (goneP v (ll : Int) In Ov (offN In Ov i)))
  case atStart => exact ⟨0, none, 0, rfl, ⟨by omega⟩, HB, X8, ⟨Kd.R_nil _ _ _ _ _⟩, CM, ⟨⟨fun i hi => by simp [offN] at hi, by simp [offN, nums]⟩⟩⟩
  case round =>
   clear HB X8 CM
   obtain ⟨i, B, cb, rfl, HK, HB, X8, RG, CM, GP⟩ := hrel
   have X2 := Aside0.mk (blk_below X23.out HB.out)
   have X4 := Aside0.mk (blk_below X43.out HB.out)
   have X6 := Aside0.mk (blk_below X63.out HB.out)
   cases gk with
   | zero =>
    have ei : i = 2 := by have := HK.out; omega
    subst ei
    have OF := (show offN In Ov 2 = (In ++ Ov).length from by rw [List.length_append]; rfl)
    rw [OF] at X8 RG CM GP
    clear OF
    clear HK CM
    have X2 := Aside0.mk (blk_below X23.out HB.out)
    have X4 := Aside0.mk (blk_below X43.out HB.out)
    have y0 : wr.cell? ⟨g4, 0, none⟩ = some (.int .i64 (ll : Int)) := (blk_cell X4.out 0).trans rfl
    have y1 : wr.cell? ⟨g4, 1, none⟩ = some (.slice A1 In.length c1) := (blk_cell X4.out 1).trans rfl
    have y2 : wr.cell? ⟨g4, 2, none⟩ = some (.slice A2 Ov.length c2) := (blk_cell X4.out 2).trans rfl
    have GPF := GP
    replace RG := Aside0.mk (Kd.R_mono RG.out (ok' := fun _ => True) (fun _ _ => trivial))
    have hsz : (wr.alloc (.cells #[.slice A1 In.length c1, .slice A2 Ov.length c2] 23)).heap.size = wr.heap.size + 1 := by simp
    have hsp := span_calls _ _ 2 [In, Ov] (C23_two wr A1 A2 c1 c2 In Ov (Kd.C_below H1.out (below_step HB3.out HB.out)) Hc1.out (Kd.C_below H2.out (below_step HB3.out HB.out)) Hc2.out)
    rw [show [In, Ov].flatten = In ++ Ov by simp] at hsp
    obtain ⟨sp, hsp2⟩ : ∃ s, s = spanM (In ++ Ov) := ⟨_, rfl⟩
    rw [← hsp2] at hsp
    have SQ := Aside0.mk hsp2
    obtain ⟨ok, hok⟩ : ∃ b, b = (spanO (In ++ Ov)).isSome := ⟨_, rfl⟩
    rw [← hok] at hsp
    have OKQ := Aside0.mk hok
    clear hok hsp2
    go_wp2_with fail
    refine hsp.mono ?_
    clear hsp
    rintro e w10 ⟨rfl, hb⟩
    replace hb := below_step (below_alloc (Below.refl _ _) _) hb
    have hb1 := (Below.refl w10.heap.size w10).alloc (Nat.le_refl _) (.cells (mCs sp) 58)
    have hb2 := below_step hb hb1
    have HB11 := Aside0.mk (below_step HB.out hb2)
    have X811 := Aside0.mk (blk_below X8.out hb2)
    have RG11 := Aside0.mk (Kd.R_below RG.out hb2)
    have X1411 := Aside0.mk (show Tb (w10.alloc (.cells (mCs sp) 58)) w10.heap.size sp from blk_new w10 _)
    have NG14 := Aside0.mk (show w3.heap.size < w10.heap.size from blk_lt (blk_below X8.out hb))
    clear hb hb1 hb2 y0 y1 y2 HB X8 RG X2 X4 hsz
    go_wp2_with fail
    generalize w10.heap.size = g14 at *
    generalize w10.alloc (.cells (mCs sp) 58) = w11 at *
    go_loopg [17, 87] out.length (fun kq v17 v87 w' => ∃ (k : Nat) (B2 : Option Addr) (cb2 : Nat), v87 = .int .i64 (k : Int) ∧ Aside0 (kq + k = out.length) ∧ Aside0 (Below w3.heap.size w3 w') ∧ Aside0 (w'.heap[w3.heap.size]? = some (.cells #[.int .u64 0, .int .u64 (nxtL v (out.take k)), .int .u64 0, .slice B (goneL (ll : Int) In Ov (In ++ Ov).length).length cb, .slice B2 (addL (ll : Int) (out.take k)).length cb2] 70 (0, 0))) ∧ Aside0 (Tb w' g14 sp) ∧ Aside0 (Kd.R k84 84 w' w3.heap.size (fun _ => True) (.slice B (goneL (ll : Int) In Ov (In ++ Ov).length).length cb) (goneL (ll : Int) In Ov (In ++ Ov).length)) ∧ Aside0 (Kd.R k82 82 w' w3.heap.size (fun _ => True) (.slice B2 (addL (ll : Int) (out.take k)).length cb2) (addL (ll : Int) (out.take k))) ∧ Aside0 (∀ i, i < k → cameP (In ++ Ov) (out.getD i z58)))
    case atStart => exact ⟨0, none, 0, rfl, ⟨by omega⟩, HB11, by rw [show nxtL v (out.take 0) = 0 from nxtL_nil VN.out]; exact X811, X1411, RG11, ⟨Kd.R_nil _ _ _ _ _⟩, ⟨fun i hi => by omega⟩⟩
    case round =>
     clear HB11 X811 X1411 RG11
     obtain ⟨k, B2, cb2, rfl, HKK, HB, X8, X14, RG, RA, CP⟩ := hrel
     have X2 := Aside0.mk (blk_below X23.out HB.out)
     have X4 := Aside0.mk (blk_below X43.out HB.out)
     have X6 := Aside0.mk (blk_below X63.out HB.out)
     cases gk with
     | zero =>
      have ek : k = out.length := by have := HKK.out; omega
      subst ek
      have d1 : decide ((out.length : Int) < (out.length : Int)) = false := by simp
      rw [List.take_length] at X8 RA
      have EG := Aside0.mk (show edG v (ll : Int) In Ov out from ⟨GPF.out, fun m hm => by
       obtain ⟨x, hx, hx2⟩ := List.getElem_of_mem hm
       have h1 := CP.out x hx
       rw [List.getD_eq_getElem?_getD, List.getElem?_eq_getElem hx] at h1
       rw [← hx2]; exact h1⟩)
      obtain ⟨nx, hnx⟩ : ∃ n, n = nxtL v out := ⟨_, rfl⟩
      obtain ⟨GL, hGL⟩ : ∃ g, g = goneL (ll : Int) In Ov (In ++ Ov).length := ⟨_, rfl⟩
      obtain ⟨AL, hAL⟩ : ∃ a, a = addL (ll : Int) out := ⟨_, rfl⟩
      rw [← hGL] at X8 RG
      rw [← hAL] at X8 RA
      rw [← hnx] at X8
      have E1 := Aside0.mk (show xe = ⟨0, nx, 0, GL, AL⟩ by rw [XE.out, hnx, hGL, hAL]; unfold edV; rw [if_pos ⟨ASK.out, EG.out⟩])
      have E2 := Aside0.mk (show xf = 0 by rw [XF.out]; unfold edE; rw [if_pos ASK.out, if_pos EG.out])
      clear hGL hAL hnx
      have z0 : wr.cell? ⟨w3.heap.size, 0, none⟩ = some (.int .u64 0) := (blk_cell X8.out 0).trans rfl
      have z1 : wr.cell? ⟨w3.heap.size, 1, none⟩ = some (.int .u64 nx) := (blk_cell X8.out 1).trans rfl
      have z2 : wr.cell? ⟨w3.heap.size, 2, none⟩ = some (.int .u64 0) := (blk_cell X8.out 2).trans rfl
      have z3 : wr.cell? ⟨w3.heap.size, 3, none⟩ = some (.slice B GL.length cb) := (blk_cell X8.out 3).trans rfl
      have z4 : wr.cell? ⟨w3.heap.size, 4, none⟩ = some (.slice B2 AL.length cb2) := (blk_cell X8.out 4).trans rfl
      go_wp2_with (first | (refine st_arr rfl 70 _ _ rfl g6 70 ?hx #[.int .u64 0, .int .u64 nx, .int .u64 0, .slice B GL.length cb, .slice B2 AL.length cb2] ?hy _ X6.out (by rw [size70]; rfl) rfl (by simp [Value.oneCell']) ?_; (case hx => rfl); (case hy => rfl); intro w5 hb5 hbb hk5 hs5; have HB5 := Aside0.mk (hbb _ _ (below_step HB3.out HB.out) (show w.heap.size ≤ g6 by have := N1.out; omega)); have X65 := Aside0.mk hb5; have RG5 := Aside0.mk (R84_other RG.out X6.out hk5); have RA5 := Aside0.mk (R82_other RA.out X6.out hk5); clear hb5 hbb hk5 hs5) | fail)
      have r0 : w5.cell? ⟨g6, 0, none⟩ = some (.int .u64 0) := (blk_cell X65.out 0).trans rfl
      have r1 : w5.cell? ⟨g6, 1, none⟩ = some (.int .u64 nx) := (blk_cell X65.out 1).trans rfl
      have r2 : w5.cell? ⟨g6, 2, none⟩ = some (.int .u64 0) := (blk_cell X65.out 2).trans rfl
      have r3 : w5.cell? ⟨g6, 3, none⟩ = some (.slice B GL.length cb) := (blk_cell X65.out 3).trans rfl
      have r4 : w5.cell? ⟨g6, 4, none⟩ = some (.slice B2 AL.length cb2) := (blk_cell X65.out 4).trans rfl
      exact bodyPost_ret (v := .tuple #[.agg #[.int .u64 0, .int .u64 nx, .int .u64 0, .slice B GL.length cb, .slice B2 AL.length cb2], .int .i64 0]) (by simp [results, Try.results48, go_sem, r0, r1, r2, r3, r4]) rfl ⟨B, cb, B2, cb2, by rw [E1.out, E2.out], by rw [E1.out]; exact Kd.R_lower RG5.out HB3.out.size, by rw [E1.out]; exact Kd.R_lower RA5.out HB3.out.size, HB5.out⟩
     | succ q =>
      have hk : k < out.length := by have := HKK.out; omega
      have HKL := Aside0.mk hk
      have d1 : decide ((k : Int) < (out.length : Int)) = true := decide_eq_true (by omega)
      have d2 : decide (k < out.length) = true := decide_eq_true hk
      have p0 : 0 ≤ (k : Int) := Int.natCast_nonneg _
      have p1 : (k : Int) < (out.length : Int) := by omega
      have ew : wrap64 ((k : Int) + 1) = ((k + 1 : Nat) : Int) := by have h1 := LT.out; unfold wrap64; omega
      obtain ⟨al, hal⟩ : ∃ a : Int, a = (ll : Int) + 1 := ⟨_, rfl⟩
      have ALQ := Aside0.mk hal
      have al0 : 0 ≤ al := by omega
      have al1 : al ≤ 4 := by have := LL3.out; omega
      have aq : (ll : Int) + 1 = al := hal.symm
      have aq2 : IntKind.i64.wrap al = al := by rw [IntKind.wrap_i64]; omega
      have aq3 : wrap64 al = al := by unfold wrap64; omega
      clear hal
      have CX := Kd.C_below H5.out (below_step HB3.out HB.out)
      obtain ⟨ad, ea, ha0, ha1, ha2, ha3, ha4, ha5, ha6⟩ := at_T58 CX (k : Int) p0 p1
      rw [Int.toNat_natCast] at ha0 ha1 ha2 ha3 ha4 ha5 ha6
      have EM := Aside0.mk (show rd_T58 out (k : Int) = out.getD k z58 by unfold rd_T58; rw [Int.toNat_natCast])
      generalize rd_T58 out (k : Int) = m at *
      have TS := Aside0.mk (show out.take (k + 1) = out.take k ++ [m] by rw [take_snoc out z58 hk, ← EM.out])
      have MIN := Aside0.mk (show m ∈ out by rw [EM.out]; exact getD_mem out z58 hk)
      obtain ⟨AD, hAD⟩ : ∃ a, a = addL (ll : Int) (out.take k) := ⟨_, rfl⟩
      rw [← hAD] at X8 RA
      have ADQ := Aside0.mk hAD
      have LAD := Aside0.mk (show AD.length ≤ 100000000 by rw [hAD, addL, List.length_map, List.length_take]; have := LT.out; omega)
      obtain ⟨nx, hnx⟩ : ∃ n, n = nxtL v (out.take k) := ⟨_, rfl⟩
      rw [← hnx] at X8
      have NXS := Aside0.mk (show 1 ≤ m.f0 → nxtL v (out.take (k + 1)) = if v.next ≤ m.f0 ∧ nx ≤ m.f0 then m.f0 + 1 else nx from fun h => by rw [TS.out, nxtL_snoc VN.out _ m h, hnx])
      rw [ea]
      have HAX := Aside0.mk ea
      clear ea hk CX hAD hnx
      have hb1 := (Below.refl wr.heap.size wr).alloc (Nat.le_refl _) (.cells (mCs m) 58)
      have HB1 := Aside0.mk (below_step HB.out hb1)
      have XM1 := Aside0.mk (blk_new wr (.cells (mCs m) 58))
      have X21 := Aside0.mk (blk_below X2.out hb1)
      have X41 := Aside0.mk (blk_below X4.out hb1)
      have X61 := Aside0.mk (blk_below X6.out hb1)
      have X81 := Aside0.mk (blk_below X8.out hb1)
      have X141 := Aside0.mk (X14.out.below hb1)
      have RG1 := Aside0.mk (Kd.R_below RG.out hb1)
      have RA1 := Aside0.mk (Kd.R_below RA.out hb1)
      clear hb1
      have mm0 : (wr.alloc (.cells (mCs m) 58)).cell? ⟨wr.heap.size, 0, none⟩ = some (.int .u64 m.f0) := (blk_cell XM1.out 0).trans rfl
      have mm1 : (wr.alloc (.cells (mCs m) 58)).cell? ⟨wr.heap.size, 1, none⟩ = some (.int .i64 m.f1) := (blk_cell XM1.out 1).trans rfl
      have mm2 : (wr.alloc (.cells (mCs m) 58)).cell? ⟨wr.heap.size, 2, none⟩ = some (.int .i64 m.f2) := (blk_cell XM1.out 2).trans rfl
      have mm3 : (wr.alloc (.cells (mCs m) 58)).cell? ⟨wr.heap.size, 3, none⟩ = some (.string m.f3) := (blk_cell XM1.out 3).trans rfl
      have mm4 : (wr.alloc (.cells (mCs m) 58)).cell? ⟨wr.heap.size, 4, none⟩ = some (.string m.f4) := (blk_cell XM1.out 4).trans rfl
      have mm5 : (wr.alloc (.cells (mCs m) 58)).cell? ⟨wr.heap.size, 5, none⟩ = some (.int .u64 m.f5) := (blk_cell XM1.out 5).trans rfl
      have mm6 : (wr.alloc (.cells (mCs m) 58)).cell? ⟨wr.heap.size, 6, none⟩ = some (.int .u64 m.f6) := (blk_cell XM1.out 6).trans rfl
      have ss3 : (wr.alloc (.cells (mCs m) 58)).cell? ⟨g14, 3, none⟩ = some (.string sp.f3) := (blk_cell X141.out 3).trans rfl
      have ss4 : (wr.alloc (.cells (mCs m) 58)).cell? ⟨g14, 4, none⟩ = some (.string sp.f4) := (blk_cell X141.out 4).trans rfl
      have vn1 : (wr.alloc (.cells (mCs m) 58)).cell? ⟨w.heap.size, 1, none⟩ = some (.int .u64 v.next) := (blk_cell X21.out 1).trans rfl
      have zn1 : (wr.alloc (.cells (mCs m) 58)).cell? ⟨w3.heap.size, 1, none⟩ = some (.int .u64 nx) := (blk_cell X81.out 1).trans rfl
      cases hokc : ok with
      | false =>
       subst hokc
       have BAD := Aside0.mk (show ¬ edG v (ll : Int) In Ov out from fun h => (h.2 m MIN.out).1 (by have h1 := OKQ.out; cases hq : (In ++ Ov) with | nil => rfl | cons a b => (have h2 := (spanO_some (In ++ Ov)).mpr (by rw [hq]; simp); rw [← h1] at h2; cases h2)))
       have HBF := Aside0.mk (below_step HB3.out HB1.out)
       have E1 := Aside0.mk (show xe = zE from by rw [XE.out]; unfold edV; rw [if_neg (fun h => BAD.out h.2)])
       have E2 := Aside0.mk (show xf = 11 from by rw [XF.out]; unfold edE; rw [if_pos ASK.out, if_neg BAD.out])
       go_wp2_with (first | (refine st_arr rfl 70 _ _ rfl g6 70 ?hx #[.int .u64 0, .int .u64 0, .int .u64 0, .slice none 0 0, .slice none 0 0] ?hy _ X61.out (by rw [size70]; rfl) rfl (by simp [Value.oneCell']) ?_; (case hx => rfl); (case hy => rfl); intro w5 hb5 hbb hk5 hs5; have HB5 := Aside0.mk (hbb _ _ HBF.out (show w.heap.size ≤ g6 by have := N1.out; omega)); have X65 := Aside0.mk hb5; clear hb5 hbb hk5 hs5) | fail)
       have r0 : w5.cell? ⟨g6, 0, none⟩ = some (.int .u64 0) := (blk_cell X65.out 0).trans rfl
       have r1 : w5.cell? ⟨g6, 1, none⟩ = some (.int .u64 0) := (blk_cell X65.out 1).trans rfl
       have r2 : w5.cell? ⟨g6, 2, none⟩ = some (.int .u64 0) := (blk_cell X65.out 2).trans rfl
       have r3 : w5.cell? ⟨g6, 3, none⟩ = some (.slice none 0 0) := (blk_cell X65.out 3).trans rfl
       have r4 : w5.cell? ⟨g6, 4, none⟩ = some (.slice none 0 0) := (blk_cell X65.out 4).trans rfl
       exact bodyPost_ret (v := .tuple #[.agg #[.int .u64 0, .int .u64 0, .int .u64 0, .slice none 0 0, .slice none 0 0], .int .i64 11]) (by simp [results, Try.results48, go_sem, r0, r1, r2, r3, r4]) rfl ⟨none, 0, none, 0, by rw [E1.out, E2.out]; rfl, by rw [E1.out]; exact Kd.R_nil _ _ _ _ _, by rw [E1.out]; exact Kd.R_nil _ _ _ _ _, HB5.out⟩
      | true =>
       have HNE := Aside0.mk (show In ++ Ov ≠ [] from fun h => by have h1 := OKQ.out; rw [hokc, h] at h1; cases h1)
       subst hokc
       cases hf : Op.bytesLess m.f3.toList sp.f3.toList with
       | true =>
        have BAD := Aside0.mk (show ¬ edG v (ll : Int) In Ov out from fun h => by have h1 := (h.2 m MIN.out).2.1; rw [← SQ.out, hf] at h1; cases h1)
        have HBF := Aside0.mk (below_step HB3.out HB1.out)
        have E1 := Aside0.mk (show xe = zE from by rw [XE.out]; unfold edV; rw [if_neg (fun h => BAD.out h.2)])
        have E2 := Aside0.mk (show xf = 11 from by rw [XF.out]; unfold edE; rw [if_pos ASK.out, if_neg BAD.out])
        go_wp2_with (first | (refine st_arr rfl 70 _ _ rfl g6 70 ?hx #[.int .u64 0, .int .u64 0, .int .u64 0, .slice none 0 0, .slice none 0 0] ?hy _ X61.out (by rw [size70]; rfl) rfl (by simp [Value.oneCell']) ?_; (case hx => rfl); (case hy => rfl); intro w5 hb5 hbb hk5 hs5; have HB5 := Aside0.mk (hbb _ _ HBF.out (show w.heap.size ≤ g6 by have := N1.out; omega)); have X65 := Aside0.mk hb5; clear hb5 hbb hk5 hs5) | fail)
        have r0 : w5.cell? ⟨g6, 0, none⟩ = some (.int .u64 0) := (blk_cell X65.out 0).trans rfl
        have r1 : w5.cell? ⟨g6, 1, none⟩ = some (.int .u64 0) := (blk_cell X65.out 1).trans rfl
        have r2 : w5.cell? ⟨g6, 2, none⟩ = some (.int .u64 0) := (blk_cell X65.out 2).trans rfl
        have r3 : w5.cell? ⟨g6, 3, none⟩ = some (.slice none 0 0) := (blk_cell X65.out 3).trans rfl
        have r4 : w5.cell? ⟨g6, 4, none⟩ = some (.slice none 0 0) := (blk_cell X65.out 4).trans rfl
        exact bodyPost_ret (v := .tuple #[.agg #[.int .u64 0, .int .u64 0, .int .u64 0, .slice none 0 0, .slice none 0 0], .int .i64 11]) (by simp [results, Try.results48, go_sem, r0, r1, r2, r3, r4]) rfl ⟨none, 0, none, 0, by rw [E1.out, E2.out]; rfl, by rw [E1.out]; exact Kd.R_nil _ _ _ _ _, by rw [E1.out]; exact Kd.R_nil _ _ _ _ _, HB5.out⟩
       | false =>
        cases hg : Op.bytesLess sp.f4.toList m.f4.toList with
        | true =>
         have p9 : ¬ (Op.bytesLess m.f4.toList sp.f4.toList = true ∨ m.f4.toList = sp.f4.toList) := fun h_ => by rw [le_less] at h_; rw [h_] at hg; cases hg
         have s9 : Op.bytesLess m.f4.toList sp.f4.toList = false := by cases hq : Op.bytesLess m.f4.toList sp.f4.toList with | false => rfl | true => exact absurd (.inl hq) p9
         have t9 : ¬ m.f4.toList = sp.f4.toList := fun h_ => p9 (.inr h_)
         have u9 : (m.f4.toList == sp.f4.toList) = false := beq_eq_false_iff_ne.mpr t9
         have r9 : (Op.bytesLess m.f4.toList sp.f4.toList || m.f4.toList == sp.f4.toList) = false := by rw [s9, u9]; rfl
         have BAD := Aside0.mk (show ¬ edG v (ll : Int) In Ov out from fun h => by have h1 := (h.2 m MIN.out).2.2.1; rw [← SQ.out, hg] at h1; cases h1)
         have HBF := Aside0.mk (below_step HB3.out HB1.out)
         have E1 := Aside0.mk (show xe = zE from by rw [XE.out]; unfold edV; rw [if_neg (fun h => BAD.out h.2)])
         have E2 := Aside0.mk (show xf = 11 from by rw [XF.out]; unfold edE; rw [if_pos ASK.out, if_neg BAD.out])
         go_wp2_with (first | (refine st_arr rfl 70 _ _ rfl g6 70 ?hx #[.int .u64 0, .int .u64 0, .int .u64 0, .slice none 0 0, .slice none 0 0] ?hy _ X61.out (by rw [size70]; rfl) rfl (by simp [Value.oneCell']) ?_; (case hx => rfl); (case hy => rfl); intro w5 hb5 hbb hk5 hs5; have HB5 := Aside0.mk (hbb _ _ HBF.out (show w.heap.size ≤ g6 by have := N1.out; omega)); have X65 := Aside0.mk hb5; clear hb5 hbb hk5 hs5) | fail)
         have r0 : w5.cell? ⟨g6, 0, none⟩ = some (.int .u64 0) := (blk_cell X65.out 0).trans rfl
         have r1 : w5.cell? ⟨g6, 1, none⟩ = some (.int .u64 0) := (blk_cell X65.out 1).trans rfl
         have r2 : w5.cell? ⟨g6, 2, none⟩ = some (.int .u64 0) := (blk_cell X65.out 2).trans rfl
         have r3 : w5.cell? ⟨g6, 3, none⟩ = some (.slice none 0 0) := (blk_cell X65.out 3).trans rfl
         have r4 : w5.cell? ⟨g6, 4, none⟩ = some (.slice none 0 0) := (blk_cell X65.out 4).trans rfl
         exact bodyPost_ret (v := .tuple #[.agg #[.int .u64 0, .int .u64 0, .int .u64 0, .slice none 0 0, .slice none 0 0], .int .i64 11]) (by simp [results, Try.results48, go_sem, r0, r1, r2, r3, r4]) rfl ⟨none, 0, none, 0, by rw [E1.out, E2.out]; rfl, by rw [E1.out]; exact Kd.R_nil _ _ _ _ _, by rw [E1.out]; exact Kd.R_nil _ _ _ _ _, HB5.out⟩
        | false =>
         have p9 : Op.bytesLess m.f4.toList sp.f4.toList = true ∨ m.f4.toList = sp.f4.toList := le_less.mpr hg
         have r9 : (Op.bytesLess m.f4.toList sp.f4.toList || m.f4.toList == sp.f4.toList) = true := by rw [Bool.or_eq_true, beq_iff_eq]; exact p9
         by_cases h1 : m.f0 < 1
         ·have t1 : decide (m.f0 < 1) = true := decide_eq_true h1
          have BAD := Aside0.mk (show ¬ edG v (ll : Int) In Ov out from fun h => by have h2 := (h.2 m MIN.out).2.2.2.1; omega)
          have HBF := Aside0.mk (below_step HB3.out HB1.out)
          have E1 := Aside0.mk (show xe = zE from by rw [XE.out]; unfold edV; rw [if_neg (fun h => BAD.out h.2)])
          have E2 := Aside0.mk (show xf = 11 from by rw [XF.out]; unfold edE; rw [if_pos ASK.out, if_neg BAD.out])
          go_wp2_with (first | (refine st_arr rfl 70 _ _ rfl g6 70 ?hx #[.int .u64 0, .int .u64 0, .int .u64 0, .slice none 0 0, .slice none 0 0] ?hy _ X61.out (by rw [size70]; rfl) rfl (by simp [Value.oneCell']) ?_; (case hx => rfl); (case hy => rfl); intro w5 hb5 hbb hk5 hs5; have HB5 := Aside0.mk (hbb _ _ HBF.out (show w.heap.size ≤ g6 by have := N1.out; omega)); have X65 := Aside0.mk hb5; clear hb5 hbb hk5 hs5) | fail)
          have r0 : w5.cell? ⟨g6, 0, none⟩ = some (.int .u64 0) := (blk_cell X65.out 0).trans rfl
          have r1 : w5.cell? ⟨g6, 1, none⟩ = some (.int .u64 0) := (blk_cell X65.out 1).trans rfl
          have r2 : w5.cell? ⟨g6, 2, none⟩ = some (.int .u64 0) := (blk_cell X65.out 2).trans rfl
          have r3 : w5.cell? ⟨g6, 3, none⟩ = some (.slice none 0 0) := (blk_cell X65.out 3).trans rfl
          have r4 : w5.cell? ⟨g6, 4, none⟩ = some (.slice none 0 0) := (blk_cell X65.out 4).trans rfl
          exact bodyPost_ret (v := .tuple #[.agg #[.int .u64 0, .int .u64 0, .int .u64 0, .slice none 0 0, .slice none 0 0], .int .i64 11]) (by simp [results, Try.results48, go_sem, r0, r1, r2, r3, r4]) rfl ⟨none, 0, none, 0, by rw [E1.out, E2.out]; rfl, by rw [E1.out]; exact Kd.R_nil _ _ _ _ _, by rw [E1.out]; exact Kd.R_nil _ _ _ _ _, HB5.out⟩
         ·have t1 : decide (m.f0 < 1) = false := decide_eq_false h1
          by_cases h2 : 99999998 < m.f0
          ·have t2 : decide (99999998 < m.f0) = true := decide_eq_true h2
           have BAD := Aside0.mk (show ¬ edG v (ll : Int) In Ov out from fun h => by have h3 := (h.2 m MIN.out).2.2.2.2; omega)
           have HBF := Aside0.mk (below_step HB3.out HB1.out)
           have E1 := Aside0.mk (show xe = zE from by rw [XE.out]; unfold edV; rw [if_neg (fun h => BAD.out h.2)])
           have E2 := Aside0.mk (show xf = 11 from by rw [XF.out]; unfold edE; rw [if_pos ASK.out, if_neg BAD.out])
           go_wp2_with (first | (refine st_arr rfl 70 _ _ rfl g6 70 ?hx #[.int .u64 0, .int .u64 0, .int .u64 0, .slice none 0 0, .slice none 0 0] ?hy _ X61.out (by rw [size70]; rfl) rfl (by simp [Value.oneCell']) ?_; (case hx => rfl); (case hy => rfl); intro w5 hb5 hbb hk5 hs5; have HB5 := Aside0.mk (hbb _ _ HBF.out (show w.heap.size ≤ g6 by have := N1.out; omega)); have X65 := Aside0.mk hb5; clear hb5 hbb hk5 hs5) | fail)
           have r0 : w5.cell? ⟨g6, 0, none⟩ = some (.int .u64 0) := (blk_cell X65.out 0).trans rfl
           have r1 : w5.cell? ⟨g6, 1, none⟩ = some (.int .u64 0) := (blk_cell X65.out 1).trans rfl
           have r2 : w5.cell? ⟨g6, 2, none⟩ = some (.int .u64 0) := (blk_cell X65.out 2).trans rfl
           have r3 : w5.cell? ⟨g6, 3, none⟩ = some (.slice none 0 0) := (blk_cell X65.out 3).trans rfl
           have r4 : w5.cell? ⟨g6, 4, none⟩ = some (.slice none 0 0) := (blk_cell X65.out 4).trans rfl
           exact bodyPost_ret (v := .tuple #[.agg #[.int .u64 0, .int .u64 0, .int .u64 0, .slice none 0 0, .slice none 0 0], .int .i64 11]) (by simp [results, Try.results48, go_sem, r0, r1, r2, r3, r4]) rfl ⟨none, 0, none, 0, by rw [E1.out, E2.out]; rfl, by rw [E1.out]; exact Kd.R_nil _ _ _ _ _, by rw [E1.out]; exact Kd.R_nil _ _ _ _ _, HB5.out⟩
          ·have t2 : decide (99999998 < m.f0) = false := decide_eq_false h2
           have CAME := Aside0.mk (show cameP (In ++ Ov) m from ⟨HNE.out, by rw [← SQ.out]; exact hf, by rw [← SQ.out]; exact hg, by omega, by omega⟩)
           have NXE0 := Aside0.mk (NXS.out (by omega))
           have ewn : IntKind.u64.wrap (m.f0 + 1) = m.f0 + 1 := by rw [IntKind.wrap_u64]; omega
           clear hg
           by_cases h3 : v.next ≤ m.f0
           ·have t3 : decide (v.next ≤ m.f0) = true := decide_eq_true h3
            by_cases h4 : nx ≤ m.f0
            ·have t4 : decide (nx ≤ m.f0) = true := decide_eq_true h4
             have NXE := Aside0.mk (show nxtL v (out.take (k + 1)) = m.f0 + 1 by rw [NXE0.out, if_pos ⟨h3, h4⟩])
             clear h1 h2 h3 h4
             have X8x := Aside0.mk (five_set (cs' := #[.int .u64 0, .int .u64 (m.f0 + 1), .int .u64 0, .slice B (goneL (ll : Int) In Ov (In ++ Ov).length).length cb, .slice B2 AD.length cb2]) X81.out (j := 1) (.int .u64 (m.f0 + 1)) rfl)
             have X14x := Aside0.mk (blk_far X141.out (p := ⟨w3.heap.size, 1, none⟩) (show g14 ≠ w3.heap.size by have := NG14.out; omega) (.int .u64 (m.f0 + 1)))
             have RGx := Aside0.mk (Kd.R_mono (Kd.R_set RG1.out X81.out (by intro x hx; simp [show k84.E = [] from rfl] at hx; omega) 1 (.int .u64 (m.f0 + 1))) (fun _ hk => hk))
             have RAx := Aside0.mk (Kd.R_mono (Kd.R_set RA1.out X81.out (by intro x hx; simp [show k82.E = [] from rfl] at hx; omega) 1 (.int .u64 (m.f0 + 1))) (fun _ hk => hk))
             have HBx := Aside0.mk (below_set (j := 1) (v := .int .u64 (m.f0 + 1)) HB1.out (Nat.le_refl _))
             have X4x := Aside0.mk (blk_below X43.out HBx.out)
             have XMx := Aside0.mk (blk_far XM1.out (p := ⟨w3.heap.size, 1, none⟩) (show wr.heap.size ≠ w3.heap.size by have := blk_lt X8.out; omega) (.int .u64 (m.f0 + 1)))
             have f81 := blk_frozen X81.out 1
             go_upto_region 25 with (fail)
             clear f81 mm0 mm1 mm2 mm3 mm4 mm5 mm6 ss3 ss4 vn1 zn1
             generalize ((wr.alloc (.cells (mCs m) 58)).setCell ⟨w3.heap.size, 1, none⟩ (.int .u64 (m.f0 + 1))) = wx at *
             have mx0 : wx.cell? ⟨wr.heap.size, 0, none⟩ = some (.int .u64 m.f0) := (blk_cell XMx.out 0).trans rfl
             have mx1 : wx.cell? ⟨wr.heap.size, 1, none⟩ = some (.int .i64 m.f1) := (blk_cell XMx.out 1).trans rfl
             have mx2 : wx.cell? ⟨wr.heap.size, 2, none⟩ = some (.int .i64 m.f2) := (blk_cell XMx.out 2).trans rfl
             have mx3 : wx.cell? ⟨wr.heap.size, 3, none⟩ = some (.string m.f3) := (blk_cell XMx.out 3).trans rfl
             have mx4 : wx.cell? ⟨wr.heap.size, 4, none⟩ = some (.string m.f4) := (blk_cell XMx.out 4).trans rfl
             have mx5 : wx.cell? ⟨wr.heap.size, 5, none⟩ = some (.int .u64 m.f5) := (blk_cell XMx.out 5).trans rfl
             have mx6 : wx.cell? ⟨wr.heap.size, 6, none⟩ = some (.int .u64 m.f6) := (blk_cell XMx.out 6).trans rfl
             have yx0 : wx.cell? ⟨g4, 0, none⟩ = some (.int .i64 (ll : Int)) := (blk_cell X4x.out 0).trans rfl
             have zx4 : wx.cell? ⟨w3.heap.size, 4, none⟩ = some (.slice B2 AD.length cb2) := (blk_cell X8x.out 4).trans rfl
             go_wp2_with (first | ((with_reducible refine gate_builtin (b := .append) (xs := #[.tmp 135, .tmp 141]) rfl ?_); at_builtin; refine Kd.R_append k82 (w0 := w3) w3.heap.size rfl (.tmp 135) (.tmp 141) 68 82 (.agg #[(.int .i64 0), (.int .u64 0), (.int .i64 0), (.int .i64 0), (.string ⟨#[]⟩), (.string ⟨#[]⟩), (.int .u64 0), (.int .u64 0)]) 80 rfl Try.underlying68 info82 rfl (show 0 < 8 by decide) (show 0 < 80 by decide) (.slice B2 AD.length cb2) (AD) (⟨al, m⟩ : S82) [.int .i64 al, .int .u64 m.f0, .int .i64 m.f1, .int .i64 m.f2, .string m.f3, .string m.f4, .int .u64 m.f5, .int .u64 m.f6] (fun _ => True) (fun _ => False) rfl rfl ?aPa (fun _ hk => hk.elim) ?aFa ?aOa ?aBa ?aSa ?aLa ?_; (case aPa => exact k82_mkM _ _ _ (⟨al, m⟩ : S82)); (case aBa => exact HBx.out); (case aFa => exact (fun _ _ => trivial)); (case aOa => exact RAx.out); (case aSa => exact Below.size (HBx.out)); (case aLa => (have h1 := LAD.out; omega)); intro va wa ho hb hg hat; have HBa := Aside0.mk hb; have X8a := Aside0.mk (blk_grown X8x.out hg (Kd.R_ne RAx.out X8x.out (by decide))); have X14a := Aside0.mk (blk_grown X14x.out hg (Kd.R_ne RAx.out X14x.out (by decide))); have RGa := Aside0.mk (Kd.R_over RGx.out RAx.out (by intro x hx; simp [show k84.E = [] from rfl] at hx; omega) hg); have hc8 : wa.cell? ⟨w3.heap.size, 4, none⟩ = some (.slice B2 AD.length cb2) := (blk_cell X8a.out 4).trans rfl; have hf8 := blk_frozen X8a.out 4; obtain ⟨AD2, hA2⟩ : ∃ A2, A2 = AD ++ [(⟨al, m⟩ : S82)] := ⟨_, rfl⟩; rw [← hA2] at ho; have AQ2 := Aside0.mk hA2; clear hA2; obtain ⟨B3, cb3, hv⟩ := Kd.R_slice ho; subst hv; have HRa := Aside0.mk ho; clear ho hb hg hat) | fail)
             have HBn := Aside0.mk (below_set (j := 4) (v := .slice B3 AD2.length cb3) HBa.out (Nat.le_refl _))
             have X8n := Aside0.mk (five_set (cs' := #[.int .u64 0, .int .u64 (m.f0 + 1), .int .u64 0, .slice B (goneL (ll : Int) In Ov (In ++ Ov).length).length cb, .slice B3 AD2.length cb3]) X8a.out (j := 4) (.slice B3 AD2.length cb3) rfl)
             have X14n := Aside0.mk (blk_far X14a.out (p := ⟨w3.heap.size, 4, none⟩) (show g14 ≠ w3.heap.size by have := NG14.out; omega) (.slice B3 AD2.length cb3))
             have RGn := Aside0.mk (Kd.R_mono (Kd.R_set RGa.out X8a.out (by intro x hx; simp [show k84.E = [] from rfl] at hx; omega) 4 (.slice B3 AD2.length cb3)) (fun _ hk => hk))
             have RAn := Aside0.mk (Kd.R_mono (Kd.R_set HRa.out X8a.out (by intro x hx; simp [show k82.E = [] from rfl] at hx; omega) 4 (.slice B3 AD2.length cb3)) (fun _ hk => hk))
             have AD2E := Aside0.mk (show addL (ll : Int) (out.take (k + 1)) = AD2 by rw [TS.out, addL_snoc, ← ADQ.out, AQ2.out, ALQ.out])
             try rw [ew]
             try rw [← HAX.out]
             clear ew aq aq2 aq3 ewn
             go_roundg q
             case measure => omega
             case rel => exact ⟨k + 1, B3, cb3, rfl, ⟨by have := HKK.out; omega⟩, HBn, by rw [AD2E.out, NXE.out]; exact X8n, X14n, RGn, by rw [AD2E.out]; exact RAn, by exact ⟨fun i hi => by
              by_cases e : i = k
              ·subst e; rw [← EM.out]; exact CAME.out
              ·exact CP.out i (by omega)⟩⟩
            ·have t4 : decide (nx ≤ m.f0) = false := decide_eq_false h4
             have NXE := Aside0.mk (show nxtL v (out.take (k + 1)) = nx by rw [NXE0.out, if_neg (fun h => h4 h.2)])
             clear h1 h2 h3 h4
             have X8x := X81
             have X14x := X141
             have RGx := RG1
             have RAx := RA1
             have HBx := HB1
             have X4x := X41
             have XMx := XM1
             have f81 := blk_frozen X81.out 1
             go_upto_region 25 with (fail)
             clear f81 mm0 mm1 mm2 mm3 mm4 mm5 mm6 ss3 ss4 vn1 zn1
             generalize (wr.alloc (.cells (mCs m) 58)) = wx at *
             have mx0 : wx.cell? ⟨wr.heap.size, 0, none⟩ = some (.int .u64 m.f0) := (blk_cell XMx.out 0).trans rfl
             have mx1 : wx.cell? ⟨wr.heap.size, 1, none⟩ = some (.int .i64 m.f1) := (blk_cell XMx.out 1).trans rfl
             have mx2 : wx.cell? ⟨wr.heap.size, 2, none⟩ = some (.int .i64 m.f2) := (blk_cell XMx.out 2).trans rfl
             have mx3 : wx.cell? ⟨wr.heap.size, 3, none⟩ = some (.string m.f3) := (blk_cell XMx.out 3).trans rfl
             have mx4 : wx.cell? ⟨wr.heap.size, 4, none⟩ = some (.string m.f4) := (blk_cell XMx.out 4).trans rfl
             have mx5 : wx.cell? ⟨wr.heap.size, 5, none⟩ = some (.int .u64 m.f5) := (blk_cell XMx.out 5).trans rfl
             have mx6 : wx.cell? ⟨wr.heap.size, 6, none⟩ = some (.int .u64 m.f6) := (blk_cell XMx.out 6).trans rfl
             have yx0 : wx.cell? ⟨g4, 0, none⟩ = some (.int .i64 (ll : Int)) := (blk_cell X4x.out 0).trans rfl
             have zx4 : wx.cell? ⟨w3.heap.size, 4, none⟩ = some (.slice B2 AD.length cb2) := (blk_cell X8x.out 4).trans rfl
             go_wp2_with (first | ((with_reducible refine gate_builtin (b := .append) (xs := #[.tmp 135, .tmp 141]) rfl ?_); at_builtin; refine Kd.R_append k82 (w0 := w3) w3.heap.size rfl (.tmp 135) (.tmp 141) 68 82 (.agg #[(.int .i64 0), (.int .u64 0), (.int .i64 0), (.int .i64 0), (.string ⟨#[]⟩), (.string ⟨#[]⟩), (.int .u64 0), (.int .u64 0)]) 80 rfl Try.underlying68 info82 rfl (show 0 < 8 by decide) (show 0 < 80 by decide) (.slice B2 AD.length cb2) (AD) (⟨al, m⟩ : S82) [.int .i64 al, .int .u64 m.f0, .int .i64 m.f1, .int .i64 m.f2, .string m.f3, .string m.f4, .int .u64 m.f5, .int .u64 m.f6] (fun _ => True) (fun _ => False) rfl rfl ?aPa (fun _ hk => hk.elim) ?aFa ?aOa ?aBa ?aSa ?aLa ?_; (case aPa => exact k82_mkM _ _ _ (⟨al, m⟩ : S82)); (case aBa => exact HBx.out); (case aFa => exact (fun _ _ => trivial)); (case aOa => exact RAx.out); (case aSa => exact Below.size (HBx.out)); (case aLa => (have h1 := LAD.out; omega)); intro va wa ho hb hg hat; have HBa := Aside0.mk hb; have X8a := Aside0.mk (blk_grown X8x.out hg (Kd.R_ne RAx.out X8x.out (by decide))); have X14a := Aside0.mk (blk_grown X14x.out hg (Kd.R_ne RAx.out X14x.out (by decide))); have RGa := Aside0.mk (Kd.R_over RGx.out RAx.out (by intro x hx; simp [show k84.E = [] from rfl] at hx; omega) hg); have hc8 : wa.cell? ⟨w3.heap.size, 4, none⟩ = some (.slice B2 AD.length cb2) := (blk_cell X8a.out 4).trans rfl; have hf8 := blk_frozen X8a.out 4; obtain ⟨AD2, hA2⟩ : ∃ A2, A2 = AD ++ [(⟨al, m⟩ : S82)] := ⟨_, rfl⟩; rw [← hA2] at ho; have AQ2 := Aside0.mk hA2; clear hA2; obtain ⟨B3, cb3, hv⟩ := Kd.R_slice ho; subst hv; have HRa := Aside0.mk ho; clear ho hb hg hat) | fail)
             have HBn := Aside0.mk (below_set (j := 4) (v := .slice B3 AD2.length cb3) HBa.out (Nat.le_refl _))
             have X8n := Aside0.mk (five_set (cs' := #[.int .u64 0, .int .u64 nx, .int .u64 0, .slice B (goneL (ll : Int) In Ov (In ++ Ov).length).length cb, .slice B3 AD2.length cb3]) X8a.out (j := 4) (.slice B3 AD2.length cb3) rfl)
             have X14n := Aside0.mk (blk_far X14a.out (p := ⟨w3.heap.size, 4, none⟩) (show g14 ≠ w3.heap.size by have := NG14.out; omega) (.slice B3 AD2.length cb3))
             have RGn := Aside0.mk (Kd.R_mono (Kd.R_set RGa.out X8a.out (by intro x hx; simp [show k84.E = [] from rfl] at hx; omega) 4 (.slice B3 AD2.length cb3)) (fun _ hk => hk))
             have RAn := Aside0.mk (Kd.R_mono (Kd.R_set HRa.out X8a.out (by intro x hx; simp [show k82.E = [] from rfl] at hx; omega) 4 (.slice B3 AD2.length cb3)) (fun _ hk => hk))
             have AD2E := Aside0.mk (show addL (ll : Int) (out.take (k + 1)) = AD2 by rw [TS.out, addL_snoc, ← ADQ.out, AQ2.out, ALQ.out])
             try rw [ew]
             try rw [← HAX.out]
             clear ew aq aq2 aq3 ewn
             go_roundg q
             case measure => omega
             case rel => exact ⟨k + 1, B3, cb3, rfl, ⟨by have := HKK.out; omega⟩, HBn, by rw [AD2E.out, NXE.out]; exact X8n, X14n, RGn, by rw [AD2E.out]; exact RAn, by exact ⟨fun i hi => by
              by_cases e : i = k
              ·subst e; rw [← EM.out]; exact CAME.out
              ·exact CP.out i (by omega)⟩⟩
           ·have t3 : decide (v.next ≤ m.f0) = false := decide_eq_false h3
            have NXE := Aside0.mk (show nxtL v (out.take (k + 1)) = nx by rw [NXE0.out, if_neg (fun h => h3 h.1)])
            clear h1 h2 h3
            have X8x := X81
            have X14x := X141
            have RGx := RG1
            have RAx := RA1
            have HBx := HB1
            have X4x := X41
            have XMx := XM1
            have f81 := blk_frozen X81.out 1
            go_upto_region 25 with (fail)
            clear f81 mm0 mm1 mm2 mm3 mm4 mm5 mm6 ss3 ss4 vn1 zn1
            generalize (wr.alloc (.cells (mCs m) 58)) = wx at *
            have mx0 : wx.cell? ⟨wr.heap.size, 0, none⟩ = some (.int .u64 m.f0) := (blk_cell XMx.out 0).trans rfl
            have mx1 : wx.cell? ⟨wr.heap.size, 1, none⟩ = some (.int .i64 m.f1) := (blk_cell XMx.out 1).trans rfl
            have mx2 : wx.cell? ⟨wr.heap.size, 2, none⟩ = some (.int .i64 m.f2) := (blk_cell XMx.out 2).trans rfl
            have mx3 : wx.cell? ⟨wr.heap.size, 3, none⟩ = some (.string m.f3) := (blk_cell XMx.out 3).trans rfl
            have mx4 : wx.cell? ⟨wr.heap.size, 4, none⟩ = some (.string m.f4) := (blk_cell XMx.out 4).trans rfl
            have mx5 : wx.cell? ⟨wr.heap.size, 5, none⟩ = some (.int .u64 m.f5) := (blk_cell XMx.out 5).trans rfl
            have mx6 : wx.cell? ⟨wr.heap.size, 6, none⟩ = some (.int .u64 m.f6) := (blk_cell XMx.out 6).trans rfl
            have yx0 : wx.cell? ⟨g4, 0, none⟩ = some (.int .i64 (ll : Int)) := (blk_cell X4x.out 0).trans rfl
            have zx4 : wx.cell? ⟨w3.heap.size, 4, none⟩ = some (.slice B2 AD.length cb2) := (blk_cell X8x.out 4).trans rfl
            go_wp2_with (first | ((with_reducible refine gate_builtin (b := .append) (xs := #[.tmp 135, .tmp 141]) rfl ?_); at_builtin; refine Kd.R_append k82 (w0 := w3) w3.heap.size rfl (.tmp 135) (.tmp 141) 68 82 (.agg #[(.int .i64 0), (.int .u64 0), (.int .i64 0), (.int .i64 0), (.string ⟨#[]⟩), (.string ⟨#[]⟩), (.int .u64 0), (.int .u64 0)]) 80 rfl Try.underlying68 info82 rfl (show 0 < 8 by decide) (show 0 < 80 by decide) (.slice B2 AD.length cb2) (AD) (⟨al, m⟩ : S82) [.int .i64 al, .int .u64 m.f0, .int .i64 m.f1, .int .i64 m.f2, .string m.f3, .string m.f4, .int .u64 m.f5, .int .u64 m.f6] (fun _ => True) (fun _ => False) rfl rfl ?aPa (fun _ hk => hk.elim) ?aFa ?aOa ?aBa ?aSa ?aLa ?_; (case aPa => exact k82_mkM _ _ _ (⟨al, m⟩ : S82)); (case aBa => exact HBx.out); (case aFa => exact (fun _ _ => trivial)); (case aOa => exact RAx.out); (case aSa => exact Below.size (HBx.out)); (case aLa => (have h1 := LAD.out; omega)); intro va wa ho hb hg hat; have HBa := Aside0.mk hb; have X8a := Aside0.mk (blk_grown X8x.out hg (Kd.R_ne RAx.out X8x.out (by decide))); have X14a := Aside0.mk (blk_grown X14x.out hg (Kd.R_ne RAx.out X14x.out (by decide))); have RGa := Aside0.mk (Kd.R_over RGx.out RAx.out (by intro x hx; simp [show k84.E = [] from rfl] at hx; omega) hg); have hc8 : wa.cell? ⟨w3.heap.size, 4, none⟩ = some (.slice B2 AD.length cb2) := (blk_cell X8a.out 4).trans rfl; have hf8 := blk_frozen X8a.out 4; obtain ⟨AD2, hA2⟩ : ∃ A2, A2 = AD ++ [(⟨al, m⟩ : S82)] := ⟨_, rfl⟩; rw [← hA2] at ho; have AQ2 := Aside0.mk hA2; clear hA2; obtain ⟨B3, cb3, hv⟩ := Kd.R_slice ho; subst hv; have HRa := Aside0.mk ho; clear ho hb hg hat) | fail)
            have HBn := Aside0.mk (below_set (j := 4) (v := .slice B3 AD2.length cb3) HBa.out (Nat.le_refl _))
            have X8n := Aside0.mk (five_set (cs' := #[.int .u64 0, .int .u64 nx, .int .u64 0, .slice B (goneL (ll : Int) In Ov (In ++ Ov).length).length cb, .slice B3 AD2.length cb3]) X8a.out (j := 4) (.slice B3 AD2.length cb3) rfl)
            have X14n := Aside0.mk (blk_far X14a.out (p := ⟨w3.heap.size, 4, none⟩) (show g14 ≠ w3.heap.size by have := NG14.out; omega) (.slice B3 AD2.length cb3))
            have RGn := Aside0.mk (Kd.R_mono (Kd.R_set RGa.out X8a.out (by intro x hx; simp [show k84.E = [] from rfl] at hx; omega) 4 (.slice B3 AD2.length cb3)) (fun _ hk => hk))
            have RAn := Aside0.mk (Kd.R_mono (Kd.R_set HRa.out X8a.out (by intro x hx; simp [show k82.E = [] from rfl] at hx; omega) 4 (.slice B3 AD2.length cb3)) (fun _ hk => hk))
            have AD2E := Aside0.mk (show addL (ll : Int) (out.take (k + 1)) = AD2 by rw [TS.out, addL_snoc, ← ADQ.out, AQ2.out, ALQ.out])
            try rw [ew]
            try rw [← HAX.out]
            clear ew aq aq2 aq3 ewn
            go_roundg q
            case measure => omega
            case rel => exact ⟨k + 1, B3, cb3, rfl, ⟨by have := HKK.out; omega⟩, HBn, by rw [AD2E.out, NXE.out]; exact X8n, X14n, RGn, by rw [AD2E.out]; exact RAn, by exact ⟨fun i hi => by
             by_cases e : i = k
             ·subst e; rw [← EM.out]; exact CAME.out
             ·exact CP.out i (by omega)⟩⟩
   | succ q =>
    have hi : i = 0 ∨ i = 1 := by have := HK.out; omega
    rcases hi with rfl | rfl
    ·(have HBk := HB; skip)
     replace X8 : Aside0 (wr.heap[w3.heap.size]? = some (.cells #[.int .u64 0, .int .u64 0, .int .u64 0, .slice B (goneL (ll : Int) In Ov 0).length cb, .slice none 0 0] 70 (0, 0))) := X8
     replace RG : Aside0 (Kd.R k84 84 wr w3.heap.size (fun k => k ≠ w3.heap.size + 1) (.slice B (goneL (ll : Int) In Ov 0).length cb) (goneL (ll : Int) In Ov 0)) := RG
     replace CM : Aside0 (Cnt wr (w3.heap.size + 1) ((In ++ Ov).take 0).length (cntF ((In ++ Ov).take 0))) := CM
     replace GP : Aside0 (goneP v (ll : Int) In Ov 0) := GP
     clear HBk
     have HJ4 := Aside0.mk (show ll < 4 by have := LL3.out; omega)
     have HJN := Aside0.mk (show ll = ll + 0 from rfl)
     have jn0 : 0 ≤ (ll : Int) := Int.natCast_nonneg _
     have jn1 : (ll : Int) < 4 := by have := HJ4.out; omega
     have jq2 : IntKind.i64.wrap (ll : Int) = (ll : Int) := by rw [IntKind.wrap_i64]; have := HJ4.out; omega
     have jq3 : wrap64 (ll : Int) = (ll : Int) := by unfold wrap64; have := HJ4.out; omega
     have jq := trivial
     go_wp2_with fail
     go_loopg [13, 35] In.length (fun kq v13 v35 w' => ∃ (j : Nat) (B : Option Addr) (cb : Nat), v35 = .int .i64 (j : Int) ∧ Aside0 (kq + j = In.length) ∧ Aside0 (Below w3.heap.size w3 w') ∧ Aside0 (w'.heap[w3.heap.size]? = some (.cells #[.int .u64 0, .int .u64 0, .int .u64 0, .slice B (goneL (ll : Int) In Ov j).length cb, .slice none 0 0] 70 (0, 0))) ∧ Aside0 (Kd.R k84 84 w' w3.heap.size (fun k => k ≠ w3.heap.size + 1) (.slice B (goneL (ll : Int) In Ov j).length cb) (goneL (ll : Int) In Ov j)) ∧ Aside0 (Cnt w' (w3.heap.size + 1) ((In ++ Ov).take j).length (cntF ((In ++ Ov).take j))) ∧ Aside0 (goneP v (ll : Int) In Ov j))
     case atStart => exact ⟨0, B, cb, rfl, ⟨by omega⟩, HB, X8, RG, CM, GP⟩
     case round =>
      clear HB X8 RG CM GP
      obtain ⟨j, B, cb, rfl, HJJ, HB, X8, RG, CM, GP⟩ := hrel
      have X2 := Aside0.mk (blk_below X23.out HB.out)
      have X4 := Aside0.mk (blk_below X43.out HB.out)
      have X6 := Aside0.mk (blk_below X63.out HB.out)
      cases gk with
      | zero =>
       have ej : j = In.length := by have := HJJ.out; omega
       subst ej
       have d1 : decide ((In.length : Int) < (In.length : Int)) = false := by simp
       clear jq jq2 jq3
       go_wp2_with fail
       go_roundg q
       case measure => omega
       case rel => exact ⟨1, B, cb, rfl, ⟨by have := HK.out; omega⟩, HB, X8, RG, CM, GP⟩
      | succ q1 =>
       have hk : j < In.length := by have := HJJ.out; omega
       have HJL := Aside0.mk hk
       have d1 : decide ((j : Int) < (In.length : Int)) = true := decide_eq_true (by omega)
       have d2 : decide (j < In.length) = true := decide_eq_true hk
       have p0 : 0 ≤ (j : Int) := Int.natCast_nonneg _
       have p1 : (j : Int) < (In.length : Int) := by omega
       have ew : wrap64 ((j : Int) + 1) = ((j + 1 : Nat) : Int) := by have h1 := LI.out; unfold wrap64; omega
       have CX := Kd.C_below H1.out (below_step HB3.out HB.out)
       obtain ⟨ad, ea, ha0, ha1, ha2, ha3, ha4, ha5, ha6⟩ := at_T58 CX (j : Int) p0 p1
       rw [Int.toNat_natCast] at ha0 ha1 ha2 ha3 ha4 ha5 ha6
       have EM0 := Aside0.mk (show rd_T58 In (j : Int) = In.getD j z58 by unfold rd_T58; rw [Int.toNat_natCast])
       generalize rd_T58 In (j : Int) = m at *
       have MWF := Aside0.mk (show 0 ≤ m.f0 ∧ m.f0 ≤ 18446744073709551615 from WI.out m (by rw [EM0.out]; exact getD_mem In z58 hk))
       have KL := Aside0.mk (show j < (In ++ Ov).length by rw [List.length_append]; omega)
       have EM := Aside0.mk (show (In ++ Ov).getD (j) z58 = m by rw [EM0.out, List.getD_eq_getElem?_getD, List.getD_eq_getElem?_getD]; rw [List.getElem?_append_left hk])
       have LVQ := Aside0.mk (show lvOf (ll : Int) In (j) = (ll : Int) by unfold lvOf; rw [if_pos hk])
       have GS := Aside0.mk (goneL_snoc (ll : Int) In Ov (j))
       rw [EM.out, LVQ.out] at GS
       obtain ⟨P, hP⟩ : ∃ P, P = (In ++ Ov).take (j) := ⟨_, rfl⟩
       rw [← hP] at CM
       have PQ := Aside0.mk hP
       have PS := Aside0.mk (show (In ++ Ov).take (j + 1) = P ++ [m] by rw [take_snoc _ z58 KL.out, ← hP, EM.out])
       have LP := Aside0.mk (show P.length ≤ 300000000 by rw [hP, List.length_take, List.length_append]; have := LI.out; have := LO.out; omega)
       have GPS := Aside0.mk (goneP_succ (v := v) (lev := (ll : Int)) KL.out)
       rw [EM.out, LVQ.out, ← hP, Int.toNat_natCast] at GPS
       obtain ⟨G, hG⟩ : ∃ G, G = goneL (ll : Int) In Ov (j) := ⟨_, rfl⟩
       rw [← hG] at RG X8 GS
       have GQ := Aside0.mk hG
       have LG := Aside0.mk (show G.length ≤ 300000000 by rw [hG, goneL_len]; have := LI.out; have := LO.out; omega)
       clear hP hG hk CX
       rw [ea]
       have HAX := Aside0.mk ea
       clear ea
       have hb1 := (Below.refl wr.heap.size wr).alloc (Nat.le_refl _) (.cells (mCs m) 58)
       have HB1 := Aside0.mk (below_step HB.out hb1)
       have CM1 := Aside0.mk (CM.out.below hb1)
       have XM1 := Aside0.mk (blk_new wr (.cells (mCs m) 58))
       have X21 := Aside0.mk (blk_below X2.out hb1)
       have X41 := Aside0.mk (blk_below X4.out hb1)
       have X61 := Aside0.mk (blk_below X6.out hb1)
       have X81 := Aside0.mk (blk_below X8.out hb1)
       have RG1 := Aside0.mk (Kd.R_below RG.out hb1)
       have NM := Aside0.mk (show some wr.heap.size ≠ some (w3.heap.size + 1) from fun e => by injection e with e; have := CM.out.lt; omega)
       have NB1 := Aside0.mk (show some w.heap.size ≠ some (w3.heap.size + 1) from fun e => by injection e with e; have := HB3.out.size; omega)
       have NB2 := Aside0.mk (show some g4 ≠ some (w3.heap.size + 1) from fun e => by injection e with e; have := blk_lt X43.out; omega)
       have NB3 := Aside0.mk (show some g6 ≠ some (w3.heap.size + 1) from fun e => by injection e with e; have := blk_lt X63.out; omega)
       have NB4 := Aside0.mk (show some w3.heap.size ≠ some (w3.heap.size + 1) from fun e => by injection e with e; omega)
       have hlk := CM1.out.look (k := m.f0) (wf_u64 MWF.out.1 MWF.out.2)
       have kc0 := (cntF_le P m.f0).1
       have kc1 : cntF P m.f0 ≤ 300000000 := by have := (cntF_le P m.f0).2; have := LP.out; omega
       have CE := Aside0.mk (cnt_snoc P m)
       have CP := Aside0.mk (cntF_pos P m.f0)
       obtain ⟨cc, hcc⟩ : ∃ c, cntF P m.f0 = c := ⟨_, rfl⟩
       rw [hcc] at hlk kc0 kc1 CE CP
       have ew1 : wrap64 (cc + 1) = cc + 1 := by unfold wrap64; omega
       have ew2 : IntKind.i64.wrap (cc + 1) = cc + 1 := by rw [IntKind.wrap_i64]; omega
       have F2 := Aside0.mk (show cntF (P ++ [m]) m.f0 = cc + 1 by rw [← CE.out]; exact if_pos rfl)
       clear hcc hb1
       have mm0 : (wr.alloc (.cells (mCs m) 58)).cell? ⟨wr.heap.size, 0, none⟩ = some (.int .u64 m.f0) := (blk_cell XM1.out 0).trans rfl
       have mm1 : (wr.alloc (.cells (mCs m) 58)).cell? ⟨wr.heap.size, 1, none⟩ = some (.int .i64 m.f1) := (blk_cell XM1.out 1).trans rfl
       have mm2 : (wr.alloc (.cells (mCs m) 58)).cell? ⟨wr.heap.size, 2, none⟩ = some (.int .i64 m.f2) := (blk_cell XM1.out 2).trans rfl
       have mm3 : (wr.alloc (.cells (mCs m) 58)).cell? ⟨wr.heap.size, 3, none⟩ = some (.string m.f3) := (blk_cell XM1.out 3).trans rfl
       have mm4 : (wr.alloc (.cells (mCs m) 58)).cell? ⟨wr.heap.size, 4, none⟩ = some (.string m.f4) := (blk_cell XM1.out 4).trans rfl
       have mm5 : (wr.alloc (.cells (mCs m) 58)).cell? ⟨wr.heap.size, 5, none⟩ = some (.int .u64 m.f5) := (blk_cell XM1.out 5).trans rfl
       have mm6 : (wr.alloc (.cells (mCs m) 58)).cell? ⟨wr.heap.size, 6, none⟩ = some (.int .u64 m.f6) := (blk_cell XM1.out 6).trans rfl
       obtain ⟨nn, hnn⟩ : ∃ nn, nn = P.length + 1 := ⟨_, rfl⟩
       by_cases hin : 1 ≤ cc
       ·have t3 : decide (1 < cc + 1) = true := decide_eq_true (by omega)
        have t4 : decide (0 < cc) = true := decide_eq_true (by omega)
        have BAD := Aside0.mk (show ¬ edG v (ll : Int) In Ov out from fun h => (GPS.out.mp (goneP_pre h.1 (show j + 1 ≤ (In ++ Ov).length from KL.out))).2.2 (CP.out.mp hin))
        clear hin
        go_wp2_with (first | (at_mapUpdate; refine cnt_put _ rfl _ _ _ rfl rfl CM1.out (by have := LP.out; unfold maxLen; omega) m.f0 (cc + 1) rfl rfl (wf_u64 MWF.out.1 MWF.out.2) (by omega) (by omega) ?_; intro w5 ho hg; rw [CE.out] at ho; have HBm := Aside0.mk (pw_below_grown HB1.out (some (w3.heap.size + 1)) HB1.out.size hg (fun k hk => by cases hk; omega)); have X2m := Aside0.mk (blk_grown X21.out hg NB1.out); have X4m := Aside0.mk (blk_grown X41.out hg NB2.out); have X6m := Aside0.mk (blk_grown X61.out hg NB3.out); have X8m := Aside0.mk (blk_grown X81.out hg NB4.out); have XMm := Aside0.mk (blk_grown XM1.out hg NM.out); have RGm := Aside0.mk (Kd.R_grown RG1.out hg (fun k hk => by intro e; injection e with e; exact hk e)); have CMm := Aside0.mk ho; clear ho hg) | fail)
        rw [← hnn] at CMm
        have NNQ := Aside0.mk hnn
        clear hnn
        refine start_ (n := 17) (S := (fun w' => Below w5.heap.size w5 w' ∧ w'.heap[w.heap.size]? = some (.cells (vCs v p) 26 (0, 0)) ∧ w'.heap[g4]? = some (.cells #[.int .i64 (ll : Int), .slice A1 In.length c1, .slice A2 Ov.length c2] 52 (0, 0)) ∧ w'.heap[wr.heap.size]? = some (.cells (mCs m) 58 (0, 0)) ∧ Cnt w' (w3.heap.size + 1) nn (cntF (P ++ [m])))) (ds := []) #[false, false, false, false, false, false, false, false, false, false, false, false, false, false, false, false, false] (by kernel_rfl) rfl rfl ⟨below_drew (Below.refl _ _), blk_drew X2m.out, blk_drew X4m.out, blk_drew XMm.out, CMm.out.below (below_drew (Below.refl _ _))⟩ (fun hHeld => ?_)
        refine pure_ (i := 0) (N := (some 44)) (v := ?_) (a' := ?_) #[true, false, false, false, false, false, false, false, false, false, false, false, false, false, false, false, false] rfl rfl (by kernel_rfl) (fun _ _ _ h => h) (Or.inl ⟨by rfl, ?_⟩) ?_ ?_
        rotate_left
        ·intro w'
         go_simp
         with_reducible rfl
        rotate_left
        ·simp only [Act.put, List.setIfInBounds_toArray, List.set_cons_zero, List.set_cons_succ, i64_w, i32_w]
         rfl
        refine pure_ (i := 1) (N := (some 45)) (v := ?_) (a' := ?_) #[true, true, false, false, false, false, false, false, false, false, false, false, false, false, false, false, false] rfl rfl (by kernel_rfl) (fun _ _ _ h => h) (Or.inl ⟨by rfl, ?_⟩) ?_ ?_
        rotate_left
        ·intro w'
         go_simp
         with_reducible rfl
        rotate_left
        ·simp only [Act.put, List.setIfInBounds_toArray, List.set_cons_zero, List.set_cons_succ, i64_w, i32_w]
         rfl
        refine take_ (i := 2) (N := (some 46)) (v := ?_) (a' := ?_) #[true, true, true, false, false, false, false, false, false, false, false, false, false, false, false, false, false] rfl rfl (by kernel_rfl) (fun _ _ _ h => h) (Or.inl ⟨by rfl, ?_⟩) hHeld ?_ ?_
        rotate_left
        ·rintro w' ⟨s0, s1, s2, s3, s4⟩
         have q0 : w'.cell? ⟨wr.heap.size, 0, none⟩ = some (.int .u64 m.f0) := (blk_cell s3 0).trans rfl
         have q1 : w'.cell? ⟨wr.heap.size, 1, none⟩ = some (.int .i64 m.f1) := (blk_cell s3 1).trans rfl
         have q2 : w'.cell? ⟨wr.heap.size, 2, none⟩ = some (.int .i64 m.f2) := (blk_cell s3 2).trans rfl
         have q3 : w'.cell? ⟨wr.heap.size, 3, none⟩ = some (.string m.f3) := (blk_cell s3 3).trans rfl
         have q4 : w'.cell? ⟨wr.heap.size, 4, none⟩ = some (.string m.f4) := (blk_cell s3 4).trans rfl
         have q5 : w'.cell? ⟨wr.heap.size, 5, none⟩ = some (.int .u64 m.f5) := (blk_cell s3 5).trans rfl
         have q6 : w'.cell? ⟨wr.heap.size, 6, none⟩ = some (.int .u64 m.f6) := (blk_cell s3 6).trans rfl
         go_simp
         with_reducible rfl
        rotate_left
        ·simp only [Act.put, List.setIfInBounds_toArray, List.set_cons_zero, List.set_cons_succ, i64_w, i32_w]
         rfl
        refine take_ (i := 3) (N := (some 47)) (v := ?_) (a' := ?_) #[true, true, true, true, false, false, false, false, false, false, false, false, false, false, false, false, false] rfl rfl (by kernel_rfl) (fun _ _ _ h => h) (Or.inl ⟨by rfl, ?_⟩) hHeld ?_ ?_
        rotate_left
        ·rintro w' ⟨s0, s1, s2, s3, s4⟩
         have hl_ := s4.look (k := m.f0) (wf_u64 MWF.out.1 MWF.out.2)
         rw [F2.out] at hl_
         go_simp
         with_reducible rfl
        rotate_left
        ·simp only [Act.put, List.setIfInBounds_toArray, List.set_cons_zero, List.set_cons_succ, i64_w, i32_w]
         rfl
        refine pure_ (i := 4) (N := (some 48)) (v := ?_) (a' := ?_) #[true, true, true, true, true, false, false, false, false, false, false, false, false, false, false, false, false] rfl rfl (by kernel_rfl) (fun _ _ _ h => h) (Or.inl ⟨by rfl, ?_⟩) ?_ ?_
        rotate_left
        ·intro w'
         go_simp
         with_reducible rfl
        rotate_left
        ·simp only [Act.put, List.setIfInBounds_toArray, List.set_cons_zero, List.set_cons_succ, i64_w, i32_w]
         rfl
        refine pure_ (i := 5) (N := (some 49)) (v := ?_) (a' := ?_) #[true, true, true, true, true, true, false, false, false, false, false, false, false, false, false, false, false] rfl rfl (by kernel_rfl) (fun _ _ _ h => h) (Or.inl ⟨by rfl, ?_⟩) ?_ ?_
        rotate_left
        ·intro w'
         go_simp
         with_reducible rfl
        rotate_left
        ·simp only [Act.put, List.setIfInBounds_toArray, List.set_cons_zero, List.set_cons_succ, i64_w, i32_w]
         rfl
        refine pure_ (i := 6) (N := (some 50)) (v := undef) (a' := ?_) #[true, true, true, true, true, true, true, false, false, false, false, false, false, false, false, false, false] rfl rfl (by kernel_rfl) (fun _ _ _ h => h) (Or.inr ⟨by rfl, rfl⟩) ?_ ?_
        rotate_left
        ·simp only [Act.put, List.setIfInBounds_toArray, List.set_cons_zero, List.set_cons_succ, i64_w, i32_w]
         rfl
        refine pure_ (i := 7) (N := (some 51)) (v := undef) (a' := ?_) #[true, true, true, true, true, true, true, true, false, false, false, false, false, false, false, false, false] rfl rfl (by kernel_rfl) (fun _ _ _ h => h) (Or.inr ⟨by rfl, rfl⟩) ?_ ?_
        rotate_left
        ·simp only [Act.put, List.setIfInBounds_toArray, List.set_cons_zero, List.set_cons_succ, i64_w, i32_w]
         rfl
        refine pure_ (i := 8) (N := (some 52)) (v := undef) (a' := ?_) #[true, true, true, true, true, true, true, true, true, false, false, false, false, false, false, false, false] rfl rfl (by kernel_rfl) (fun _ _ _ h => h) (Or.inr ⟨by rfl, rfl⟩) ?_ ?_
        rotate_left
        ·simp only [Act.put, List.setIfInBounds_toArray, List.set_cons_zero, List.set_cons_succ, i64_w, i32_w]
         rfl
        refine pure_ (i := 9) (N := (some 53)) (v := undef) (a' := ?_) #[true, true, true, true, true, true, true, true, true, true, false, false, false, false, false, false, false] rfl rfl (by kernel_rfl) (fun _ _ _ h => h) (Or.inr ⟨by rfl, rfl⟩) ?_ ?_
        rotate_left
        ·simp only [Act.put, List.setIfInBounds_toArray, List.set_cons_zero, List.set_cons_succ, i64_w, i32_w]
         rfl
        refine pure_ (i := 10) (N := (some 54)) (v := undef) (a' := ?_) #[true, true, true, true, true, true, true, true, true, true, true, false, false, false, false, false, false] rfl rfl (by kernel_rfl) (fun _ _ _ h => h) (Or.inr ⟨by rfl, rfl⟩) ?_ ?_
        rotate_left
        ·simp only [Act.put, List.setIfInBounds_toArray, List.set_cons_zero, List.set_cons_succ, i64_w, i32_w]
         rfl
        refine pure_ (i := 11) (N := (some 55)) (v := undef) (a' := ?_) #[true, true, true, true, true, true, true, true, true, true, true, true, false, false, false, false, false] rfl rfl (by kernel_rfl) (fun _ _ _ h => h) (Or.inr ⟨by rfl, rfl⟩) ?_ ?_
        rotate_left
        ·simp only [Act.put, List.setIfInBounds_toArray, List.set_cons_zero, List.set_cons_succ, i64_w, i32_w]
         rfl
        refine pure_ (i := 12) (N := (some 56)) (v := undef) (a' := ?_) #[true, true, true, true, true, true, true, true, true, true, true, true, true, false, false, false, false] rfl rfl (by kernel_rfl) (fun _ _ _ h => h) (Or.inr ⟨by rfl, rfl⟩) ?_ ?_
        rotate_left
        ·simp only [Act.put, List.setIfInBounds_toArray, List.set_cons_zero, List.set_cons_succ, i64_w, i32_w]
         rfl
        refine pure_ (i := 13) (N := (some 57)) (v := undef) (a' := ?_) #[true, true, true, true, true, true, true, true, true, true, true, true, true, true, false, false, false] rfl rfl (by kernel_rfl) (fun _ _ _ h => h) (Or.inr ⟨by rfl, rfl⟩) ?_ ?_
        rotate_left
        ·simp only [Act.put, List.setIfInBounds_toArray, List.set_cons_zero, List.set_cons_succ, i64_w, i32_w]
         rfl
        refine pure_ (i := 14) (N := (some 58)) (v := undef) (a' := ?_) #[true, true, true, true, true, true, true, true, true, true, true, true, true, true, true, false, false] rfl rfl (by kernel_rfl) (fun _ _ _ h => h) (Or.inr ⟨by rfl, rfl⟩) ?_ ?_
        rotate_left
        ·simp only [Act.put, List.setIfInBounds_toArray, List.set_cons_zero, List.set_cons_succ, i64_w, i32_w]
         rfl
        refine pure_ (i := 15) (N := (some 59)) (v := undef) (a' := ?_) #[true, true, true, true, true, true, true, true, true, true, true, true, true, true, true, true, false] rfl rfl (by kernel_rfl) (fun _ _ _ h => h) (Or.inr ⟨by rfl, rfl⟩) ?_ ?_
        rotate_left
        ·simp only [Act.put, List.setIfInBounds_toArray, List.set_cons_zero, List.set_cons_succ, i64_w, i32_w]
         rfl
        refine pure_ (i := 16) (N := (some 60)) (v := ?_) (a' := ?_) #[true, true, true, true, true, true, true, true, true, true, true, true, true, true, true, true, true] rfl rfl (by kernel_rfl) (fun _ _ _ h => h) (Or.inl ⟨by rfl, ?_⟩) ?_ ?_
        rotate_left
        ·intro w'
         go_simp
         with_reducible rfl
        rotate_left
        ·simp only [Act.put, List.setIfInBounds_toArray, List.set_cons_zero, List.set_cons_succ, i64_w, i32_w]
         rfl
        refine done_ (by kernel_rfl) ?_
        have X69 := Aside0.mk (blk_below X6m.out hHeld.1)
        have HB9 := Aside0.mk (below_step HB3.out (below_step HBm.out hHeld.1))
        clear hHeld
        have E1 := Aside0.mk (show xe = zE from by rw [XE.out]; unfold edV; rw [if_neg (fun h => BAD.out h.2)])
        have E2 := Aside0.mk (show xf = 11 from by rw [XF.out]; unfold edE; rw [if_pos ASK.out, if_neg BAD.out])
        go_wp2_with (first | (refine st_arr rfl 70 _ _ rfl g6 70 ?hx #[.int .u64 0, .int .u64 0, .int .u64 0, .slice none 0 0, .slice none 0 0] ?hy _ X69.out (by rw [size70]; rfl) rfl (by simp [Value.oneCell']) ?_; (case hx => rfl); (case hy => rfl); intro w5 hb5 hbb hk5 hs5; have HB5 := Aside0.mk (hbb _ _ HB9.out (show w.heap.size ≤ g6 by have := N1.out; omega)); have X65 := Aside0.mk hb5; clear hb5 hbb hk5 hs5) | fail)
        have r0 : w5.cell? ⟨g6, 0, none⟩ = some (.int .u64 0) := (blk_cell X65.out 0).trans rfl
        have r1 : w5.cell? ⟨g6, 1, none⟩ = some (.int .u64 0) := (blk_cell X65.out 1).trans rfl
        have r2 : w5.cell? ⟨g6, 2, none⟩ = some (.int .u64 0) := (blk_cell X65.out 2).trans rfl
        have r3 : w5.cell? ⟨g6, 3, none⟩ = some (.slice none 0 0) := (blk_cell X65.out 3).trans rfl
        have r4 : w5.cell? ⟨g6, 4, none⟩ = some (.slice none 0 0) := (blk_cell X65.out 4).trans rfl
        exact bodyPost_ret (v := .tuple #[.agg #[.int .u64 0, .int .u64 0, .int .u64 0, .slice none 0 0, .slice none 0 0], .int .i64 11]) (by simp [results, Try.results48, go_sem, r0, r1, r2, r3, r4]) rfl ⟨none, 0, none, 0, by rw [E1.out, E2.out]; rfl, by rw [E1.out]; exact Kd.R_nil _ _ _ _ _, by rw [E1.out]; exact Kd.R_nil _ _ _ _ _, HB5.out⟩
       ·have t3 : decide (1 < cc + 1) = false := decide_eq_false (by omega)
        have t4 : decide (0 < cc) = false := decide_eq_false (by omega)
        have NIN := Aside0.mk (show m.f0 ∉ nums P from fun h => hin (CP.out.mpr h))
        clear hin
        go_wp2_with (first | (at_mapUpdate; refine cnt_put _ rfl _ _ _ rfl rfl CM1.out (by have := LP.out; unfold maxLen; omega) m.f0 (cc + 1) rfl rfl (wf_u64 MWF.out.1 MWF.out.2) (by omega) (by omega) ?_; intro w5 ho hg; rw [CE.out] at ho; have HBm := Aside0.mk (pw_below_grown HB1.out (some (w3.heap.size + 1)) HB1.out.size hg (fun k hk => by cases hk; omega)); have X2m := Aside0.mk (blk_grown X21.out hg NB1.out); have X4m := Aside0.mk (blk_grown X41.out hg NB2.out); have X6m := Aside0.mk (blk_grown X61.out hg NB3.out); have X8m := Aside0.mk (blk_grown X81.out hg NB4.out); have XMm := Aside0.mk (blk_grown XM1.out hg NM.out); have RGm := Aside0.mk (Kd.R_grown RG1.out hg (fun k hk => by intro e; injection e with e; exact hk e)); have CMm := Aside0.mk ho; clear ho hg) | fail)
        rw [← hnn] at CMm
        have NNQ := Aside0.mk hnn
        clear hnn
        have KCN := Aside0.mk (show ∀ w9, Below w5.heap.size w5 w9 → Calls Try.prog 99 #[.slice (p.a ll) (v.lv ll).length (p.c ll), .agg (mCs m)] w9 fun x w' => x = .returned (.bool (decide (m ∈ v.lv ll))) ∧ Below w9.heap.size w9 w' from fun w9 hb => contains_calls w9 (p.a ll) (p.c ll) (v.lv ll) m (((HC.out.below (below_step HB3.out HBm.out)).below hb) ll HJ4.out).1)
        refine start_ (n := 17) (S := (fun w' => Below w5.heap.size w5 w' ∧ w'.heap[w.heap.size]? = some (.cells (vCs v p) 26 (0, 0)) ∧ w'.heap[g4]? = some (.cells #[.int .i64 (ll : Int), .slice A1 In.length c1, .slice A2 Ov.length c2] 52 (0, 0)) ∧ w'.heap[wr.heap.size]? = some (.cells (mCs m) 58 (0, 0)) ∧ Cnt w' (w3.heap.size + 1) nn (cntF (P ++ [m])))) (ds := []) #[false, false, false, false, false, false, false, false, false, false, false, false, false, false, false, false, false] (by kernel_rfl) rfl rfl ⟨below_drew (Below.refl _ _), blk_drew X2m.out, blk_drew X4m.out, blk_drew XMm.out, CMm.out.below (below_drew (Below.refl _ _))⟩ (fun hHeld => ?_)
        refine pure_ (i := 0) (N := (some 44)) (v := ?_) (a' := ?_) #[true, false, false, false, false, false, false, false, false, false, false, false, false, false, false, false, false] rfl rfl (by kernel_rfl) (fun _ _ _ h => h) (Or.inl ⟨by rfl, ?_⟩) ?_ ?_
        rotate_left
        ·intro w'
         go_simp
         with_reducible rfl
        rotate_left
        ·simp only [Act.put, List.setIfInBounds_toArray, List.set_cons_zero, List.set_cons_succ, i64_w, i32_w]
         rfl
        refine pure_ (i := 1) (N := (some 45)) (v := ?_) (a' := ?_) #[true, true, false, false, false, false, false, false, false, false, false, false, false, false, false, false, false] rfl rfl (by kernel_rfl) (fun _ _ _ h => h) (Or.inl ⟨by rfl, ?_⟩) ?_ ?_
        rotate_left
        ·intro w'
         go_simp
         with_reducible rfl
        rotate_left
        ·simp only [Act.put, List.setIfInBounds_toArray, List.set_cons_zero, List.set_cons_succ, i64_w, i32_w]
         rfl
        refine take_ (i := 2) (N := (some 46)) (v := ?_) (a' := ?_) #[true, true, true, false, false, false, false, false, false, false, false, false, false, false, false, false, false] rfl rfl (by kernel_rfl) (fun _ _ _ h => h) (Or.inl ⟨by rfl, ?_⟩) hHeld ?_ ?_
        rotate_left
        ·rintro w' ⟨s0, s1, s2, s3, s4⟩
         have q0 : w'.cell? ⟨wr.heap.size, 0, none⟩ = some (.int .u64 m.f0) := (blk_cell s3 0).trans rfl
         have q1 : w'.cell? ⟨wr.heap.size, 1, none⟩ = some (.int .i64 m.f1) := (blk_cell s3 1).trans rfl
         have q2 : w'.cell? ⟨wr.heap.size, 2, none⟩ = some (.int .i64 m.f2) := (blk_cell s3 2).trans rfl
         have q3 : w'.cell? ⟨wr.heap.size, 3, none⟩ = some (.string m.f3) := (blk_cell s3 3).trans rfl
         have q4 : w'.cell? ⟨wr.heap.size, 4, none⟩ = some (.string m.f4) := (blk_cell s3 4).trans rfl
         have q5 : w'.cell? ⟨wr.heap.size, 5, none⟩ = some (.int .u64 m.f5) := (blk_cell s3 5).trans rfl
         have q6 : w'.cell? ⟨wr.heap.size, 6, none⟩ = some (.int .u64 m.f6) := (blk_cell s3 6).trans rfl
         go_simp
         with_reducible rfl
        rotate_left
        ·simp only [Act.put, List.setIfInBounds_toArray, List.set_cons_zero, List.set_cons_succ, i64_w, i32_w]
         rfl
        refine take_ (i := 3) (N := (some 47)) (v := ?_) (a' := ?_) #[true, true, true, true, false, false, false, false, false, false, false, false, false, false, false, false, false] rfl rfl (by kernel_rfl) (fun _ _ _ h => h) (Or.inl ⟨by rfl, ?_⟩) hHeld ?_ ?_
        rotate_left
        ·rintro w' ⟨s0, s1, s2, s3, s4⟩
         have hl_ := s4.look (k := m.f0) (wf_u64 MWF.out.1 MWF.out.2)
         rw [F2.out] at hl_
         go_simp
         with_reducible rfl
        rotate_left
        ·simp only [Act.put, List.setIfInBounds_toArray, List.set_cons_zero, List.set_cons_succ, i64_w, i32_w]
         rfl
        refine pure_ (i := 4) (N := (some 48)) (v := ?_) (a' := ?_) #[true, true, true, true, true, false, false, false, false, false, false, false, false, false, false, false, false] rfl rfl (by kernel_rfl) (fun _ _ _ h => h) (Or.inl ⟨by rfl, ?_⟩) ?_ ?_
        rotate_left
        ·intro w'
         go_simp
         with_reducible rfl
        rotate_left
        ·simp only [Act.put, List.setIfInBounds_toArray, List.set_cons_zero, List.set_cons_succ, i64_w, i32_w]
         rfl
        refine pure_ (i := 5) (N := (some 49)) (v := ?_) (a' := ?_) #[true, true, true, true, true, true, false, false, false, false, false, false, false, false, false, false, false] rfl rfl (by kernel_rfl) (fun _ _ _ h => h) (Or.inl ⟨by rfl, ?_⟩) ?_ ?_
        rotate_left
        ·intro w'
         go_simp
         with_reducible rfl
        rotate_left
        ·simp only [Act.put, List.setIfInBounds_toArray, List.set_cons_zero, List.set_cons_succ, i64_w, i32_w]
         rfl
        refine pure_ (i := 6) (N := (some 50)) (v := ?_) (a' := ?_) #[true, true, true, true, true, true, true, false, false, false, false, false, false, false, false, false, false] rfl rfl (by kernel_rfl) (fun _ _ _ h => h) (Or.inl ⟨by rfl, ?_⟩) ?_ ?_
        rotate_left
        ·intro w'
         go_simp
         with_reducible rfl
        rotate_left
        ·simp only [Act.put, List.setIfInBounds_toArray, List.set_cons_zero, List.set_cons_succ, i64_w, i32_w]
         rfl
        refine take_ (i := 7) (N := (some 51)) (v := ?_) (a' := ?_) #[true, true, true, true, true, true, true, true, false, false, false, false, false, false, false, false, false] rfl rfl (by kernel_rfl) (fun _ _ _ h => h) (Or.inl ⟨by rfl, ?_⟩) hHeld ?_ ?_
        rotate_left
        ·rintro w' ⟨s0, s1, s2, s3, s4⟩
         have q0 : w'.cell? ⟨g4, 0, none⟩ = some (.int .i64 (ll : Int)) := (blk_cell s2 0).trans rfl
         go_simp
         with_reducible rfl
        rotate_left
        ·simp only [Act.put, List.setIfInBounds_toArray, List.set_cons_zero, List.set_cons_succ, i64_w, i32_w]
         rfl
        refine pure_ (i := 8) (N := (some 52)) (v := ?_) (a' := ?_) #[true, true, true, true, true, true, true, true, true, false, false, false, false, false, false, false, false] rfl rfl (by kernel_rfl) (fun _ _ _ h => h) (Or.inl ⟨by rfl, ?_⟩) ?_ ?_
        rotate_left
        ·intro w'
         go_simp
         with_reducible rfl
        rotate_left
        ·simp only [Act.put, List.setIfInBounds_toArray, List.set_cons_zero, List.set_cons_succ, i64_w, i32_w]
         rfl
        refine pure_ (i := 9) (N := (some 53)) (v := ?_) (a' := ?_) #[true, true, true, true, true, true, true, true, true, true, false, false, false, false, false, false, false] rfl rfl (by kernel_rfl) (fun _ _ _ h => h) (Or.inl ⟨by rfl, ?_⟩) ?_ ?_
        rotate_left
        ·intro w'
         go_simp
         with_reducible rfl
        rotate_left
        ·simp only [Act.put, List.setIfInBounds_toArray, List.set_cons_zero, List.set_cons_succ, i64_w, i32_w]
         rfl
        refine pure_ (i := 10) (N := (some 54)) (v := ?_) (a' := ?_) #[true, true, true, true, true, true, true, true, true, true, true, false, false, false, false, false, false] rfl rfl (by kernel_rfl) (fun _ _ _ h => h) (Or.inl ⟨by rfl, ?_⟩) ?_ ?_
        rotate_left
        ·intro w'
         go_simp
         with_reducible rfl
        rotate_left
        ·simp only [Act.put, List.setIfInBounds_toArray, List.set_cons_zero, List.set_cons_succ, i64_w, i32_w]
         rfl
        refine pure_ (i := 11) (N := (some 55)) (v := ?_) (a' := ?_) #[true, true, true, true, true, true, true, true, true, true, true, true, false, false, false, false, false] rfl rfl (by kernel_rfl) (fun _ _ _ h => h) (Or.inl ⟨by rfl, ?_⟩) ?_ ?_
        rotate_left
        ·intro w'
         go_simp
         with_reducible rfl
        rotate_left
        ·simp only [Act.put, List.setIfInBounds_toArray, List.set_cons_zero, List.set_cons_succ, i64_w, i32_w]
         rfl
        refine take_ (i := 12) (N := (some 56)) (v := ?_) (a' := ?_) #[true, true, true, true, true, true, true, true, true, true, true, true, true, false, false, false, false] rfl rfl (by kernel_rfl) (fun _ _ _ h => h) (Or.inl ⟨by rfl, ?_⟩) hHeld ?_ ?_
        rotate_left
        ·rintro w' ⟨s0, s1, s2, s3, s4⟩
         have hv_ := vcell s1 ll HJ4.out
         go_simp
         with_reducible rfl
        rotate_left
        ·simp only [Act.put, List.setIfInBounds_toArray, List.set_cons_zero, List.set_cons_succ, i64_w, i32_w]
         rfl
        refine take_ (i := 13) (N := (some 57)) (v := ?_) (a' := ?_) #[true, true, true, true, true, true, true, true, true, true, true, true, true, true, false, false, false] rfl rfl (by kernel_rfl) (fun _ _ _ h => h) (Or.inl ⟨by rfl, ?_⟩) hHeld ?_ ?_
        rotate_left
        ·rintro w' ⟨s0, s1, s2, s3, s4⟩
         have q0 : w'.cell? ⟨wr.heap.size, 0, none⟩ = some (.int .u64 m.f0) := (blk_cell s3 0).trans rfl
         have q1 : w'.cell? ⟨wr.heap.size, 1, none⟩ = some (.int .i64 m.f1) := (blk_cell s3 1).trans rfl
         have q2 : w'.cell? ⟨wr.heap.size, 2, none⟩ = some (.int .i64 m.f2) := (blk_cell s3 2).trans rfl
         have q3 : w'.cell? ⟨wr.heap.size, 3, none⟩ = some (.string m.f3) := (blk_cell s3 3).trans rfl
         have q4 : w'.cell? ⟨wr.heap.size, 4, none⟩ = some (.string m.f4) := (blk_cell s3 4).trans rfl
         have q5 : w'.cell? ⟨wr.heap.size, 5, none⟩ = some (.int .u64 m.f5) := (blk_cell s3 5).trans rfl
         have q6 : w'.cell? ⟨wr.heap.size, 6, none⟩ = some (.int .u64 m.f6) := (blk_cell s3 6).trans rfl
         go_simp
         with_reducible rfl
        rotate_left
        ·simp only [Act.put, List.setIfInBounds_toArray, List.set_cons_zero, List.set_cons_succ, i64_w, i32_w]
         rfl
        refine one_ (i := 14) (N := (some 58)) #[true, true, true, true, true, true, true, true, true, true, true, true, true, true, true, false, false] rfl rfl (by kernel_rfl) (by decide) (fun K hK => ?_)
        refine goes_ Try.func99 (by kernel_rfl) rfl #[.slice (p.a ll) (v.lv ll).length (p.c ll), .agg (mCs m)] (by rfl) rfl rfl (by (try simp only [List.map_toArray, List.map_cons, List.map_nil]); first | done | rfl) ?_
        (with_reducible refine (KCN.out _ hHeld.1).mono ?_)
        rintro e w7 ⟨rfl, hb⟩
        refine ⟨_, rfl, ?_⟩
        have hOld := hHeld
        clear hHeld
        refine hK.out _ _ (⟨below_step hOld.1 hb, blk_below hOld.2.1 hb, blk_below hOld.2.2.1 hb, blk_below hOld.2.2.2.1 hb, hOld.2.2.2.2.below hb⟩) (fun hHeld => ?_)
        clear hOld hK K
        refine norm_ (a' := ?_) ?_ ?_
        rotate_left
        ·show Act.put _ (some 58) _ = _
         simp only [Act.put, List.setIfInBounds_toArray, List.set_cons_zero, List.set_cons_succ, i64_w, i32_w]
         rfl
        refine pure_ (i := 15) (N := (some 59)) (v := ?_) (a' := ?_) #[true, true, true, true, true, true, true, true, true, true, true, true, true, true, true, true, false] rfl rfl (by kernel_rfl) (fun _ _ _ h => h) (Or.inl ⟨by rfl, ?_⟩) ?_ ?_
        rotate_left
        ·intro w'
         go_simp
         with_reducible rfl
        rotate_left
        ·simp only [Act.put, List.setIfInBounds_toArray, List.set_cons_zero, List.set_cons_succ, i64_w, i32_w]
         rfl
        refine pure_ (i := 16) (N := (some 60)) (v := ?_) (a' := ?_) #[true, true, true, true, true, true, true, true, true, true, true, true, true, true, true, true, true] rfl rfl (by kernel_rfl) (fun _ _ _ h => h) (Or.inl ⟨by rfl, ?_⟩) ?_ ?_
        rotate_left
        ·intro w'
         go_simp
         with_reducible rfl
        rotate_left
        ·simp only [Act.put, List.setIfInBounds_toArray, List.set_cons_zero, List.set_cons_succ, i64_w, i32_w]
         rfl
        refine done_ (by kernel_rfl) ?_
        have X29 := Aside0.mk (blk_below X2m.out hHeld.1)
        have X49 := Aside0.mk (blk_below X4m.out hHeld.1)
        have X69 := Aside0.mk (blk_below X6m.out hHeld.1)
        have X89 := Aside0.mk (blk_below X8m.out hHeld.1)
        have RG9 := Aside0.mk (Kd.R_below RGm.out hHeld.1)
        have XM9 := Aside0.mk hHeld.2.2.2.1
        have CM9 := Aside0.mk hHeld.2.2.2.2
        have HB9 := Aside0.mk (below_step HBm.out hHeld.1)
        clear hHeld KCN X2m X4m X6m X8m RGm XMm CMm HBm
        by_cases hin : m ∈ v.lv ll
        ·have GP2 := Aside0.mk (GPS.out.mpr ⟨GP.out, hin, NIN.out⟩)
         rw [decide_eq_true hin]
         clear hin mm0 mm1 mm2 mm3 mm4 mm5 mm6
         have NMZ := Aside0.mk (show w3.heap.size + 1 < w7.heap.size from CM9.out.lt)
         have mm0 : w7.cell? ⟨wr.heap.size, 0, none⟩ = some (.int .u64 m.f0) := (blk_cell XM9.out 0).trans rfl
         have y0 : w7.cell? ⟨g4, 0, none⟩ = some (.int .i64 (ll : Int)) := (blk_cell X49.out 0).trans rfl
         have z3 : w7.cell? ⟨w3.heap.size, 3, none⟩ = some (.slice B G.length cb) := (blk_cell X89.out 3).trans rfl
         go_wp2_with (first | ((with_reducible refine gate_builtin (b := .append) (xs := #[.tmp 63, .tmp 71]) rfl ?_); at_builtin; refine Kd.R_append k84 (w0 := w3) w3.heap.size rfl (.tmp 63) (.tmp 71) 67 84 (.agg #[(.int .i64 0), (.int .u64 0)]) 16 rfl Try.underlying67 info84 rfl (show 0 < 2 by decide) (show 0 < 16 by decide) (.slice B G.length cb) (G) (⟨(ll : Int), m.f0⟩ : S84) [.int .i64 (ll : Int), .int .u64 m.f0] (fun k => k ≠ w3.heap.size + 1) (fun _ => False) rfl rfl ?aPa (fun _ hk => hk.elim) ?aFa ?aOa ?aBa ?aSa ?aLa ?_; (case aPa => exact k84_mkM _ _ _ (⟨(ll : Int), m.f0⟩ : S84)); (case aBa => exact HB9.out); (case aFa => exact (fun k hk => by have := NMZ.out; omega)); (case aOa => exact RG9.out); (case aSa => exact Below.size (HB9.out)); (case aLa => (have h1 := LG.out; omega)); intro va wa ho hb hg hat; have HBa := Aside0.mk hb; have X8a := Aside0.mk (blk_grown X89.out hg (Kd.R_ne RG9.out X89.out (by decide))); have X6a := Aside0.mk (blk_grown X69.out hg (Kd.R_ne RG9.out X69.out (by decide))); have X2a := Aside0.mk (blk_grown X29.out hg (Kd.R_ne RG9.out X29.out (by decide))); have X4a := Aside0.mk (blk_grown X49.out hg (Kd.R_ne RG9.out X49.out (by decide))); have CMa := Aside0.mk (CM9.out.kept hg (Kd.R_away RG9.out (fun k hk => hk))); have hc8 : wa.cell? ⟨w3.heap.size, 3, none⟩ = some (.slice B G.length cb) := (blk_cell X8a.out 3).trans rfl; have hf8 := blk_frozen X8a.out 3; obtain ⟨G2, hG2⟩ : ∃ G2, G2 = G ++ [(⟨(ll : Int), m.f0⟩ : S84)] := ⟨_, rfl⟩; rw [← hG2] at ho; have GQ2 := Aside0.mk hG2; clear hG2; obtain ⟨B', cb', hv⟩ := Kd.R_slice ho; subst hv; have HRa := Aside0.mk ho; clear ho hb hg hat) | fail)
         have HBn := Aside0.mk (below_set (j := 3) (v := .slice B' G2.length cb') HBa.out (Nat.le_refl _))
         have X8n := Aside0.mk (five_set (cs' := #[.int .u64 0, .int .u64 0, .int .u64 0, .slice B' G2.length cb', .slice none 0 0]) X8a.out (j := 3) (.slice B' G2.length cb') rfl)
         have RGn := Aside0.mk (Kd.R_mono (Kd.R_set HRa.out X8a.out (by intro x hx; simp [show k84.E = [] from rfl] at hx; omega) 3 (.slice B' G2.length cb')) (fun _ hk => hk))
         have CMn := Aside0.mk (CMa.out.put_ (g := w3.heap.size) (by omega) 3 (.slice B' G2.length cb'))
         have G2E0 := Aside0.mk (show goneL (ll : Int) In Ov (j + 1) = G2 by rw [GS.out, GQ2.out])
         have G2E := Aside0.mk (show goneL (ll : Int) In Ov (j + 1) = G2 from G2E0.out)
         have PSE := Aside0.mk (show (In ++ Ov).take (j + 1) = P ++ [m] from PS.out)
         try rw [ew]
         try rw [← HAX.out]
         clear ew ew1 ew2 jq jq2 jq3
         go_roundg q1
         case measure => omega
         case rel => exact ⟨j + 1, B', cb', rfl, ⟨by have := HJJ.out; omega⟩, HBn, by rw [G2E.out]; exact X8n, by rw [G2E.out]; exact RGn, by rw [PSE.out, List.length_append]; exact ⟨by rw [NNQ.out] at CMn; exact CMn.out⟩, GP2⟩
        ·have BAD := Aside0.mk (show ¬ edG v (ll : Int) In Ov out from fun h => hin (GPS.out.mp (goneP_pre h.1 (show j + 1 ≤ (In ++ Ov).length from KL.out))).2.1)
         rw [decide_eq_false hin]
         have HBF := Aside0.mk (below_step HB3.out HB9.out)
         clear hin
         have E1 := Aside0.mk (show xe = zE from by rw [XE.out]; unfold edV; rw [if_neg (fun h => BAD.out h.2)])
         have E2 := Aside0.mk (show xf = 11 from by rw [XF.out]; unfold edE; rw [if_pos ASK.out, if_neg BAD.out])
         go_wp2_with (first | (refine st_arr rfl 70 _ _ rfl g6 70 ?hx #[.int .u64 0, .int .u64 0, .int .u64 0, .slice none 0 0, .slice none 0 0] ?hy _ X69.out (by rw [size70]; rfl) rfl (by simp [Value.oneCell']) ?_; (case hx => rfl); (case hy => rfl); intro w5 hb5 hbb hk5 hs5; have HB5 := Aside0.mk (hbb _ _ HBF.out (show w.heap.size ≤ g6 by have := N1.out; omega)); have X65 := Aside0.mk hb5; clear hb5 hbb hk5 hs5) | fail)
         have r0 : w5.cell? ⟨g6, 0, none⟩ = some (.int .u64 0) := (blk_cell X65.out 0).trans rfl
         have r1 : w5.cell? ⟨g6, 1, none⟩ = some (.int .u64 0) := (blk_cell X65.out 1).trans rfl
         have r2 : w5.cell? ⟨g6, 2, none⟩ = some (.int .u64 0) := (blk_cell X65.out 2).trans rfl
         have r3 : w5.cell? ⟨g6, 3, none⟩ = some (.slice none 0 0) := (blk_cell X65.out 3).trans rfl
         have r4 : w5.cell? ⟨g6, 4, none⟩ = some (.slice none 0 0) := (blk_cell X65.out 4).trans rfl
         exact bodyPost_ret (v := .tuple #[.agg #[.int .u64 0, .int .u64 0, .int .u64 0, .slice none 0 0, .slice none 0 0], .int .i64 11]) (by simp [results, Try.results48, go_sem, r0, r1, r2, r3, r4]) rfl ⟨none, 0, none, 0, by rw [E1.out, E2.out]; rfl, by rw [E1.out]; exact Kd.R_nil _ _ _ _ _, by rw [E1.out]; exact Kd.R_nil _ _ _ _ _, HB5.out⟩
    ·(have HBk := HB; skip)
     replace X8 : Aside0 (wr.heap[w3.heap.size]? = some (.cells #[.int .u64 0, .int .u64 0, .int .u64 0, .slice B (goneL (ll : Int) In Ov (In.length + 0)).length cb, .slice none 0 0] 70 (0, 0))) := X8
     replace RG : Aside0 (Kd.R k84 84 wr w3.heap.size (fun k => k ≠ w3.heap.size + 1) (.slice B (goneL (ll : Int) In Ov (In.length + 0)).length cb) (goneL (ll : Int) In Ov (In.length + 0))) := RG
     replace CM : Aside0 (Cnt wr (w3.heap.size + 1) ((In ++ Ov).take (In.length + 0)).length (cntF ((In ++ Ov).take (In.length + 0)))) := CM
     replace GP : Aside0 (goneP v (ll : Int) In Ov (In.length + 0)) := GP
     clear HBk
     obtain ⟨jn, hjn⟩ : ∃ jn : Nat, jn = ll + 1 := ⟨_, rfl⟩
     have HJN := Aside0.mk hjn
     have HJ4 := Aside0.mk (show jn < 4 by have := LL3.out; omega)
     have jn0 : 0 ≤ (jn : Int) := Int.natCast_nonneg _
     have jn1 : (jn : Int) < 4 := by have := HJ4.out; omega
     have jq : (ll : Int) + 1 = (jn : Int) := by omega
     have jq2 : IntKind.i64.wrap (jn : Int) = (jn : Int) := by rw [IntKind.wrap_i64]; have := HJ4.out; omega
     have jq3 : wrap64 (jn : Int) = (jn : Int) := by unfold wrap64; have := HJ4.out; omega
     clear hjn
     go_wp2_with fail
     go_loopg [13, 35] Ov.length (fun kq v13 v35 w' => ∃ (j : Nat) (B : Option Addr) (cb : Nat), v35 = .int .i64 (j : Int) ∧ Aside0 (kq + j = Ov.length) ∧ Aside0 (Below w3.heap.size w3 w') ∧ Aside0 (w'.heap[w3.heap.size]? = some (.cells #[.int .u64 0, .int .u64 0, .int .u64 0, .slice B (goneL (ll : Int) In Ov (In.length + j)).length cb, .slice none 0 0] 70 (0, 0))) ∧ Aside0 (Kd.R k84 84 w' w3.heap.size (fun k => k ≠ w3.heap.size + 1) (.slice B (goneL (ll : Int) In Ov (In.length + j)).length cb) (goneL (ll : Int) In Ov (In.length + j))) ∧ Aside0 (Cnt w' (w3.heap.size + 1) ((In ++ Ov).take (In.length + j)).length (cntF ((In ++ Ov).take (In.length + j)))) ∧ Aside0 (goneP v (ll : Int) In Ov (In.length + j)))
     case atStart => exact ⟨0, B, cb, rfl, ⟨by omega⟩, HB, X8, RG, CM, GP⟩
     case round =>
      clear HB X8 RG CM GP
      obtain ⟨j, B, cb, rfl, HJJ, HB, X8, RG, CM, GP⟩ := hrel
      have X2 := Aside0.mk (blk_below X23.out HB.out)
      have X4 := Aside0.mk (blk_below X43.out HB.out)
      have X6 := Aside0.mk (blk_below X63.out HB.out)
      cases gk with
      | zero =>
       have ej : j = Ov.length := by have := HJJ.out; omega
       subst ej
       have d1 : decide ((Ov.length : Int) < (Ov.length : Int)) = false := by simp
       clear jq jq2 jq3
       go_wp2_with fail
       go_roundg q
       case measure => omega
       case rel => exact ⟨2, B, cb, rfl, ⟨by have := HK.out; omega⟩, HB, X8, RG, CM, GP⟩
      | succ q1 =>
       have hk : j < Ov.length := by have := HJJ.out; omega
       have HJL := Aside0.mk hk
       have d1 : decide ((j : Int) < (Ov.length : Int)) = true := decide_eq_true (by omega)
       have d2 : decide (j < Ov.length) = true := decide_eq_true hk
       have p0 : 0 ≤ (j : Int) := Int.natCast_nonneg _
       have p1 : (j : Int) < (Ov.length : Int) := by omega
       have ew : wrap64 ((j : Int) + 1) = ((j + 1 : Nat) : Int) := by have h1 := LO.out; unfold wrap64; omega
       have CX := Kd.C_below H2.out (below_step HB3.out HB.out)
       obtain ⟨ad, ea, ha0, ha1, ha2, ha3, ha4, ha5, ha6⟩ := at_T58 CX (j : Int) p0 p1
       rw [Int.toNat_natCast] at ha0 ha1 ha2 ha3 ha4 ha5 ha6
       have EM0 := Aside0.mk (show rd_T58 Ov (j : Int) = Ov.getD j z58 by unfold rd_T58; rw [Int.toNat_natCast])
       generalize rd_T58 Ov (j : Int) = m at *
       have MWF := Aside0.mk (show 0 ≤ m.f0 ∧ m.f0 ≤ 18446744073709551615 from WO.out m (by rw [EM0.out]; exact getD_mem Ov z58 hk))
       have KL := Aside0.mk (show In.length + j < (In ++ Ov).length by rw [List.length_append]; omega)
       have EM := Aside0.mk (show (In ++ Ov).getD (In.length + j) z58 = m by rw [EM0.out, List.getD_eq_getElem?_getD, List.getD_eq_getElem?_getD]; rw [List.getElem?_append_right (by omega), Nat.add_sub_cancel_left])
       have LVQ := Aside0.mk (show lvOf (ll : Int) In (In.length + j) = (jn : Int) by unfold lvOf; rw [if_neg (by omega)]; have := HJN.out; omega)
       have GS := Aside0.mk (goneL_snoc (ll : Int) In Ov (In.length + j))
       rw [EM.out, LVQ.out] at GS
       obtain ⟨P, hP⟩ : ∃ P, P = (In ++ Ov).take (In.length + j) := ⟨_, rfl⟩
       rw [← hP] at CM
       have PQ := Aside0.mk hP
       have PS := Aside0.mk (show (In ++ Ov).take (In.length + j + 1) = P ++ [m] by rw [take_snoc _ z58 KL.out, ← hP, EM.out])
       have LP := Aside0.mk (show P.length ≤ 300000000 by rw [hP, List.length_take, List.length_append]; have := LI.out; have := LO.out; omega)
       have GPS := Aside0.mk (goneP_succ (v := v) (lev := (ll : Int)) KL.out)
       rw [EM.out, LVQ.out, ← hP, Int.toNat_natCast] at GPS
       obtain ⟨G, hG⟩ : ∃ G, G = goneL (ll : Int) In Ov (In.length + j) := ⟨_, rfl⟩
       rw [← hG] at RG X8 GS
       have GQ := Aside0.mk hG
       have LG := Aside0.mk (show G.length ≤ 300000000 by rw [hG, goneL_len]; have := LI.out; have := LO.out; omega)
       clear hP hG hk CX
       rw [ea]
       have HAX := Aside0.mk ea
       clear ea
       have hb1 := (Below.refl wr.heap.size wr).alloc (Nat.le_refl _) (.cells (mCs m) 58)
       have HB1 := Aside0.mk (below_step HB.out hb1)
       have CM1 := Aside0.mk (CM.out.below hb1)
       have XM1 := Aside0.mk (blk_new wr (.cells (mCs m) 58))
       have X21 := Aside0.mk (blk_below X2.out hb1)
       have X41 := Aside0.mk (blk_below X4.out hb1)
       have X61 := Aside0.mk (blk_below X6.out hb1)
       have X81 := Aside0.mk (blk_below X8.out hb1)
       have RG1 := Aside0.mk (Kd.R_below RG.out hb1)
       have NM := Aside0.mk (show some wr.heap.size ≠ some (w3.heap.size + 1) from fun e => by injection e with e; have := CM.out.lt; omega)
       have NB1 := Aside0.mk (show some w.heap.size ≠ some (w3.heap.size + 1) from fun e => by injection e with e; have := HB3.out.size; omega)
       have NB2 := Aside0.mk (show some g4 ≠ some (w3.heap.size + 1) from fun e => by injection e with e; have := blk_lt X43.out; omega)
       have NB3 := Aside0.mk (show some g6 ≠ some (w3.heap.size + 1) from fun e => by injection e with e; have := blk_lt X63.out; omega)
       have NB4 := Aside0.mk (show some w3.heap.size ≠ some (w3.heap.size + 1) from fun e => by injection e with e; omega)
       have hlk := CM1.out.look (k := m.f0) (wf_u64 MWF.out.1 MWF.out.2)
       have kc0 := (cntF_le P m.f0).1
       have kc1 : cntF P m.f0 ≤ 300000000 := by have := (cntF_le P m.f0).2; have := LP.out; omega
       have CE := Aside0.mk (cnt_snoc P m)
       have CP := Aside0.mk (cntF_pos P m.f0)
       obtain ⟨cc, hcc⟩ : ∃ c, cntF P m.f0 = c := ⟨_, rfl⟩
       rw [hcc] at hlk kc0 kc1 CE CP
       have ew1 : wrap64 (cc + 1) = cc + 1 := by unfold wrap64; omega
       have ew2 : IntKind.i64.wrap (cc + 1) = cc + 1 := by rw [IntKind.wrap_i64]; omega
       have F2 := Aside0.mk (show cntF (P ++ [m]) m.f0 = cc + 1 by rw [← CE.out]; exact if_pos rfl)
       clear hcc hb1
       have mm0 : (wr.alloc (.cells (mCs m) 58)).cell? ⟨wr.heap.size, 0, none⟩ = some (.int .u64 m.f0) := (blk_cell XM1.out 0).trans rfl
       have mm1 : (wr.alloc (.cells (mCs m) 58)).cell? ⟨wr.heap.size, 1, none⟩ = some (.int .i64 m.f1) := (blk_cell XM1.out 1).trans rfl
       have mm2 : (wr.alloc (.cells (mCs m) 58)).cell? ⟨wr.heap.size, 2, none⟩ = some (.int .i64 m.f2) := (blk_cell XM1.out 2).trans rfl
       have mm3 : (wr.alloc (.cells (mCs m) 58)).cell? ⟨wr.heap.size, 3, none⟩ = some (.string m.f3) := (blk_cell XM1.out 3).trans rfl
       have mm4 : (wr.alloc (.cells (mCs m) 58)).cell? ⟨wr.heap.size, 4, none⟩ = some (.string m.f4) := (blk_cell XM1.out 4).trans rfl
       have mm5 : (wr.alloc (.cells (mCs m) 58)).cell? ⟨wr.heap.size, 5, none⟩ = some (.int .u64 m.f5) := (blk_cell XM1.out 5).trans rfl
       have mm6 : (wr.alloc (.cells (mCs m) 58)).cell? ⟨wr.heap.size, 6, none⟩ = some (.int .u64 m.f6) := (blk_cell XM1.out 6).trans rfl
       obtain ⟨nn, hnn⟩ : ∃ nn, nn = P.length + 1 := ⟨_, rfl⟩
       by_cases hin : 1 ≤ cc
       ·have t3 : decide (1 < cc + 1) = true := decide_eq_true (by omega)
        have t4 : decide (0 < cc) = true := decide_eq_true (by omega)
        have BAD := Aside0.mk (show ¬ edG v (ll : Int) In Ov out from fun h => (GPS.out.mp (goneP_pre h.1 (show In.length + j + 1 ≤ (In ++ Ov).length from KL.out))).2.2 (CP.out.mp hin))
        clear hin
        go_wp2_with (first | (at_mapUpdate; refine cnt_put _ rfl _ _ _ rfl rfl CM1.out (by have := LP.out; unfold maxLen; omega) m.f0 (cc + 1) rfl rfl (wf_u64 MWF.out.1 MWF.out.2) (by omega) (by omega) ?_; intro w5 ho hg; rw [CE.out] at ho; have HBm := Aside0.mk (pw_below_grown HB1.out (some (w3.heap.size + 1)) HB1.out.size hg (fun k hk => by cases hk; omega)); have X2m := Aside0.mk (blk_grown X21.out hg NB1.out); have X4m := Aside0.mk (blk_grown X41.out hg NB2.out); have X6m := Aside0.mk (blk_grown X61.out hg NB3.out); have X8m := Aside0.mk (blk_grown X81.out hg NB4.out); have XMm := Aside0.mk (blk_grown XM1.out hg NM.out); have RGm := Aside0.mk (Kd.R_grown RG1.out hg (fun k hk => by intro e; injection e with e; exact hk e)); have CMm := Aside0.mk ho; clear ho hg) | fail)
        rw [← hnn] at CMm
        have NNQ := Aside0.mk hnn
        clear hnn
        refine start_ (n := 17) (S := (fun w' => Below w5.heap.size w5 w' ∧ w'.heap[w.heap.size]? = some (.cells (vCs v p) 26 (0, 0)) ∧ w'.heap[g4]? = some (.cells #[.int .i64 (ll : Int), .slice A1 In.length c1, .slice A2 Ov.length c2] 52 (0, 0)) ∧ w'.heap[wr.heap.size]? = some (.cells (mCs m) 58 (0, 0)) ∧ Cnt w' (w3.heap.size + 1) nn (cntF (P ++ [m])))) (ds := []) #[false, false, false, false, false, false, false, false, false, false, false, false, false, false, false, false, false] (by kernel_rfl) rfl rfl ⟨below_drew (Below.refl _ _), blk_drew X2m.out, blk_drew X4m.out, blk_drew XMm.out, CMm.out.below (below_drew (Below.refl _ _))⟩ (fun hHeld => ?_)
        refine pure_ (i := 0) (N := (some 44)) (v := ?_) (a' := ?_) #[true, false, false, false, false, false, false, false, false, false, false, false, false, false, false, false, false] rfl rfl (by kernel_rfl) (fun _ _ _ h => h) (Or.inl ⟨by rfl, ?_⟩) ?_ ?_
        rotate_left
        ·intro w'
         go_simp
         with_reducible rfl
        rotate_left
        ·simp only [Act.put, List.setIfInBounds_toArray, List.set_cons_zero, List.set_cons_succ, i64_w, i32_w]
         rfl
        refine pure_ (i := 1) (N := (some 45)) (v := ?_) (a' := ?_) #[true, true, false, false, false, false, false, false, false, false, false, false, false, false, false, false, false] rfl rfl (by kernel_rfl) (fun _ _ _ h => h) (Or.inl ⟨by rfl, ?_⟩) ?_ ?_
        rotate_left
        ·intro w'
         go_simp
         with_reducible rfl
        rotate_left
        ·simp only [Act.put, List.setIfInBounds_toArray, List.set_cons_zero, List.set_cons_succ, i64_w, i32_w]
         rfl
        refine take_ (i := 2) (N := (some 46)) (v := ?_) (a' := ?_) #[true, true, true, false, false, false, false, false, false, false, false, false, false, false, false, false, false] rfl rfl (by kernel_rfl) (fun _ _ _ h => h) (Or.inl ⟨by rfl, ?_⟩) hHeld ?_ ?_
        rotate_left
        ·rintro w' ⟨s0, s1, s2, s3, s4⟩
         have q0 : w'.cell? ⟨wr.heap.size, 0, none⟩ = some (.int .u64 m.f0) := (blk_cell s3 0).trans rfl
         have q1 : w'.cell? ⟨wr.heap.size, 1, none⟩ = some (.int .i64 m.f1) := (blk_cell s3 1).trans rfl
         have q2 : w'.cell? ⟨wr.heap.size, 2, none⟩ = some (.int .i64 m.f2) := (blk_cell s3 2).trans rfl
         have q3 : w'.cell? ⟨wr.heap.size, 3, none⟩ = some (.string m.f3) := (blk_cell s3 3).trans rfl
         have q4 : w'.cell? ⟨wr.heap.size, 4, none⟩ = some (.string m.f4) := (blk_cell s3 4).trans rfl
         have q5 : w'.cell? ⟨wr.heap.size, 5, none⟩ = some (.int .u64 m.f5) := (blk_cell s3 5).trans rfl
         have q6 : w'.cell? ⟨wr.heap.size, 6, none⟩ = some (.int .u64 m.f6) := (blk_cell s3 6).trans rfl
         go_simp
         with_reducible rfl
        rotate_left
        ·simp only [Act.put, List.setIfInBounds_toArray, List.set_cons_zero, List.set_cons_succ, i64_w, i32_w]
         rfl
        refine take_ (i := 3) (N := (some 47)) (v := ?_) (a' := ?_) #[true, true, true, true, false, false, false, false, false, false, false, false, false, false, false, false, false] rfl rfl (by kernel_rfl) (fun _ _ _ h => h) (Or.inl ⟨by rfl, ?_⟩) hHeld ?_ ?_
        rotate_left
        ·rintro w' ⟨s0, s1, s2, s3, s4⟩
         have hl_ := s4.look (k := m.f0) (wf_u64 MWF.out.1 MWF.out.2)
         rw [F2.out] at hl_
         go_simp
         with_reducible rfl
        rotate_left
        ·simp only [Act.put, List.setIfInBounds_toArray, List.set_cons_zero, List.set_cons_succ, i64_w, i32_w]
         rfl
        refine pure_ (i := 4) (N := (some 48)) (v := ?_) (a' := ?_) #[true, true, true, true, true, false, false, false, false, false, false, false, false, false, false, false, false] rfl rfl (by kernel_rfl) (fun _ _ _ h => h) (Or.inl ⟨by rfl, ?_⟩) ?_ ?_
        rotate_left
        ·intro w'
         go_simp
         with_reducible rfl
        rotate_left
        ·simp only [Act.put, List.setIfInBounds_toArray, List.set_cons_zero, List.set_cons_succ, i64_w, i32_w]
         rfl
        refine pure_ (i := 5) (N := (some 49)) (v := ?_) (a' := ?_) #[true, true, true, true, true, true, false, false, false, false, false, false, false, false, false, false, false] rfl rfl (by kernel_rfl) (fun _ _ _ h => h) (Or.inl ⟨by rfl, ?_⟩) ?_ ?_
        rotate_left
        ·intro w'
         go_simp
         with_reducible rfl
        rotate_left
        ·simp only [Act.put, List.setIfInBounds_toArray, List.set_cons_zero, List.set_cons_succ, i64_w, i32_w]
         rfl
        refine pure_ (i := 6) (N := (some 50)) (v := undef) (a' := ?_) #[true, true, true, true, true, true, true, false, false, false, false, false, false, false, false, false, false] rfl rfl (by kernel_rfl) (fun _ _ _ h => h) (Or.inr ⟨by rfl, rfl⟩) ?_ ?_
        rotate_left
        ·simp only [Act.put, List.setIfInBounds_toArray, List.set_cons_zero, List.set_cons_succ, i64_w, i32_w]
         rfl
        refine pure_ (i := 7) (N := (some 51)) (v := undef) (a' := ?_) #[true, true, true, true, true, true, true, true, false, false, false, false, false, false, false, false, false] rfl rfl (by kernel_rfl) (fun _ _ _ h => h) (Or.inr ⟨by rfl, rfl⟩) ?_ ?_
        rotate_left
        ·simp only [Act.put, List.setIfInBounds_toArray, List.set_cons_zero, List.set_cons_succ, i64_w, i32_w]
         rfl
        refine pure_ (i := 8) (N := (some 52)) (v := undef) (a' := ?_) #[true, true, true, true, true, true, true, true, true, false, false, false, false, false, false, false, false] rfl rfl (by kernel_rfl) (fun _ _ _ h => h) (Or.inr ⟨by rfl, rfl⟩) ?_ ?_
        rotate_left
        ·simp only [Act.put, List.setIfInBounds_toArray, List.set_cons_zero, List.set_cons_succ, i64_w, i32_w]
         rfl
        refine pure_ (i := 9) (N := (some 53)) (v := undef) (a' := ?_) #[true, true, true, true, true, true, true, true, true, true, false, false, false, false, false, false, false] rfl rfl (by kernel_rfl) (fun _ _ _ h => h) (Or.inr ⟨by rfl, rfl⟩) ?_ ?_
        rotate_left
        ·simp only [Act.put, List.setIfInBounds_toArray, List.set_cons_zero, List.set_cons_succ, i64_w, i32_w]
         rfl
        refine pure_ (i := 10) (N := (some 54)) (v := undef) (a' := ?_) #[true, true, true, true, true, true, true, true, true, true, true, false, false, false, false, false, false] rfl rfl (by kernel_rfl) (fun _ _ _ h => h) (Or.inr ⟨by rfl, rfl⟩) ?_ ?_
        rotate_left
        ·simp only [Act.put, List.setIfInBounds_toArray, List.set_cons_zero, List.set_cons_succ, i64_w, i32_w]
         rfl
        refine pure_ (i := 11) (N := (some 55)) (v := undef) (a' := ?_) #[true, true, true, true, true, true, true, true, true, true, true, true, false, false, false, false, false] rfl rfl (by kernel_rfl) (fun _ _ _ h => h) (Or.inr ⟨by rfl, rfl⟩) ?_ ?_
        rotate_left
        ·simp only [Act.put, List.setIfInBounds_toArray, List.set_cons_zero, List.set_cons_succ, i64_w, i32_w]
         rfl
        refine pure_ (i := 12) (N := (some 56)) (v := undef) (a' := ?_) #[true, true, true, true, true, true, true, true, true, true, true, true, true, false, false, false, false] rfl rfl (by kernel_rfl) (fun _ _ _ h => h) (Or.inr ⟨by rfl, rfl⟩) ?_ ?_
        rotate_left
        ·simp only [Act.put, List.setIfInBounds_toArray, List.set_cons_zero, List.set_cons_succ, i64_w, i32_w]
         rfl
        refine pure_ (i := 13) (N := (some 57)) (v := undef) (a' := ?_) #[true, true, true, true, true, true, true, true, true, true, true, true, true, true, false, false, false] rfl rfl (by kernel_rfl) (fun _ _ _ h => h) (Or.inr ⟨by rfl, rfl⟩) ?_ ?_
        rotate_left
        ·simp only [Act.put, List.setIfInBounds_toArray, List.set_cons_zero, List.set_cons_succ, i64_w, i32_w]
         rfl
        refine pure_ (i := 14) (N := (some 58)) (v := undef) (a' := ?_) #[true, true, true, true, true, true, true, true, true, true, true, true, true, true, true, false, false] rfl rfl (by kernel_rfl) (fun _ _ _ h => h) (Or.inr ⟨by rfl, rfl⟩) ?_ ?_
        rotate_left
        ·simp only [Act.put, List.setIfInBounds_toArray, List.set_cons_zero, List.set_cons_succ, i64_w, i32_w]
         rfl
        refine pure_ (i := 15) (N := (some 59)) (v := undef) (a' := ?_) #[true, true, true, true, true, true, true, true, true, true, true, true, true, true, true, true, false] rfl rfl (by kernel_rfl) (fun _ _ _ h => h) (Or.inr ⟨by rfl, rfl⟩) ?_ ?_
        rotate_left
        ·simp only [Act.put, List.setIfInBounds_toArray, List.set_cons_zero, List.set_cons_succ, i64_w, i32_w]
         rfl
        refine pure_ (i := 16) (N := (some 60)) (v := ?_) (a' := ?_) #[true, true, true, true, true, true, true, true, true, true, true, true, true, true, true, true, true] rfl rfl (by kernel_rfl) (fun _ _ _ h => h) (Or.inl ⟨by rfl, ?_⟩) ?_ ?_
        rotate_left
        ·intro w'
         go_simp
         with_reducible rfl
        rotate_left
        ·simp only [Act.put, List.setIfInBounds_toArray, List.set_cons_zero, List.set_cons_succ, i64_w, i32_w]
         rfl
        refine done_ (by kernel_rfl) ?_
        have X69 := Aside0.mk (blk_below X6m.out hHeld.1)
        have HB9 := Aside0.mk (below_step HB3.out (below_step HBm.out hHeld.1))
        clear hHeld
        have E1 := Aside0.mk (show xe = zE from by rw [XE.out]; unfold edV; rw [if_neg (fun h => BAD.out h.2)])
        have E2 := Aside0.mk (show xf = 11 from by rw [XF.out]; unfold edE; rw [if_pos ASK.out, if_neg BAD.out])
        go_wp2_with (first | (refine st_arr rfl 70 _ _ rfl g6 70 ?hx #[.int .u64 0, .int .u64 0, .int .u64 0, .slice none 0 0, .slice none 0 0] ?hy _ X69.out (by rw [size70]; rfl) rfl (by simp [Value.oneCell']) ?_; (case hx => rfl); (case hy => rfl); intro w5 hb5 hbb hk5 hs5; have HB5 := Aside0.mk (hbb _ _ HB9.out (show w.heap.size ≤ g6 by have := N1.out; omega)); have X65 := Aside0.mk hb5; clear hb5 hbb hk5 hs5) | fail)
        have r0 : w5.cell? ⟨g6, 0, none⟩ = some (.int .u64 0) := (blk_cell X65.out 0).trans rfl
        have r1 : w5.cell? ⟨g6, 1, none⟩ = some (.int .u64 0) := (blk_cell X65.out 1).trans rfl
        have r2 : w5.cell? ⟨g6, 2, none⟩ = some (.int .u64 0) := (blk_cell X65.out 2).trans rfl
        have r3 : w5.cell? ⟨g6, 3, none⟩ = some (.slice none 0 0) := (blk_cell X65.out 3).trans rfl
        have r4 : w5.cell? ⟨g6, 4, none⟩ = some (.slice none 0 0) := (blk_cell X65.out 4).trans rfl
        exact bodyPost_ret (v := .tuple #[.agg #[.int .u64 0, .int .u64 0, .int .u64 0, .slice none 0 0, .slice none 0 0], .int .i64 11]) (by simp [results, Try.results48, go_sem, r0, r1, r2, r3, r4]) rfl ⟨none, 0, none, 0, by rw [E1.out, E2.out]; rfl, by rw [E1.out]; exact Kd.R_nil _ _ _ _ _, by rw [E1.out]; exact Kd.R_nil _ _ _ _ _, HB5.out⟩
       ·have t3 : decide (1 < cc + 1) = false := decide_eq_false (by omega)
        have t4 : decide (0 < cc) = false := decide_eq_false (by omega)
        have NIN := Aside0.mk (show m.f0 ∉ nums P from fun h => hin (CP.out.mpr h))
        clear hin
        go_wp2_with (first | (at_mapUpdate; refine cnt_put _ rfl _ _ _ rfl rfl CM1.out (by have := LP.out; unfold maxLen; omega) m.f0 (cc + 1) rfl rfl (wf_u64 MWF.out.1 MWF.out.2) (by omega) (by omega) ?_; intro w5 ho hg; rw [CE.out] at ho; have HBm := Aside0.mk (pw_below_grown HB1.out (some (w3.heap.size + 1)) HB1.out.size hg (fun k hk => by cases hk; omega)); have X2m := Aside0.mk (blk_grown X21.out hg NB1.out); have X4m := Aside0.mk (blk_grown X41.out hg NB2.out); have X6m := Aside0.mk (blk_grown X61.out hg NB3.out); have X8m := Aside0.mk (blk_grown X81.out hg NB4.out); have XMm := Aside0.mk (blk_grown XM1.out hg NM.out); have RGm := Aside0.mk (Kd.R_grown RG1.out hg (fun k hk => by intro e; injection e with e; exact hk e)); have CMm := Aside0.mk ho; clear ho hg) | fail)
        rw [← hnn] at CMm
        have NNQ := Aside0.mk hnn
        clear hnn
        have KCN := Aside0.mk (show ∀ w9, Below w5.heap.size w5 w9 → Calls Try.prog 99 #[.slice (p.a jn) (v.lv jn).length (p.c jn), .agg (mCs m)] w9 fun x w' => x = .returned (.bool (decide (m ∈ v.lv jn))) ∧ Below w9.heap.size w9 w' from fun w9 hb => contains_calls w9 (p.a jn) (p.c jn) (v.lv jn) m (((HC.out.below (below_step HB3.out HBm.out)).below hb) jn HJ4.out).1)
        refine start_ (n := 17) (S := (fun w' => Below w5.heap.size w5 w' ∧ w'.heap[w.heap.size]? = some (.cells (vCs v p) 26 (0, 0)) ∧ w'.heap[g4]? = some (.cells #[.int .i64 (ll : Int), .slice A1 In.length c1, .slice A2 Ov.length c2] 52 (0, 0)) ∧ w'.heap[wr.heap.size]? = some (.cells (mCs m) 58 (0, 0)) ∧ Cnt w' (w3.heap.size + 1) nn (cntF (P ++ [m])))) (ds := []) #[false, false, false, false, false, false, false, false, false, false, false, false, false, false, false, false, false] (by kernel_rfl) rfl rfl ⟨below_drew (Below.refl _ _), blk_drew X2m.out, blk_drew X4m.out, blk_drew XMm.out, CMm.out.below (below_drew (Below.refl _ _))⟩ (fun hHeld => ?_)
        refine pure_ (i := 0) (N := (some 44)) (v := ?_) (a' := ?_) #[true, false, false, false, false, false, false, false, false, false, false, false, false, false, false, false, false] rfl rfl (by kernel_rfl) (fun _ _ _ h => h) (Or.inl ⟨by rfl, ?_⟩) ?_ ?_
        rotate_left
        ·intro w'
         go_simp
         with_reducible rfl
        rotate_left
        ·simp only [Act.put, List.setIfInBounds_toArray, List.set_cons_zero, List.set_cons_succ, i64_w, i32_w]
         rfl
        refine pure_ (i := 1) (N := (some 45)) (v := ?_) (a' := ?_) #[true, true, false, false, false, false, false, false, false, false, false, false, false, false, false, false, false] rfl rfl (by kernel_rfl) (fun _ _ _ h => h) (Or.inl ⟨by rfl, ?_⟩) ?_ ?_
        rotate_left
        ·intro w'
         go_simp
         with_reducible rfl
        rotate_left
        ·simp only [Act.put, List.setIfInBounds_toArray, List.set_cons_zero, List.set_cons_succ, i64_w, i32_w]
         rfl
        refine take_ (i := 2) (N := (some 46)) (v := ?_) (a' := ?_) #[true, true, true, false, false, false, false, false, false, false, false, false, false, false, false, false, false] rfl rfl (by kernel_rfl) (fun _ _ _ h => h) (Or.inl ⟨by rfl, ?_⟩) hHeld ?_ ?_
        rotate_left
        ·rintro w' ⟨s0, s1, s2, s3, s4⟩
         have q0 : w'.cell? ⟨wr.heap.size, 0, none⟩ = some (.int .u64 m.f0) := (blk_cell s3 0).trans rfl
         have q1 : w'.cell? ⟨wr.heap.size, 1, none⟩ = some (.int .i64 m.f1) := (blk_cell s3 1).trans rfl
         have q2 : w'.cell? ⟨wr.heap.size, 2, none⟩ = some (.int .i64 m.f2) := (blk_cell s3 2).trans rfl
         have q3 : w'.cell? ⟨wr.heap.size, 3, none⟩ = some (.string m.f3) := (blk_cell s3 3).trans rfl
         have q4 : w'.cell? ⟨wr.heap.size, 4, none⟩ = some (.string m.f4) := (blk_cell s3 4).trans rfl
         have q5 : w'.cell? ⟨wr.heap.size, 5, none⟩ = some (.int .u64 m.f5) := (blk_cell s3 5).trans rfl
         have q6 : w'.cell? ⟨wr.heap.size, 6, none⟩ = some (.int .u64 m.f6) := (blk_cell s3 6).trans rfl
         go_simp
         with_reducible rfl
        rotate_left
        ·simp only [Act.put, List.setIfInBounds_toArray, List.set_cons_zero, List.set_cons_succ, i64_w, i32_w]
         rfl
        refine take_ (i := 3) (N := (some 47)) (v := ?_) (a' := ?_) #[true, true, true, true, false, false, false, false, false, false, false, false, false, false, false, false, false] rfl rfl (by kernel_rfl) (fun _ _ _ h => h) (Or.inl ⟨by rfl, ?_⟩) hHeld ?_ ?_
        rotate_left
        ·rintro w' ⟨s0, s1, s2, s3, s4⟩
         have hl_ := s4.look (k := m.f0) (wf_u64 MWF.out.1 MWF.out.2)
         rw [F2.out] at hl_
         go_simp
         with_reducible rfl
        rotate_left
        ·simp only [Act.put, List.setIfInBounds_toArray, List.set_cons_zero, List.set_cons_succ, i64_w, i32_w]
         rfl
        refine pure_ (i := 4) (N := (some 48)) (v := ?_) (a' := ?_) #[true, true, true, true, true, false, false, false, false, false, false, false, false, false, false, false, false] rfl rfl (by kernel_rfl) (fun _ _ _ h => h) (Or.inl ⟨by rfl, ?_⟩) ?_ ?_
        rotate_left
        ·intro w'
         go_simp
         with_reducible rfl
        rotate_left
        ·simp only [Act.put, List.setIfInBounds_toArray, List.set_cons_zero, List.set_cons_succ, i64_w, i32_w]
         rfl
        refine pure_ (i := 5) (N := (some 49)) (v := ?_) (a' := ?_) #[true, true, true, true, true, true, false, false, false, false, false, false, false, false, false, false, false] rfl rfl (by kernel_rfl) (fun _ _ _ h => h) (Or.inl ⟨by rfl, ?_⟩) ?_ ?_
        rotate_left
        ·intro w'
         go_simp
         with_reducible rfl
        rotate_left
        ·simp only [Act.put, List.setIfInBounds_toArray, List.set_cons_zero, List.set_cons_succ, i64_w, i32_w]
         rfl
        refine pure_ (i := 6) (N := (some 50)) (v := ?_) (a' := ?_) #[true, true, true, true, true, true, true, false, false, false, false, false, false, false, false, false, false] rfl rfl (by kernel_rfl) (fun _ _ _ h => h) (Or.inl ⟨by rfl, ?_⟩) ?_ ?_
        rotate_left
        ·intro w'
         go_simp
         with_reducible rfl
        rotate_left
        ·simp only [Act.put, List.setIfInBounds_toArray, List.set_cons_zero, List.set_cons_succ, i64_w, i32_w]
         rfl
        refine take_ (i := 7) (N := (some 51)) (v := ?_) (a' := ?_) #[true, true, true, true, true, true, true, true, false, false, false, false, false, false, false, false, false] rfl rfl (by kernel_rfl) (fun _ _ _ h => h) (Or.inl ⟨by rfl, ?_⟩) hHeld ?_ ?_
        rotate_left
        ·rintro w' ⟨s0, s1, s2, s3, s4⟩
         have q0 : w'.cell? ⟨g4, 0, none⟩ = some (.int .i64 (ll : Int)) := (blk_cell s2 0).trans rfl
         go_simp
         with_reducible rfl
        rotate_left
        ·simp only [Act.put, List.setIfInBounds_toArray, List.set_cons_zero, List.set_cons_succ, i64_w, i32_w]
         rfl
        refine pure_ (i := 8) (N := (some 52)) (v := ?_) (a' := ?_) #[true, true, true, true, true, true, true, true, true, false, false, false, false, false, false, false, false] rfl rfl (by kernel_rfl) (fun _ _ _ h => h) (Or.inl ⟨by rfl, ?_⟩) ?_ ?_
        rotate_left
        ·intro w'
         go_simp
         with_reducible rfl
        rotate_left
        ·simp only [Act.put, List.setIfInBounds_toArray, List.set_cons_zero, List.set_cons_succ, i64_w, i32_w]
         rfl
        refine pure_ (i := 9) (N := (some 53)) (v := ?_) (a' := ?_) #[true, true, true, true, true, true, true, true, true, true, false, false, false, false, false, false, false] rfl rfl (by kernel_rfl) (fun _ _ _ h => h) (Or.inl ⟨by rfl, ?_⟩) ?_ ?_
        rotate_left
        ·intro w'
         go_simp
         with_reducible rfl
        rotate_left
        ·simp only [Act.put, List.setIfInBounds_toArray, List.set_cons_zero, List.set_cons_succ, i64_w, i32_w]
         rfl
        refine pure_ (i := 10) (N := (some 54)) (v := ?_) (a' := ?_) #[true, true, true, true, true, true, true, true, true, true, true, false, false, false, false, false, false] rfl rfl (by kernel_rfl) (fun _ _ _ h => h) (Or.inl ⟨by rfl, ?_⟩) ?_ ?_
        rotate_left
        ·intro w'
         go_simp
         with_reducible rfl
        rotate_left
        ·simp only [Act.put, List.setIfInBounds_toArray, List.set_cons_zero, List.set_cons_succ, i64_w, i32_w]
         rfl
        refine pure_ (i := 11) (N := (some 55)) (v := ?_) (a' := ?_) #[true, true, true, true, true, true, true, true, true, true, true, true, false, false, false, false, false] rfl rfl (by kernel_rfl) (fun _ _ _ h => h) (Or.inl ⟨by rfl, ?_⟩) ?_ ?_
        rotate_left
        ·intro w'
         go_simp
         with_reducible rfl
        rotate_left
        ·simp only [Act.put, List.setIfInBounds_toArray, List.set_cons_zero, List.set_cons_succ, i64_w, i32_w]
         rfl
        refine take_ (i := 12) (N := (some 56)) (v := ?_) (a' := ?_) #[true, true, true, true, true, true, true, true, true, true, true, true, true, false, false, false, false] rfl rfl (by kernel_rfl) (fun _ _ _ h => h) (Or.inl ⟨by rfl, ?_⟩) hHeld ?_ ?_
        rotate_left
        ·rintro w' ⟨s0, s1, s2, s3, s4⟩
         have hv_ := vcell s1 jn HJ4.out
         go_simp
         with_reducible rfl
        rotate_left
        ·simp only [Act.put, List.setIfInBounds_toArray, List.set_cons_zero, List.set_cons_succ, i64_w, i32_w]
         rfl
        refine take_ (i := 13) (N := (some 57)) (v := ?_) (a' := ?_) #[true, true, true, true, true, true, true, true, true, true, true, true, true, true, false, false, false] rfl rfl (by kernel_rfl) (fun _ _ _ h => h) (Or.inl ⟨by rfl, ?_⟩) hHeld ?_ ?_
        rotate_left
        ·rintro w' ⟨s0, s1, s2, s3, s4⟩
         have q0 : w'.cell? ⟨wr.heap.size, 0, none⟩ = some (.int .u64 m.f0) := (blk_cell s3 0).trans rfl
         have q1 : w'.cell? ⟨wr.heap.size, 1, none⟩ = some (.int .i64 m.f1) := (blk_cell s3 1).trans rfl
         have q2 : w'.cell? ⟨wr.heap.size, 2, none⟩ = some (.int .i64 m.f2) := (blk_cell s3 2).trans rfl
         have q3 : w'.cell? ⟨wr.heap.size, 3, none⟩ = some (.string m.f3) := (blk_cell s3 3).trans rfl
         have q4 : w'.cell? ⟨wr.heap.size, 4, none⟩ = some (.string m.f4) := (blk_cell s3 4).trans rfl
         have q5 : w'.cell? ⟨wr.heap.size, 5, none⟩ = some (.int .u64 m.f5) := (blk_cell s3 5).trans rfl
         have q6 : w'.cell? ⟨wr.heap.size, 6, none⟩ = some (.int .u64 m.f6) := (blk_cell s3 6).trans rfl
         go_simp
         with_reducible rfl
        rotate_left
        ·simp only [Act.put, List.setIfInBounds_toArray, List.set_cons_zero, List.set_cons_succ, i64_w, i32_w]
         rfl
        refine one_ (i := 14) (N := (some 58)) #[true, true, true, true, true, true, true, true, true, true, true, true, true, true, true, false, false] rfl rfl (by kernel_rfl) (by decide) (fun K hK => ?_)
        refine goes_ Try.func99 (by kernel_rfl) rfl #[.slice (p.a jn) (v.lv jn).length (p.c jn), .agg (mCs m)] (by rfl) rfl rfl (by (try simp only [List.map_toArray, List.map_cons, List.map_nil]); first | done | rfl) ?_
        (with_reducible refine (KCN.out _ hHeld.1).mono ?_)
        rintro e w7 ⟨rfl, hb⟩
        refine ⟨_, rfl, ?_⟩
        have hOld := hHeld
        clear hHeld
        refine hK.out _ _ (⟨below_step hOld.1 hb, blk_below hOld.2.1 hb, blk_below hOld.2.2.1 hb, blk_below hOld.2.2.2.1 hb, hOld.2.2.2.2.below hb⟩) (fun hHeld => ?_)
        clear hOld hK K
        refine norm_ (a' := ?_) ?_ ?_
        rotate_left
        ·show Act.put _ (some 58) _ = _
         simp only [Act.put, List.setIfInBounds_toArray, List.set_cons_zero, List.set_cons_succ, i64_w, i32_w]
         rfl
        refine pure_ (i := 15) (N := (some 59)) (v := ?_) (a' := ?_) #[true, true, true, true, true, true, true, true, true, true, true, true, true, true, true, true, false] rfl rfl (by kernel_rfl) (fun _ _ _ h => h) (Or.inl ⟨by rfl, ?_⟩) ?_ ?_
        rotate_left
        ·intro w'
         go_simp
         with_reducible rfl
        rotate_left
        ·simp only [Act.put, List.setIfInBounds_toArray, List.set_cons_zero, List.set_cons_succ, i64_w, i32_w]
         rfl
        refine pure_ (i := 16) (N := (some 60)) (v := ?_) (a' := ?_) #[true, true, true, true, true, true, true, true, true, true, true, true, true, true, true, true, true] rfl rfl (by kernel_rfl) (fun _ _ _ h => h) (Or.inl ⟨by rfl, ?_⟩) ?_ ?_
        rotate_left
        ·intro w'
         go_simp
         with_reducible rfl
        rotate_left
        ·simp only [Act.put, List.setIfInBounds_toArray, List.set_cons_zero, List.set_cons_succ, i64_w, i32_w]
         rfl
        refine done_ (by kernel_rfl) ?_
        have X29 := Aside0.mk (blk_below X2m.out hHeld.1)
        have X49 := Aside0.mk (blk_below X4m.out hHeld.1)
        have X69 := Aside0.mk (blk_below X6m.out hHeld.1)
        have X89 := Aside0.mk (blk_below X8m.out hHeld.1)
        have RG9 := Aside0.mk (Kd.R_below RGm.out hHeld.1)
        have XM9 := Aside0.mk hHeld.2.2.2.1
        have CM9 := Aside0.mk hHeld.2.2.2.2
        have HB9 := Aside0.mk (below_step HBm.out hHeld.1)
        clear hHeld KCN X2m X4m X6m X8m RGm XMm CMm HBm
        by_cases hin : m ∈ v.lv jn
        ·have GP2 := Aside0.mk (GPS.out.mpr ⟨GP.out, hin, NIN.out⟩)
         rw [decide_eq_true hin]
         clear hin mm0 mm1 mm2 mm3 mm4 mm5 mm6
         have NMZ := Aside0.mk (show w3.heap.size + 1 < w7.heap.size from CM9.out.lt)
         have mm0 : w7.cell? ⟨wr.heap.size, 0, none⟩ = some (.int .u64 m.f0) := (blk_cell XM9.out 0).trans rfl
         have y0 : w7.cell? ⟨g4, 0, none⟩ = some (.int .i64 (ll : Int)) := (blk_cell X49.out 0).trans rfl
         have z3 : w7.cell? ⟨w3.heap.size, 3, none⟩ = some (.slice B G.length cb) := (blk_cell X89.out 3).trans rfl
         go_wp2_with (first | ((with_reducible refine gate_builtin (b := .append) (xs := #[.tmp 63, .tmp 71]) rfl ?_); at_builtin; refine Kd.R_append k84 (w0 := w3) w3.heap.size rfl (.tmp 63) (.tmp 71) 67 84 (.agg #[(.int .i64 0), (.int .u64 0)]) 16 rfl Try.underlying67 info84 rfl (show 0 < 2 by decide) (show 0 < 16 by decide) (.slice B G.length cb) (G) (⟨(jn : Int), m.f0⟩ : S84) [.int .i64 (jn : Int), .int .u64 m.f0] (fun k => k ≠ w3.heap.size + 1) (fun _ => False) rfl rfl ?aPa (fun _ hk => hk.elim) ?aFa ?aOa ?aBa ?aSa ?aLa ?_; (case aPa => exact k84_mkM _ _ _ (⟨(jn : Int), m.f0⟩ : S84)); (case aBa => exact HB9.out); (case aFa => exact (fun k hk => by have := NMZ.out; omega)); (case aOa => exact RG9.out); (case aSa => exact Below.size (HB9.out)); (case aLa => (have h1 := LG.out; omega)); intro va wa ho hb hg hat; have HBa := Aside0.mk hb; have X8a := Aside0.mk (blk_grown X89.out hg (Kd.R_ne RG9.out X89.out (by decide))); have X6a := Aside0.mk (blk_grown X69.out hg (Kd.R_ne RG9.out X69.out (by decide))); have X2a := Aside0.mk (blk_grown X29.out hg (Kd.R_ne RG9.out X29.out (by decide))); have X4a := Aside0.mk (blk_grown X49.out hg (Kd.R_ne RG9.out X49.out (by decide))); have CMa := Aside0.mk (CM9.out.kept hg (Kd.R_away RG9.out (fun k hk => hk))); have hc8 : wa.cell? ⟨w3.heap.size, 3, none⟩ = some (.slice B G.length cb) := (blk_cell X8a.out 3).trans rfl; have hf8 := blk_frozen X8a.out 3; obtain ⟨G2, hG2⟩ : ∃ G2, G2 = G ++ [(⟨(jn : Int), m.f0⟩ : S84)] := ⟨_, rfl⟩; rw [← hG2] at ho; have GQ2 := Aside0.mk hG2; clear hG2; obtain ⟨B', cb', hv⟩ := Kd.R_slice ho; subst hv; have HRa := Aside0.mk ho; clear ho hb hg hat) | fail)
         have HBn := Aside0.mk (below_set (j := 3) (v := .slice B' G2.length cb') HBa.out (Nat.le_refl _))
         have X8n := Aside0.mk (five_set (cs' := #[.int .u64 0, .int .u64 0, .int .u64 0, .slice B' G2.length cb', .slice none 0 0]) X8a.out (j := 3) (.slice B' G2.length cb') rfl)
         have RGn := Aside0.mk (Kd.R_mono (Kd.R_set HRa.out X8a.out (by intro x hx; simp [show k84.E = [] from rfl] at hx; omega) 3 (.slice B' G2.length cb')) (fun _ hk => hk))
         have CMn := Aside0.mk (CMa.out.put_ (g := w3.heap.size) (by omega) 3 (.slice B' G2.length cb'))
         have G2E0 := Aside0.mk (show goneL (ll : Int) In Ov (In.length + j + 1) = G2 by rw [GS.out, GQ2.out])
         have G2E := Aside0.mk (show goneL (ll : Int) In Ov (In.length + (j + 1)) = G2 from G2E0.out)
         have PSE := Aside0.mk (show (In ++ Ov).take (In.length + (j + 1)) = P ++ [m] from PS.out)
         try rw [ew]
         try rw [← HAX.out]
         clear ew ew1 ew2 jq jq2 jq3
         go_roundg q1
         case measure => omega
         case rel => exact ⟨j + 1, B', cb', rfl, ⟨by have := HJJ.out; omega⟩, HBn, by rw [G2E.out]; exact X8n, by rw [G2E.out]; exact RGn, by rw [PSE.out, List.length_append]; exact ⟨by rw [NNQ.out] at CMn; exact CMn.out⟩, GP2⟩
        ·have BAD := Aside0.mk (show ¬ edG v (ll : Int) In Ov out from fun h => hin (GPS.out.mp (goneP_pre h.1 (show In.length + j + 1 ≤ (In ++ Ov).length from KL.out))).2.1)
         rw [decide_eq_false hin]
         have HBF := Aside0.mk (below_step HB3.out HB9.out)
         clear hin
         have E1 := Aside0.mk (show xe = zE from by rw [XE.out]; unfold edV; rw [if_neg (fun h => BAD.out h.2)])
         have E2 := Aside0.mk (show xf = 11 from by rw [XF.out]; unfold edE; rw [if_pos ASK.out, if_neg BAD.out])
         go_wp2_with (first | (refine st_arr rfl 70 _ _ rfl g6 70 ?hx #[.int .u64 0, .int .u64 0, .int .u64 0, .slice none 0 0, .slice none 0 0] ?hy _ X69.out (by rw [size70]; rfl) rfl (by simp [Value.oneCell']) ?_; (case hx => rfl); (case hy => rfl); intro w5 hb5 hbb hk5 hs5; have HB5 := Aside0.mk (hbb _ _ HBF.out (show w.heap.size ≤ g6 by have := N1.out; omega)); have X65 := Aside0.mk hb5; clear hb5 hbb hk5 hs5) | fail)
         have r0 : w5.cell? ⟨g6, 0, none⟩ = some (.int .u64 0) := (blk_cell X65.out 0).trans rfl
         have r1 : w5.cell? ⟨g6, 1, none⟩ = some (.int .u64 0) := (blk_cell X65.out 1).trans rfl
         have r2 : w5.cell? ⟨g6, 2, none⟩ = some (.int .u64 0) := (blk_cell X65.out 2).trans rfl
         have r3 : w5.cell? ⟨g6, 3, none⟩ = some (.slice none 0 0) := (blk_cell X65.out 3).trans rfl
         have r4 : w5.cell? ⟨g6, 4, none⟩ = some (.slice none 0 0) := (blk_cell X65.out 4).trans rfl
         exact bodyPost_ret (v := .tuple #[.agg #[.int .u64 0, .int .u64 0, .int .u64 0, .slice none 0 0, .slice none 0 0], .int .i64 11]) (by simp [results, Try.results48, go_sem, r0, r1, r2, r3, r4]) rfl ⟨none, 0, none, 0, by rw [E1.out, E2.out]; rfl, by rw [E1.out]; exact Kd.R_nil _ _ _ _ _, by rw [E1.out]; exact Kd.R_nil _ _ _ _ _, HB5.out⟩
 ·rw [decide_eq_false ha]
  have NA := Aside0.mk ha
  clear ha y0 y1 y2 b0 b1 b2 b3 b4 b5 b6
  have E1 := Aside0.mk (show xe = zE from by rw [XE.out]; unfold edV; rw [if_neg (fun h => NA.out h.1)])
  have E2 := Aside0.mk (show xf = 2 from by rw [XF.out]; unfold edE; rw [if_neg NA.out])
  go_wp2_with (first | (refine st_arr rfl 70 _ _ rfl g6 70 ?hx #[.int .u64 0, .int .u64 0, .int .u64 0, .slice none 0 0, .slice none 0 0] ?hy _ X63.out (by rw [size70]; rfl) rfl (by simp [Value.oneCell']) ?_; (case hx => rfl); (case hy => rfl); intro w5 hb5 hbb hk5 hs5; have HB5 := Aside0.mk (hbb _ _ HB3.out (show w.heap.size ≤ g6 by have := N1.out; omega)); have X65 := Aside0.mk hb5; clear hb5 hbb hk5 hs5) | fail)
  have r0 : w5.cell? ⟨g6, 0, none⟩ = some (.int .u64 0) := (blk_cell X65.out 0).trans rfl
  have r1 : w5.cell? ⟨g6, 1, none⟩ = some (.int .u64 0) := (blk_cell X65.out 1).trans rfl
  have r2 : w5.cell? ⟨g6, 2, none⟩ = some (.int .u64 0) := (blk_cell X65.out 2).trans rfl
  have r3 : w5.cell? ⟨g6, 3, none⟩ = some (.slice none 0 0) := (blk_cell X65.out 3).trans rfl
  have r4 : w5.cell? ⟨g6, 4, none⟩ = some (.slice none 0 0) := (blk_cell X65.out 4).trans rfl
  exact bodyPost_ret (v := .tuple #[.agg #[.int .u64 0, .int .u64 0, .int .u64 0, .slice none 0 0, .slice none 0 0], .int .i64 2]) (by simp [results, Try.results48, go_sem, r0, r1, r2, r3, r4]) rfl ⟨none, 0, none, 0, by rw [E1.out, E2.out]; rfl, by rw [E1.out]; exact Kd.R_nil _ _ _ _ _, by rw [E1.out]; exact Kd.R_nil _ _ _ _ _, HB5.out⟩
end Go.Proofs.Ytkjepfofiegcdaa.V
