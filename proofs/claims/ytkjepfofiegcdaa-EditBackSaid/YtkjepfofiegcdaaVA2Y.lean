import Derived.Test.YtkjepfofiegcdaaVA1Y
import Derived.Test.YtkjepfofiegcdaaVP3Y
/- The law's 'awake' of layer 14 (53), walked: it is true. Conditions: none. -/
namespace Go.Proofs.Ytkjepfofiegcdaa.V
set_option linter.unusedVariables false
set_option linter.unusedSimpArgs false
open Go.RowKit Go.Proofs.YtkjepfofiegcdaaW.PrintWords Go.Proofs.YtkjepfofiegcdaaW.PrintLast Go.Proofs.YtkjepfofiegcdaaW.PrintMore Go.Proofs.Ytkjepfofiegcdaa.PB14
open H (putL)
theorem row84 (w : World) (x : S84) : k84.C (w.alloc (.cells (gCs x) 84)) (some ⟨w.heap.size, 0, none⟩) ([x] : List S84).length [x] := by
  refine ⟨rfl, by simp, fun _ => ⟨_, rfl, fun j p hj => ?_⟩⟩
  match j, hj with
  | 0, hj =>
    simp at hj
    subst hj
    refine ⟨[.int .i64 x.f0, .int .u64 x.f1], rfl, k84_mk _ x, fun i u hi => ?_⟩
    rw [add_plain]
    match i, hi with
    | 0, hi => simp at hi; subst hi; exact (blk_cell (blk_new w (.cells (gCs x) 84)) 0).trans rfl
    | 1, hi => simp at hi; subst hi; exact (blk_cell (blk_new w (.cells (gCs x) 84)) 1).trans rfl
  | j + 1, hj => simp at hj
theorem nil84 (w : World) (A : Option Addr) : k84.C w A ([] : List S84).length [] := ⟨rfl, by simp, fun h => absurd h (Nat.lt_irrefl 0)⟩
theorem nil82 (w : World) (A : Option Addr) : k82.C w A ([] : List S82).length [] := ⟨rfl, by simp, fun h => absurd h (Nat.lt_irrefl 0)⟩
theorem nil58 (w : World) (A : Option Addr) : k58.C w A ([] : List S58).length [] := ⟨rfl, by simp, fun h => absurd h (Nat.lt_irrefl 0)⟩
def eA1 : Edt := ⟨0, 3, 0, [⟨1, 2⟩], []⟩
def eA2 : Edt := ⟨0, 0, 0, [⟨0, 1⟩], []⟩
def eA3 : Edt := ⟨0, 0, 5, [], []⟩
theorem listA1 : listedP eA1 := by decide
theorem encA : encV eA1 = (⟨#[0, 3, 0, 1, 1, 2, 0]⟩, 0) := by
  unfold encV
  rw [if_pos listA1, if_neg (by decide)]
  congr 1
  unfold encB
  simp [eA1, putsL, gBys, gBy, aBys, H.putL_small, bA]
theorem euA1 : EU eA1 := ⟨⟨⟨by decide, by decide⟩, ⟨by decide, by decide⟩, ⟨by decide, by decide⟩⟩, fun x hx => by
  simp [eA1] at hx; subst hx; exact ⟨by decide, by decide⟩⟩
theorem vcF (w : World) : VC w firstV firstP := fun i hi => by
  rcases (by omega : i = 0 ∨ i = 1 ∨ i = 2 ∨ i = 3) with rfl | rfl | rfl | rfl <;> exact ⟨nil58 _ _, Nat.le_refl _⟩
theorem vwF : VW firstV := fun i hi m hm => by
  rcases (by omega : i = 0 ∨ i = 1 ∨ i = 2 ∨ i = 3) with rfl | rfl | rfl | rfl <;> cases hm
theorem lvF : ∀ i, i < 4 → firstV.lv i = [] := fun i hi => by
  rcases (by omega : i = 0 ∨ i = 1 ∨ i = 2 ∨ i = 3) with rfl | rfl | rfl | rfl <;> rfl
theorem rightF (lg nx sq : Int) (h1 : 1 ≤ lg) (h2 : lg ≤ 99999999) (h3 : 1 ≤ nx) (h4 : nx ≤ 99999999) (h5 : sq < 72057594037927936) : rightP ⟨lg, nx, sq, [], [], [], []⟩ := by
  have hlv : ∀ i, i < 4 → (Ver.lv ⟨lg, nx, sq, [], [], [], []⟩ i) = [] := fun i hi => by
    rcases (by omega : i = 0 ∨ i = 1 ∨ i = 2 ∨ i = 3) with rfl | rfl | rfl | rfl <;> rfl
  refine ⟨⟨h1, h2, h3, h4, h5⟩, ⟨fun i hi => by rw [hlv i hi]; simp, ⟨fun m hm => by simp [catV, hlv] at hm, by simp [catV, hlv, nums]⟩⟩, fun i hi k hk => by rw [hlv i hi] at hk; simp at hk⟩
theorem right1 : rightP firstV := rightF 1 1 0 (by omega) (by omega) (by omega) (by omega) (by omega)
theorem right2 : rightP (bndV firstV eA2) := rightF 1 1 0 (by omega) (by omega) (by omega) (by omega) (by omega)
theorem right3 : rightP (bndV firstV eA3) := rightF 1 1 5 (by omega) (by omega) (by omega) (by omega) (by omega)
set_option maxHeartbeats 8000000 in
set_option maxRecDepth 100000 in
theorem awake14_calls (w : World) : Calls Try.prog 53 #[] w fun e w' => e = .returned (.bool true) ∧ Below w.heap.size w w' := by
  have E1 := Aside0.mk encA
  have HB0 := Aside0.mk (below_alloc (Below.refl w.heap.size w) (.cells (gCs ⟨1, 2⟩) 84))
  have R0 := Aside0.mk (row84 w ⟨1, 2⟩)
  go_enter Try.func53, Try.ntmps53
  go_wp2_with fail
  generalize w.alloc (.cells (gCs ⟨1, 2⟩) 84) = w1 at *
  refine (encode_calls w1 eA1 (some ⟨w.heap.size, 0, none⟩) none 1 0 R0.out (nil82 _ _) euA1).mono ?_
  rintro x w2 ⟨rfl, hb⟩
  rw [E1.out]
  have HB2 := Aside0.mk (below_step HB0.out hb)
  clear hb R0 HB0
  go_wp2_with fail
  refine (first66_calls w2).mono ?_
  rintro x w3 ⟨rfl, hb⟩
  have HB3 := Aside0.mk (below_alloc (below_step HB2.out hb) (.cells (gCs ⟨0, 1⟩) 84))
  have R3 := Aside0.mk (row84 w3 ⟨0, 1⟩)
  clear hb HB2
  go_wp2_with fail
  generalize w3.heap.size = g3 at *
  generalize w3.alloc (.cells (gCs ⟨0, 1⟩) 84) = w4 at *
  refine (applyF_calls w4 firstV firstP eA2 (some ⟨g3, 0, none⟩) none 1 0 (vcF _) vwF R3.out (nil82 _ _) lvF right1 rfl (by decide) (by decide) (by decide) (by decide) (by decide) right2).mono ?_
  rintro x w5 ⟨⟨y, q, rfl, _⟩, hb⟩
  rw [show (if eA2.gone = [] then (0 : Int) else 4) = 4 from rfl]
  have HB5 := Aside0.mk (below_alloc (below_step HB3.out hb) (.cells (vCs y q) 26))
  clear hb R3 HB3
  go_wp2_with fail
  generalize w5.alloc (.cells (vCs y q) 26) = w6 at *
  refine (first66_calls w6).mono ?_
  rintro x w7 ⟨rfl, hb⟩
  have HB7 := Aside0.mk (below_step HB5.out hb)
  clear hb HB5
  go_wp2_with fail
  refine (applyF_calls w7 firstV firstP eA3 none none 0 0 (vcF _) vwF (nil84 _ _) (nil82 _ _) lvF right1 rfl (by decide) (by decide) (by decide) (by decide) (by decide) right3).mono ?_
  rintro x w8 ⟨⟨y2, q2, rfl, hy⟩, hb⟩
  have hy2 : y2 = bndV firstV eA3 := hy rfl
  subst hy2
  rw [show (if eA3.gone = [] then (0 : Int) else 4) = 0 from rfl]
  have HB8 := Aside0.mk (below_alloc (below_step HB7.out hb) (.cells (vCs (bndV firstV eA3) q2) 26))
  have X8 := Aside0.mk (blk_new w8 (.cells (vCs (bndV firstV eA3) q2) 26))
  clear hb HB7 hy
  have b2 : (w8.alloc (.cells (vCs (bndV firstV eA3) q2) 26)).cell? ⟨w8.heap.size, 2, none⟩ = some (.int .u64 5) := (blk_cell X8.out 2).trans rfl
  have b1 : (w8.alloc (.cells (vCs (bndV firstV eA3) q2) 26)).cell? ⟨w8.heap.size, 1, none⟩ = some (.int .u64 1) := (blk_cell X8.out 1).trans rfl
  go_wp2_with fail
  go_ret
  exact ⟨rfl, HB8.out⟩
end Go.Proofs.Ytkjepfofiegcdaa.V
