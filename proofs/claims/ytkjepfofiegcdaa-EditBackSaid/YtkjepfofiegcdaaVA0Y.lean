import Derived.Test.YtkjepfofiegcdaaVE9Y
import Derived.Test.YtkjepfofiegcdaaVH2Y
/- What edit.Apply answers, in the plain: tables that go, tables that come, and the version behind. -/
namespace Go.Proofs.Ytkjepfofiegcdaa.V
open Go.RowKit Go.Proofs.YtkjepfofiegcdaaW.PrintWords Go.Proofs.YtkjepfofiegcdaaW.PrintLast Go.Proofs.YtkjepfofiegcdaaW.PrintMore Go.Proofs.Ytkjepfofiegcdaa.PB14
theorem catV4 (v : Ver) : catV v 4 = v.lv 0 ++ v.lv 1 ++ v.lv 2 ++ v.lv 3 := by
  simp [catV]
/-- How often a number is among a version's tables. -/
def cntV (v : Ver) (n : Int) : Nat := (nums (catV v 4)).count n
theorem lv_cnt (v : Ver) (n : Int) : cntV v n = (nums (v.lv 0)).count n + (nums (v.lv 1)).count n + (nums (v.lv 2)).count n + (nums (v.lv 3)).count n := by
  unfold cntV
  rw [catV4]
  unfold nums
  simp only [List.map_append, List.count_append]
/-- All numbers apart. -/
def apV (v : Ver) : Prop := ∀ n, cntV v n ≤ 1
theorem apV.lv {v : Ver} (h : apV v) {i : Nat} (hi : i < 4) : (nums (v.lv i)).Nodup := by
  rw [List.nodup_iff_count]
  intro n
  have h2 := h n
  rw [lv_cnt] at h2
  rcases (by omega : i = 0 ∨ i = 1 ∨ i = 2 ∨ i = 3) with rfl | rfl | rfl | rfl
  · omega
  · omega
  · omega
  · omega
/-! The steps. -/
/-- With an edit's numbers. -/
def bndV (v : Ver) (e : Edt) : Ver := ⟨laterN v.log e.log, laterN v.next e.next, laterN v.seq e.seq, v.lv 0, v.lv 1, v.lv 2, v.lv 3⟩
theorem bndV_lv (v : Ver) (e : Edt) (i : Nat) (hi : i < 4) : (bndV v e).lv i = v.lv i := by
  rcases i with _ | _ | _ | _ | i
  · rfl
  · rfl
  · rfl
  · rfl
  · omega
def zeroV : Ver := ⟨0, 0, 0, [], [], [], []⟩
end Go.Proofs.Ytkjepfofiegcdaa.V
