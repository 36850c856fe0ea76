import Derived.Test.YtkjepfofiegcdaaVM1Y
import Derived.Laws.CopyRow
import Derived.Lib.AppendZerosOnto
import Derived.Lib.Overlaps
/- Numbers of an edit that are told, long lists, an edit's lists (later, long, listed), walked. Conditions: none. -/
namespace Go.Proofs.Ytkjepfofiegcdaa.V
set_option linter.unusedVariables false
set_option linter.unusedSimpArgs false
open Go.RowKit Go.Proofs.YtkjepfofiegcdaaW.PrintWords Go.Proofs.YtkjepfofiegcdaaW.PrintLast Go.Proofs.YtkjepfofiegcdaaW.PrintMore Go.Proofs.Ytkjepfofiegcdaa.PB14
/-- A number of an edit, if it is told; false: it is less than what there was. -/
def laterB (was n : Int) : Bool := decide (n = 0) || decide (was ≤ n)
def laterN (was n : Int) : Int := if n = 0 then was else n
set_option maxHeartbeats 4000000 in
set_option maxRecDepth 100000 in
theorem later_calls (w : World) (g j t : Nat) (cs : Array Value) (was n : Int) (hg : w.heap[g]? = some (.cells cs t (0, 0))) (hj : cs[j]? = some (.int .u64 was)) :
    Calls Try.prog 102 #[.pointer (some ⟨g, j, none⟩), .int .u64 n] w fun e w' => e = .returned (.bool (laterB was n)) ∧ w' = (if n = 0 then w else w.setCell ⟨g, j, none⟩ (.int .u64 n)) := by
  have hf : w.frozen? ⟨g, j, none⟩ = false := by simp [World.frozen?, hg]
  have h : w.cell? ⟨g, j, none⟩ = some (.int .u64 was) := (blk_cell hg j).trans hj
  clear hg hj
  by_cases h0 : n = 0
  · have e0 : (n == 0) = true := beq_iff_eq.mpr h0
    go_enter Try.func102, Try.ntmps102
    go_wp2_with fail
    go_ret
    exact ⟨ret_bool (by simp [laterB, h0]), by simp [h0]⟩
  · have e0 : (n == 0) = false := beq_eq_false_iff_ne.mpr h0
    have eb : laterB was n = decide (was ≤ n) := by simp [laterB, h0]
    rw [eb, if_neg h0]
    clear eb
    go_enter Try.func102, Try.ntmps102
    go_wp2_with fail
    go_ret
    exact ⟨rfl, rfl⟩
def longP (e : Edt) : Prop := 300 < e.gone.length ∨ 300 < e.added.length
instance (e : Edt) : Decidable (longP e) := by unfold longP; infer_instance
set_option maxHeartbeats 4000000 in
set_option maxRecDepth 100000 in
theorem long_calls (w : World) (e : Edt) (A1 A2 : Option Addr) (c1 c2 : Nat) : Calls Try.prog 52 #[.agg (eCs e A1 c1 A2 c2)] w fun x w' => x = .returned (.bool (decide (longP e))) ∧ Below w.heap.size w w' := by
  have HB := Aside0.mk ((Below.refl w.heap.size w).alloc (Nat.le_refl _) (.cells (eCs e A1 c1 A2 c2) 70))
  by_cases h1 : (e.gone.length : Int) > 300
  · have t0 : decide (300 < (e.gone.length : Int)) = true := decide_eq_true h1
    have t1 : decide (300 < e.gone.length) = true := decide_eq_true (by omega)
    have ER := Aside0.mk (show decide (longP e) = true from decide_eq_true (Or.inl (by omega)))
    rw [ER.out]
    clear h1
    go_enter Try.func52, Try.ntmps52
    go_wp2_with fail
    go_ret
    exact ⟨rfl, HB.out⟩
  · have t0 : decide (300 < (e.gone.length : Int)) = false := decide_eq_false h1
    have t1 : decide (300 < e.gone.length) = false := decide_eq_false (by omega)
    by_cases h2 : (e.added.length : Int) > 300
    · have t2 : decide (300 < (e.added.length : Int)) = true := decide_eq_true h2
      have t3 : decide (300 < e.added.length) = true := decide_eq_true (by omega)
      have ER := Aside0.mk (show decide (longP e) = true from decide_eq_true (Or.inr (by omega)))
      rw [ER.out]
      clear h1 h2
      go_enter Try.func52, Try.ntmps52
      go_wp2_with fail
      go_ret
      exact ⟨rfl, HB.out⟩
    · have t2 : decide (300 < (e.added.length : Int)) = false := decide_eq_false h2
      have t3 : decide (300 < e.added.length) = false := decide_eq_false (by omega)
      have ER := Aside0.mk (show decide (longP e) = false from decide_eq_false (by rintro (h | h) <;> omega))
      rw [ER.out]
      clear h1 h2
      go_enter Try.func52, Try.ntmps52
      go_wp2_with fail
      go_ret
      exact ⟨rfl, HB.out⟩
theorem ret_i {a b : Int} (h : a = b) : Ending.returned (.int .i64 a) = .returned (.int .i64 b) := by rw [h]
/-- An edit's lists stand. -/
def goneOk (x : S84) : Prop := 0 ≤ x.f0 ∧ x.f0 < 4
def addOk (x : S82) : Prop := (0 ≤ x.f0 ∧ x.f0 < 4) ∧ mayP x.f1
instance (x : S84) : Decidable (goneOk x) := by unfold goneOk; infer_instance
instance (x : S82) : Decidable (addOk x) := by unfold addOk; infer_instance
def listedP (e : Edt) : Prop := (∀ x, x ∈ e.gone → goneOk x) ∧ ∀ x, x ∈ e.added → addOk x
instance (e : Edt) : Decidable (listedP e) := by unfold listedP; infer_instance
theorem all_getD {α : Type} {p : α → Prop} {l : List α} {z : α} (h : ∀ j, j < l.length → p (l.getD j z)) : ∀ x, x ∈ l → p x := fun x hx => by
  obtain ⟨i, hi, hx2⟩ := List.getElem_of_mem hx
  have := h i hi
  rw [List.getD_eq_getElem?_getD, List.getElem?_eq_getElem hi] at this
  rw [← hx2]
  exact this
set_option maxHeartbeats 8000000 in
set_option maxRecDepth 100000 in
theorem listed_calls (w : World) (e : Edt) (A1 A2 : Option Addr) (c1 c2 : Nat) (h1 : k84.C w A1 e.gone.length e.gone) (h2 : k82.C w A2 e.added.length e.added) :
    Calls Try.prog 103 #[.agg (eCs e A1 c1 A2 c2)] w fun x w' => x = .returned (.int .i64 (if listedP e then 0 else 2)) ∧ Below w.heap.size w w' := by
  have H1 := Aside0.mk h1
  have H2 := Aside0.mk h2
  have HB := Aside0.mk ((Below.refl w.heap.size w).alloc (Nat.le_refl _) (.cells (eCs e A1 c1 A2 c2) 70))
  have X1 := Aside0.mk (blk_new w (.cells (eCs e A1 c1 A2 c2) 70))
  clear h1 h2
  obtain ⟨r, hr⟩ : ∃ r : Int, r = if listedP e then 0 else 2 := ⟨_, rfl⟩
  rw [← hr]
  have HRR := Aside0.mk hr
  clear hr
  go_enter Try.func103, Try.ntmps103
  go_upto_region 1 with (fail)
  generalize w.alloc (.cells (eCs e A1 c1 A2 c2) 70) = w1 at *
  have b3 : w1.cell? ⟨w.heap.size, 3, none⟩ = some (.slice A1 e.gone.length c1) := (blk_cell X1.out 3).trans rfl
  go_wp2_with fail
  clear b3
  go_loopg [4, 10] e.gone.length (fun kq v4 v10 w' => ∃ k : Nat, v10 = .int .i64 (k : Int) ∧ Aside0 (kq + k = e.gone.length) ∧ Aside0 (Below w1.heap.size w1 w') ∧ Aside0 (∀ j, j < k → goneOk (e.gone.getD j z84)))
  case atStart => exact ⟨0, rfl, ⟨by omega⟩, ⟨Below.refl _ _⟩, ⟨fun j hj => by omega⟩⟩
  case round =>
    obtain ⟨k, rfl, HK, HBW, HJ⟩ := hrel
    cases gk with
    | zero =>
      have ek : k = e.gone.length := by have := HK.out; omega
      subst ek
      have d0 : decide ((e.gone.length : Int) < (e.gone.length : Int)) = false := by simp
      have G1 := Aside0.mk (all_getD HJ.out)
      have X1r := Aside0.mk (blk_below X1.out HBW.out)
      have b4 : wr.cell? ⟨w.heap.size, 4, none⟩ = some (.slice A2 e.added.length c2) := (blk_cell X1r.out 4).trans rfl
      have HB2 := Aside0.mk (below_step HB.out HBW.out)
      clear HK HJ X1 HB HBW
      go_wp2_with fail
      clear b4 d0
      generalize hw5 : wr = w5 at *
      clear hw5
      go_loopg [6, 22] e.added.length (fun kq v6 v22 w' => ∃ k : Nat, v22 = .int .i64 (k : Int) ∧ Aside0 (kq + k = e.added.length) ∧ Aside0 (Below w.heap.size w w') ∧ Aside0 (∀ j, j < k → addOk (e.added.getD j z82)))
      case atStart => exact ⟨0, rfl, ⟨by omega⟩, HB2, ⟨fun j hj => by omega⟩⟩
      case round =>
        clear HB2
        obtain ⟨k, rfl, HK, HBW, HJ⟩ := hrel
        cases gk with
        | zero =>
          have ek : k = e.added.length := by have := HK.out; omega
          subst ek
          have d0 : decide ((e.added.length : Int) < (e.added.length : Int)) = false := by simp
          go_wp2_with fail
          go_ret
          exact ⟨ret_i (by rw [HRR.out, if_pos ⟨G1.out, all_getD HJ.out⟩]), HBW.out⟩
        | succ q =>
          have hk : k < e.added.length := by have := HK.out; omega
          have HM := Aside0.mk (show e.added.length ≤ 9223372036854775807 from H2.out.2.1)
          have d0 : decide ((k : Int) < (e.added.length : Int)) = true := decide_eq_true (by omega)
          have d1 : decide (k < e.added.length) = true := decide_eq_true hk
          have p0 : 0 ≤ (k : Int) := Int.natCast_nonneg _
          have p1 : (k : Int) < (e.added.length : Int) := by omega
          have CX := Kd.C_below H2.out HBW.out
          obtain ⟨ad, ea, ha0, ha1, ha2, ha3, ha4, ha5, ha6, ha7⟩ := at_T82 CX (k : Int) p0 p1
          rw [Int.toNat_natCast] at ha0 ha1 ha2 ha3 ha4 ha5 ha6 ha7
          have EA := Aside0.mk (show rd_T82 e.added (k : Int) = e.added.getD k z82 by unfold rd_T82; rw [Int.toNat_natCast])
          have EM := Aside0.mk (show e.added.getD k z82 ∈ e.added from getD_mem _ z82 hk)
          generalize rd_T82 e.added (k : Int) = m at *
          rw [ea]
          have HAX := Aside0.mk ea
          have ew : wrap64 ((k : Int) + 1) = ((k + 1 : Nat) : Int) := by have h1 := HM.out; unfold wrap64; omega
          have n0_ := Aside0.mk (below_step HBW.out ((Below.refl wr.heap.size wr).alloc (Nat.le_refl _) (.cells (pCs m) 82)))
          have Y1 := Aside0.mk (blk_new wr (.cells (pCs m) 82))
          clear ea hk CX
          by_cases hp : 0 ≤ m.f0 ∧ m.f0 < 4
          · have DP := Aside0.mk (decide_eq_true hp)
            go_wp2_with fail
            refine (level_calls _ _).mono ?_
            rintro x w2 ⟨rfl, hb⟩
            rw [DP.out]
            have Y2 := Aside0.mk (blk_below Y1.out hb)
            have n1_ := Aside0.mk (below_step n0_.out hb)
            clear hb
            have y1 : w2.cell? ⟨wr.heap.size, 1, none⟩ = some (.int .u64 m.f1.f0) := (blk_cell Y2.out 1).trans rfl
            have y2 : w2.cell? ⟨wr.heap.size, 2, none⟩ = some (.int .i64 m.f1.f1) := (blk_cell Y2.out 2).trans rfl
            have y3 : w2.cell? ⟨wr.heap.size, 3, none⟩ = some (.int .i64 m.f1.f2) := (blk_cell Y2.out 3).trans rfl
            have y4 : w2.cell? ⟨wr.heap.size, 4, none⟩ = some (.string m.f1.f3) := (blk_cell Y2.out 4).trans rfl
            have y5 : w2.cell? ⟨wr.heap.size, 5, none⟩ = some (.string m.f1.f4) := (blk_cell Y2.out 5).trans rfl
            have y6 : w2.cell? ⟨wr.heap.size, 6, none⟩ = some (.int .u64 m.f1.f5) := (blk_cell Y2.out 6).trans rfl
            have y7 : w2.cell? ⟨wr.heap.size, 7, none⟩ = some (.int .u64 m.f1.f6) := (blk_cell Y2.out 7).trans rfl
            by_cases hm : mayP m.f1
            · have DM := Aside0.mk (decide_eq_true hm)
              have OK1 := Aside0.mk (show addOk m from ⟨hp, hm⟩)
              clear hp hm
              go_wp2_with fail
              refine (may_calls _ _).mono ?_
              rintro x w3 ⟨rfl, hb⟩
              rw [DM.out]
              have n2_ := Aside0.mk (below_step n1_.out hb)
              clear hb y1 y2 y3 y4 y5 y6 y7
              go_wp2_with fail
              try rw [ew]
              rw [← HAX.out]
              clear ew
              go_roundg q
              case measure => omega
              case rel => exact ⟨k + 1, rfl, ⟨by have := HK.out; omega⟩, n2_, ⟨fun j hj => by
                by_cases e : j = k
                · subst e; rw [← EA.out]; exact OK1.out
                · exact HJ.out j (by omega)⟩⟩
            · have DM := Aside0.mk (decide_eq_false hm)
              have HN := Aside0.mk (show ¬ listedP e from fun h => hm (by have := (h.2 _ EM.out).2; rw [← EA.out] at this; exact this))
              clear hp hm
              go_wp2_with fail
              refine (may_calls _ _).mono ?_
              rintro x w3 ⟨rfl, hb⟩
              rw [DM.out]
              have n2_ := Aside0.mk (below_step n1_.out hb)
              clear hb y1 y2 y3 y4 y5 y6 y7
              go_wp2_with fail
              go_ret
              exact ⟨ret_i (by rw [HRR.out, if_neg HN.out]), n2_.out⟩
          · have DP := Aside0.mk (decide_eq_false hp)
            have HN := Aside0.mk (show ¬ listedP e from fun h => hp (by have := (h.2 _ EM.out).1; rw [← EA.out] at this; exact this))
            clear hp
            go_wp2_with fail
            refine (level_calls _ _).mono ?_
            rintro x w2 ⟨rfl, hb⟩
            rw [DP.out]
            have n1_ := Aside0.mk (below_step n0_.out hb)
            clear hb
            go_wp2_with fail
            go_ret
            exact ⟨ret_i (by rw [HRR.out, if_neg HN.out]), n1_.out⟩
    | succ q =>
      have hk : k < e.gone.length := by have := HK.out; omega
      have HM := Aside0.mk (show e.gone.length ≤ 9223372036854775807 from H1.out.2.1)
      have d0 : decide ((k : Int) < (e.gone.length : Int)) = true := decide_eq_true (by omega)
      have d1 : decide (k < e.gone.length) = true := decide_eq_true hk
      have p0 : 0 ≤ (k : Int) := Int.natCast_nonneg _
      have p1 : (k : Int) < (e.gone.length : Int) := by omega
      have CX := Kd.C_below H1.out (below_step HB.out HBW.out)
      obtain ⟨ad, ea, ha0, ha1⟩ := at_T84 CX (k : Int) p0 p1
      rw [Int.toNat_natCast] at ha0 ha1
      have EA := Aside0.mk (show rd_T84 e.gone (k : Int) = e.gone.getD k z84 by unfold rd_T84; rw [Int.toNat_natCast])
      have EM := Aside0.mk (show e.gone.getD k z84 ∈ e.gone from getD_mem _ z84 hk)
      generalize rd_T84 e.gone (k : Int) = m at *
      rw [ea]
      have HAX := Aside0.mk ea
      have ew : wrap64 ((k : Int) + 1) = ((k + 1 : Nat) : Int) := by have h1 := HM.out; unfold wrap64; omega
      have n0_ := Aside0.mk (below_step HBW.out ((Below.refl wr.heap.size wr).alloc (Nat.le_refl _) (.cells (gCs m) 84)))
      clear ea hk CX
      by_cases hp : 0 ≤ m.f0 ∧ m.f0 < 4
      · have DP := Aside0.mk (decide_eq_true hp)
        have OK1 := Aside0.mk (show goneOk m from hp)
        clear hp
        go_wp2_with fail
        refine (level_calls _ _).mono ?_
        rintro x w2 ⟨rfl, hb⟩
        rw [DP.out]
        have n1_ := Aside0.mk (below_step n0_.out hb)
        clear hb
        go_wp2_with fail
        try rw [ew]
        rw [← HAX.out]
        clear ew
        go_roundg q
        case measure => omega
        case rel => exact ⟨k + 1, rfl, ⟨by have := HK.out; omega⟩, n1_, ⟨fun j hj => by
          by_cases e : j = k
          · subst e; rw [← EA.out]; exact OK1.out
          · exact HJ.out j (by omega)⟩⟩
      · have DP := Aside0.mk (decide_eq_false hp)
        have HN := Aside0.mk (show ¬ listedP e from fun h => hp (by have := h.1 _ EM.out; rw [← EA.out] at this; exact this))
        clear hp
        go_wp2_with fail
        refine (level_calls _ _).mono ?_
        rintro x w2 ⟨rfl, hb⟩
        rw [DP.out]
        have n1_ := Aside0.mk (below_step n0_.out hb)
        clear hb
        go_wp2_with fail
        go_ret
        exact ⟨ret_i (by rw [HRR.out, if_neg HN.out]), below_step HB.out n1_.out⟩
end Go.Proofs.Ytkjepfofiegcdaa.V
/- A list less a number (freshetref14.without), walked. Conditions: at most 10 to the 9th rows. -/
namespace Go.Proofs.Ytkjepfofiegcdaa.V
set_option linter.unusedVariables false
set_option linter.unusedSimpArgs false
open Go.RowKit Go.Proofs.YtkjepfofiegcdaaW.PrintWords Go.Proofs.YtkjepfofiegcdaaW.PrintLast Go.Proofs.YtkjepfofiegcdaaW.PrintMore Go.Proofs.Ytkjepfofiegcdaa.PB14
/-- A list less a number; of its first k. -/
def wo (l : List S58) (n : Int) (k : Nat) : List S58 := (l.take k).filter fun m => decide (¬ m.f0 = n)
def woL (l : List S58) (n : Int) : List S58 := l.filter fun m => decide (¬ m.f0 = n)
end Go.Proofs.Ytkjepfofiegcdaa.V
/- A list with a table at its place (freshetref14.with), walked. Conditions: at most 10 to the 9th rows, a level that is not negative. -/
namespace Go.Proofs.Ytkjepfofiegcdaa.V
set_option linter.unusedVariables false
set_option linter.unusedSimpArgs false
open Go.RowKit Go.Proofs.YtkjepfofiegcdaaW.PrintWords Go.Proofs.YtkjepfofiegcdaaW.PrintLast Go.Proofs.YtkjepfofiegcdaaW.PrintMore Go.Proofs.Ytkjepfofiegcdaa.PB14
/-- Does x stand before m at a level? -/
def befP (lv : Int) (m x : S58) : Prop := (lv = 0 ∧ x.f0 < m.f0) ∨ (lv > 0 ∧ Op.bytesLess m.f3.toList x.f3.toList = false)
instance (lv : Int) (m x : S58) : Decidable (befP lv m x) := by unfold befP; infer_instance
def plc (lv : Int) (m : S58) (l : List S58) : Nat := (l.takeWhile fun x => decide (befP lv m x)).length
def wiL (lv : Int) (m : S58) (l : List S58) : List S58 := l.take (plc lv m l) ++ m :: l.drop (plc lv m l)
theorem plc_at {lv : Int} {m : S58} : ∀ {l : List S58} {k : Nat}, k ≤ l.length → (∀ j, j < k → befP lv m (l.getD j z58)) → (k = l.length ∨ ¬ befP lv m (l.getD k z58)) → plc lv m l = k := by
  intro l
  induction l with
  | nil => intro k hk _ _; simp at hk; subst hk; rfl
  | cons x xs ih =>
    intro k hk hj he
    cases k with
    | zero =>
      have h : ¬ befP lv m x := by
        rcases he with he | he
        · simp at he
        · simpa using he
      unfold plc
      rw [List.takeWhile_cons_of_neg (by simpa using h)]
      rfl
    | succ k =>
      have h0 : befP lv m x := by have := hj 0 (by omega); simpa using this
      have h1 : plc lv m xs = k := ih (by simp at hk; omega) (fun j hj2 => by have := hj (j + 1) (by omega); simpa using this) (by
        rcases he with he | he
        · left; simp at he; exact he
        · right; simpa using he)
      unfold plc at h1 ⊢
      rw [List.takeWhile_cons_of_pos (by simpa using h0), List.length_cons, h1]
end Go.Proofs.Ytkjepfofiegcdaa.V
/- What edit.Apply answers, in the plain: tables that go, tables that come, and the version behind. -/
namespace Go.Proofs.Ytkjepfofiegcdaa.V
open Go.RowKit Go.Proofs.YtkjepfofiegcdaaW.PrintWords Go.Proofs.YtkjepfofiegcdaaW.PrintLast Go.Proofs.YtkjepfofiegcdaaW.PrintMore Go.Proofs.Ytkjepfofiegcdaa.PB14
theorem mem_nums {l : List S58} {n : Int} : n ∈ nums l ↔ ∃ m, m ∈ l ∧ m.f0 = n := by unfold nums; exact List.mem_map
theorem woL_none {l : List S58} {n : Int} (h : n ∉ nums l) : woL l n = l := by
  unfold woL
  rw [List.filter_eq_self]
  intro m hm
  exact decide_eq_true fun e => h (mem_nums.mpr ⟨m, hm, e⟩)
theorem erase_first : ∀ {l : List S58} {n : Int} {k : Nat}, k < l.length → (l.getD k z58).f0 = n → (nums l).Nodup → l.eraseIdx k = woL l n
  | [], _, _, hk, _, _ => by simp at hk
  | a :: l, n, 0, _, he, hN => by
    have he' : a.f0 = n := he
    have hn : n ∉ nums l := by
      unfold nums at hN ⊢
      rw [List.map_cons, List.nodup_cons] at hN
      rw [← he']; exact hN.1
    have h2 := woL_none hn
    unfold woL at h2 ⊢
    rw [List.eraseIdx_cons_zero, List.filter_cons, if_neg (by simp [he']), h2]
  | a :: l, n, k + 1, hk, he, hN => by
    have hk' : k < l.length := by simpa using hk
    have he' : (l.getD k z58).f0 = n := by simpa using he
    unfold nums at hN
    rw [List.map_cons, List.nodup_cons] at hN
    have hne : ¬ a.f0 = n := fun e => hN.1 (e ▸ mem_nums.mpr ⟨_, getD_mem l z58 hk', he'⟩)
    have ih := erase_first hk' he' hN.2
    unfold woL at ih ⊢
    rw [List.eraseIdx_cons_succ, List.filter_cons, if_pos (by simp [hne]), ih]
theorem catV4 (v : Ver) : catV v 4 = v.lv 0 ++ v.lv 1 ++ v.lv 2 ++ v.lv 3 := by
  simp [catV]
/-- How often a number is among a version's tables. -/
def cntV (v : Ver) (n : Int) : Nat := (nums (catV v 4)).count n
theorem lv_cnt (v : Ver) (n : Int) : cntV v n = (nums (v.lv 0)).count n + (nums (v.lv 1)).count n + (nums (v.lv 2)).count n + (nums (v.lv 3)).count n := by
  unfold cntV
  rw [catV4]
  unfold nums
  simp only [List.map_append, List.count_append]
theorem set_cnt (v : Ver) (i : Nat) (hi : i < 4) (l : List S58) (n : Int) : cntV (v.set i l) n + (nums (v.lv i)).count n = cntV v n + (nums l).count n := by
  rw [lv_cnt, lv_cnt]
  rw [Ver.set_lv v i 0 hi (by omega), Ver.set_lv v i 1 hi (by omega), Ver.set_lv v i 2 hi (by omega), Ver.set_lv v i 3 hi (by omega)]
  rcases i with _ | _ | _ | _ | i
  · simp; omega
  · simp; omega
  · simp; omega
  · simp; omega
  · omega
/-- All numbers apart. -/
def apV (v : Ver) : Prop := ∀ n, cntV v n ≤ 1
theorem apV_of {v : Ver} (h : (nums (catV v 4)).Nodup) : apV v := fun n => List.nodup_iff_count.mp h n
theorem apV.lv {v : Ver} (h : apV v) {i : Nat} (hi : i < 4) : (nums (v.lv i)).Nodup := by
  rw [List.nodup_iff_count]
  intro n
  have h2 := h n
  rw [lv_cnt] at h2
  rcases (by omega : i = 0 ∨ i = 1 ∨ i = 2 ∨ i = 3) with rfl | rfl | rfl | rfl
  · omega
  · omega
  · omega
  · omega
theorem woL_cnt (l : List S58) (n m : Int) : (nums (woL l n)).count m ≤ (nums l).count m := by
  unfold nums woL
  exact List.Sublist.count_le m (List.Sublist.map _ List.filter_sublist)
theorem apV.wo {v : Ver} (h : apV v) {i : Nat} (hi : i < 4) (n : Int) : apV (v.set i (woL (v.lv i) n)) := fun m => by
  have h1 := h m
  have h2 := set_cnt v i hi (woL (v.lv i) n) m
  have h3 := woL_cnt (v.lv i) n m
  omega
theorem wiL_cnt (lv : Int) (m : S58) (l : List S58) (n : Int) : (nums (wiL lv m l)).count n = (nums l).count n + if m.f0 = n then 1 else 0 := by
  have h : l = l.take (plc lv m l) ++ l.drop (plc lv m l) := (List.take_append_drop _ _).symm
  have h2 : (nums l).count n = (nums (l.take (plc lv m l))).count n + (nums (l.drop (plc lv m l))).count n := by
    conv => lhs; rw [h]
    unfold nums
    rw [List.map_append, List.count_append]
  unfold wiL
  rw [h2]
  unfold nums
  rw [List.map_append, List.map_cons, List.count_append, List.count_cons]
  by_cases e : m.f0 = n
  · simp [e]; omega
  · simp [e]
theorem wi_cnt (v : Ver) {i : Nat} (hi : i < 4) (lv : Int) (m : S58) (n : Int) : cntV (v.set i (wiL lv m (v.lv i))) n = cntV v n + if m.f0 = n then 1 else 0 := by
  have h1 := set_cnt v i hi (wiL lv m (v.lv i)) n
  have h2 := wiL_cnt lv m (v.lv i) n
  omega
theorem wiL_len (lv : Int) (m : S58) (l : List S58) : (wiL lv m l).length = l.length + 1 := by
  unfold wiL
  rw [List.length_append, List.length_cons, ← Nat.add_assoc, ← List.length_append, List.take_append_drop]
/-! The steps. -/
def goV (v : Ver) (x : S84) : Option Ver :=
  if x.f1 ∈ nums (v.lv x.f0.toNat) then some (v.set x.f0.toNat (woL (v.lv x.f0.toNat) x.f1)) else none
def gosV : Ver → List S84 → Option Ver
  | v, [] => some v
  | v, x :: r => (goV v x).bind fun u => gosV u r
def adV (v : Ver) (x : S82) : Option Ver :=
  if 0 < cntV v x.f1.f0 then none else some (v.set x.f0.toNat (wiL x.f0 x.f1 (v.lv x.f0.toNat)))
def adsV : Ver → List S82 → Option Ver
  | v, [] => some v
  | v, x :: r => (adV v x).bind fun u => adsV u r
/-- With an edit's numbers. -/
def bndV (v : Ver) (e : Edt) : Ver := ⟨laterN v.log e.log, laterN v.next e.next, laterN v.seq e.seq, v.lv 0, v.lv 1, v.lv 2, v.lv 3⟩
theorem bndV_lv (v : Ver) (e : Edt) (i : Nat) (hi : i < 4) : (bndV v e).lv i = v.lv i := by
  rcases i with _ | _ | _ | _ | i
  · rfl
  · rfl
  · rfl
  · rfl
  · omega
def zeroV : Ver := ⟨0, 0, 0, [], [], [], []⟩
/-- May the edit be asked of this version? -/
def askE (v : Ver) (e : Edt) : Prop := (rightP v ∧ laterB v.log e.log = true ∧ laterB v.next e.next = true ∧ laterB v.seq e.seq = true) ∧ listedP e
open Classical in
noncomputable def lastV (u : Ver) : Ver × Int := if rightP u then (u, 0) else (zeroV, 11)
noncomputable def comeV (u : Ver) (l : List S82) : Ver × Int := match adsV u l with
  | none => (zeroV, 5)
  | some x => lastV x
noncomputable def goneV (u : Ver) (l : List S84) (r : List S82) : Ver × Int := match gosV u l with
  | none => (zeroV, 4)
  | some x => comeV x r
open Classical in
/-- What Apply answers. -/
noncomputable def applyV (v : Ver) (e : Edt) : Ver × Int := if askE v e then goneV (bndV v e) e.gone e.added else (zeroV, 2)
theorem goneV_cons (u : Ver) (x : S84) (l : List S84) (r : List S82) : goneV u (x :: l) r = match goV u x with
    | none => (zeroV, 4)
    | some y => goneV y l r := by
  unfold goneV
  rw [gosV]
  cases goV u x with
  | none => rfl
  | some y => rfl
theorem comeV_cons (u : Ver) (x : S82) (l : List S82) : comeV u (x :: l) = match adV u x with
    | none => (zeroV, 5)
    | some y => comeV y l := by
  unfold comeV
  rw [adsV]
  cases adV u x with
  | none => rfl
  | some y => rfl
end Go.Proofs.Ytkjepfofiegcdaa.V
/- The closure of Apply (105), slices.IndexFunc at it (104), walked. Conditions: none. -/
namespace Go.Proofs.Ytkjepfofiegcdaa.V
set_option linter.unusedVariables false
set_option linter.unusedSimpArgs false
open Go.RowKit Go.Proofs.YtkjepfofiegcdaaW.PrintWords Go.Proofs.YtkjepfofiegcdaaW.PrintLast Go.Proofs.YtkjepfofiegcdaaW.PrintMore Go.Proofs.Ytkjepfofiegcdaa.PB14
set_option maxHeartbeats 4000000 in
set_option maxRecDepth 100000 in
theorem pred105_calls (w : World) (m : S58) (x : S84) (gb : Nat) (hx : w.heap[gb]? = some (.cells (gCs x) 84 (0, 0))) :
    Calls Try.prog 105 #[.agg (mCs m), .pointer (some ⟨gb, 0, none⟩)] w fun e w' => e = .returned (.bool (decide (m.f0 = x.f1))) ∧ Below w.heap.size w w' := by
  have HB := Aside0.mk ((Below.refl w.heap.size w).alloc (Nat.le_refl _) (.cells (mCs m) 58))
  have X1 := Aside0.mk (blk_new w (.cells (mCs m) 58))
  have X2 := Aside0.mk (blk_alloc hx (.cells (mCs m) 58))
  clear hx
  go_enter Try.func105, Try.ntmps105
  go_upto_region 1 with (fail)
  generalize w.alloc (.cells (mCs m) 58) = w1 at *
  have y0 : w1.cell? ⟨w.heap.size, 0, none⟩ = some (.int .u64 m.f0) := (blk_cell X1.out 0).trans rfl
  have y1 : w1.cell? ⟨gb, 1, none⟩ = some (.int .u64 x.f1) := (blk_cell X2.out 1).trans rfl
  go_wp2_with fail
  go_ret
  exact ⟨ret_bool (by rw [Bool.eq_iff_iff]; simp), HB.out⟩
set_option maxHeartbeats 8000000 in
set_option maxRecDepth 100000 in
theorem indexF_calls (w : World) (A : Option Addr) (c : Nat) (l : List S58) (x : S84) (gb : Nat) (hC : k58.C w A l.length l) (hx : w.heap[gb]? = some (.cells (gCs x) 84 (0, 0))) :
    Calls Try.prog 104 #[.slice A l.length c, .func (.func 105) #[] #[.pointer (some ⟨gb, 0, none⟩)]] w fun e w' => ∃ i : Int, e = .returned (.int .i64 i) ∧ ((i = -1 ∧ ∀ j, j < l.length → ¬ (l.getD j z58).f0 = x.f1) ∨ ∃ k : Nat, i = (k : Int) ∧ k < l.length ∧ (l.getD k z58).f0 = x.f1 ∧ ∀ j, j < k → ¬ (l.getD j z58).f0 = x.f1) ∧ Below w.heap.size w w' := by
  have HC := Aside0.mk hC
  have HX := Aside0.mk hx
  clear hC hx
  go_enter Try.func104, Try.ntmps104
  go_wp2_with fail
  go_loopg [5, 8] l.length (fun kq v5 v8 w' => ∃ k : Nat, v8 = .int .i64 (k : Int) ∧ Aside0 (kq + k = l.length) ∧ Aside0 (Below w.heap.size w w') ∧ Aside0 (∀ j, j < k → ¬ (l.getD j z58).f0 = x.f1))
  case atStart => exact ⟨0, rfl, ⟨by omega⟩, ⟨Below.refl _ _⟩, ⟨fun j hj => by omega⟩⟩
  case round =>
    obtain ⟨k, rfl, HK, HB, HJ⟩ := hrel
    cases gk with
    | zero =>
      have ek : k = l.length := by have := HK.out; omega
      subst ek
      have d0 : decide ((l.length : Int) < (l.length : Int)) = false := by simp
      go_wp2_with fail
      go_ret
      exact ⟨-1, rfl, .inl ⟨rfl, HJ.out⟩, HB.out⟩
    | succ q =>
      have hk : k < l.length := by have := HK.out; omega
      have HM := Aside0.mk (show l.length ≤ 9223372036854775807 from HC.out.2.1)
      have d0 : decide ((k : Int) < (l.length : Int)) = true := decide_eq_true (by omega)
      have d1 : decide (k < l.length) = true := decide_eq_true hk
      have p0 : 0 ≤ (k : Int) := Int.natCast_nonneg _
      have p1 : (k : Int) < (l.length : Int) := by omega
      have HC1 := Aside0.mk (Kd.C_below HC.out HB.out)
      obtain ⟨ad, ea, ha0, ha1, ha2, ha3, ha4, ha5, ha6⟩ := at_T58 HC1.out (k : Int) p0 p1
      rw [Int.toNat_natCast] at ha0 ha1 ha2 ha3 ha4 ha5 ha6
      have EM := Aside0.mk (show rd_T58 l (k : Int) = l.getD k z58 by unfold rd_T58; rw [Int.toNat_natCast])
      generalize rd_T58 l (k : Int) = m at *
      have ew : wrap64 ((k : Int) + 1) = ((k + 1 : Nat) : Int) := by have h1 := HM.out; unfold wrap64; omega
      have KL := Aside0.mk hk
      have HX1 := Aside0.mk (blk_below HX.out HB.out)
      rw [ea]
      have HAX := Aside0.mk ea
      clear ea hk HC1
      by_cases hm : m.f0 = x.f1
      · have D := Aside0.mk (decide_eq_true hm)
        have EX := Aside0.mk (show (l.getD k z58).f0 = x.f1 by rw [← EM.out]; exact hm)
        clear hm
        go_wp2_with fail
        refine (pred105_calls _ m x gb HX1.out).mono ?_
        rintro e w3 ⟨rfl, hb⟩
        rw [D.out]
        have HB3 := Aside0.mk (below_step HB.out hb)
        clear hb
        go_wp2_with fail
        go_ret
        exact ⟨(k : Int), rfl, .inr ⟨k, rfl, KL.out, EX.out, HJ.out⟩, HB3.out⟩
      · have D := Aside0.mk (decide_eq_false hm)
        have EX := Aside0.mk (show ¬ (l.getD k z58).f0 = x.f1 by rw [← EM.out]; exact hm)
        clear hm
        go_wp2_with fail
        refine (pred105_calls _ m x gb HX1.out).mono ?_
        rintro e w3 ⟨rfl, hb⟩
        rw [D.out]
        have HB3 := Aside0.mk (below_step HB.out hb)
        clear hb
        go_wp2_with fail
        try rw [ew]
        rw [← HAX.out]
        clear ew
        go_roundg q
        case measure => omega
        case rel => exact ⟨k + 1, rfl, ⟨by have := HK.out; omega⟩, HB3, ⟨fun j hj => by
          by_cases e : j = k
          · subst e; exact EX.out
          · exact HJ.out j (by omega)⟩⟩
end Go.Proofs.Ytkjepfofiegcdaa.V
/- slices.Equal of tables, edit.Same, First, walked. Conditions: none. -/
namespace Go.Proofs.Ytkjepfofiegcdaa.V
set_option linter.unusedVariables false
set_option linter.unusedSimpArgs false
open Go.RowKit Go.Proofs.YtkjepfofiegcdaaW.PrintWords Go.Proofs.YtkjepfofiegcdaaW.PrintLast Go.Proofs.YtkjepfofiegcdaaW.PrintMore Go.Proofs.Ytkjepfofiegcdaa.PB14
attribute [local go_sem high] eqA58
set_option maxHeartbeats 8000000 in
set_option maxRecDepth 100000 in
theorem eqM_calls (w : World) (A B : Option Addr) (c d : Nat) (xs ys : List S58) (hx : k58.C w A xs.length xs) (hy : k58.C w B ys.length ys) : Calls Try.prog 116 #[.slice A xs.length c, .slice B ys.length d] w fun e w' => e = .returned (.bool (decide (xs = ys))) ∧ Below w.heap.size w w' := by
  have HX := Aside0.mk hx
  have HY := Aside0.mk hy
  clear hx hy
  obtain ⟨r, hr⟩ : ∃ r, r = decide (xs = ys) := ⟨_, rfl⟩
  rw [← hr]
  have HRR := Aside0.mk hr
  clear hr
  by_cases hl : xs.length = ys.length
  · have l0 : ((xs.length : Int) != (ys.length : Int)) = false := by rw [hl]; simp
    have l1 : (xs.length != ys.length) = false := by rw [hl]; simp
    have l2 : ((xs.length : Int) == (ys.length : Int)) = true := by rw [hl]; simp
    have l3 : (xs.length == ys.length) = true := by rw [hl]; simp
    have HL := Aside0.mk hl
    clear hl
    go_enter Try.func116, Try.ntmps116
    go_wp2_with fail
    clear l0 l1 l2 l3
    go_loopg [5, 13] xs.length (fun kq v5 v13 w' => ∃ k : Nat, v13 = .int .i64 (k : Int) ∧ Aside0 (kq + k = xs.length) ∧ Aside0 (Below w.heap.size w w') ∧ Aside0 (xs.take k = ys.take k))
    case atStart => exact ⟨0, rfl, ⟨by omega⟩, ⟨Below.refl _ _⟩, ⟨rfl⟩⟩
    case round =>
      obtain ⟨k, rfl, HK, HB, HT⟩ := hrel
      cases gk with
      | zero =>
        have ek : k = xs.length := by have := HK.out; omega
        subst ek
        have d0 : decide ((xs.length : Int) < (xs.length : Int)) = false := by simp
        go_wp2_with fail
        go_ret
        refine ⟨ret_bool ?_, HB.out⟩
        have h1 := HT.out
        rw [List.take_length] at h1
        have h2 : xs = ys := h1.trans (List.take_of_length_le (by have := HL.out; omega))
        rw [HRR.out]
        symm
        exact decide_eq_true h2
      | succ q =>
        have hk : k < xs.length := by have := HK.out; omega
        have HM := Aside0.mk (show xs.length ≤ 9223372036854775807 from HX.out.2.1)
        have d0 : decide ((k : Int) < (xs.length : Int)) = true := decide_eq_true (by omega)
        have d1 : decide (k < xs.length) = true := decide_eq_true hk
        have p0 : 0 ≤ (k : Int) := Int.natCast_nonneg _
        have p1 : (k : Int) < (xs.length : Int) := by omega
        have p2 : (k : Int) < (ys.length : Int) := by have := HL.out; omega
        have CX := Kd.C_below HX.out HB.out
        have CY := Kd.C_below HY.out HB.out
        obtain ⟨ad, ea, ha0, ha1, ha2, ha3, ha4, ha5, ha6⟩ := at_T58 CX (k : Int) p0 p1
        obtain ⟨bd, eb, hb0, hb1, hb2, hb3, hb4, hb5, hb6⟩ := at_T58 CY (k : Int) p0 p2
        rw [Int.toNat_natCast] at ha0 ha1 ha2 ha3 ha4 ha5 ha6 hb0 hb1 hb2 hb3 hb4 hb5 hb6
        clear CX CY
        have EA := Aside0.mk (show rd_T58 xs (k : Int) = xs.getD k z58 by unfold rd_T58; rw [Int.toNat_natCast])
        have EB := Aside0.mk (show rd_T58 ys (k : Int) = ys.getD k z58 by unfold rd_T58; rw [Int.toNat_natCast])
        generalize rd_T58 xs (k : Int) = a at *
        generalize rd_T58 ys (k : Int) = b at *
        rw [ea, eb]
        have HAX := Aside0.mk ea
        have HBX := Aside0.mk eb
        have HK1 := Aside0.mk hk
        have ew : wrap64 ((k : Int) + 1) = ((k + 1 : Nat) : Int) := by have h1 := HM.out; unfold wrap64; omega
        clear ea eb hk
        by_cases hab : a = b
        · have e0 : decide (a = b) = true := decide_eq_true hab
          have HAB := Aside0.mk (show xs.getD k z58 = ys.getD k z58 by rw [← EA.out, ← EB.out, hab])
          clear hab
          go_wp2_with fail
          go_quiet (fail)
          go_wp2_with fail
          try rw [ew]
          rw [← HAX.out, ← HBX.out]
          go_roundg q
          case measure => omega
          case rel => exact ⟨k + 1, rfl, ⟨by have := HK.out; omega⟩, ⟨pw_below_drewN HB.out nq⟩, ⟨take_eq HK1.out (by have := HL.out; have := HK1.out; omega) HAB.out HT.out⟩⟩
        · have e0 : decide (a = b) = false := decide_eq_false hab
          have HAB := Aside0.mk (show ¬ xs = ys from take_ne HK1.out (by have := HL.out; have := HK1.out; omega) (by rw [← EA.out, ← EB.out]; exact hab))
          clear hab
          go_wp2_with fail
          go_quiet (fail)
          go_wp2_with fail
          go_ret
          exact ⟨ret_bool (by rw [HRR.out]; symm; exact decide_eq_false HAB.out), pw_below_drewN HB.out nq⟩
  · have l0 : ((xs.length : Int) != (ys.length : Int)) = true := by simp; omega
    have l1 : (xs.length != ys.length) = true := by simp [hl]
    have l2 : ((xs.length : Int) == (ys.length : Int)) = false := by simp; omega
    have l3 : (xs.length == ys.length) = false := by simp [hl]
    have HN := Aside0.mk (show ¬ xs = ys from fun e => hl (by rw [e]))
    clear hl
    go_enter Try.func116, Try.ntmps116
    go_wp2_with fail
    go_ret
    exact ⟨ret_bool (by rw [HRR.out]; symm; exact decide_eq_false HN.out), Below.refl _ _⟩
set_option maxHeartbeats 8000000 in
set_option maxRecDepth 100000 in
theorem same61_calls (w : World) (a b : Ver) (p q : Pl) (ha : VC w a p) (hb : VC w b q) : Calls Try.prog 61 #[.agg (vCs a p), .agg (vCs b q)] w fun e w' => e = .returned (.bool (decide (sameP a b))) ∧ Below w.heap.size w w' := by
  have HA := Aside0.mk ha
  have HBV := Aside0.mk hb
  have HB := Aside0.mk (below_alloc ((Below.refl w.heap.size w).alloc (Nat.le_refl _) (.cells (vCs a p) 26)) (.cells (vCs b q) 26))
  have X2 := Aside0.mk (blk_alloc (blk_new w (.cells (vCs a p) 26)) (.cells (vCs b q) 26))
  have X3 := Aside0.mk (blk_new (w.alloc (.cells (vCs a p) 26)) (.cells (vCs b q) 26))
  clear ha hb
  obtain ⟨r, hr⟩ : ∃ r, r = decide (sameP a b) := ⟨_, rfl⟩
  rw [← hr]
  have HRR := Aside0.mk hr
  clear hr
  go_enter Try.func61, Try.ntmps61
  go_upto_region 1 with (fail)
  generalize hg3 : (w.alloc (.cells (vCs a p) 26)).heap.size = g3 at *
  have e3 : w.heap.size + 1 = g3 := by rw [← hg3]; simp
  try rw [e3]
  clear hg3 e3
  generalize (w.alloc (.cells (vCs a p) 26)).alloc (.cells (vCs b q) 26) = w1 at *
  have b0 : w1.cell? ⟨w.heap.size, 0, none⟩ = some (.int .u64 a.log) := (blk_cell X2.out 0).trans rfl
  have b1 : w1.cell? ⟨w.heap.size, 1, none⟩ = some (.int .u64 a.next) := (blk_cell X2.out 1).trans rfl
  have b2 : w1.cell? ⟨w.heap.size, 2, none⟩ = some (.int .u64 a.seq) := (blk_cell X2.out 2).trans rfl
  have d0 : w1.cell? ⟨g3, 0, none⟩ = some (.int .u64 b.log) := (blk_cell X3.out 0).trans rfl
  have d1 : w1.cell? ⟨g3, 1, none⟩ = some (.int .u64 b.next) := (blk_cell X3.out 1).trans rfl
  have d2 : w1.cell? ⟨g3, 2, none⟩ = some (.int .u64 b.seq) := (blk_cell X3.out 2).trans rfl
  go_wp2_with fail
  clear b0 b1 b2 d0 d1 d2
  go_loopg [5, 6] 4 (fun kq v5 v6 w' => ∃ i : Nat, v6 = .int .i64 (i : Int) ∧ Aside0 (kq + i = 4) ∧ Aside0 (Below w1.heap.size w1 w') ∧ Aside0 (∀ j, j < i → a.lv j = b.lv j))
  case atStart => exact ⟨0, rfl, ⟨by omega⟩, ⟨Below.refl _ _⟩, ⟨fun j hj => by omega⟩⟩
  case round =>
    obtain ⟨i, rfl, HK, HBB, HJ⟩ := hrel
    cases gk with
    | zero =>
      have ei : i = 4 := by have := HK.out; omega
      subst ei
      have HB9 := Aside0.mk (below_step HB.out HBB.out)
      have Y2 := blk_below X2.out HBB.out
      have Y3 := blk_below X3.out HBB.out
      have b0 : wr.cell? ⟨w.heap.size, 0, none⟩ = some (.int .u64 a.log) := (blk_cell Y2 0).trans rfl
      have b1 : wr.cell? ⟨w.heap.size, 1, none⟩ = some (.int .u64 a.next) := (blk_cell Y2 1).trans rfl
      have b2 : wr.cell? ⟨w.heap.size, 2, none⟩ = some (.int .u64 a.seq) := (blk_cell Y2 2).trans rfl
      have d0 : wr.cell? ⟨g3, 0, none⟩ = some (.int .u64 b.log) := (blk_cell Y3 0).trans rfl
      have d1 : wr.cell? ⟨g3, 1, none⟩ = some (.int .u64 b.next) := (blk_cell Y3 1).trans rfl
      have d2 : wr.cell? ⟨g3, 2, none⟩ = some (.int .u64 b.seq) := (blk_cell Y3 2).trans rfl
      clear Y2 Y3
      by_cases hx0 : a.log = b.log
      · have t0 : (a.log == b.log) = true := beq_iff_eq.mpr hx0
        have E0 := Aside0.mk hx0
        clear hx0
        by_cases hx1 : a.next = b.next
        · have t1 : (a.next == b.next) = true := beq_iff_eq.mpr hx1
          have E1 := Aside0.mk hx1
          clear hx1
          by_cases hx2 : a.seq = b.seq
          · have t2 : (a.seq == b.seq) = true := beq_iff_eq.mpr hx2
            have E2 := Aside0.mk hx2
            clear hx2
            go_wp2_with fail
            go_ret
            exact ⟨ret_bool (by rw [HRR.out]; symm; exact decide_eq_true ⟨⟨E0.out, E1.out, E2.out⟩, HJ.out⟩), HB9.out⟩
          · have t2 : (a.seq == b.seq) = false := beq_eq_false_iff_ne.mpr hx2
            have HN := Aside0.mk (show ¬ sameP a b from fun h => hx2 h.1.2.2)
            clear hx2
            go_wp2_with fail
            go_ret
            exact ⟨ret_bool (by rw [HRR.out]; symm; exact decide_eq_false HN.out), HB9.out⟩
        · have t1 : (a.next == b.next) = false := beq_eq_false_iff_ne.mpr hx1
          have HN := Aside0.mk (show ¬ sameP a b from fun h => hx1 h.1.2.1)
          clear hx1
          go_wp2_with fail
          go_ret
          exact ⟨ret_bool (by rw [HRR.out]; symm; exact decide_eq_false HN.out), HB9.out⟩
      · have t0 : (a.log == b.log) = false := beq_eq_false_iff_ne.mpr hx0
        have HN := Aside0.mk (show ¬ sameP a b from fun h => hx0 h.1.1)
        clear hx0
        go_wp2_with fail
        go_ret
        exact ⟨ret_bool (by rw [HRR.out]; symm; exact decide_eq_false HN.out), HB9.out⟩
    | succ z =>
      have hi : i < 4 := by have := HK.out; omega
      have HI := Aside0.mk hi
      have d0 : decide ((i : Int) < 4) = true := decide_eq_true (by omega)
      have i0 : 0 ≤ (i : Int) := Int.natCast_nonneg _
      have i1 : (i : Int) < 4 := by omega
      have hv := vcell (blk_below X2.out HBB.out) i hi
      have hu := vcell (blk_below X3.out HBB.out) i hi
      have ew : wrap64 ((i : Int) + 1) = ((i + 1 : Nat) : Int) := by unfold wrap64; omega
      obtain ⟨l, hl⟩ : ∃ l, l = a.lv i := ⟨_, rfl⟩
      obtain ⟨m, hm⟩ : ∃ m, m = b.lv i := ⟨_, rfl⟩
      rw [← hl] at hv
      rw [← hm] at hu
      have LA := Aside0.mk hl
      have LB := Aside0.mk hm
      have KK := eqM_calls wr.drew (p.a i) (q.a i) (p.c i) (q.c i) l m (by rw [hl]; exact Kd.C_drew ((HA.out.below (below_step HB.out HBB.out)) i HI.out).1) (by rw [hm]; exact Kd.C_drew ((HBV.out.below (below_step HB.out HBB.out)) i HI.out).1)
      clear hl hm hi
      by_cases hx : l = m
      · rw [decide_eq_true hx] at KK
        have EX := Aside0.mk hx
        clear hx
        go_wp2_with fail
        go_still_tail 8, (by kernel_rfl)
        go_wp2_with fail
        refine KK.mono ?_
        clear KK
        rintro e w8 ⟨rfl, hb⟩
        replace hb : Below wr.heap.size wr w8 := (below_drew (Below.refl wr.heap.size wr)).trans hb
        have HB8 := Aside0.mk (below_step HBB.out hb)
        clear hb hv hu
        go_wp2_with fail
        try rw [ew]
        clear ew
        go_roundg z
        case measure => omega
        case rel => exact ⟨i + 1, rfl, ⟨by have := HK.out; omega⟩, HB8, ⟨fun j hj => by
          by_cases e : j = i
          · subst e; rw [← LA.out, ← LB.out]; exact EX.out
          · exact HJ.out j (by omega)⟩⟩
      · rw [decide_eq_false hx] at KK
        have HN := Aside0.mk (show ¬ sameP a b from fun h => hx (by rw [LA.out, LB.out]; exact h.2 i HI.out))
        clear hx
        go_wp2_with fail
        go_still_tail 8, (by kernel_rfl)
        go_wp2_with fail
        refine KK.mono ?_
        clear KK
        rintro e w8 ⟨rfl, hb⟩
        replace hb : Below wr.heap.size wr w8 := (below_drew (Below.refl wr.heap.size wr)).trans hb
        have HB8 := Aside0.mk (below_step HBB.out hb)
        clear hb hv hu
        go_wp2_with fail
        go_ret
        exact ⟨ret_bool (by rw [HRR.out]; symm; exact decide_eq_false HN.out), below_step HB.out HB8.out⟩
def firstV : Ver := ⟨1, 1, 0, [], [], [], []⟩
def firstP : Pl := ⟨none, none, none, none, 0, 0, 0, 0⟩
set_option maxHeartbeats 4000000 in
set_option maxRecDepth 100000 in
theorem first66_calls (w : World) : Calls Try.prog 66 #[] w fun e w' => e = .returned (.agg (vCs firstV firstP)) ∧ Below w.heap.size w w' := by
  have HB := Aside0.mk ((Below.refl w.heap.size w).alloc (Nat.le_refl _) (.cells #[.int .u64 0, .int .u64 0, .int .u64 0, .slice none 0 0, .slice none 0 0, .slice none 0 0, .slice none 0 0] 26))
  have X2 := Aside0.mk (blk_new w (.cells #[.int .u64 0, .int .u64 0, .int .u64 0, .slice none 0 0, .slice none 0 0, .slice none 0 0, .slice none 0 0] 26))
  go_enter Try.func66, Try.ntmps66
  go_upto_region 1 with (fail)
  generalize w.alloc (.cells #[.int .u64 0, .int .u64 0, .int .u64 0, .slice none 0 0, .slice none 0 0, .slice none 0 0, .slice none 0 0] 26) = w1 at *
  go_wp2_with (first | (refine st_arr rfl 26 _ _ rfl w.heap.size 26 ?hx (vCs firstV firstP) ?hy _ X2.out (by rw [size26]; rfl) rfl (by simp [Value.oneCell']) ?_; (case hx => rfl); (case hy => rfl); intro w5 hb5 hbb hk5 hs5; have HB5 := Aside0.mk (hbb _ _ HB.out (Nat.le_refl _)); have X5 := Aside0.mk hb5; clear hb5 hbb hk5 hs5) | fail)
  have r0 : w5.cell? ⟨w.heap.size, 0, none⟩ = some (.int .u64 1) := (blk_cell X5.out 0).trans rfl
  have r1 : w5.cell? ⟨w.heap.size, 1, none⟩ = some (.int .u64 1) := (blk_cell X5.out 1).trans rfl
  have r2 : w5.cell? ⟨w.heap.size, 2, none⟩ = some (.int .u64 0) := (blk_cell X5.out 2).trans rfl
  have r3 : w5.cell? ⟨w.heap.size, 3, none⟩ = some (.slice none 0 0) := (blk_cell X5.out 3).trans rfl
  have r4 : w5.cell? ⟨w.heap.size, 4, none⟩ = some (.slice none 0 0) := (blk_cell X5.out 4).trans rfl
  have r5 : w5.cell? ⟨w.heap.size, 5, none⟩ = some (.slice none 0 0) := (blk_cell X5.out 5).trans rfl
  have r6 : w5.cell? ⟨w.heap.size, 6, none⟩ = some (.slice none 0 0) := (blk_cell X5.out 6).trans rfl
  exact bodyPost_ret (v := .agg (vCs firstV firstP)) (by simp [results, Try.results66, go_sem, r0, r1, r2, r3, r4, r5, r6, firstV, firstP]) rfl ⟨rfl, HB5.out⟩
end Go.Proofs.Ytkjepfofiegcdaa.V
/- edit.Apply (54) of a version without tables, by an edit that adds none and takes away at most one, walked. Conditions: those. -/
namespace Go.Proofs.Ytkjepfofiegcdaa.V
set_option linter.unusedVariables false
set_option linter.unusedSimpArgs false
open Go.RowKit Go.Proofs.YtkjepfofiegcdaaW.PrintWords Go.Proofs.YtkjepfofiegcdaaW.PrintLast Go.Proofs.YtkjepfofiegcdaaW.PrintMore Go.Proofs.Ytkjepfofiegcdaa.PB14
theorem set_same {cs : Array Value} {j : Nat} {x : Value} (h : cs[j]? = some x) : cs.setIfInBounds j x = cs := by
  have hj : j < cs.size := by
    rcases Nat.lt_or_ge j cs.size with h1 | h1
    · exact h1
    · rw [Array.getElem?_eq_none h1] at h; cases h
  rw [Array.getElem?_eq_getElem hj] at h
  injection h with h
  subst h
  unfold Array.setIfInBounds
  rw [dif_pos hj]
  exact Array.set_getElem_self hj
theorem later2 (w : World) (g j t : Nat) (cs : Array Value) (was n : Int) (hg : w.heap[g]? = some (.cells cs t (0, 0))) (hj : cs[j]? = some (.int .u64 was)) (B : Nat) (hB : B ≤ g) :
    Calls Try.prog 102 #[.pointer (some ⟨g, j, none⟩), .int .u64 n] w fun e w' => e = .returned (.bool (laterB was n)) ∧ w'.heap[g]? = some (.cells (cs.setIfInBounds j (.int .u64 (laterN was n))) t (0, 0)) ∧ (∀ k, k ≠ g → w'.heap[k]? = w.heap[k]?) ∧ Below B w w' := by
  refine (later_calls w g j t cs was n hg hj).mono ?_
  rintro e w' ⟨rfl, rfl⟩
  by_cases h : n = 0
  · rw [if_pos h, show laterN was n = was from if_pos h, set_same hj]
    exact ⟨rfl, hg, fun _ _ => rfl, Below.refl _ _⟩
  · rw [if_neg h, show laterN was n = n from if_neg h]
    exact ⟨rfl, blk_set hg j _, fun k hk => Below.heap_setCell w _ _ k hk, (Below.refl B w).setCell hB _⟩
set_option maxHeartbeats 8000000 in
set_option maxRecDepth 100000 in
theorem applyF_calls (w : World) (v : Ver) (p : Pl) (e : Edt) (A1 A2 : Option Addr) (c1 c2 : Nat) (hC : VC w v p) (hW : VW v) (h1 : k84.C w A1 e.gone.length e.gone) (h2 : k82.C w A2 e.added.length e.added)
    (hE : ∀ i, i < 4 → v.lv i = []) (hr : rightP v) (ha : e.added = []) (hg : e.gone.length ≤ 1) (hl : listedP e) (l1 : laterB v.log e.log = true) (l2 : laterB v.next e.next = true) (l3 : laterB v.seq e.seq = true) (hr2 : rightP (bndV v e)) :
    Calls Try.prog 54 #[.agg (vCs v p), .agg (eCs e A1 c1 A2 c2)] w fun x w' => (∃ y q, x = .returned (.tuple #[.agg (vCs y q), .int .i64 (if e.gone = [] then 0 else 4)]) ∧ (e.gone = [] → y = bndV v e)) ∧ Below w.heap.size w w' := by
  obtain ⟨r, hrr⟩ : ∃ r : Int, r = if e.gone = [] then 0 else 4 := ⟨_, rfl⟩
  rw [← hrr]
  have HRR := Aside0.mk hrr
  clear hrr
  have KNIL : ∀ (A : Option Addr) (W : World), k58.C W A ([] : List S58).length [] := fun A W => ⟨rfl, by simp, fun h => absurd h (Nat.lt_irrefl 0)⟩
  obtain ⟨u, hu⟩ : ∃ u, u = bndV v e := ⟨_, rfl⟩
  rw [← hu] at hr2 ⊢
  have UE := Aside0.mk hu
  have UL := Aside0.mk (show ∀ i, i < 4 → u.lv i = [] from fun i hi => by rw [hu, bndV_lv v e i hi]; exact hE i hi)
  clear hu
  have HE := Aside0.mk hE
  have HR := Aside0.mk hr
  have HW := Aside0.mk hW
  have HG1 := Aside0.mk hg
  have LP := Aside0.mk hl
  have LB1 := Aside0.mk l1
  have LB2 := Aside0.mk l2
  have LB3 := Aside0.mk l3
  have HR2 := Aside0.mk hr2
  have HA := Aside0.mk ha
  clear hE hr hW hg hl l1 l2 l3 hr2 ha
  have HC := Aside0.mk hC
  have H1 := Aside0.mk h1
  have H2 := Aside0.mk h2
  have HB := Aside0.mk (below_alloc (below_alloc ((Below.refl w.heap.size w).alloc (Nat.le_refl _) (.cells (vCs v p) 26)) (.cells (eCs e A1 c1 A2 c2) 70)) (.cells #[.int .u64 0, .int .u64 0, .int .u64 0, .slice none 0 0, .slice none 0 0, .slice none 0 0, .slice none 0 0] 26))
  have X1 := Aside0.mk (blk_alloc (blk_alloc (blk_new w (.cells (vCs v p) 26)) (.cells (eCs e A1 c1 A2 c2) 70)) (.cells #[.int .u64 0, .int .u64 0, .int .u64 0, .slice none 0 0, .slice none 0 0, .slice none 0 0, .slice none 0 0] 26))
  have X2 := Aside0.mk (blk_alloc (blk_new (w.alloc (.cells (vCs v p) 26)) (.cells (eCs e A1 c1 A2 c2) 70)) (.cells #[.int .u64 0, .int .u64 0, .int .u64 0, .slice none 0 0, .slice none 0 0, .slice none 0 0, .slice none 0 0] 26))
  have X3 := Aside0.mk (blk_new ((w.alloc (.cells (vCs v p) 26)).alloc (.cells (eCs e A1 c1 A2 c2) 70)) (.cells #[.int .u64 0, .int .u64 0, .int .u64 0, .slice none 0 0, .slice none 0 0, .slice none 0 0, .slice none 0 0] 26))
  go_enter Try.func54, Try.ntmps54
  go_upto_region 1 with (fail)
  generalize hg3 : ((w.alloc (.cells (vCs v p) 26)).alloc (.cells (eCs e A1 c1 A2 c2) 70)).heap.size = g3 at *
  have e3 : w.heap.size + 1 + 1 = g3 := by rw [← hg3]; simp
  generalize hg2 : (w.alloc (.cells (vCs v p) 26)).heap.size = g2 at *
  have e2 : w.heap.size + 1 = g2 := by rw [← hg2]; simp
  try rw [e3]
  try rw [e2]
  have N2 := Aside0.mk (show w.heap.size < g2 by omega)
  have N3 := Aside0.mk (show g2 < g3 by omega)
  clear hg3 e3 hg2 e2
  generalize ((w.alloc (.cells (vCs v p) 26)).alloc (.cells (eCs e A1 c1 A2 c2) 70)).alloc (.cells #[.int .u64 0, .int .u64 0, .int .u64 0, .slice none 0 0, .slice none 0 0, .slice none 0 0, .slice none 0 0] 26) = w1 at *
  clear hC h1 h2
  have b0 : w1.cell? ⟨w.heap.size, 0, none⟩ = some (.int .u64 v.log) := (blk_cell X1.out 0).trans rfl
  have b1 : w1.cell? ⟨w.heap.size, 1, none⟩ = some (.int .u64 v.next) := (blk_cell X1.out 1).trans rfl
  have b2 : w1.cell? ⟨w.heap.size, 2, none⟩ = some (.int .u64 v.seq) := (blk_cell X1.out 2).trans rfl
  have b3 : w1.cell? ⟨w.heap.size, 3, none⟩ = some (.slice p.a0 v.l0.length p.c0) := (blk_cell X1.out 3).trans rfl
  have b4 : w1.cell? ⟨w.heap.size, 4, none⟩ = some (.slice p.a1 v.l1.length p.c1) := (blk_cell X1.out 4).trans rfl
  have b5 : w1.cell? ⟨w.heap.size, 5, none⟩ = some (.slice p.a2 v.l2.length p.c2) := (blk_cell X1.out 5).trans rfl
  have b6 : w1.cell? ⟨w.heap.size, 6, none⟩ = some (.slice p.a3 v.l3.length p.c3) := (blk_cell X1.out 6).trans rfl
  go_wp2_with fail
  refine (right_calls _ v p (HC.out.below HB.out) HW.out).mono ?_
  rintro x w2 ⟨rfl, hb⟩
  rw [decide_eq_true HR.out]
  have HB2 := Aside0.mk (below_step HB.out hb)
  have X12 := Aside0.mk (blk_below X1.out hb)
  have X22 := Aside0.mk (blk_below X2.out hb)
  have X32 := Aside0.mk (blk_below X3.out hb)
  clear hb b0 b1 b2 b3 b4 b5 b6 X1 X2 X3 HB
  have HB := HB2; have X1 := X12; have X2 := X22; have X3 := X32
  clear HB2 X12 X22 X32
  go_wp2_with fail
  go_loopg [7, 25] 4 (fun kq v7 v25 w' => ∃ (i : Nat) (q : Pl), v25 = .int .i64 (i : Int) ∧ Aside0 (kq + i = 4) ∧ Aside0 (Below w.heap.size w w') ∧ Aside0 (w'.heap[w.heap.size]? = some (.cells (vCs v q) 26 (0, 0))) ∧ Aside0 (w'.heap[g2]? = some (.cells (eCs e A1 c1 A2 c2) 70 (0, 0))) ∧ Aside0 (w'.heap[g3]? = some (.cells #[.int .u64 0, .int .u64 0, .int .u64 0, .slice none 0 0, .slice none 0 0, .slice none 0 0, .slice none 0 0] 26 (0, 0))))
  case atStart => exact ⟨0, p, rfl, ⟨by omega⟩, HB, X1, X2, X3⟩
  case round =>
    clear HB X1 X2 X3
    obtain ⟨i, q, rfl, HK, HB, X1, X2, X3⟩ := hrel
    cases gk with
    | zero =>
      have ei : i = 4 := by have := HK.out; omega
      subst ei
      go_upto_region 7 with (fail)
      refine start_ (n := 15) (S := (fun w' => w'.heap[g2]? = some (.cells (eCs e A1 c1 A2 c2) 70 (0, 0)))) (ds := []) #[false, false, false, false, false, false, false, false, false, false, false, false, false, false, false] (by kernel_rfl) rfl rfl (blk_drew X2.out) (fun hHeld => ?_)
      have XD1 := Aside0.mk (blk_drew X1.out)
      have XD3 := Aside0.mk (blk_drew X3.out)
      have HD := Aside0.mk (below_drew HB.out)
      generalize wr.drew = wd at *
      -- 0: Op.fieldAddr 26 t2 0
      refine pure_ (i := 0) (N := (some 37)) (v := ?_) (a' := ?_) #[true, false, false, false, false, false, false, false, false, false, false, false, false, false, false] rfl rfl (by kernel_rfl) (fun _ _ _ h => h) (Or.inl ⟨by rfl, ?_⟩) ?_ ?_
      rotate_left
      · intro w'
        go_simp
        with_reducible rfl
      rotate_left
      · simp only [Act.put, List.setIfInBounds_toArray, List.set_cons_zero, List.set_cons_succ, i64_w, i32_w]
        rfl
      -- 1: Op.fieldAddr 70 t3 0
      refine pure_ (i := 1) (N := (some 38)) (v := ?_) (a' := ?_) #[true, true, false, false, false, false, false, false, false, false, false, false, false, false, false] rfl rfl (by kernel_rfl) (fun _ _ _ h => h) (Or.inl ⟨by rfl, ?_⟩) ?_ ?_
      rotate_left
      · intro w'
        go_simp
        with_reducible rfl
      rotate_left
      · simp only [Act.put, List.setIfInBounds_toArray, List.set_cons_zero, List.set_cons_succ, i64_w, i32_w]
        rfl
      -- 2: Op.load 22 t38
      refine take_ (i := 2) (N := (some 39)) (v := ?_) (a' := ?_) #[true, true, true, false, false, false, false, false, false, false, false, false, false, false, false] rfl rfl (by kernel_rfl) (fun _ _ _ h => h) (Or.inl ⟨by rfl, ?_⟩) hHeld ?_ ?_
      rotate_left
      · rintro w' s0
        have z0 : w'.cell? ⟨g2, 0, none⟩ = some (.int .u64 e.log) := (blk_cell s0 0).trans rfl
        go_simp
        with_reducible rfl
      rotate_left
      · simp only [Act.put, List.setIfInBounds_toArray, List.set_cons_zero, List.set_cons_succ, i64_w, i32_w]
        rfl
      -- 4: Op.fieldAddr 26 t2 1
      refine pure_ (i := 4) (N := (some 41)) (v := ?_) (a' := ?_) #[true, true, true, false, true, false, false, false, false, false, false, false, false, false, false] rfl rfl (by kernel_rfl) (fun _ _ _ h => h) (Or.inl ⟨by rfl, ?_⟩) ?_ ?_
      rotate_left
      · intro w'
        go_simp
        with_reducible rfl
      rotate_left
      · simp only [Act.put, List.setIfInBounds_toArray, List.set_cons_zero, List.set_cons_succ, i64_w, i32_w]
        rfl
      -- 5: Op.fieldAddr 70 t3 1
      refine pure_ (i := 5) (N := (some 42)) (v := ?_) (a' := ?_) #[true, true, true, false, true, true, false, false, false, false, false, false, false, false, false] rfl rfl (by kernel_rfl) (fun _ _ _ h => h) (Or.inl ⟨by rfl, ?_⟩) ?_ ?_
      rotate_left
      · intro w'
        go_simp
        with_reducible rfl
      rotate_left
      · simp only [Act.put, List.setIfInBounds_toArray, List.set_cons_zero, List.set_cons_succ, i64_w, i32_w]
        rfl
      -- 6: Op.load 22 t42
      refine take_ (i := 6) (N := (some 43)) (v := ?_) (a' := ?_) #[true, true, true, false, true, true, true, false, false, false, false, false, false, false, false] rfl rfl (by kernel_rfl) (fun _ _ _ h => h) (Or.inl ⟨by rfl, ?_⟩) hHeld ?_ ?_
      rotate_left
      · rintro w' s0
        have z0 : w'.cell? ⟨g2, 1, none⟩ = some (.int .u64 e.next) := (blk_cell s0 1).trans rfl
        go_simp
        with_reducible rfl
      rotate_left
      · simp only [Act.put, List.setIfInBounds_toArray, List.set_cons_zero, List.set_cons_succ, i64_w, i32_w]
        rfl
      -- 8: Op.fieldAddr 26 t2 2
      refine pure_ (i := 8) (N := (some 45)) (v := ?_) (a' := ?_) #[true, true, true, false, true, true, true, false, true, false, false, false, false, false, false] rfl rfl (by kernel_rfl) (fun _ _ _ h => h) (Or.inl ⟨by rfl, ?_⟩) ?_ ?_
      rotate_left
      · intro w'
        go_simp
        with_reducible rfl
      rotate_left
      · simp only [Act.put, List.setIfInBounds_toArray, List.set_cons_zero, List.set_cons_succ, i64_w, i32_w]
        rfl
      -- 9: Op.fieldAddr 70 t3 2
      refine pure_ (i := 9) (N := (some 46)) (v := ?_) (a' := ?_) #[true, true, true, false, true, true, true, false, true, true, false, false, false, false, false] rfl rfl (by kernel_rfl) (fun _ _ _ h => h) (Or.inl ⟨by rfl, ?_⟩) ?_ ?_
      rotate_left
      · intro w'
        go_simp
        with_reducible rfl
      rotate_left
      · simp only [Act.put, List.setIfInBounds_toArray, List.set_cons_zero, List.set_cons_succ, i64_w, i32_w]
        rfl
      -- 10: Op.load 22 t46
      refine take_ (i := 10) (N := (some 47)) (v := ?_) (a' := ?_) #[true, true, true, false, true, true, true, false, true, true, true, false, false, false, false] rfl rfl (by kernel_rfl) (fun _ _ _ h => h) (Or.inl ⟨by rfl, ?_⟩) hHeld ?_ ?_
      rotate_left
      · rintro w' s0
        have z0 : w'.cell? ⟨g2, 2, none⟩ = some (.int .u64 e.seq) := (blk_cell s0 2).trans rfl
        go_simp
        with_reducible rfl
      rotate_left
      · simp only [Act.put, List.setIfInBounds_toArray, List.set_cons_zero, List.set_cons_succ, i64_w, i32_w]
        rfl
      -- 3: Op.call { value (Operand.func 102), args := #[t37, t39], argTypes := #[129, 22] }
      refine one_ (i := 3) (N := (some 40)) #[true, true, true, true, true, true, true, false, true, true, true, false, false, false, false] rfl rfl (by kernel_rfl) (by decide) (fun K hK => ?_)
      refine goes_ Try.func102 (by kernel_rfl) rfl #[.pointer (some ⟨w.heap.size, 0, none⟩), .int .u64 e.log] (by rfl) rfl rfl (by (try simp only [List.map_toArray, List.map_cons, List.map_nil]); first | done | rfl) ?_
      (with_reducible refine (later2 _ w.heap.size 0 26 _ v.log e.log XD1.out rfl w.heap.size (Nat.le_refl _)).mono ?_)
      rintro e wA ⟨rfl, hx, hk, hb⟩
      refine ⟨_, rfl, ?_⟩
      have XA1 := Aside0.mk hx
      have XA3 := Aside0.mk ((hk g3 (by have := N2.out; have := N3.out; omega)).trans XD3.out)
      have HA_ := Aside0.mk (HD.out.trans hb)
      have hOld := hHeld
      clear hHeld
      refine hK.out _ _ (((hk g2 (by have := N2.out; omega)).trans hOld)) (fun hHeld => ?_)
      clear hOld hK K
      refine norm_ (a' := ?_) ?_ ?_
      rotate_left
      · show Act.put _ (some 40) _ = _
        simp only [Act.put, List.setIfInBounds_toArray, List.set_cons_zero, List.set_cons_succ, i64_w, i32_w]
        rfl
      -- 7: Op.call { value (Operand.func 102), args := #[t41, t43], argTypes := #[129, 22] }
      refine one_ (i := 7) (N := (some 44)) #[true, true, true, true, true, true, true, true, true, true, true, false, false, false, false] rfl rfl (by kernel_rfl) (by decide) (fun K hK => ?_)
      refine goes_ Try.func102 (by kernel_rfl) rfl #[.pointer (some ⟨w.heap.size, 1, none⟩), .int .u64 e.next] (by rfl) rfl rfl (by (try simp only [List.map_toArray, List.map_cons, List.map_nil]); first | done | rfl) ?_
      (with_reducible refine (later2 _ w.heap.size 1 26 _ v.next e.next XA1.out rfl w.heap.size (Nat.le_refl _)).mono ?_)
      rintro e wB ⟨rfl, hx, hk, hb⟩
      refine ⟨_, rfl, ?_⟩
      have XB1 := Aside0.mk hx
      have XB3 := Aside0.mk ((hk g3 (by have := N2.out; have := N3.out; omega)).trans XA3.out)
      have HB_ := Aside0.mk (HA_.out.trans hb)
      have hOld := hHeld
      clear hHeld
      refine hK.out _ _ (((hk g2 (by have := N2.out; omega)).trans hOld)) (fun hHeld => ?_)
      clear hOld hK K
      refine norm_ (a' := ?_) ?_ ?_
      rotate_left
      · show Act.put _ (some 44) _ = _
        simp only [Act.put, List.setIfInBounds_toArray, List.set_cons_zero, List.set_cons_succ, i64_w, i32_w]
        rfl
      -- 11: Op.call { value (Operand.func 102), args := #[t45, t47], argTypes := #[129, 22] }
      refine one_ (i := 11) (N := (some 48)) #[true, true, true, true, true, true, true, true, true, true, true, true, false, false, false] rfl rfl (by kernel_rfl) (by decide) (fun K hK => ?_)
      refine goes_ Try.func102 (by kernel_rfl) rfl #[.pointer (some ⟨w.heap.size, 2, none⟩), .int .u64 e.seq] (by rfl) rfl rfl (by (try simp only [List.map_toArray, List.map_cons, List.map_nil]); first | done | rfl) ?_
      (with_reducible refine (later2 _ w.heap.size 2 26 _ v.seq e.seq XB1.out rfl w.heap.size (Nat.le_refl _)).mono ?_)
      rintro e wC ⟨rfl, hx, hk, hb⟩
      refine ⟨_, rfl, ?_⟩
      have XC1 := Aside0.mk hx
      have XC3 := Aside0.mk ((hk g3 (by have := N2.out; have := N3.out; omega)).trans XB3.out)
      have HC_ := Aside0.mk (HB_.out.trans hb)
      have hOld := hHeld
      clear hHeld
      refine hK.out _ _ (((hk g2 (by have := N2.out; omega)).trans hOld)) (fun hHeld => ?_)
      clear hOld hK K
      refine norm_ (a' := ?_) ?_ ?_
      rotate_left
      · show Act.put _ (some 48) _ = _
        simp only [Act.put, List.setIfInBounds_toArray, List.set_cons_zero, List.set_cons_succ, i64_w, i32_w]
        rfl
      -- 12: Op.assign t40
      refine pure_ (i := 12) (N := (some 8)) (v := ?_) (a' := ?_) #[true, true, true, true, true, true, true, true, true, true, true, true, true, false, false] rfl rfl (by kernel_rfl) (fun _ _ _ h => h) (Or.inl ⟨by rfl, ?_⟩) ?_ ?_
      rotate_left
      · intro w'
        go_simp
        with_reducible rfl
      rotate_left
      · simp only [Act.put, List.setIfInBounds_toArray, List.set_cons_zero, List.set_cons_succ, i64_w, i32_w]
        rfl
      -- 13: Op.assign t44
      refine pure_ (i := 13) (N := (some 9)) (v := ?_) (a' := ?_) #[true, true, true, true, true, true, true, true, true, true, true, true, true, true, false] rfl rfl (by kernel_rfl) (fun _ _ _ h => h) (Or.inl ⟨by rfl, ?_⟩) ?_ ?_
      rotate_left
      · intro w'
        go_simp
        with_reducible rfl
      rotate_left
      · simp only [Act.put, List.setIfInBounds_toArray, List.set_cons_zero, List.set_cons_succ, i64_w, i32_w]
        rfl
      -- 14: Op.assign t48
      refine pure_ (i := 14) (N := (some 10)) (v := ?_) (a' := ?_) #[true, true, true, true, true, true, true, true, true, true, true, true, true, true, true] rfl rfl (by kernel_rfl) (fun _ _ _ h => h) (Or.inl ⟨by rfl, ?_⟩) ?_ ?_
      rotate_left
      · intro w'
        go_simp
        with_reducible rfl
      rotate_left
      · simp only [Act.put, List.setIfInBounds_toArray, List.set_cons_zero, List.set_cons_succ, i64_w, i32_w]
        rfl
      refine done_ (by kernel_rfl) ?_
      rw [LB1.out, LB2.out, LB3.out]
      have X2c := Aside0.mk hHeld
      have X1c := Aside0.mk (show wC.heap[w.heap.size]? = some (.cells (vCs u q) 26 (0, 0)) by rw [UE.out]; exact XC1.out)
      clear hHeld XA1 XA3 HA_ XB1 XB3 HB_ XC1 XD1 XD3 HD HB X1 X2 X3
      have HB := HC_; have X1 := X1c; have X2 := X2c; have X3 := XC3
      clear HC_ X1c X2c XC3
      have e0 : wC.cell? ⟨g2, 0, none⟩ = some (.int .u64 e.log) := (blk_cell X2.out 0).trans rfl
      have e1 : wC.cell? ⟨g2, 1, none⟩ = some (.int .u64 e.next) := (blk_cell X2.out 1).trans rfl
      have e2 : wC.cell? ⟨g2, 2, none⟩ = some (.int .u64 e.seq) := (blk_cell X2.out 2).trans rfl
      have e3 : wC.cell? ⟨g2, 3, none⟩ = some (.slice A1 e.gone.length c1) := (blk_cell X2.out 3).trans rfl
      have e4 : wC.cell? ⟨g2, 4, none⟩ = some (.slice A2 e.added.length c2) := (blk_cell X2.out 4).trans rfl
      go_wp2_with fail
      refine (listed_calls _ e A1 A2 c1 c2 (Kd.C_below H1.out HB.out) (Kd.C_below H2.out HB.out)).mono ?_
      rintro x w3 ⟨rfl, hb⟩
      rw [if_pos LP.out]
      have HB3 := Aside0.mk (below_step HB.out hb)
      have X13 := Aside0.mk (blk_below X1.out hb)
      have X23 := Aside0.mk (blk_below X2.out hb)
      have X33 := Aside0.mk (blk_below X3.out hb)
      clear hb e0 e1 e2 e3 e4 X1 X2 X3 HB
      have HB := HB3; have X1 := X13; have X2 := X23; have X3 := X33
      clear HB3 X13 X23 X33
      have e3 : w3.cell? ⟨g2, 3, none⟩ = some (.slice A1 e.gone.length c1) := (blk_cell X2.out 3).trans rfl
      have e4 : w3.cell? ⟨g2, 4, none⟩ = some (.slice A2 e.added.length c2) := (blk_cell X2.out 4).trans rfl
      go_wp2_with fail
      clear e3 e4
      go_loopg [72] e.gone.length (fun kq v72 w' => ∃ k : Nat, v72 = .int .i64 (k : Int) ∧ Aside0 (k = 0 ∧ kq + k = e.gone.length) ∧ Aside0 (Below w.heap.size w w') ∧ Aside0 (w'.heap[w.heap.size]? = some (.cells (vCs u q) 26 (0, 0))) ∧ Aside0 (w'.heap[g2]? = some (.cells (eCs e A1 c1 A2 c2) 70 (0, 0))) ∧ Aside0 (w'.heap[g3]? = some (.cells #[.int .u64 0, .int .u64 0, .int .u64 0, .slice none 0 0, .slice none 0 0, .slice none 0 0, .slice none 0 0] 26 (0, 0))))
      case atStart => exact ⟨0, rfl, ⟨rfl, rfl⟩, HB, X1, X2, X3⟩
      case round =>
        clear HB X1 X2 X3
        obtain ⟨k, rfl, HK, HB, X1, X2, X3⟩ := hrel
        cases gk with
        | zero =>
          have GN := Aside0.mk (show e.gone = [] from List.length_eq_zero_iff.mp (by have := HK.out; omega))
          have d4 : decide ((k : Int) < (e.gone.length : Int)) = false := decide_eq_false (by have := HK.out; omega)
          have d5 : decide (k < e.gone.length) = false := decide_eq_false (by have := HK.out; omega)
          have hmm := @run_makeMap Try.prog
          have HBm := Aside0.mk (below_alloc HB.out (.map #[] 0))
          have X1m := Aside0.mk (blk_alloc X1.out (.map #[] 0))
          have X2m := Aside0.mk (blk_alloc X2.out (.map #[] 0))
          have X3m := Aside0.mk (blk_alloc X3.out (.map #[] 0))
          clear HB X1 X2 X3
          have HB := HBm; have X1 := X1m; have X2 := X2m; have X3 := X3m
          clear HBm X1m X2m X3m
          have b3 : (wr.alloc (.map #[] 0)).cell? ⟨w.heap.size, 3, none⟩ = some (.slice q.a0 u.l0.length q.c0) := (blk_cell X1.out 3).trans rfl
          have b4 : (wr.alloc (.map #[] 0)).cell? ⟨w.heap.size, 4, none⟩ = some (.slice q.a1 u.l1.length q.c1) := (blk_cell X1.out 4).trans rfl
          have b5 : (wr.alloc (.map #[] 0)).cell? ⟨w.heap.size, 5, none⟩ = some (.slice q.a2 u.l2.length q.c2) := (blk_cell X1.out 5).trans rfl
          have b6 : (wr.alloc (.map #[] 0)).cell? ⟨w.heap.size, 6, none⟩ = some (.slice q.a3 u.l3.length q.c3) := (blk_cell X1.out 6).trans rfl
          go_wp2_with fail
          generalize wr.alloc (.map #[] 0) = w5 at *
          clear b3 b4 b5 b6
          go_loopg [103] 4 (fun kq v103 w' => ∃ i : Nat, v103 = .int .i64 (i : Int) ∧ Aside0 (kq + i = 4) ∧ Aside0 (Below w.heap.size w w') ∧ Aside0 (w'.heap[w.heap.size]? = some (.cells (vCs u q) 26 (0, 0))) ∧ Aside0 (w'.heap[g2]? = some (.cells (eCs e A1 c1 A2 c2) 70 (0, 0))) ∧ Aside0 (w'.heap[g3]? = some (.cells #[.int .u64 0, .int .u64 0, .int .u64 0, .slice none 0 0, .slice none 0 0, .slice none 0 0, .slice none 0 0] 26 (0, 0))))
          case atStart => exact ⟨0, rfl, ⟨by omega⟩, HB, X1, X2, X3⟩
          case round =>
            clear HB X1 X2 X3
            obtain ⟨i, rfl, HKK, HB, X1, X2, X3⟩ := hrel
            cases gk with
            | zero =>
              have ei : i = 4 := by have := HKK.out; omega
              subst ei
              have e4 : wr.cell? ⟨g2, 4, none⟩ = some (.slice A2 e.added.length c2) := (blk_cell X2.out 4).trans rfl
              have d6 : decide (0 < (e.added.length : Int)) = false := decide_eq_false (by rw [HA.out]; simp)
              have d7 : decide (0 < e.added.length) = false := decide_eq_false (by rw [HA.out]; simp)
              go_wp2_with fail
              go_loopg [122] 0 (fun kq v122 w' => v122 = .int .i64 0 ∧ Aside0 (kq = 0) ∧ Aside0 (w' = wr))
              case atStart => exact ⟨rfl, ⟨rfl⟩, ⟨rfl⟩⟩
              case round =>
                obtain ⟨rfl, HK9, HW9⟩ := hrel
                cases gk with
                | zero =>
                  have hw9 := HW9.out
                  subst hw9
                  clear e4
                  have b0 : wr.cell? ⟨w.heap.size, 0, none⟩ = some (.int .u64 u.log) := (blk_cell X1.out 0).trans rfl
                  have b1 : wr.cell? ⟨w.heap.size, 1, none⟩ = some (.int .u64 u.next) := (blk_cell X1.out 1).trans rfl
                  have b2 : wr.cell? ⟨w.heap.size, 2, none⟩ = some (.int .u64 u.seq) := (blk_cell X1.out 2).trans rfl
                  have b3 : wr.cell? ⟨w.heap.size, 3, none⟩ = some (.slice q.a0 u.l0.length q.c0) := (blk_cell X1.out 3).trans rfl
                  have b4 : wr.cell? ⟨w.heap.size, 4, none⟩ = some (.slice q.a1 u.l1.length q.c1) := (blk_cell X1.out 4).trans rfl
                  have b5 : wr.cell? ⟨w.heap.size, 5, none⟩ = some (.slice q.a2 u.l2.length q.c2) := (blk_cell X1.out 5).trans rfl
                  have b6 : wr.cell? ⟨w.heap.size, 6, none⟩ = some (.slice q.a3 u.l3.length q.c3) := (blk_cell X1.out 6).trans rfl
                  go_wp2_with fail
                  refine (right_calls _ u q (fun j hj => by rw [UL.out j hj]; exact ⟨KNIL _ _, Nat.zero_le _⟩) (fun j hj m hm => by rw [UL.out j hj] at hm; cases hm)).mono ?_
                  rintro x w6 ⟨rfl, hb⟩
                  rw [decide_eq_true HR2.out]
                  have HB6 := Aside0.mk (below_step HB.out hb)
                  have X16 := Aside0.mk (blk_below X1.out hb)
                  have X36 := Aside0.mk (blk_below X3.out hb)
                  clear hb b0 b1 b2 b3 b4 b5 b6
                  have b0 : w6.cell? ⟨w.heap.size, 0, none⟩ = some (.int .u64 u.log) := (blk_cell X16.out 0).trans rfl
                  have b1 : w6.cell? ⟨w.heap.size, 1, none⟩ = some (.int .u64 u.next) := (blk_cell X16.out 1).trans rfl
                  have b2 : w6.cell? ⟨w.heap.size, 2, none⟩ = some (.int .u64 u.seq) := (blk_cell X16.out 2).trans rfl
                  have b3 : w6.cell? ⟨w.heap.size, 3, none⟩ = some (.slice q.a0 u.l0.length q.c0) := (blk_cell X16.out 3).trans rfl
                  have b4 : w6.cell? ⟨w.heap.size, 4, none⟩ = some (.slice q.a1 u.l1.length q.c1) := (blk_cell X16.out 4).trans rfl
                  have b5 : w6.cell? ⟨w.heap.size, 5, none⟩ = some (.slice q.a2 u.l2.length q.c2) := (blk_cell X16.out 5).trans rfl
                  have b6 : w6.cell? ⟨w.heap.size, 6, none⟩ = some (.slice q.a3 u.l3.length q.c3) := (blk_cell X16.out 6).trans rfl
                  go_wp2_with (first | (refine st_arr rfl 26 _ _ rfl g3 26 ?hx (vCs u q) ?hy _ X36.out (by rw [size26]; rfl) rfl (by simp [Value.oneCell']) ?_; (case hx => rfl); (case hy => rfl); intro w7 hb7 hbb hk7 hs7; have HB7 := Aside0.mk (hbb _ _ HB6.out (show w.heap.size ≤ g3 by have := N2.out; have := N3.out; omega)); have X7 := Aside0.mk hb7; clear hb7 hbb hk7 hs7) | fail)
                  have r0 : w7.cell? ⟨g3, 0, none⟩ = some (.int .u64 u.log) := (blk_cell X7.out 0).trans rfl
                  have r1 : w7.cell? ⟨g3, 1, none⟩ = some (.int .u64 u.next) := (blk_cell X7.out 1).trans rfl
                  have r2 : w7.cell? ⟨g3, 2, none⟩ = some (.int .u64 u.seq) := (blk_cell X7.out 2).trans rfl
                  have r3 : w7.cell? ⟨g3, 3, none⟩ = some (.slice q.a0 u.l0.length q.c0) := (blk_cell X7.out 3).trans rfl
                  have r4 : w7.cell? ⟨g3, 4, none⟩ = some (.slice q.a1 u.l1.length q.c1) := (blk_cell X7.out 4).trans rfl
                  have r5 : w7.cell? ⟨g3, 5, none⟩ = some (.slice q.a2 u.l2.length q.c2) := (blk_cell X7.out 5).trans rfl
                  have r6 : w7.cell? ⟨g3, 6, none⟩ = some (.slice q.a3 u.l3.length q.c3) := (blk_cell X7.out 6).trans rfl
                  exact bodyPost_ret (v := .tuple #[.agg (vCs u q), .int .i64 0]) (by simp [results, Try.results54, go_sem, r0, r1, r2, r3, r4, r5, r6]) rfl ⟨⟨u, q, by rw [HRR.out, if_pos GN.out], fun _ => rfl⟩, HB7.out⟩
                | succ y => exact absurd HK9.out (by omega)
            | succ z =>
              have hi : i < 4 := by have := HKK.out; omega
              have HI := Aside0.mk hi
              have d0 : decide ((i : Int) < 4) = true := decide_eq_true (by omega)
              have hx : ∀ W : World, (Instr.index 24 (.agg #[.slice q.a0 u.l0.length q.c0, .slice q.a1 u.l1.length q.c1, .slice q.a2 u.l2.length q.c2, .slice q.a3 u.l3.length q.c3]) (.int .i64 (i : Int))).run Try.prog W = .ok (.slice (q.a i) (0 : Nat) (q.c i)) W := fun W => by
                have h1 := idx_lv u q i HI.out W
                rw [UL.out i HI.out] at h1
                exact h1
              have ew : wrap64 ((i : Int) + 1) = ((i + 1 : Nat) : Int) := by have h1 := HI.out; unfold wrap64; omega
              clear hi
              go_wp2_with fail
              go_loopg [108] 0 (fun kq v108 w' => v108 = .int .i64 0 ∧ Aside0 (kq = 0) ∧ Aside0 (w' = wr))
              case atStart => exact ⟨rfl, ⟨rfl⟩, ⟨rfl⟩⟩
              case round =>
                obtain ⟨rfl, HK9, HW9⟩ := hrel
                cases gk with
                | zero =>
                  have hw9 := HW9.out
                  subst hw9
                  go_wp2_with fail
                  try rw [ew]
                  clear ew
                  go_roundg z
                  case measure => omega
                  case rel => exact ⟨i + 1, rfl, ⟨by have := HKK.out; omega⟩, HB, X1, X2, X3⟩
                | succ y => exact absurd HK9.out (by omega)
        | succ zq =>
          have GN := Aside0.mk (show ¬ e.gone = [] from fun h => by have h1 := HK.out.2; rw [h] at h1; simp at h1)
          have d4 : decide ((k : Int) < (e.gone.length : Int)) = true := decide_eq_true (by have := HK.out; omega)
          have d5 : decide (k < e.gone.length) = true := decide_eq_true (by have := HK.out; omega)
          have p0 : 0 ≤ (k : Int) := Int.natCast_nonneg _
          have p1 : (k : Int) < (e.gone.length : Int) := by have := HK.out; omega
          obtain ⟨ad, ea, ha0, ha1⟩ := at_T84 (Kd.C_below H1.out HB.out) (k : Int) p0 p1
          have hmx := getD_mem e.gone z84 (k := k) (by have := HK.out; omega)
          have EM := Aside0.mk (show rd_T84 e.gone (k : Int) = e.gone.getD k z84 by unfold rd_T84; rw [Int.toNat_natCast])
          rw [← EM.out] at hmx
          generalize rd_T84 e.gone (k : Int) = x at *
          have hlx := LP.out.1 x hmx
          obtain ⟨lv, hlv⟩ : ∃ lv : Nat, x.f0 = (lv : Int) := ⟨x.f0.toNat, by have := hlx.1; omega⟩
          have HLV := Aside0.mk (show lv < 4 by have := hlx.2; omega)
          have l0_ : 0 ≤ (lv : Int) := Int.natCast_nonneg _
          have l1_ : (lv : Int) < 4 := by have := HLV.out; omega
          obtain ⟨f0, f1⟩ := x
          dsimp only at hlv ha0 ha1
          subst hlv
          rw [ea]
          rw [Int.toNat_natCast] at ha0 ha1
          clear hmx hlx ea
          go_upto_region 13 with (fail)
          have HB5 := Aside0.mk (below_alloc HB.out (.cells (gCs ⟨(lv : Int), f1⟩) 84))
          have X15 := Aside0.mk (blk_alloc X1.out (.cells (gCs ⟨(lv : Int), f1⟩) 84))
          have X35 := Aside0.mk (blk_alloc X3.out (.cells (gCs ⟨(lv : Int), f1⟩) 84))
          have X5 := Aside0.mk (blk_new wr (.cells (gCs ⟨(lv : Int), f1⟩) 84))
          generalize wr.heap.size = g5 at *
          generalize wr.alloc (.cells (gCs ⟨(lv : Int), f1⟩) 84) = w5 at *
          have y0 : w5.cell? ⟨g5, 0, none⟩ = some (.int .i64 (lv : Int)) := (blk_cell X5.out 0).trans rfl
          have hv := vcell X15.out lv HLV.out
          rw [UL.out lv HLV.out] at hv
          clear ha0 ha1
          go_wp2_with fail
          refine (indexF_calls _ (q.a lv) (q.c lv) [] ⟨(lv : Int), f1⟩ g5 (KNIL _ _) X5.out).mono ?_
          rintro x9 w6 ⟨i9, rfl, hi9, hb⟩
          obtain rfl : i9 = -1 := by
            rcases hi9 with ⟨h, _⟩ | ⟨k, _, hk, _⟩
            · exact h
            · simp at hk
          have HB6 := Aside0.mk (below_step HB5.out hb)
          have X36 := Aside0.mk (blk_below X35.out hb)
          clear hi9 hb y0 hv
          go_wp2_with (first | (refine st_arr rfl 26 _ _ rfl g3 26 ?hx #[.int .u64 0, .int .u64 0, .int .u64 0, .slice none 0 0, .slice none 0 0, .slice none 0 0, .slice none 0 0] ?hy _ X36.out (by rw [size26]; rfl) rfl (by simp [Value.oneCell']) ?_; (case hx => rfl); (case hy => rfl); intro w7 hb7 hbb hk7 hs7; have HB7 := Aside0.mk (hbb _ _ HB6.out (show w.heap.size ≤ g3 by have := N2.out; have := N3.out; omega)); have X7 := Aside0.mk hb7; clear hb7 hbb hk7 hs7) | fail)
          have r0 : w7.cell? ⟨g3, 0, none⟩ = some (.int .u64 0) := (blk_cell X7.out 0).trans rfl
          have r1 : w7.cell? ⟨g3, 1, none⟩ = some (.int .u64 0) := (blk_cell X7.out 1).trans rfl
          have r2 : w7.cell? ⟨g3, 2, none⟩ = some (.int .u64 0) := (blk_cell X7.out 2).trans rfl
          have r3 : w7.cell? ⟨g3, 3, none⟩ = some (.slice none 0 0) := (blk_cell X7.out 3).trans rfl
          have r4 : w7.cell? ⟨g3, 4, none⟩ = some (.slice none 0 0) := (blk_cell X7.out 4).trans rfl
          have r5 : w7.cell? ⟨g3, 5, none⟩ = some (.slice none 0 0) := (blk_cell X7.out 5).trans rfl
          have r6 : w7.cell? ⟨g3, 6, none⟩ = some (.slice none 0 0) := (blk_cell X7.out 6).trans rfl

          exact bodyPost_ret (v := .tuple #[.agg #[.int .u64 0, .int .u64 0, .int .u64 0, .slice none 0 0, .slice none 0 0, .slice none 0 0, .slice none 0 0], .int .i64 4]) (by simp [results, Try.results54, go_sem, r0, r1, r2, r3, r4, r5, r6]) rfl ⟨⟨zeroV, firstP, by rw [HRR.out, if_neg GN.out]; rfl, fun h => absurd h GN.out⟩, HB7.out⟩
    | succ z =>
      have hi : i < 4 := by have := HK.out; omega
      have HI := Aside0.mk hi
      have d0 : decide ((i : Int) < 4) = true := decide_eq_true (by omega)
      have i0 : 0 ≤ (i : Int) := Int.natCast_nonneg _
      have i1 : (i : Int) < 4 := by omega
      have ew : wrap64 ((i : Int) + 1) = ((i + 1 : Nat) : Int) := by unfold wrap64; omega
      have hv := vcell X1.out i hi
      have EI := Aside0.mk (HE.out i hi)
      rw [EI.out] at hv
      clear hi
      go_wp2_with fail
      refine (clone_calls _ (q.a i) (q.c i) [] (KNIL (q.a i) wr) (Nat.zero_le _) (by decide)).mono ?_
      rintro x w5 ⟨v5, rfl, hR, hb⟩
      obtain ⟨B', cb', hv5⟩ := Kd.R_slice hR
      subst hv5
      have HB5 := Aside0.mk (below_step HB.out hb)
      have X15 := Aside0.mk (blk_below X1.out hb)
      have X25 := Aside0.mk (blk_below X2.out hb)
      have X35 := Aside0.mk (blk_below X3.out hb)
      clear hv hR hb
      have hv := vcell X15.out i HI.out
      rw [EI.out] at hv
      have ff := blk_frozen X15.out (3 + i)
      go_wp2_with fail
      have X1n := Aside0.mk (show (w5.setCell ⟨w.heap.size, 3 + i, none⟩ (.slice B' ([] : List S58).length cb')).heap[w.heap.size]? = some (.cells (vCs v (q.set i B' cb')) 26 (0, 0)) from five_set X15.out _ (by have h1 := vCs_set v q i HI.out [] B' cb'; rw [show v.set i [] = v by rw [← EI.out]; exact Ver.set_self v i HI.out] at h1; exact h1))
      have X2n := Aside0.mk (blk_far X25.out (p := ⟨w.heap.size, 3 + i, none⟩) (show g2 ≠ w.heap.size by have := N2.out; omega) (.slice B' ([] : List S58).length cb'))
      have X3n := Aside0.mk (blk_far X35.out (p := ⟨w.heap.size, 3 + i, none⟩) (show g3 ≠ w.heap.size by have := N2.out; have := N3.out; omega) (.slice B' ([] : List S58).length cb'))
      have HBn := Aside0.mk (below_set (j := 3 + i) (v := .slice B' ([] : List S58).length cb') HB5.out (Nat.le_refl _))
      try rw [ew]
      clear ew ff hv
      go_roundg z
      case measure => omega
      case rel => exact ⟨i + 1, q.set i B' cb', rfl, ⟨by have := HK.out; omega⟩, HBn, X1n, X2n, X3n⟩
end Go.Proofs.Ytkjepfofiegcdaa.V
/- A row of tables of one's own, opened and shut; builtin copy of tables. -/
namespace Go.Proofs.Ytkjepfofiegcdaa.V
set_option linter.unusedVariables false
set_option linter.unusedSimpArgs false
open Go.RowKit Go.Proofs.YtkjepfofiegcdaaW.PrintWords Go.Proofs.YtkjepfofiegcdaaW.PrintLast Go.Proofs.YtkjepfofiegcdaaW.PrintMore Go.Proofs.Ytkjepfofiegcdaa.PB14
def mC (m : S58) : List Value := [.int .u64 m.f0, .int .i64 m.f1, .int .i64 m.f2, .string m.f3, .string m.f4, .int .u64 m.f5, .int .u64 m.f6]
def Is7 (m : S58) (cs : List Value) : Prop := cs = mC m
theorem mC_len (m : S58) : (mC m).length = 7 := rfl
theorem mC_one (m : S58) : ∀ u, u ∈ mC m → u.oneCell' = true := by
  intro u hu
  simp only [mC, List.mem_cons, List.mem_nil_iff, or_false] at hu
  rcases hu with rfl | rfl | rfl | rfl | rfl | rfl | rfl <;> rfl
theorem is7_one : ∀ {xs : List S58} {cs : List Value}, Reps Is7 7 xs cs → ∀ u, u ∈ cs → u.oneCell' = true := by
  intro xs cs h u hu
  obtain ⟨q, hq, rfl⟩ := List.mem_iff_getElem.1 hu
  have hl : q / 7 < xs.length := by
    have h1 := h.1
    omega
  have h2 := h.2 (q / 7) _ (List.getElem?_eq_getElem hl)
  refine mC_one (xs[q / 7]) _ ?_
  unfold Is7 at h2
  rw [← h2, List.mem_iff_getElem?]
  refine ⟨q % 7, ?_⟩
  rw [List.getElem?_take, if_pos (Nat.mod_lt _ (by decide)), List.getElem?_drop, show q / 7 * 7 + q % 7 = q by omega, List.getElem?_eq_getElem hq]
theorem R58_open {w : World} {base n c : Nat} {A : Option Addr} {xs : List S58} (h : Kd.R k58 58 w base (fun _ => True) (.slice A n c) xs) :
    (A = none ∧ n = 0 ∧ c = 0 ∧ xs = []) ∨ ∃ g cur inner, A = some ⟨g, 0, none⟩ ∧ base ≤ g ∧ w.heap[g]? = some (.cells cur 58 (0, 0)) ∧ xs.length = n ∧ n ≤ c ∧ c ≤ maxLen ∧ cur.size = c * 7 ∧ cur.toList.take (n * 7) = inner ∧ Reps Is7 7 xs inner := by
  obtain ⟨_, inner, ⟨h1, h2⟩, h3⟩ := h
  rcases h2 with ⟨hv, hl⟩ | ⟨g, cap, cur, hv, hb, hh, hnc, hcm, hcs, ht⟩
  · injection hv with a b d
    exact .inl ⟨a, b, d, List.length_eq_zero_iff.mp hl⟩
  · injection hv with a b d
    subst a
    subst d
    refine .inr ⟨g, cur, inner, rfl, hb, hh, b.symm, by omega, hcm, hcs, by rw [b]; exact ht, h3.imp_ (fun p q hp => k58_openM hp)⟩
theorem R58_mk {w : World} {base n c g : Nat} {cur : Array Value} {xs : List S58} {inner : List Value} (hb : base ≤ g) (hh : w.heap[g]? = some (.cells cur 58 (0, 0))) (hn : xs.length = n) (hnc : n ≤ c) (hcm : c ≤ maxLen) (hcs : cur.size = c * 7) (ht : cur.toList.take (n * 7) = inner) (hr : Reps Is7 7 xs inner) :
    Kd.R k58 58 w base (fun _ => True) (.slice (some ⟨g, 0, none⟩) n c) xs := by
  subst hn
  refine ⟨fun _ _ => trivial, inner, ⟨hr.1, .inr ⟨g, c, cur, rfl, hb, hh, hnc, hcm, hcs, ht⟩⟩, hr.imp_ (fun p q hp => ?_)⟩
  unfold Is7 at hp
  subst hp
  exact k58_mkM _ _ _ p
theorem reps_one (m : S58) : Reps Is7 7 [m] (mC m) := by
  have h := (Reps.none Is7 7).snoc (p := m) (c := mC m) rfl rfl
  simpa using h
theorem reps_ins {xs : List S58} {inner : List Value} (h : Reps Is7 7 xs inner) (k : Nat) (hk : k ≤ xs.length) (m : S58) : Reps Is7 7 (xs.take k ++ m :: xs.drop k) (inner.take (k * 7) ++ (mC m ++ inner.drop (k * 7))) := by
  have h1 := Kd.reps_append (Kd.reps_take h hk) (Kd.reps_append (reps_one m) (Kd.reps_drop (m := k) h))
  rwa [List.singleton_append] at h1
theorem run_copy7 (w : World) (ty : TypeId) (g o dLen dCap : Nat) (a : Addr) (sLen sCap : Nat) (cur : Array Value) (t : TypeId) (cs : List Value)
    (hg : w.heap[g]? = some (.cells cur t (0, 0))) (hn : cs.length = Nat.min sLen dLen * 7)
    (hsrc : ∀ j v, cs[j]? = some v → w.cell? (a.add j) = some v) (hfit : o + cs.length ≤ cur.size) (h1 : ∀ v, v ∈ cs → v.oneCell' = true) :
    (Builtin.copy_ #[23, 23] ty #[.slice (some ⟨g, o, none⟩) dLen dCap, .slice (some a) sLen sCap]).run Try.prog w =
      .ok (goInt (Nat.min sLen dLen)) (w.setRow g (cur.toList.take o ++ cs ++ cur.toList.drop (o + cs.length)).toArray) := by
  have hl := run_loadCells_list (P := Try.prog) w a cs hsrc
  have hst := run_storeCells_at Try.prog g o t cs 0 cur w hg (by simpa using hfit) h1
  obtain ⟨i, hi, _, hsz, _⟩ := info_parts info58
  simp [Builtin.copy_, run_underlying Try.underlying23, Builtin.lenOf, Builtin.firstCells, sizeOf, typeInfo, hi, hsz, ← hn, hl, hst]
theorem row_grown {w : World} {g : Nat} {cur : Array Value} {t : Nat} (hg : w.heap[g]? = some (.cells cur t (0, 0))) (cur2 : Array Value) : w.grownBy (w.setRow g cur2) (some g) :=
  ⟨rfl, rfl, rfl, by rw [setRow_size]; exact Nat.le_refl _, fun k _ hk => setRow_other w g k cur2 (fun e => hk (by rw [e]))⟩
/-- The two copies of slices.Insert where there is room. -/
theorem ins_room {w : World} {base n c g gv k : Nat} {xs : List S58} (m : S58) (h : Kd.R k58 58 w base (fun _ => True) (.slice (some ⟨g, 0, none⟩) n c) xs) (hk : k < n) (hroom : n + 1 ≤ c) (hgv : w.heap[gv]? = some (.cells (mC m).toArray 58 (0, 0))) (hne : gv ≠ g) :
    ∃ w1 w2, (∀ ty dc sc, (Builtin.copy_ #[23, 23] ty #[.slice (some ⟨g, (k + 1) * 7, none⟩) (n - k) dc, .slice (some ⟨g, k * 7, none⟩) (n + 1 - k) sc]).run Try.prog w = .ok (goInt ((n - k : Nat) : Int)) w1) ∧
      (∀ ty dc vc, (Builtin.copy_ #[23, 23] ty #[.slice (some ⟨g, k * 7, none⟩) (n + 1 - k) dc, .slice (some ⟨gv, 0, none⟩) 1 vc]).run Try.prog w1 = .ok (goInt 1) w2) ∧
      Kd.R k58 58 w2 base (fun _ => True) (.slice (some ⟨g, 0, none⟩) (n + 1) c) (xs.take k ++ m :: xs.drop k) ∧ w.grownBy w2 (some g) ∧ w.grownBy w1 (some g) := by
  rcases R58_open h with ⟨h1, _⟩ | ⟨g', cur, inner, ha, hb, hh, hl, hnc, hcm, hcs, ht, hr⟩
  · cases h1
  injection ha with ha
  injection ha with ha
  subst ha
  have hin : inner.length = n * 7 := by rw [hr.1, hl]
  have hone := is7_one hr
  have htl : cur.toList.length = c * 7 := by rw [Array.length_toList, hcs]
  have hsrc1 : ∀ j v, (inner.drop (k * 7))[j]? = some v → w.cell? ((⟨g, k * 7, none⟩ : Addr).add j) = some v := fun j v hj => by
    rw [List.getElem?_drop] at hj
    have hq : k * 7 + j < n * 7 := by rw [← hin]; exact (List.getElem?_eq_some_iff.1 hj).1
    rw [Addr.add_lit, cell_of_row w g _ cur 58 (0, 0) hh, ← Array.getElem?_toList, ← hj, ← ht, List.getElem?_take, if_pos hq]
  have hd1 : (inner.drop (k * 7)).length = (n - k) * 7 := by rw [List.length_drop, hin]; omega
  have run1 : ∀ ty dc sc, _ := fun ty dc sc => run_copy7 w ty g ((k + 1) * 7) (n - k) dc ⟨g, k * 7, none⟩ (n + 1 - k) sc cur 58 (inner.drop (k * 7)) hh (by rw [hd1, show Nat.min (n + 1 - k) (n - k) = n - k from Nat.min_eq_right (by omega)]) hsrc1 (by rw [hd1, hcs]; omega) (fun v hv => hone v (List.mem_of_mem_drop hv))
  obtain ⟨cur1, hcur1⟩ : ∃ cur1, cur1 = (cur.toList.take ((k + 1) * 7) ++ inner.drop (k * 7) ++ cur.toList.drop ((k + 1) * 7 + (inner.drop (k * 7)).length)).toArray := ⟨_, rfl⟩
  rw [← hcur1] at run1
  rw [show Nat.min (n + 1 - k) (n - k) = n - k from Nat.min_eq_right (by omega)] at run1
  have hh1 : (w.setRow g cur1).heap[g]? = some (.cells cur1 58 (0, 0)) := setRow_heap w g cur cur1 58 (0, 0) hh
  have hl1 : cur1.size = c * 7 := by
    rw [hcur1]
    simp only [List.size_toArray, List.length_append, List.length_take, List.length_drop, htl, hin]
    omega
  have hgv1 : (w.setRow g cur1).heap[gv]? = some (.cells (mC m).toArray 58 (0, 0)) := (setRow_other w g gv cur1 hne).trans hgv
  have hsrc2 : ∀ j v, (mC m)[j]? = some v → (w.setRow g cur1).cell? ((⟨gv, 0, none⟩ : Addr).add j) = some v := fun j v hj => by
    rw [Addr.add_lit, Nat.zero_add, cell_of_row _ gv _ _ 58 (0, 0) hgv1]
    simpa using hj
  have run2 : ∀ ty dc vc, _ := fun ty dc vc => run_copy7 (w.setRow g cur1) ty g (k * 7) (n + 1 - k) dc ⟨gv, 0, none⟩ 1 vc cur1 58 (mC m) hh1 (by rw [mC_len, show Nat.min 1 (n + 1 - k) = 1 from Nat.min_eq_left (by omega)]) hsrc2 (by rw [mC_len, hl1]; omega) (mC_one m)
  rw [show Nat.min 1 (n + 1 - k) = 1 from Nat.min_eq_left (by omega)] at run2
  obtain ⟨cur2, hcur2⟩ : ∃ cur2, cur2 = (cur1.toList.take (k * 7) ++ mC m ++ cur1.toList.drop (k * 7 + (mC m).length)).toArray := ⟨_, rfl⟩
  rw [← hcur2] at run2
  have t1 : cur1.toList.take (k * 7) = inner.take (k * 7) := by
    rw [hcur1, List.append_assoc, List.take_append_of_le_length (by rw [List.length_take, htl]; omega), List.take_take, Nat.min_eq_left (by omega), ← ht, List.take_take, Nat.min_eq_left (by omega)]
  have t2 : cur1.toList.drop (k * 7 + (mC m).length) = inner.drop (k * 7) ++ cur.toList.drop ((k + 1) * 7 + (inner.drop (k * 7)).length) := by
    rw [hcur1, mC_len, show k * 7 + 7 = (k + 1) * 7 by omega, List.append_assoc]
    exact List.drop_left' (by rw [List.length_take, htl]; omega)
  have hG1 := row_grown hh cur1
  have hG2 := row_grown hh1 cur2
  refine ⟨w.setRow g cur1, (w.setRow g cur1).setRow g cur2, run1, run2, ?_, ⟨hG1.os.trans hG2.os |> fun _ => rfl, rfl, rfl, by rw [setRow_size, setRow_size]; exact Nat.le_refl _, fun b _ hb2 => (setRow_other _ g b cur2 (fun e => hb2 (by rw [e]))).trans (setRow_other w g b cur1 (fun e => hb2 (by rw [e])))⟩, hG1⟩
  have hlen : cur2.size = c * 7 := by
    rw [hcur2, t1, t2]
    simp only [List.size_toArray, List.length_append, List.length_take, List.length_drop, htl, hin, mC_len]
    omega
  refine R58_mk hb (setRow_heap _ g cur1 cur2 58 (0, 0) hh1) ?_ hroom hcm hlen ?_ (reps_ins hr k (by omega) m)
  · rw [List.length_append, List.length_cons, List.length_take, List.length_drop]; omega
  · rw [hcur2, t1, t2, ← List.append_assoc]
    rw [List.append_assoc (inner.take (k * 7)) (mC m) (inner.drop (k * 7))]
    exact List.take_left' (by rw [List.length_append, List.length_append, List.length_take, List.length_drop, hin, mC_len]; omega)
/-- The append and the two copies of slices.Insert where there is no room. -/
theorem ins_grow {w : World} {base n c g gv k : Nat} {xs : List S58} (m : S58) (h : Kd.R k58 58 w base (fun _ => True) (.slice (some ⟨g, 0, none⟩) n c) xs) (hk : k < n) (hroom : c < n + 1) (hgv : w.heap[gv]? = some (.cells (mC m).toArray 58 (0, 0))) (hsm : n ≤ 1000000000) (hbase : base ≤ w.heap.size) :
    ∃ (G : Nat) (w1 w2 w3 : World), (∀ ty, (Builtin.append_ #[23, 3] ty #[.slice (some ⟨g, 0, none⟩) k c, .int .i64 ((n + 1 - k : Nat) : Int)]).run Try.prog w = .ok (.slice (some ⟨w.heap.size, 0, none⟩) (n + 1) G) w1) ∧ n + 1 ≤ G ∧ G ≤ maxLen ∧
      (∀ ty dc vc, (Builtin.copy_ #[23, 23] ty #[.slice (some ⟨w.heap.size, k * 7, none⟩) (n + 1 - k) dc, .slice (some ⟨gv, 0, none⟩) 1 vc]).run Try.prog w1 = .ok (goInt 1) w2) ∧
      (∀ ty dc sc, (Builtin.copy_ #[23, 23] ty #[.slice (some ⟨w.heap.size, (k + 1) * 7, none⟩) (n - k) dc, .slice (some ⟨g, k * 7, none⟩) (n - k) sc]).run Try.prog w2.drew = .ok (goInt ((n - k : Nat) : Int)) w3) ∧
      Kd.R k58 58 w3 base (fun _ => True) (.slice (some ⟨w.heap.size, 0, none⟩) (n + 1) G) (xs.take k ++ m :: xs.drop k) ∧ Below w.heap.size w w3 := by
  rcases R58_open h with ⟨h1, _⟩ | ⟨g', cur, inner, ha, hb, hh, hl, hnc, hcm, hcs, ht, hr⟩
  · cases h1
  injection ha with ha
  injection ha with ha
  subst ha
  have hgw : g < w.heap.size := blk_lt hh
  have hgvw : gv < w.heap.size := blk_lt hgv
  have hin : inner.length = n * 7 := by rw [hr.1, hl]
  have hone := is7_one hr
  obtain ⟨i, hi, hz, hsz, hby⟩ := info_parts info58
  have hcell : ∀ q v, q < n * 7 → inner[q]? = some v → w.cell? ⟨g, q, none⟩ = some v := fun q v hq hv => by
    rw [cell_of_row w g _ cur 58 (0, 0) hh, ← Array.getElem?_toList, ← hv, ← ht, List.getElem?_take, if_pos hq]
  have hold : (Builtin.firstCells i.size k (.slice (some ⟨g, 0, none⟩) k c)).run Try.prog w.drew = .ok (inner.take (k * 7)).toArray w.drew := by
    rw [hsz]
    refine run_firstCells_some w.drew 7 k ⟨g, 0, none⟩ k c (inner.take (k * 7)) (by rw [List.length_take, hin]; omega) (fun j v hj => ?_)
    rw [Addr.add_lit, Nat.zero_add]
    rw [List.getElem?_take] at hj
    split at hj
    · exact hcell j v (by omega) hj
    · cases hj
  obtain ⟨G, hG⟩ : ∃ G, G = grownCap w (k + (n + 1 - k)) c 58 := ⟨_, rfl⟩
  have hrA : ∀ ty, _ := fun ty => Lib.run_append_grow_zeros w 23 3 ty 58 i _ .i64 .i64 Try.underlying23 Try.underlying3 hi hz (some ⟨g, 0, none⟩) k c (inner.take (k * 7)) hold (n + 1 - k) (by omega) (by omega) (by omega) (by omega) (by rw [hby]; omega) (by rw [hby]; exact growslice_fits (by omega) (by omega))
  rw [← hG, show k + (n + 1 - k) = n + 1 by omega] at hrA
  rw [show k + (n + 1 - k) = n + 1 by omega] at hG
  have hGe : n + 1 ≤ G := by rw [hG]; exact grownCap_ge _ _ _ _
  have hGm : G ≤ maxLen := by rw [hG]; exact grownCap_le_maxLen _ _ _ _ (by simp only [maxLen]; omega)
  obtain ⟨ROW, hROW⟩ : ∃ ROW : Array Value, ROW = (inner.take (k * 7)).toArray ++ Builtin.zeroCells (Value.agg #[(.int .u64 0), (.int .i64 0), (.int .i64 0), (.string ⟨#[]⟩), (.string ⟨#[]⟩), (.int .u64 0), (.int .u64 0)]).cells (n + 1 - k) ++ Builtin.zeroCells (Value.agg #[(.int .u64 0), (.int .i64 0), (.int .i64 0), (.string ⟨#[]⟩), (.string ⟨#[]⟩), (.int .u64 0), (.int .u64 0)]).cells (G - (n + 1)) := ⟨_, rfl⟩
  rw [← hROW] at hrA
  have hz7 : (Value.agg #[(.int .u64 0), (.int .i64 0), (.int .i64 0), (.string ⟨#[]⟩), (.string ⟨#[]⟩), (.int .u64 0), (.int .u64 0)]).cells.size = 7 := rfl
  have hRs : ROW.size = G * 7 := by
    rw [hROW]
    simp only [Array.size_append, List.size_toArray, List.length_take, hin, size_zeroCells, hz7]
    omega
  have hRl : ROW.toList.length = G * 7 := by rw [Array.length_toList, hRs]
  have hRt : ROW.toList.take (k * 7) = inner.take (k * 7) := by
    rw [hROW]
    simp only [Array.toList_append, List.append_assoc]
    exact List.take_left' (by rw [List.length_take, hin]; omega)
  obtain ⟨W1, hW1⟩ : ∃ W1, W1 = w.drew.alloc (.cells ROW 58) := ⟨_, rfl⟩
  rw [← hW1] at hrA
  have hB1 : Below w.heap.size w W1 := by rw [hW1]; exact below_alloc (below_drew (Below.refl _ _)) _
  have hh1 : W1.heap[w.heap.size]? = some (.cells ROW 58 (0, 0)) := by rw [hW1]; exact heap_alloc_new w.drew _
  have hgv1 : W1.heap[gv]? = some (.cells (mC m).toArray 58 (0, 0)) := (hB1.block gv hgvw).trans hgv
  have hg1 : W1.heap[g]? = some (.cells cur 58 (0, 0)) := (hB1.block g hgw).trans hh
  have hsrc1 : ∀ j v, (mC m)[j]? = some v → W1.cell? ((⟨gv, 0, none⟩ : Addr).add j) = some v := fun j v hj => by
    rw [Addr.add_lit, Nat.zero_add, cell_of_row _ gv _ _ 58 (0, 0) hgv1]
    simpa using hj
  have run1 : ∀ ty dc vc, _ := fun ty dc vc => run_copy7 W1 ty w.heap.size (k * 7) (n + 1 - k) dc ⟨gv, 0, none⟩ 1 vc ROW 58 (mC m) hh1 (by rw [mC_len, show Nat.min 1 (n + 1 - k) = 1 from Nat.min_eq_left (by omega)]) hsrc1 (by rw [mC_len, hRs]; omega) (mC_one m)
  rw [show Nat.min 1 (n + 1 - k) = 1 from Nat.min_eq_left (by omega)] at run1
  obtain ⟨R1, hR1⟩ : ∃ R1, R1 = (ROW.toList.take (k * 7) ++ mC m ++ ROW.toList.drop (k * 7 + (mC m).length)).toArray := ⟨_, rfl⟩
  rw [← hR1] at run1
  have hR1s : R1.size = G * 7 := by
    rw [hR1]
    simp only [List.size_toArray, List.length_append, List.length_take, List.length_drop, hRl, mC_len]
    omega
  have hR1t : R1.toList.take ((k + 1) * 7) = inner.take (k * 7) ++ mC m := by
    rw [hR1, hRt]
    exact List.take_left' (by rw [List.length_append, List.length_take, hin, mC_len]; omega)
  have hh2 : (W1.setRow w.heap.size R1).drew.heap[w.heap.size]? = some (.cells R1 58 (0, 0)) := setRow_heap W1 w.heap.size ROW R1 58 (0, 0) hh1
  have hg2 : (W1.setRow w.heap.size R1).drew.heap[g]? = some (.cells cur 58 (0, 0)) := (setRow_other W1 w.heap.size g R1 (by omega)).trans hg1
  have hsrc2 : ∀ j v, (inner.drop (k * 7))[j]? = some v → (W1.setRow w.heap.size R1).drew.cell? ((⟨g, k * 7, none⟩ : Addr).add j) = some v := fun j v hj => by
    rw [List.getElem?_drop] at hj
    have hq : k * 7 + j < n * 7 := by rw [← hin]; exact (List.getElem?_eq_some_iff.1 hj).1
    rw [Addr.add_lit, cell_of_row _ g _ cur 58 (0, 0) hg2, ← Array.getElem?_toList, ← hj, ← ht, List.getElem?_take, if_pos hq]
  have hd1 : (inner.drop (k * 7)).length = (n - k) * 7 := by rw [List.length_drop, hin]; omega
  have run2 : ∀ ty dc sc, _ := fun ty dc sc => run_copy7 (W1.setRow w.heap.size R1).drew ty w.heap.size ((k + 1) * 7) (n - k) dc ⟨g, k * 7, none⟩ (n - k) sc R1 58 (inner.drop (k * 7)) hh2 (by rw [hd1, show Nat.min (n - k) (n - k) = n - k from Nat.min_self _]) hsrc2 (by rw [hd1, hR1s]; omega) (fun v hv => hone v (List.mem_of_mem_drop hv))
  rw [show Nat.min (n - k) (n - k) = n - k from Nat.min_self _] at run2
  obtain ⟨R2, hR2⟩ : ∃ R2, R2 = (R1.toList.take ((k + 1) * 7) ++ inner.drop (k * 7) ++ R1.toList.drop ((k + 1) * 7 + (inner.drop (k * 7)).length)).toArray := ⟨_, rfl⟩
  rw [← hR2] at run2
  have hR2s : R2.size = G * 7 := by
    rw [hR2]
    simp only [List.size_toArray, List.length_append, List.length_take, List.length_drop, Array.length_toList, hR1s, hin]
    omega
  have hB2 : Below w.heap.size w (W1.setRow w.heap.size R1) := below_setRow hB1 (Nat.le_refl _) R1
  refine ⟨G, W1, W1.setRow w.heap.size R1, (W1.setRow w.heap.size R1).drew.setRow w.heap.size R2, hrA, hGe, hGm, run1, run2, ?_, below_setRow (below_drew hB2) (Nat.le_refl _) R2⟩
  refine R58_mk hbase (setRow_heap _ w.heap.size R1 R2 58 (0, 0) hh2) ?_ hGe hGm hR2s ?_ (reps_ins hr k (by omega) m)
  · rw [List.length_append, List.length_cons, List.length_take, List.length_drop]; omega
  · rw [hR2, hR1t, List.append_assoc (inner.take (k * 7)) (mC m) (inner.drop (k * 7))]
    exact List.take_left' (by rw [List.length_append, List.length_append, List.length_take, List.length_drop, hin, mC_len]; omega)
end Go.Proofs.Ytkjepfofiegcdaa.V
