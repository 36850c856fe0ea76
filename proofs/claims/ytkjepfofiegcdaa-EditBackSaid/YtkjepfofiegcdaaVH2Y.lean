import Derived.Test.YtkjepfofiegcdaaVF1Y
/- Numbers of an edit that are told, long lists, an edit's lists (later, long, listed), walked. Conditions: none. -/
namespace Go.Proofs.Ytkjepfofiegcdaa.V
set_option linter.unusedVariables false
set_option linter.unusedSimpArgs false
open Go.RowKit Go.Proofs.YtkjepfofiegcdaaW.PrintWords Go.Proofs.YtkjepfofiegcdaaW.PrintLast Go.Proofs.YtkjepfofiegcdaaW.PrintMore Go.Proofs.Ytkjepfofiegcdaa.PB14
/-- A number of an edit, if it is told; false: it is less than what there was. -/
def laterB (was n : Int) : Bool := decide (n = 0) || decide (was ≤ n)
def laterN (was n : Int) : Int := if n = 0 then was else n
set_option maxHeartbeats 4000000 in
set_option maxRecDepth 100000 in
theorem later_calls (w : World) (g j t : Nat) (cs : Array Value) (was n : Int) (hg : w.heap[g]? = some (.cells cs t (0, 0))) (hj : cs[j]? = some (.int .u64 was)) :
    Calls Try.prog 102 #[.pointer (some ⟨g, j, none⟩), .int .u64 n] w fun e w' => e = .returned (.bool (laterB was n)) ∧ w' = (if n = 0 then w else w.setCell ⟨g, j, none⟩ (.int .u64 n)) := by
  have hf : w.frozen? ⟨g, j, none⟩ = false := by simp [World.frozen?, hg]
  have h : w.cell? ⟨g, j, none⟩ = some (.int .u64 was) := (blk_cell hg j).trans hj
  clear hg hj
  by_cases h0 : n = 0
  · have e0 : (n == 0) = true := beq_iff_eq.mpr h0
    go_enter Try.func102, Try.ntmps102
    go_wp2_with fail
    go_ret
    exact ⟨ret_bool (by simp [laterB, h0]), by simp [h0]⟩
  · have e0 : (n == 0) = false := beq_eq_false_iff_ne.mpr h0
    have eb : laterB was n = decide (was ≤ n) := by simp [laterB, h0]
    rw [eb, if_neg h0]
    clear eb
    go_enter Try.func102, Try.ntmps102
    go_wp2_with fail
    go_ret
    exact ⟨rfl, rfl⟩
def longP (e : Edt) : Prop := 300 < e.gone.length ∨ 300 < e.added.length
instance (e : Edt) : Decidable (longP e) := by unfold longP; infer_instance
set_option maxHeartbeats 4000000 in
set_option maxRecDepth 100000 in
theorem long_calls (w : World) (e : Edt) (A1 A2 : Option Addr) (c1 c2 : Nat) : Calls Try.prog 52 #[.agg (eCs e A1 c1 A2 c2)] w fun x w' => x = .returned (.bool (decide (longP e))) ∧ Below w.heap.size w w' := by
  have HB := Aside0.mk ((Below.refl w.heap.size w).alloc (Nat.le_refl _) (.cells (eCs e A1 c1 A2 c2) 70))
  by_cases h1 : (e.gone.length : Int) > 300
  · have t0 : decide (300 < (e.gone.length : Int)) = true := decide_eq_true h1
    have t1 : decide (300 < e.gone.length) = true := decide_eq_true (by omega)
    have ER := Aside0.mk (show decide (longP e) = true from decide_eq_true (Or.inl (by omega)))
    rw [ER.out]
    clear h1
    go_enter Try.func52, Try.ntmps52
    go_wp2_with fail
    go_ret
    exact ⟨rfl, HB.out⟩
  · have t0 : decide (300 < (e.gone.length : Int)) = false := decide_eq_false h1
    have t1 : decide (300 < e.gone.length) = false := decide_eq_false (by omega)
    by_cases h2 : (e.added.length : Int) > 300
    · have t2 : decide (300 < (e.added.length : Int)) = true := decide_eq_true h2
      have t3 : decide (300 < e.added.length) = true := decide_eq_true (by omega)
      have ER := Aside0.mk (show decide (longP e) = true from decide_eq_true (Or.inr (by omega)))
      rw [ER.out]
      clear h1 h2
      go_enter Try.func52, Try.ntmps52
      go_wp2_with fail
      go_ret
      exact ⟨rfl, HB.out⟩
    · have t2 : decide (300 < (e.added.length : Int)) = false := decide_eq_false h2
      have t3 : decide (300 < e.added.length) = false := decide_eq_false (by omega)
      have ER := Aside0.mk (show decide (longP e) = false from decide_eq_false (by rintro (h | h) <;> omega))
      rw [ER.out]
      clear h1 h2
      go_enter Try.func52, Try.ntmps52
      go_wp2_with fail
      go_ret
      exact ⟨rfl, HB.out⟩
theorem ret_i {a b : Int} (h : a = b) : Ending.returned (.int .i64 a) = .returned (.int .i64 b) := by rw [h]
/-- An edit's lists stand. -/
def goneOk (x : S84) : Prop := 0 ≤ x.f0 ∧ x.f0 < 4
def addOk (x : S82) : Prop := (0 ≤ x.f0 ∧ x.f0 < 4) ∧ mayP x.f1
instance (x : S84) : Decidable (goneOk x) := by unfold goneOk; infer_instance
instance (x : S82) : Decidable (addOk x) := by unfold addOk; infer_instance
def listedP (e : Edt) : Prop := (∀ x, x ∈ e.gone → goneOk x) ∧ ∀ x, x ∈ e.added → addOk x
instance (e : Edt) : Decidable (listedP e) := by unfold listedP; infer_instance
theorem all_getD {α : Type} {p : α → Prop} {l : List α} {z : α} (h : ∀ j, j < l.length → p (l.getD j z)) : ∀ x, x ∈ l → p x := fun x hx => by
  obtain ⟨i, hi, hx2⟩ := List.getElem_of_mem hx
  have := h i hi
  rw [List.getD_eq_getElem?_getD, List.getElem?_eq_getElem hi] at this
  rw [← hx2]
  exact this
set_option maxHeartbeats 8000000 in
set_option maxRecDepth 100000 in
theorem listed_calls (w : World) (e : Edt) (A1 A2 : Option Addr) (c1 c2 : Nat) (h1 : k84.C w A1 e.gone.length e.gone) (h2 : k82.C w A2 e.added.length e.added) :
    Calls Try.prog 103 #[.agg (eCs e A1 c1 A2 c2)] w fun x w' => x = .returned (.int .i64 (if listedP e then 0 else 2)) ∧ Below w.heap.size w w' := by
  have H1 := Aside0.mk h1
  have H2 := Aside0.mk h2
  have HB := Aside0.mk ((Below.refl w.heap.size w).alloc (Nat.le_refl _) (.cells (eCs e A1 c1 A2 c2) 70))
  have X1 := Aside0.mk (blk_new w (.cells (eCs e A1 c1 A2 c2) 70))
  clear h1 h2
  obtain ⟨r, hr⟩ : ∃ r : Int, r = if listedP e then 0 else 2 := ⟨_, rfl⟩
  rw [← hr]
  have HRR := Aside0.mk hr
  clear hr
  go_enter Try.func103, Try.ntmps103
  go_upto_region 1 with (fail)
  generalize w.alloc (.cells (eCs e A1 c1 A2 c2) 70) = w1 at *
  have b3 : w1.cell? ⟨w.heap.size, 3, none⟩ = some (.slice A1 e.gone.length c1) := (blk_cell X1.out 3).trans rfl
  go_wp2_with fail
  clear b3
  go_loopg [4, 10] e.gone.length (fun kq v4 v10 w' => ∃ k : Nat, v10 = .int .i64 (k : Int) ∧ Aside0 (kq + k = e.gone.length) ∧ Aside0 (Below w1.heap.size w1 w') ∧ Aside0 (∀ j, j < k → goneOk (e.gone.getD j z84)))
  case atStart => exact ⟨0, rfl, ⟨by omega⟩, ⟨Below.refl _ _⟩, ⟨fun j hj => by omega⟩⟩
  case round =>
    obtain ⟨k, rfl, HK, HBW, HJ⟩ := hrel
    cases gk with
    | zero =>
      have ek : k = e.gone.length := by have := HK.out; omega
      subst ek
      have d0 : decide ((e.gone.length : Int) < (e.gone.length : Int)) = false := by simp
      have G1 := Aside0.mk (all_getD HJ.out)
      have X1r := Aside0.mk (blk_below X1.out HBW.out)
      have b4 : wr.cell? ⟨w.heap.size, 4, none⟩ = some (.slice A2 e.added.length c2) := (blk_cell X1r.out 4).trans rfl
      have HB2 := Aside0.mk (below_step HB.out HBW.out)
      clear HK HJ X1 HB HBW
      go_wp2_with fail
      clear b4 d0
      generalize hw5 : wr = w5 at *
      clear hw5
      go_loopg [6, 22] e.added.length (fun kq v6 v22 w' => ∃ k : Nat, v22 = .int .i64 (k : Int) ∧ Aside0 (kq + k = e.added.length) ∧ Aside0 (Below w.heap.size w w') ∧ Aside0 (∀ j, j < k → addOk (e.added.getD j z82)))
      case atStart => exact ⟨0, rfl, ⟨by omega⟩, HB2, ⟨fun j hj => by omega⟩⟩
      case round =>
        clear HB2
        obtain ⟨k, rfl, HK, HBW, HJ⟩ := hrel
        cases gk with
        | zero =>
          have ek : k = e.added.length := by have := HK.out; omega
          subst ek
          have d0 : decide ((e.added.length : Int) < (e.added.length : Int)) = false := by simp
          go_wp2_with fail
          go_ret
          exact ⟨ret_i (by rw [HRR.out, if_pos ⟨G1.out, all_getD HJ.out⟩]), HBW.out⟩
        | succ q =>
          have hk : k < e.added.length := by have := HK.out; omega
          have HM := Aside0.mk (show e.added.length ≤ 9223372036854775807 from H2.out.2.1)
          have d0 : decide ((k : Int) < (e.added.length : Int)) = true := decide_eq_true (by omega)
          have d1 : decide (k < e.added.length) = true := decide_eq_true hk
          have p0 : 0 ≤ (k : Int) := Int.natCast_nonneg _
          have p1 : (k : Int) < (e.added.length : Int) := by omega
          have CX := Kd.C_below H2.out HBW.out
          obtain ⟨ad, ea, ha0, ha1, ha2, ha3, ha4, ha5, ha6, ha7⟩ := at_T82 CX (k : Int) p0 p1
          rw [Int.toNat_natCast] at ha0 ha1 ha2 ha3 ha4 ha5 ha6 ha7
          have EA := Aside0.mk (show rd_T82 e.added (k : Int) = e.added.getD k z82 by unfold rd_T82; rw [Int.toNat_natCast])
          have EM := Aside0.mk (show e.added.getD k z82 ∈ e.added from getD_mem _ z82 hk)
          generalize rd_T82 e.added (k : Int) = m at *
          rw [ea]
          have HAX := Aside0.mk ea
          have ew : wrap64 ((k : Int) + 1) = ((k + 1 : Nat) : Int) := by have h1 := HM.out; unfold wrap64; omega
          have n0_ := Aside0.mk (below_step HBW.out ((Below.refl wr.heap.size wr).alloc (Nat.le_refl _) (.cells (pCs m) 82)))
          have Y1 := Aside0.mk (blk_new wr (.cells (pCs m) 82))
          clear ea hk CX
          by_cases hp : 0 ≤ m.f0 ∧ m.f0 < 4
          · have DP := Aside0.mk (decide_eq_true hp)
            go_wp2_with fail
            refine (level_calls _ _).mono ?_
            rintro x w2 ⟨rfl, hb⟩
            rw [DP.out]
            have Y2 := Aside0.mk (blk_below Y1.out hb)
            have n1_ := Aside0.mk (below_step n0_.out hb)
            clear hb
            have y1 : w2.cell? ⟨wr.heap.size, 1, none⟩ = some (.int .u64 m.f1.f0) := (blk_cell Y2.out 1).trans rfl
            have y2 : w2.cell? ⟨wr.heap.size, 2, none⟩ = some (.int .i64 m.f1.f1) := (blk_cell Y2.out 2).trans rfl
            have y3 : w2.cell? ⟨wr.heap.size, 3, none⟩ = some (.int .i64 m.f1.f2) := (blk_cell Y2.out 3).trans rfl
            have y4 : w2.cell? ⟨wr.heap.size, 4, none⟩ = some (.string m.f1.f3) := (blk_cell Y2.out 4).trans rfl
            have y5 : w2.cell? ⟨wr.heap.size, 5, none⟩ = some (.string m.f1.f4) := (blk_cell Y2.out 5).trans rfl
            have y6 : w2.cell? ⟨wr.heap.size, 6, none⟩ = some (.int .u64 m.f1.f5) := (blk_cell Y2.out 6).trans rfl
            have y7 : w2.cell? ⟨wr.heap.size, 7, none⟩ = some (.int .u64 m.f1.f6) := (blk_cell Y2.out 7).trans rfl
            by_cases hm : mayP m.f1
            · have DM := Aside0.mk (decide_eq_true hm)
              have OK1 := Aside0.mk (show addOk m from ⟨hp, hm⟩)
              clear hp hm
              go_wp2_with fail
              refine (may_calls _ _).mono ?_
              rintro x w3 ⟨rfl, hb⟩
              rw [DM.out]
              have n2_ := Aside0.mk (below_step n1_.out hb)
              clear hb y1 y2 y3 y4 y5 y6 y7
              go_wp2_with fail
              try rw [ew]
              rw [← HAX.out]
              clear ew
              go_roundg q
              case measure => omega
              case rel => exact ⟨k + 1, rfl, ⟨by have := HK.out; omega⟩, n2_, ⟨fun j hj => by
                by_cases e : j = k
                · subst e; rw [← EA.out]; exact OK1.out
                · exact HJ.out j (by omega)⟩⟩
            · have DM := Aside0.mk (decide_eq_false hm)
              have HN := Aside0.mk (show ¬ listedP e from fun h => hm (by have := (h.2 _ EM.out).2; rw [← EA.out] at this; exact this))
              clear hp hm
              go_wp2_with fail
              refine (may_calls _ _).mono ?_
              rintro x w3 ⟨rfl, hb⟩
              rw [DM.out]
              have n2_ := Aside0.mk (below_step n1_.out hb)
              clear hb y1 y2 y3 y4 y5 y6 y7
              go_wp2_with fail
              go_ret
              exact ⟨ret_i (by rw [HRR.out, if_neg HN.out]), n2_.out⟩
          · have DP := Aside0.mk (decide_eq_false hp)
            have HN := Aside0.mk (show ¬ listedP e from fun h => hp (by have := (h.2 _ EM.out).1; rw [← EA.out] at this; exact this))
            clear hp
            go_wp2_with fail
            refine (level_calls _ _).mono ?_
            rintro x w2 ⟨rfl, hb⟩
            rw [DP.out]
            have n1_ := Aside0.mk (below_step n0_.out hb)
            clear hb
            go_wp2_with fail
            go_ret
            exact ⟨ret_i (by rw [HRR.out, if_neg HN.out]), n1_.out⟩
    | succ q =>
      have hk : k < e.gone.length := by have := HK.out; omega
      have HM := Aside0.mk (show e.gone.length ≤ 9223372036854775807 from H1.out.2.1)
      have d0 : decide ((k : Int) < (e.gone.length : Int)) = true := decide_eq_true (by omega)
      have d1 : decide (k < e.gone.length) = true := decide_eq_true hk
      have p0 : 0 ≤ (k : Int) := Int.natCast_nonneg _
      have p1 : (k : Int) < (e.gone.length : Int) := by omega
      have CX := Kd.C_below H1.out (below_step HB.out HBW.out)
      obtain ⟨ad, ea, ha0, ha1⟩ := at_T84 CX (k : Int) p0 p1
      rw [Int.toNat_natCast] at ha0 ha1
      have EA := Aside0.mk (show rd_T84 e.gone (k : Int) = e.gone.getD k z84 by unfold rd_T84; rw [Int.toNat_natCast])
      have EM := Aside0.mk (show e.gone.getD k z84 ∈ e.gone from getD_mem _ z84 hk)
      generalize rd_T84 e.gone (k : Int) = m at *
      rw [ea]
      have HAX := Aside0.mk ea
      have ew : wrap64 ((k : Int) + 1) = ((k + 1 : Nat) : Int) := by have h1 := HM.out; unfold wrap64; omega
      have n0_ := Aside0.mk (below_step HBW.out ((Below.refl wr.heap.size wr).alloc (Nat.le_refl _) (.cells (gCs m) 84)))
      clear ea hk CX
      by_cases hp : 0 ≤ m.f0 ∧ m.f0 < 4
      · have DP := Aside0.mk (decide_eq_true hp)
        have OK1 := Aside0.mk (show goneOk m from hp)
        clear hp
        go_wp2_with fail
        refine (level_calls _ _).mono ?_
        rintro x w2 ⟨rfl, hb⟩
        rw [DP.out]
        have n1_ := Aside0.mk (below_step n0_.out hb)
        clear hb
        go_wp2_with fail
        try rw [ew]
        rw [← HAX.out]
        clear ew
        go_roundg q
        case measure => omega
        case rel => exact ⟨k + 1, rfl, ⟨by have := HK.out; omega⟩, n1_, ⟨fun j hj => by
          by_cases e : j = k
          · subst e; rw [← EA.out]; exact OK1.out
          · exact HJ.out j (by omega)⟩⟩
      · have DP := Aside0.mk (decide_eq_false hp)
        have HN := Aside0.mk (show ¬ listedP e from fun h => hp (by have := h.1 _ EM.out; rw [← EA.out] at this; exact this))
        clear hp
        go_wp2_with fail
        refine (level_calls _ _).mono ?_
        rintro x w2 ⟨rfl, hb⟩
        rw [DP.out]
        have n1_ := Aside0.mk (below_step n0_.out hb)
        clear hb
        go_wp2_with fail
        go_ret
        exact ⟨ret_i (by rw [HRR.out, if_neg HN.out]), below_step HB.out n1_.out⟩
end Go.Proofs.Ytkjepfofiegcdaa.V
