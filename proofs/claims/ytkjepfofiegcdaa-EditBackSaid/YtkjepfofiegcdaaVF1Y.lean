import Derived.Test.YtkjepfofiegcdaaVX3Y
import Derived.Test.YtkjepfofiegcdaaWEqStruct
/- Edits in memory; whether two are the same; whether a table is one of a list: walked. Conditions: none. -/
namespace Go.Proofs.Ytkjepfofiegcdaa.V
set_option linter.unusedVariables false
set_option linter.unusedSimpArgs false
open Go.RowKit Go.Proofs.YtkjepfofiegcdaaW.PrintWords Go.Proofs.YtkjepfofiegcdaaW.PrintLast Go.Proofs.YtkjepfofiegcdaaW.PrintMore Go.Proofs.Ytkjepfofiegcdaa.PB14
/-- An edit. -/
structure Edt where
  log : Int
  next : Int
  seq : Int
  gone : List S84
  added : List S82
instance : DecidableEq S84 := fun a b => if h : a.f0 = b.f0 ∧ a.f1 = b.f1 then isTrue (by cases a; cases b; simp at h; obtain ⟨rfl, rfl⟩ := h; rfl) else isFalse (fun e => h (by subst e; simp))
instance : DecidableEq S82 := fun a b => if h : a.f0 = b.f0 ∧ a.f1 = b.f1 then isTrue (by cases a; cases b; simp at h; obtain ⟨rfl, rfl⟩ := h; rfl) else isFalse (fun e => h (by subst e; simp))
instance : DecidableEq Edt := fun a b => if h : (a.log = b.log ∧ a.next = b.next ∧ a.seq = b.seq) ∧ a.gone = b.gone ∧ a.added = b.added then isTrue (by cases a; cases b; simp at h; obtain ⟨⟨rfl, rfl, rfl⟩, rfl, rfl⟩ := h; rfl) else isFalse (fun e => h (by subst e; simp))
abbrev eCs (e : Edt) (A1 : Option Addr) (c1 : Nat) (A2 : Option Addr) (c2 : Nat) : Array Value := #[.int .u64 e.log, .int .u64 e.next, .int .u64 e.seq, .slice A1 e.gone.length c1, .slice A2 e.added.length c2]
abbrev gCs (x : S84) : Array Value := #[.int .i64 x.f0, .int .u64 x.f1]
abbrev pCs (x : S82) : Array Value := #[.int .i64 x.f0, .int .u64 x.f1.f0, .int .i64 x.f1.f1, .int .i64 x.f1.f2, .string x.f1.f3, .string x.f1.f4, .int .u64 x.f1.f5, .int .u64 x.f1.f6]
theorem eqA84 (d : Nat) (w : World) (a b : S84) : (Op.equalIn (d + 2) 84 (.agg #[.int .i64 a.f0, .int .u64 a.f1]) (.agg #[.int .i64 b.f0, .int .u64 b.f1])).run Try.prog w = .ok (decide (a = b)) w := by
  have e : decide (a = b) = (a.f0 == b.f0 && (a.f1 == b.f1)) := by
    rw [Bool.eq_iff_iff]
    simp only [decide_eq_true_eq, Bool.and_eq_true, beq_iff_eq]
    constructor
    · rintro rfl
      simp
    · rintro ⟨h0, h1⟩
      cases a
      cases b
      simp_all
  rw [e]
  refine eqA_of Try.underlying84 (by kernel_rfl) ?_
  refine eqf_cons (by rfl) (by go_simp; rfl) (by go_simp; rfl) (by go_simp) ?_
  exact eqf_last (by rfl) (by go_simp; rfl) (by go_simp; rfl) (by go_simp)
theorem eqA82 (d : Nat) (w : World) (a b : S82) : (Op.equalIn (d + 3) 82 (.agg #[.int .i64 a.f0, .int .u64 a.f1.f0, .int .i64 a.f1.f1, .int .i64 a.f1.f2, .string a.f1.f3, .string a.f1.f4, .int .u64 a.f1.f5, .int .u64 a.f1.f6]) (.agg #[.int .i64 b.f0, .int .u64 b.f1.f0, .int .i64 b.f1.f1, .int .i64 b.f1.f2, .string b.f1.f3, .string b.f1.f4, .int .u64 b.f1.f5, .int .u64 b.f1.f6])).run Try.prog w = .ok (decide (a = b)) w := by
  have e : decide (a = b) = (a.f0 == b.f0 && decide (a.f1 = b.f1)) := by
    rw [Bool.eq_iff_iff]
    simp only [decide_eq_true_eq, Bool.and_eq_true, beq_iff_eq]
    constructor
    · rintro rfl
      simp
    · rintro ⟨h0, h1⟩
      cases a
      cases b
      simp_all
  rw [e]
  refine eqA_of Try.underlying82 (by kernel_rfl) ?_
  refine eqf_cons (by rfl) (by go_simp; rfl) (by go_simp; rfl) (by go_simp) ?_
  exact eqf_last (by rfl) (by go_simp) (by go_simp) (eqA58 d w a.f1 b.f1)
attribute [local go_sem high] eqA58 eqA84 eqA82
theorem take_ne' {α : Type} {xs ys : List α} {z : α} {k : Nat} (h : ¬ xs.getD k z = ys.getD k z) : ¬ xs = ys := fun e => h (by rw [e])
theorem take_eq' {α : Type} {xs ys : List α} {z : α} {k : Nat} (hx : k < xs.length) (hy : k < ys.length) (h : xs.getD k z = ys.getD k z) (ht : xs.take k = ys.take k) : xs.take (k + 1) = ys.take (k + 1) := by rw [take_snoc xs z hx, take_snoc ys z hy, h, ht]
set_option maxHeartbeats 8000000 in
set_option maxRecDepth 100000 in
theorem sameE_calls (w : World) (e f : Edt) (A1 A2 B1 B2 : Option Addr) (c1 c2 d1 d2 : Nat) (h1 : k84.C w A1 e.gone.length e.gone) (h2 : k82.C w A2 e.added.length e.added) (h3 : k84.C w B1 f.gone.length f.gone) (h4 : k82.C w B2 f.added.length f.added) :
    Calls Try.prog 50 #[.agg #[.int .u64 e.log, .int .u64 e.next, .int .u64 e.seq, .slice A1 e.gone.length c1, .slice A2 e.added.length c2], .agg #[.int .u64 f.log, .int .u64 f.next, .int .u64 f.seq, .slice B1 f.gone.length d1, .slice B2 f.added.length d2]] w fun x w' => x = .returned (.bool (decide (e = f))) ∧ Below w.heap.size w w' := by
  have H1 := Aside0.mk h1
  have H2 := Aside0.mk h2
  have H3 := Aside0.mk h3
  have H4 := Aside0.mk h4
  have HB := Aside0.mk (below_alloc ((Below.refl w.heap.size w).alloc (Nat.le_refl _) (.cells #[.int .u64 e.log, .int .u64 e.next, .int .u64 e.seq, .slice A1 e.gone.length c1, .slice A2 e.added.length c2] 70)) (.cells #[.int .u64 f.log, .int .u64 f.next, .int .u64 f.seq, .slice B1 f.gone.length d1, .slice B2 f.added.length d2] 70))
  have X2 := Aside0.mk (blk_alloc (blk_new w (.cells #[.int .u64 e.log, .int .u64 e.next, .int .u64 e.seq, .slice A1 e.gone.length c1, .slice A2 e.added.length c2] 70)) (.cells #[.int .u64 f.log, .int .u64 f.next, .int .u64 f.seq, .slice B1 f.gone.length d1, .slice B2 f.added.length d2] 70))
  have X3 := Aside0.mk (blk_new (w.alloc (.cells #[.int .u64 e.log, .int .u64 e.next, .int .u64 e.seq, .slice A1 e.gone.length c1, .slice A2 e.added.length c2] 70)) (.cells #[.int .u64 f.log, .int .u64 f.next, .int .u64 f.seq, .slice B1 f.gone.length d1, .slice B2 f.added.length d2] 70))
  clear h1 h2 h3 h4
  obtain ⟨r, hr⟩ : ∃ r, r = decide (e = f) := ⟨_, rfl⟩
  rw [← hr]
  have HRR := Aside0.mk hr
  clear hr
  go_enter Try.func50, Try.ntmps50
  go_upto_region 1 with (fail)
  generalize hg3 : (w.alloc (.cells #[.int .u64 e.log, .int .u64 e.next, .int .u64 e.seq, .slice A1 e.gone.length c1, .slice A2 e.added.length c2] 70)).heap.size = g3 at *
  have e3 : w.heap.size + 1 = g3 := by rw [← hg3]; simp
  try rw [e3]
  clear hg3 e3
  generalize (w.alloc (.cells #[.int .u64 e.log, .int .u64 e.next, .int .u64 e.seq, .slice A1 e.gone.length c1, .slice A2 e.added.length c2] 70)).alloc (.cells #[.int .u64 f.log, .int .u64 f.next, .int .u64 f.seq, .slice B1 f.gone.length d1, .slice B2 f.added.length d2] 70) = w1 at *
  have y0 : w1.cell? ⟨w.heap.size, 0, none⟩ = some (.int .u64 e.log) := (blk_cell X2.out 0).trans rfl
  have y1 : w1.cell? ⟨w.heap.size, 1, none⟩ = some (.int .u64 e.next) := (blk_cell X2.out 1).trans rfl
  have y2 : w1.cell? ⟨w.heap.size, 2, none⟩ = some (.int .u64 e.seq) := (blk_cell X2.out 2).trans rfl
  have y3 : w1.cell? ⟨w.heap.size, 3, none⟩ = some (.slice A1 e.gone.length c1) := (blk_cell X2.out 3).trans rfl
  have y4 : w1.cell? ⟨w.heap.size, 4, none⟩ = some (.slice A2 e.added.length c2) := (blk_cell X2.out 4).trans rfl
  have z0 : w1.cell? ⟨g3, 0, none⟩ = some (.int .u64 f.log) := (blk_cell X3.out 0).trans rfl
  have z1 : w1.cell? ⟨g3, 1, none⟩ = some (.int .u64 f.next) := (blk_cell X3.out 1).trans rfl
  have z2 : w1.cell? ⟨g3, 2, none⟩ = some (.int .u64 f.seq) := (blk_cell X3.out 2).trans rfl
  have z3 : w1.cell? ⟨g3, 3, none⟩ = some (.slice B1 f.gone.length d1) := (blk_cell X3.out 3).trans rfl
  have z4 : w1.cell? ⟨g3, 4, none⟩ = some (.slice B2 f.added.length d2) := (blk_cell X3.out 4).trans rfl
  by_cases hx0 : e.log = f.log
  · have E0 := Aside0.mk hx0
    have t0 : (e.log == f.log) = true := beq_iff_eq.mpr hx0
    have v0 : (e.log != f.log) = false := by simp [hx0]
    clear hx0
    by_cases hx1 : e.next = f.next
    · have E1 := Aside0.mk hx1
      have t1 : (e.next == f.next) = true := beq_iff_eq.mpr hx1
      have v1 : (e.next != f.next) = false := by simp [hx1]
      clear hx1
      by_cases hx2 : e.seq = f.seq
      · have E2 := Aside0.mk hx2
        have t2 : (e.seq == f.seq) = true := beq_iff_eq.mpr hx2
        have v2 : (e.seq != f.seq) = false := by simp [hx2]
        clear hx2
        by_cases hx3 : e.gone.length = f.gone.length
        · have E3 := Aside0.mk hx3
          have t3 : ((e.gone.length : Int) == (f.gone.length : Int)) = true := by rw [hx3]; simp
          have v3 : ((e.gone.length : Int) != (f.gone.length : Int)) = false := by rw [hx3]; simp
          have t3a : (e.gone.length == f.gone.length) = true := by rw [hx3]; simp
          have v3a : (e.gone.length != f.gone.length) = false := by rw [hx3]; simp
          clear hx3
          by_cases hx4 : e.added.length = f.added.length
          · have E4 := Aside0.mk hx4
            have t4 : ((e.added.length : Int) == (f.added.length : Int)) = true := by rw [hx4]; simp
            have v4 : ((e.added.length : Int) != (f.added.length : Int)) = false := by rw [hx4]; simp
            have t4a : (e.added.length == f.added.length) = true := by rw [hx4]; simp
            have v4a : (e.added.length != f.added.length) = false := by rw [hx4]; simp
            clear hx4
            go_wp2_with fail
            clear y0 y1 y2 y3 y4 z0 z1 z2 z3 z4 t0 t1 t2 t3 t4 v0 v1 v2 v3 v4 t3a t4a v3a v4a
            go_loopg [5] e.gone.length (fun kq v5 w' => ∃ k : Nat, v5 = .int .i64 (k : Int) ∧ Aside0 (kq + k = e.gone.length) ∧ Aside0 (Below w1.heap.size w1 w') ∧ Aside0 (e.gone.take k = f.gone.take k))
            case atStart => exact ⟨0, rfl, ⟨by omega⟩, ⟨Below.refl _ _⟩, ⟨rfl⟩⟩
            case round =>
              skip
              obtain ⟨k, rfl, HK, HBW, HT⟩ := hrel
              have X2r := Aside0.mk (blk_below X2.out HBW.out)
              have X3r := Aside0.mk (blk_below X3.out HBW.out)
              have y0 : wr.cell? ⟨w.heap.size, 0, none⟩ = some (.int .u64 e.log) := (blk_cell X2r.out 0).trans rfl
              have y1 : wr.cell? ⟨w.heap.size, 1, none⟩ = some (.int .u64 e.next) := (blk_cell X2r.out 1).trans rfl
              have y2 : wr.cell? ⟨w.heap.size, 2, none⟩ = some (.int .u64 e.seq) := (blk_cell X2r.out 2).trans rfl
              have y3 : wr.cell? ⟨w.heap.size, 3, none⟩ = some (.slice A1 e.gone.length c1) := (blk_cell X2r.out 3).trans rfl
              have y4 : wr.cell? ⟨w.heap.size, 4, none⟩ = some (.slice A2 e.added.length c2) := (blk_cell X2r.out 4).trans rfl
              have z0 : wr.cell? ⟨g3, 0, none⟩ = some (.int .u64 f.log) := (blk_cell X3r.out 0).trans rfl
              have z1 : wr.cell? ⟨g3, 1, none⟩ = some (.int .u64 f.next) := (blk_cell X3r.out 1).trans rfl
              have z2 : wr.cell? ⟨g3, 2, none⟩ = some (.int .u64 f.seq) := (blk_cell X3r.out 2).trans rfl
              have z3 : wr.cell? ⟨g3, 3, none⟩ = some (.slice B1 f.gone.length d1) := (blk_cell X3r.out 3).trans rfl
              have z4 : wr.cell? ⟨g3, 4, none⟩ = some (.slice B2 f.added.length d2) := (blk_cell X3r.out 4).trans rfl
              have HB2 := Aside0.mk (below_step HB.out HBW.out)
              cases gk with
              | zero =>
                have ek : k = e.gone.length := by have := HK.out; omega
                subst ek
                have d0 : decide ((e.gone.length : Int) < (e.gone.length : Int)) = false := by simp
                have EQgone := Aside0.mk (show e.gone = f.gone from by
                  have h1 := HT.out
                  rw [List.take_length] at h1
                  exact h1.trans (List.take_of_length_le (by have := E3.out; omega)))
                clear HK HT
                go_wp2_with fail
                clear d0 HB2 X2r X3r y0 y1 y2 y3 y4 z0 z1 z2 z3 z4
                go_loopg [6] e.added.length (fun kq v6 w' => ∃ k : Nat, v6 = .int .i64 (k : Int) ∧ Aside0 (kq + k = e.added.length) ∧ Aside0 (Below w1.heap.size w1 w') ∧ Aside0 (e.added.take k = f.added.take k))
                case atStart => exact ⟨0, rfl, ⟨by omega⟩, HBW, ⟨rfl⟩⟩
                case round =>
                  clear HBW
                  obtain ⟨k, rfl, HK, HBW, HT⟩ := hrel
                  have X2r := Aside0.mk (blk_below X2.out HBW.out)
                  have X3r := Aside0.mk (blk_below X3.out HBW.out)
                  have y0 : wr.cell? ⟨w.heap.size, 0, none⟩ = some (.int .u64 e.log) := (blk_cell X2r.out 0).trans rfl
                  have y1 : wr.cell? ⟨w.heap.size, 1, none⟩ = some (.int .u64 e.next) := (blk_cell X2r.out 1).trans rfl
                  have y2 : wr.cell? ⟨w.heap.size, 2, none⟩ = some (.int .u64 e.seq) := (blk_cell X2r.out 2).trans rfl
                  have y3 : wr.cell? ⟨w.heap.size, 3, none⟩ = some (.slice A1 e.gone.length c1) := (blk_cell X2r.out 3).trans rfl
                  have y4 : wr.cell? ⟨w.heap.size, 4, none⟩ = some (.slice A2 e.added.length c2) := (blk_cell X2r.out 4).trans rfl
                  have z0 : wr.cell? ⟨g3, 0, none⟩ = some (.int .u64 f.log) := (blk_cell X3r.out 0).trans rfl
                  have z1 : wr.cell? ⟨g3, 1, none⟩ = some (.int .u64 f.next) := (blk_cell X3r.out 1).trans rfl
                  have z2 : wr.cell? ⟨g3, 2, none⟩ = some (.int .u64 f.seq) := (blk_cell X3r.out 2).trans rfl
                  have z3 : wr.cell? ⟨g3, 3, none⟩ = some (.slice B1 f.gone.length d1) := (blk_cell X3r.out 3).trans rfl
                  have z4 : wr.cell? ⟨g3, 4, none⟩ = some (.slice B2 f.added.length d2) := (blk_cell X3r.out 4).trans rfl
                  have HB2 := Aside0.mk (below_step HB.out HBW.out)
                  cases gk with
                  | zero =>
                    have ek : k = e.added.length := by have := HK.out; omega
                    subst ek
                    have d0 : decide ((e.added.length : Int) < (e.added.length : Int)) = false := by simp
                    have EQadded := Aside0.mk (show e.added = f.added from by
                      have h1 := HT.out
                      rw [List.take_length] at h1
                      exact h1.trans (List.take_of_length_le (by have := E4.out; omega)))
                    clear HK HT
                    go_wp2_with fail
                    go_ret
                    exact ⟨ret_bool (by
                      rw [HRR.out]
                      symm
                      refine decide_eq_true ?_
                      have h0 := E0.out
                      have h1 := E1.out
                      have h2 := E2.out
                      have h3 := EQgone.out
                      have h4 := EQadded.out
                      cases e
                      cases f
                      simp_all), HB2.out⟩
                  | succ q =>
                    have hk : k < e.added.length := by have := HK.out; omega
                    have HM := Aside0.mk (show e.added.length ≤ 9223372036854775807 from H2.out.2.1)
                    have d0 : decide ((k : Int) < (e.added.length : Int)) = true := decide_eq_true (by omega)
                    have d1 : decide (k < e.added.length) = true := decide_eq_true hk
                    have p0 : 0 ≤ (k : Int) := Int.natCast_nonneg _
                    have p1 : (k : Int) < (e.added.length : Int) := by omega
                    have p2 : (k : Int) < (f.added.length : Int) := by have := E4.out; omega
                    have CX := Kd.C_below H2.out HB2.out
                    have CY := Kd.C_below H4.out HB2.out
                    obtain ⟨ad, ea, ha0, ha1, ha2, ha3, ha4, ha5, ha6, ha7⟩ := at_T82 CX (k : Int) p0 p1
                    obtain ⟨bd, eb, hb0, hb1, hb2, hb3, hb4, hb5, hb6, hb7⟩ := at_T82 CY (k : Int) p0 p2
                    rw [Int.toNat_natCast] at ha0 ha1 ha2 ha3 ha4 ha5 ha6 ha7 hb0 hb1 hb2 hb3 hb4 hb5 hb6 hb7
                    clear CX CY
                    have EA := Aside0.mk (show rd_T82 e.added (k : Int) = e.added.getD k z82 by unfold rd_T82; rw [Int.toNat_natCast])
                    have EB := Aside0.mk (show rd_T82 f.added (k : Int) = f.added.getD k z82 by unfold rd_T82; rw [Int.toNat_natCast])
                    generalize rd_T82 e.added (k : Int) = a at *
                    generalize rd_T82 f.added (k : Int) = b at *
                    rw [ea] at y4
                    rw [eb] at z4
                    have HK1 := Aside0.mk hk
                    have ew : wrap64 ((k : Int) + 1) = ((k + 1 : Nat) : Int) := by have h1 := HM.out; unfold wrap64; omega
                    clear ea eb hk
                    by_cases hab : a = b
                    · have e0 : decide (a = b) = true := decide_eq_true hab
                      have HAB := Aside0.mk (show e.added.getD k z82 = f.added.getD k z82 by rw [← EA.out, ← EB.out, hab])
                      clear hab
                      go_wp2_with fail
                      go_quiet (fail)
                      go_wp2_with fail
                      try rw [ew]
                      clear ew
                      go_roundg q
                      case measure => omega
                      case rel => exact ⟨k + 1, rfl, ⟨by have := HK.out; omega⟩, ⟨pw_below_drewN HBW.out nq⟩, ⟨take_eq' HK1.out (by have := E4.out; have := HK1.out; omega) HAB.out HT.out⟩⟩
                    · have e0 : decide (a = b) = false := decide_eq_false hab
                      have HN := Aside0.mk (show ¬ e = f from fun h => take_ne' (z := z82) (k := k) (xs := e.added) (ys := f.added) (by rw [← EA.out, ← EB.out]; exact hab) (by rw [h]))
                      clear hab
                      go_wp2_with fail
                      go_quiet (fail)
                      go_wp2_with fail
                      go_ret
                      exact ⟨ret_bool (by rw [HRR.out]; symm; exact decide_eq_false HN.out), pw_below_drewN HB2.out nq⟩
              | succ q =>
                have hk : k < e.gone.length := by have := HK.out; omega
                have HM := Aside0.mk (show e.gone.length ≤ 9223372036854775807 from H1.out.2.1)
                have d0 : decide ((k : Int) < (e.gone.length : Int)) = true := decide_eq_true (by omega)
                have d1 : decide (k < e.gone.length) = true := decide_eq_true hk
                have p0 : 0 ≤ (k : Int) := Int.natCast_nonneg _
                have p1 : (k : Int) < (e.gone.length : Int) := by omega
                have p2 : (k : Int) < (f.gone.length : Int) := by have := E3.out; omega
                have CX := Kd.C_below H1.out HB2.out
                have CY := Kd.C_below H3.out HB2.out
                obtain ⟨ad, ea, ha0, ha1⟩ := at_T84 CX (k : Int) p0 p1
                obtain ⟨bd, eb, hb0, hb1⟩ := at_T84 CY (k : Int) p0 p2
                rw [Int.toNat_natCast] at ha0 ha1 hb0 hb1
                clear CX CY
                have EA := Aside0.mk (show rd_T84 e.gone (k : Int) = e.gone.getD k z84 by unfold rd_T84; rw [Int.toNat_natCast])
                have EB := Aside0.mk (show rd_T84 f.gone (k : Int) = f.gone.getD k z84 by unfold rd_T84; rw [Int.toNat_natCast])
                generalize rd_T84 e.gone (k : Int) = a at *
                generalize rd_T84 f.gone (k : Int) = b at *
                rw [ea] at y3
                rw [eb] at z3
                have HK1 := Aside0.mk hk
                have ew : wrap64 ((k : Int) + 1) = ((k + 1 : Nat) : Int) := by have h1 := HM.out; unfold wrap64; omega
                clear ea eb hk
                by_cases hab : a = b
                · have e0 : decide (a = b) = true := decide_eq_true hab
                  have HAB := Aside0.mk (show e.gone.getD k z84 = f.gone.getD k z84 by rw [← EA.out, ← EB.out, hab])
                  clear hab
                  go_wp2_with fail
                  go_quiet (fail)
                  go_wp2_with fail
                  try rw [ew]
                  clear ew
                  go_roundg q
                  case measure => omega
                  case rel => exact ⟨k + 1, rfl, ⟨by have := HK.out; omega⟩, ⟨pw_below_drewN HBW.out nq⟩, ⟨take_eq' HK1.out (by have := E3.out; have := HK1.out; omega) HAB.out HT.out⟩⟩
                · have e0 : decide (a = b) = false := decide_eq_false hab
                  have HN := Aside0.mk (show ¬ e = f from fun h => take_ne' (z := z84) (k := k) (xs := e.gone) (ys := f.gone) (by rw [← EA.out, ← EB.out]; exact hab) (by rw [h]))
                  clear hab
                  go_wp2_with fail
                  go_quiet (fail)
                  go_wp2_with fail
                  go_ret
                  exact ⟨ret_bool (by rw [HRR.out]; symm; exact decide_eq_false HN.out), pw_below_drewN HB2.out nq⟩
          · have HN := Aside0.mk (show ¬ e = f from fun h => hx4 (by rw [h]))
            have t4 : ((e.added.length : Int) == (f.added.length : Int)) = false := by rw [beq_eq_false_iff_ne]; omega
            have v4 : ((e.added.length : Int) != (f.added.length : Int)) = true := by simp; omega
            have t4a : (e.added.length == f.added.length) = false := by rw [beq_eq_false_iff_ne]; exact hx4
            have v4a : (e.added.length != f.added.length) = true := by simp [hx4]
            clear hx4
            go_wp2_with fail
            go_ret
            exact ⟨ret_bool (by rw [HRR.out]; symm; exact decide_eq_false HN.out), HB.out⟩
        · have HN := Aside0.mk (show ¬ e = f from fun h => hx3 (by rw [h]))
          have t3 : ((e.gone.length : Int) == (f.gone.length : Int)) = false := by rw [beq_eq_false_iff_ne]; omega
          have v3 : ((e.gone.length : Int) != (f.gone.length : Int)) = true := by simp; omega
          have t3a : (e.gone.length == f.gone.length) = false := by rw [beq_eq_false_iff_ne]; exact hx3
          have v3a : (e.gone.length != f.gone.length) = true := by simp [hx3]
          clear hx3
          go_wp2_with fail
          go_ret
          exact ⟨ret_bool (by rw [HRR.out]; symm; exact decide_eq_false HN.out), HB.out⟩
      · have HN := Aside0.mk (show ¬ e = f from fun h => hx2 (by rw [h]))
        have t2 : (e.seq == f.seq) = false := beq_eq_false_iff_ne.mpr hx2
        have v2 : (e.seq != f.seq) = true := by simp [hx2]
        clear hx2
        go_wp2_with fail
        go_ret
        exact ⟨ret_bool (by rw [HRR.out]; symm; exact decide_eq_false HN.out), HB.out⟩
    · have HN := Aside0.mk (show ¬ e = f from fun h => hx1 (by rw [h]))
      have t1 : (e.next == f.next) = false := beq_eq_false_iff_ne.mpr hx1
      have v1 : (e.next != f.next) = true := by simp [hx1]
      clear hx1
      go_wp2_with fail
      go_ret
      exact ⟨ret_bool (by rw [HRR.out]; symm; exact decide_eq_false HN.out), HB.out⟩
  · have HN := Aside0.mk (show ¬ e = f from fun h => hx0 (by rw [h]))
    have t0 : (e.log == f.log) = false := beq_eq_false_iff_ne.mpr hx0
    have v0 : (e.log != f.log) = true := by simp [hx0]
    clear hx0
    go_wp2_with fail
    go_ret
    exact ⟨ret_bool (by rw [HRR.out]; symm; exact decide_eq_false HN.out), HB.out⟩
end Go.Proofs.Ytkjepfofiegcdaa.V
