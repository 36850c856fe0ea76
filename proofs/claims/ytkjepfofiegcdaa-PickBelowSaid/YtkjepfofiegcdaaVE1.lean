import Derived.Test.YtkjepfofiegcdaaVD3
import Derived.Test.YtkjepfofiegcdaaWEqStruct
/- Are two lists of tables the same (freshetref14.SameMetas), walked. Conditions: none. -/
namespace Go.Proofs.Ytkjepfofiegcdaa.V
set_option linter.unusedVariables false
set_option linter.unusedSimpArgs false
open Go.RowKit Go.Proofs.YtkjepfofiegcdaaW.PrintWords Go.Proofs.YtkjepfofiegcdaaW.PrintLast Go.Proofs.YtkjepfofiegcdaaW.PrintMore Go.Proofs.Ytkjepfofiegcdaa.PB14
theorem bytes_eq {a b : ByteArray} (h : a.toList = b.toList) : a = b := by
  rw [ByteArray.toList_eq, ByteArray.toList_eq] at h
  exact ByteArray.ext (Array.toList_inj.mp h)
theorem eqA58 (d : Nat) (w : World) (a b : S58) :
    (Op.equalIn (d + 2) 58 (.agg #[.int .u64 a.f0, .int .i64 a.f1, .int .i64 a.f2, .string a.f3, .string a.f4, .int .u64 a.f5, .int .u64 a.f6]) (.agg #[.int .u64 b.f0, .int .i64 b.f1, .int .i64 b.f2, .string b.f3, .string b.f4, .int .u64 b.f5, .int .u64 b.f6])).run Try.prog w = .ok (decide (a = b)) w := by
  have e : decide (a = b) = (a.f0 == b.f0 && (a.f1 == b.f1 && (a.f2 == b.f2 && (a.f3.toList == b.f3.toList && (a.f4.toList == b.f4.toList && (a.f5 == b.f5 && (a.f6 == b.f6))))))) := by
    rw [Bool.eq_iff_iff]
    simp only [decide_eq_true_eq, Bool.and_eq_true, beq_iff_eq]
    constructor
    · rintro rfl
      simp
    · rintro ⟨h0, h1, h2, h3, h4, h5, h6⟩
      have h3 := bytes_eq h3
      have h4 := bytes_eq h4
      cases a
      cases b
      simp_all
  rw [e]
  refine eqA_of Try.underlying58 (by kernel_rfl) ?_
  refine eqf_cons (by rfl) (by go_simp; rfl) (by go_simp; rfl) (by go_simp) ?_
  refine eqf_cons (by rfl) (by go_simp; rfl) (by go_simp; rfl) (by go_simp) ?_
  refine eqf_cons (by rfl) (by go_simp; rfl) (by go_simp; rfl) (by go_simp) ?_
  refine eqf_cons (by rfl) (by go_simp; rfl) (by go_simp; rfl) (by go_simp) ?_
  refine eqf_cons (by rfl) (by go_simp; rfl) (by go_simp; rfl) (by go_simp) ?_
  refine eqf_cons (by rfl) (by go_simp; rfl) (by go_simp; rfl) (by go_simp) ?_
  exact eqf_last (by rfl) (by go_simp; rfl) (by go_simp; rfl) (by go_simp)
attribute [local go_sem high] eqA58
theorem take_ne {xs ys : List S58} {k : Nat} (hx : k < xs.length) (hy : k < ys.length) (h : ¬ xs.getD k z58 = ys.getD k z58) : ¬ xs = ys := fun e => h (by rw [e])
theorem take_eq {xs ys : List S58} {k : Nat} (hx : k < xs.length) (hy : k < ys.length) (h : xs.getD k z58 = ys.getD k z58) (ht : xs.take k = ys.take k) : xs.take (k + 1) = ys.take (k + 1) := by rw [take_snoc xs z58 hx, take_snoc ys z58 hy, h, ht]
set_option maxHeartbeats 8000000 in
set_option maxRecDepth 100000 in
theorem sameM_calls (w : World) (A B : Option Addr) (c d : Nat) (xs ys : List S58) (hx : k58.C w A xs.length xs) (hy : k58.C w B ys.length ys) : Calls Try.prog 47 #[.slice A xs.length c, .slice B ys.length d] w fun e w' => e = .returned (.bool (decide (xs = ys))) ∧ Below w.heap.size w w' := by
  have HX := Aside0.mk hx
  have HY := Aside0.mk hy
  clear hx hy
  obtain ⟨r, hr⟩ : ∃ r, r = decide (xs = ys) := ⟨_, rfl⟩
  rw [← hr]
  have HRR := Aside0.mk hr
  clear hr
  by_cases hl : xs.length = ys.length
  · have l0 : ((xs.length : Int) != (ys.length : Int)) = false := by rw [hl]; simp
    have l1 : (xs.length != ys.length) = false := by rw [hl]; simp
    have l2 : ((xs.length : Int) == (ys.length : Int)) = true := by rw [hl]; simp
    have l3 : (xs.length == ys.length) = true := by rw [hl]; simp
    have HL := Aside0.mk hl
    clear hl
    go_enter Try.func47, Try.ntmps47
    go_wp2_with fail
    clear l0 l1 l2 l3
    go_loopg [5] xs.length (fun kq v5 w' => ∃ k : Nat, v5 = .int .i64 (k : Int) ∧ Aside0 (kq + k = xs.length) ∧ Aside0 (Below w.heap.size w w') ∧ Aside0 (xs.take k = ys.take k))
    case atStart => exact ⟨0, rfl, ⟨by omega⟩, ⟨Below.refl _ _⟩, ⟨rfl⟩⟩
    case round =>
      obtain ⟨k, rfl, HK, HB, HT⟩ := hrel
      cases gk with
      | zero =>
        have ek : k = xs.length := by have := HK.out; omega
        subst ek
        have d0 : decide ((xs.length : Int) < (xs.length : Int)) = false := by simp
        go_wp2_with fail
        go_ret
        refine ⟨ret_bool ?_, HB.out⟩
        have h1 := HT.out
        rw [List.take_length] at h1
        have h2 : xs = ys := h1.trans (List.take_of_length_le (by have := HL.out; omega))
        rw [HRR.out]
        symm
        exact decide_eq_true h2
      | succ q =>
        have hk : k < xs.length := by have := HK.out; omega
        have HM := Aside0.mk (show xs.length ≤ 9223372036854775807 from HX.out.2.1)
        have d0 : decide ((k : Int) < (xs.length : Int)) = true := decide_eq_true (by omega)
        have d1 : decide (k < xs.length) = true := decide_eq_true hk
        have p0 : 0 ≤ (k : Int) := Int.natCast_nonneg _
        have p1 : (k : Int) < (xs.length : Int) := by omega
        have p2 : (k : Int) < (ys.length : Int) := by have := HL.out; omega
        have CX := Kd.C_below HX.out HB.out
        have CY := Kd.C_below HY.out HB.out
        obtain ⟨ad, ea, ha0, ha1, ha2, ha3, ha4, ha5, ha6⟩ := at_T58 CX (k : Int) p0 p1
        obtain ⟨bd, eb, hb0, hb1, hb2, hb3, hb4, hb5, hb6⟩ := at_T58 CY (k : Int) p0 p2
        rw [Int.toNat_natCast] at ha0 ha1 ha2 ha3 ha4 ha5 ha6 hb0 hb1 hb2 hb3 hb4 hb5 hb6
        clear CX CY
        have EA := Aside0.mk (show rd_T58 xs (k : Int) = xs.getD k z58 by unfold rd_T58; rw [Int.toNat_natCast])
        have EB := Aside0.mk (show rd_T58 ys (k : Int) = ys.getD k z58 by unfold rd_T58; rw [Int.toNat_natCast])
        generalize rd_T58 xs (k : Int) = a at *
        generalize rd_T58 ys (k : Int) = b at *
        rw [ea, eb]
        have HAX := Aside0.mk ea
        have HBX := Aside0.mk eb
        have HK1 := Aside0.mk hk
        have ew : wrap64 ((k : Int) + 1) = ((k + 1 : Nat) : Int) := by have h1 := HM.out; unfold wrap64; omega
        clear ea eb hk
        by_cases hab : a = b
        · have e0 : decide (a = b) = true := decide_eq_true hab
          have HAB := Aside0.mk (show xs.getD k z58 = ys.getD k z58 by rw [← EA.out, ← EB.out, hab])
          clear hab
          go_wp2_with fail
          go_quiet (fail)
          go_wp2_with fail
          try rw [ew]
          rw [← HAX.out, ← HBX.out]
          go_roundg q
          case measure => omega
          case rel => exact ⟨k + 1, rfl, ⟨by have := HK.out; omega⟩, ⟨pw_below_drewN HB.out nq⟩, ⟨take_eq HK1.out (by have := HL.out; have := HK1.out; omega) HAB.out HT.out⟩⟩
        · have e0 : decide (a = b) = false := decide_eq_false hab
          have HAB := Aside0.mk (show ¬ xs = ys from take_ne HK1.out (by have := HL.out; have := HK1.out; omega) (by rw [← EA.out, ← EB.out]; exact hab))
          clear hab
          go_wp2_with fail
          go_quiet (fail)
          go_wp2_with fail
          go_ret
          exact ⟨ret_bool (by rw [HRR.out]; symm; exact decide_eq_false HAB.out), pw_below_drewN HB.out nq⟩
  · have l0 : ((xs.length : Int) != (ys.length : Int)) = true := by simp; omega
    have l1 : (xs.length != ys.length) = true := by simp [hl]
    have l2 : ((xs.length : Int) == (ys.length : Int)) = false := by simp; omega
    have l3 : (xs.length == ys.length) = false := by simp [hl]
    have HN := Aside0.mk (show ¬ xs = ys from fun e => hl (by rw [e]))
    clear hl
    go_enter Try.func47, Try.ntmps47
    go_wp2_with fail
    go_ret
    exact ⟨ret_bool (by rw [HRR.out]; symm; exact decide_eq_false HN.out), Below.refl _ _⟩
end Go.Proofs.Ytkjepfofiegcdaa.V
