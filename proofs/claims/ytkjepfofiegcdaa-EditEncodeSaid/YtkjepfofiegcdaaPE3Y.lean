-- printed by wip/mkprint.py, a program of this session, over the kit's print program: functions proved by hand are taken in
import Derived.Test.YtkjepfofiegcdaaPE0Y
import Derived.Test.YtkjepfofiegcdaaPE2
namespace Go.Proofs.Ytkjepfofiegcdaa.PB14
open Go.RowKit Go.Proofs.YtkjepfofiegcdaaW.PrintWords Go.Proofs.YtkjepfofiegcdaaW.PrintLast Go.Proofs.YtkjepfofiegcdaaW.PrintMore
attribute [local go_sem] max2_int min2_int max_two min_two max_three min_three max_four min_four   -- for this text's walks alone
set_option linter.unusedVariables false
set_option linter.unusedSimpArgs false

/-! ### freshetref14_Encode: function 58 -/
mutual
def freshetref14_Encode.j0 : Nat → Bool → Int → Int → Int → List (S84) → List (S82) → Option (ByteArray × Int)
  | 0, _, _, _, _, _, _ => none
  | k + 1, x20, x265000, x265001, x265002, x265003, x265004 => if x20 = true then (some ((⟨#[]⟩ : ByteArray), 3)) else ((freshetref02_PutUint.f k x265000).bind fun t266 => ((freshetref02_PutUint.f k x265001).bind fun t267 => (if t266.size + t267.size ≤ 9223372036854775807 then ((freshetref02_PutUint.f k x265002).bind fun t268 => (if (t266 ++ t267).size + t268.size ≤ 9223372036854775807 then ((freshetref02_PutUint.f k (IntKind.u64.wrap ((x265003.length : Int)))).bind fun t269 => (if ((t266 ++ t267) ++ t268).size + t269.size ≤ 9223372036854775807 then (freshetref14_Encode.l0 k (((t266 ++ t267) ++ t268) ++ t269) 0 x265000 x265001 x265002 x265003 x265004) else (none))) else (none))) else (none))))
def freshetref14_Encode.l0 : Nat → ByteArray → Int → Int → Int → Int → List (S84) → List (S82) → Option (ByteArray × Int)
  | 0, _, _, _, _, _, _, _ => none
  | k + 1, x4, x5, x265000, x265001, x265002, x265003, x265004 => if x5 < (x265003.length : Int) then (if 0 ≤ x5 then ((freshetref02_PutUint.f k (IntKind.u64.wrap ((rd_T84 x265003 x5).f0))).bind fun t271 => (if x4.size + t271.size ≤ 9223372036854775807 then ((freshetref02_PutUint.f k ((rd_T84 x265003 x5).f1)).bind fun t273 => (if (x4 ++ t271).size + t273.size ≤ 9223372036854775807 then (freshetref14_Encode.l0 k ((x4 ++ t271) ++ t273) (wrap64 (x5 + 1)) x265000 x265001 x265002 x265003 x265004) else (none))) else (none))) else (none)) else ((freshetref02_PutUint.f k (IntKind.u64.wrap ((x265004.length : Int)))).bind fun t274 => (if x4.size + t274.size ≤ 9223372036854775807 then (freshetref14_Encode.l1 k (x4 ++ t274) 0 x265000 x265001 x265002 x265003 x265004) else (none)))
def freshetref14_Encode.l1 : Nat → ByteArray → Int → Int → Int → Int → List (S84) → List (S82) → Option (ByteArray × Int)
  | 0, _, _, _, _, _, _, _ => none
  | k + 1, x4, x6, x265000, x265001, x265002, x265003, x265004 => if x6 < (x265004.length : Int) then (if 0 ≤ x6 then ((freshetref02_PutUint.f k (IntKind.u64.wrap ((rd_T82 x265004 x6).f0))).bind fun t278 => (if x4.size + t278.size ≤ 9223372036854775807 then ((freshetref02_PutUint.f k ((rd_T82 x265004 x6).f1.f0)).bind fun t279 => (if (x4 ++ t278).size + t279.size ≤ 9223372036854775807 then ((freshetref02_PutUint.f k (IntKind.u64.wrap ((rd_T82 x265004 x6).f1.f1))).bind fun t280 => (if ((x4 ++ t278) ++ t279).size + t280.size ≤ 9223372036854775807 then ((freshetref02_PutUint.f k (IntKind.u64.wrap ((rd_T82 x265004 x6).f1.f2))).bind fun t281 => (if (((x4 ++ t278) ++ t279) ++ t280).size + t281.size ≤ 9223372036854775807 then ((freshetref02_PutField.f k ((rd_T82 x265004 x6).f1.f3)).bind fun t282 => (if ((((x4 ++ t278) ++ t279) ++ t280) ++ t281).size + t282.size ≤ 9223372036854775807 then ((freshetref02_PutField.f k ((rd_T82 x265004 x6).f1.f4)).bind fun t283 => (if (((((x4 ++ t278) ++ t279) ++ t280) ++ t281) ++ t282).size + t283.size ≤ 9223372036854775807 then ((freshetref02_PutUint.f k ((rd_T82 x265004 x6).f1.f5)).bind fun t284 => (if ((((((x4 ++ t278) ++ t279) ++ t280) ++ t281) ++ t282) ++ t283).size + t284.size ≤ 9223372036854775807 then ((freshetref02_PutUint.f k ((rd_T82 x265004 x6).f1.f6)).bind fun t285 => (if (((((((x4 ++ t278) ++ t279) ++ t280) ++ t281) ++ t282) ++ t283) ++ t284).size + t285.size ≤ 9223372036854775807 then (freshetref14_Encode.l1 k ((((((((x4 ++ t278) ++ t279) ++ t280) ++ t281) ++ t282) ++ t283) ++ t284) ++ t285) (wrap64 (x6 + 1)) x265000 x265001 x265002 x265003 x265004) else (none))) else (none))) else (none))) else (none))) else (none))) else (none))) else (none))) else (none))) else (none)) else (some (x4, 0))
end
def freshetref14_Encode.f (k : Nat) (a0_0 : Int) (a0_1 : Int) (a0_2 : Int) (l0_3 : List (S84)) (l0_4 : List (S82)) : Option (ByteArray × Int) := (freshetref14_listed.f a0_0 a0_1 a0_2 l0_3 l0_4).bind fun t265 => (if t265 = true then (if (l0_3.length : Int) > 256 then (freshetref14_Encode.j0 k true a0_0 a0_1 a0_2 l0_3 l0_4) else (freshetref14_Encode.j0 k (decide ((l0_4.length : Int) > 256)) a0_0 a0_1 a0_2 l0_3 l0_4)) else (some ((⟨#[]⟩ : ByteArray), 2)))
theorem freshetref14_Encode.mono_l : ∀ k, (∀ y0 y1 y2 y3 y4 y5, LeO (freshetref14_Encode.j0 k y0 y1 y2 y3 y4 y5) (freshetref14_Encode.j0 (k + 1) y0 y1 y2 y3 y4 y5)) ∧ (∀ y0 y1 y2 y3 y4 y5 y6, LeO (freshetref14_Encode.l0 k y0 y1 y2 y3 y4 y5 y6) (freshetref14_Encode.l0 (k + 1) y0 y1 y2 y3 y4 y5 y6)) ∧ (∀ y0 y1 y2 y3 y4 y5 y6, LeO (freshetref14_Encode.l1 k y0 y1 y2 y3 y4 y5 y6) (freshetref14_Encode.l1 (k + 1) y0 y1 y2 y3 y4 y5 y6))
  | 0 => ⟨fun _ _ _ _ _ _ r h => by simp [freshetref14_Encode.j0] at h, fun _ _ _ _ _ _ _ r h => by simp [freshetref14_Encode.l0] at h, fun _ _ _ _ _ _ _ r h => by simp [freshetref14_Encode.l1] at h⟩
  | k + 1 => by
    obtain ⟨ih0, ih1, ih2⟩ := freshetref14_Encode.mono_l k
    refine ⟨?_, ?_, ?_⟩
    · intro y0 y1 y2 y3 y4 y5
      unfold freshetref14_Encode.j0
      repeat' first
      | (with_reducible exact ih0 _ _ _ _ _ _)
      | (with_reducible exact ih1 _ _ _ _ _ _ _)
      | (with_reducible exact ih2 _ _ _ _ _ _ _)
      | (with_reducible exact freshetref02_PutField.mono _ _)
      | (with_reducible exact freshetref02_PutUint.mono _ _)
      | (with_reducible exact LeO.refl _)
      | (with_reducible exact LeO.none _)
      | (with_reducible refine LeO.ite ?_ ?_)
      | (with_reducible refine LeO.bind ?_ (fun _ => ?_))
      | exact ih0 _ _ _ _ _ _
      | exact ih1 _ _ _ _ _ _ _
      | exact ih2 _ _ _ _ _ _ _
      | exact freshetref02_PutField.mono _ _
      | exact freshetref02_PutUint.mono _ _
      | exact LeO.none _
      | refine LeO.ite ?_ ?_
      | refine LeO.bind ?_ (fun _ => ?_)
    · intro y0 y1 y2 y3 y4 y5 y6
      unfold freshetref14_Encode.l0
      repeat' first
      | (with_reducible exact ih0 _ _ _ _ _ _)
      | (with_reducible exact ih1 _ _ _ _ _ _ _)
      | (with_reducible exact ih2 _ _ _ _ _ _ _)
      | (with_reducible exact freshetref02_PutField.mono _ _)
      | (with_reducible exact freshetref02_PutUint.mono _ _)
      | (with_reducible exact LeO.refl _)
      | (with_reducible exact LeO.none _)
      | (with_reducible refine LeO.ite ?_ ?_)
      | (with_reducible refine LeO.bind ?_ (fun _ => ?_))
      | exact ih0 _ _ _ _ _ _
      | exact ih1 _ _ _ _ _ _ _
      | exact ih2 _ _ _ _ _ _ _
      | exact freshetref02_PutField.mono _ _
      | exact freshetref02_PutUint.mono _ _
      | exact LeO.none _
      | refine LeO.ite ?_ ?_
      | refine LeO.bind ?_ (fun _ => ?_)
    · intro y0 y1 y2 y3 y4 y5 y6
      unfold freshetref14_Encode.l1
      repeat' first
      | (with_reducible exact ih0 _ _ _ _ _ _)
      | (with_reducible exact ih1 _ _ _ _ _ _ _)
      | (with_reducible exact ih2 _ _ _ _ _ _ _)
      | (with_reducible exact freshetref02_PutField.mono _ _)
      | (with_reducible exact freshetref02_PutUint.mono _ _)
      | (with_reducible exact LeO.refl _)
      | (with_reducible exact LeO.none _)
      | (with_reducible refine LeO.ite ?_ ?_)
      | (with_reducible refine LeO.bind ?_ (fun _ => ?_))
      | exact ih0 _ _ _ _ _ _
      | exact ih1 _ _ _ _ _ _ _
      | exact ih2 _ _ _ _ _ _ _
      | exact freshetref02_PutField.mono _ _
      | exact freshetref02_PutUint.mono _ _
      | exact LeO.none _
      | refine LeO.ite ?_ ?_
      | refine LeO.bind ?_ (fun _ => ?_)
theorem freshetref14_Encode.mono : ∀ a0 a1 a2 a3 a4 k, LeO (freshetref14_Encode.f k a0 a1 a2 a3 a4) (freshetref14_Encode.f (k + 1) a0 a1 a2 a3 a4) := by
  intro a0 a1 a2 a3 a4 k
  obtain ⟨ih0, ih1, ih2⟩ := freshetref14_Encode.mono_l k
  unfold freshetref14_Encode.f
  repeat' first
      | (with_reducible exact ih0 _ _ _ _ _ _)
      | (with_reducible exact ih1 _ _ _ _ _ _ _)
      | (with_reducible exact ih2 _ _ _ _ _ _ _)
      | (with_reducible exact freshetref02_PutField.mono _ _)
      | (with_reducible exact freshetref02_PutUint.mono _ _)
      | (with_reducible exact LeO.refl _)
      | (with_reducible exact LeO.none _)
      | (with_reducible refine LeO.ite ?_ ?_)
      | (with_reducible refine LeO.bind ?_ (fun _ => ?_))
      | exact ih0 _ _ _ _ _ _
      | exact ih1 _ _ _ _ _ _ _
      | exact ih2 _ _ _ _ _ _ _
      | exact freshetref02_PutField.mono _ _
      | exact freshetref02_PutUint.mono _ _
      | exact LeO.none _
      | refine LeO.ite ?_ ?_
      | refine LeO.bind ?_ (fun _ => ?_)
def freshetref14_Encode.T5 : Bool × List (List Nat × List Nat) := (true, [([], []), ([0], [0]), ([1], [1]), ([], []), ([3], [3]), ([4, 2], [4]), ([2, 5], [2, 5]), ([], []), ([7], [7]), ([8, 5], [8]), ([6, 9], [6, 9]), ([], []), ([11], [11]), ([12], [12]), ([13], [13]), ([14, 9], [14]), ([10, 15], [10, 15]), ([16, 15, 0, 1, 2, 3, 4, 5, 6, 7, 8, 9, 10, 11, 12, 13, 14, 15, 16], [16])])
def freshetref14_Encode.B5 : List Nat := [0, 1, 3, 0, 8, 31, 63, 0, 128, 447, 1023, 0, 2048, 6144, 14336, 31679, 65535, 131071]
theorem freshetref14_Encode.tab5 : rtab .any (opsOf Try.f58 5) = freshetref14_Encode.T5 := by kernel_rfl
theorem freshetref14_Encode.bits5 : waitsOk freshetref14_Encode.T5.2 freshetref14_Encode.B5 = true := by kernel_rfl
def freshetref14_Encode.T9 : Bool × List (List Nat × List Nat) := (true, [([], []), ([], []), ([1], [1]), ([], []), ([2, 3], [2, 3]), ([4], [4]), ([5], [5]), ([6], [6]), ([7], [7]), ([0, 8], [0, 8]), ([], []), ([10], [10]), ([], []), ([11, 12], [11, 12]), ([13], [13]), ([14], [14]), ([15, 8], [15]), ([9, 16], [9, 16]), ([17, 16, 0, 1, 2, 3, 4, 5, 6, 7, 8, 9, 10, 11, 12, 13, 14, 15, 16, 17], [0, 17])])
def freshetref14_Encode.B9 : List Nat := [0, 0, 2, 0, 14, 30, 62, 126, 254, 511, 0, 1024, 0, 7168, 15360, 31744, 65022, 131071, 262143]
theorem freshetref14_Encode.tab9 : rtab .any (opsOf Try.f58 9) = freshetref14_Encode.T9 := by kernel_rfl
theorem freshetref14_Encode.bits9 : waitsOk freshetref14_Encode.T9.2 freshetref14_Encode.B9 = true := by kernel_rfl
def freshetref14_Encode.T15 : Bool × List (List Nat × List Nat) := (true, [([], []), ([], []), ([1], [1]), ([], []), ([2, 3], [2, 3]), ([4], [4]), ([5], [5]), ([6], [6]), ([7], [7]), ([0, 8], [0, 8]), ([], []), ([10], [10]), ([11, 8], [11]), ([9, 12], [9, 12]), ([], []), ([14], [14]), ([15], [15]), ([16, 12], [16]), ([13, 17], [13, 17]), ([], []), ([19], [19]), ([20], [20]), ([21, 17], [21]), ([18, 22], [18, 22]), ([23, 22, 0, 1, 2, 3, 4, 5, 6, 7, 8, 9, 10, 11, 12, 13, 14, 15, 16, 17, 18, 19, 20, 21, 22, 23], [0, 23])])
def freshetref14_Encode.B15 : List Nat := [0, 0, 2, 0, 14, 30, 62, 126, 254, 511, 0, 1024, 3582, 8191, 0, 16384, 49152, 122366, 262143, 0, 524288, 1572864, 3923454, 8388607, 16777215]
theorem freshetref14_Encode.tab15 : rtab .any (opsOf Try.f58 15) = freshetref14_Encode.T15 := by kernel_rfl
theorem freshetref14_Encode.bits15 : waitsOk freshetref14_Encode.T15.2 freshetref14_Encode.B15 = true := by kernel_rfl
def freshetref14_Encode.T16 : Bool × List (List Nat × List Nat) := (true, [([], []), ([], []), ([1], [1]), ([2], [2]), ([0, 3], [0, 3]), ([], []), ([5], [5]), ([6, 3], [6]), ([4, 7], [4, 7]), ([], []), ([9], [9]), ([10, 7], [10]), ([8, 11], [8, 11]), ([], []), ([13], [13]), ([14, 11], [14]), ([12, 15], [12, 15]), ([16, 15, 0, 1, 2, 3, 4, 5, 6, 7, 8, 9, 10, 11, 12, 13, 14, 15, 16], [0, 16])])
def freshetref14_Encode.B16 : List Nat := [0, 0, 2, 6, 15, 0, 32, 110, 255, 0, 512, 1774, 4095, 0, 8192, 28398, 65535, 131071]
theorem freshetref14_Encode.tab16 : rtab .any (opsOf Try.f58 16) = freshetref14_Encode.T16 := by kernel_rfl
theorem freshetref14_Encode.bits16 : waitsOk freshetref14_Encode.T16.2 freshetref14_Encode.B16 = true := by kernel_rfl
set_option maxHeartbeats 8000000 in
set_option maxRecDepth 100000 in
theorem freshetref14_Encode.calls (k : Nat) (a0_0 : Int) (a0_1 : Int) (a0_2 : Int) (A0_3 : Option Addr) (c0_3 : Nat) (l0_3 : List (S84)) (A0_4 : Option Addr) (c0_4 : Nat) (l0_4 : List (S82)) (r1 : ByteArray) (r2 : Int) (w : World) (hr0_3 : Kd.C k84 w A0_3 l0_3.length l0_3) (hc0_3 : l0_3.length ≤ c0_3) (hr0_4 : Kd.C k82 w A0_4 l0_4.length l0_4) (hc0_4 : l0_4.length ≤ c0_4) (h : freshetref14_Encode.f k a0_0 a0_1 a0_2 l0_3 l0_4 = some (r1, r2)) :
    Calls Try.prog 58 #[.agg #[.int .u64 a0_0, .int .u64 a0_1, .int .u64 a0_2, .slice A0_3 l0_3.length c0_3, .slice A0_4 l0_4.length c0_4]] w fun e w' => e = .returned (.tuple #[.string r1, .int .i64 r2]) ∧ Below w.heap.size w w' := by
  have hu70 := Try.underlying70
  have hu58 := Try.underlying58
  have HR0_3 := Aside0.mk hr0_3
  have HC0_3 := Aside0.mk hc0_3
  clear hr0_3 hc0_3
  have HR0_4 := Aside0.mk hr0_4
  have HC0_4 := Aside0.mk hc0_4
  clear hr0_4 hc0_4
  have HB := Aside0.mk (Below.refl w.heap.size w)
  have H : ((freshetref14_listed.f a0_0 a0_1 a0_2 l0_3 l0_4).bind fun t265 => (if t265 = true then (if (l0_3.length : Int) > 256 then (freshetref14_Encode.j0 k true a0_0 a0_1 a0_2 l0_3 l0_4) else (freshetref14_Encode.j0 k (decide ((l0_4.length : Int) > 256)) a0_0 a0_1 a0_2 l0_3 l0_4)) else (some ((⟨#[]⟩ : ByteArray), 2)))) = some (r1, r2) := h
  clear h
  replace H := Option.bind_eq_some_iff.mp H
  obtain ⟨t265, A20, H⟩ := H
  replace H : (if t265 = true then (if (l0_3.length : Int) > 256 then (freshetref14_Encode.j0 k true a0_0 a0_1 a0_2 l0_3 l0_4) else (freshetref14_Encode.j0 k (decide ((l0_4.length : Int) > 256)) a0_0 a0_1 a0_2 l0_3 l0_4)) else (some ((⟨#[]⟩ : ByteArray), 2))) = some (r1, r2) := H
  have A2 := Aside0.mk A20
  clear A20
  by_cases c3 : t265 = true
  · subst c3
    have H1 : (if (l0_3.length : Int) > 256 then (freshetref14_Encode.j0 k true a0_0 a0_1 a0_2 l0_3 l0_4) else (freshetref14_Encode.j0 k (decide ((l0_4.length : Int) > 256)) a0_0 a0_1 a0_2 l0_3 l0_4)) = some (r1, r2) := by rw [if_pos rfl] at H; exact H
    clear H
    have H := H1
    clear H1
    have HC4 := Aside0.mk H
    clear H
    go_enter Try.func58, Try.ntmps58
    go_upto_region 3 with (first | ((with_reducible refine gate_dst (N := 1) rfl ?_); (try (refine gate_guard (by rfl) ?_; dsimp only)); refine box_event ?hg (N := 1) ?hd (cs := #[.int .u64 a0_0, .int .u64 a0_1, .int .u64 a0_2, .slice A0_3 l0_3.length c0_3, .slice A0_4 l0_4.length c0_4]) (t := 70) ?hr ?_; (case hd => rfl); (case hg => rfl); (case hr => first | (go_simp; done) | (go_simp; rfl)); intro gb264 hg w5 hbox hb; have n0_ := Aside0.mk (below_step (by repeat (first | (with_reducible first | exact HB.out | apply below_alloc | apply pw_below_drewN | apply below_drew1) | exact HB.out)) hb); have n1_ := Aside0.mk (hbox); have n2_ := Aside0.mk ((by rw [hg]; exact (below_size (by repeat (first | (with_reducible first | exact HB.out | apply below_alloc | apply pw_below_drewN | apply below_drew1) | exact HB.out))) : w.heap.size ≤ gb264)); have n3_ := Aside0.mk ((by rw [hg]; exact (below_size (by repeat (first | (with_reducible first | exact HB.out | apply below_alloc | apply pw_below_drewN | apply below_drew1) | exact HB.out))) : w.heap.size ≤ gb264)); clear HB; have HB := n0_; have BK264 := n1_; have GW264 := n2_; have GE264 := n3_; clear n0_ n1_ n2_ n3_; clear hb hbox hg; have hcz6_0 : w5.cell? ⟨gb264, 0, none⟩ = some (.int .u64 a0_0) := (blk_cell BK264.out 0).trans rfl; have hcz6_1 : w5.cell? ⟨gb264, 1, none⟩ = some (.int .u64 a0_1) := (blk_cell BK264.out 1).trans rfl; have hcz6_2 : w5.cell? ⟨gb264, 2, none⟩ = some (.int .u64 a0_2) := (blk_cell BK264.out 2).trans rfl; have hcz6_3 : w5.cell? ⟨gb264, 3, none⟩ = some (.slice A0_3 l0_3.length c0_3) := (blk_cell BK264.out 3).trans rfl; have hcz6_4 : w5.cell? ⟨gb264, 4, none⟩ = some (.slice A0_4 l0_4.length c0_4) := (blk_cell BK264.out 4).trans rfl; have hfz6_0 := blk_frozen BK264.out 0; have hfz6_1 := blk_frozen BK264.out 1; have hfz6_2 := blk_frozen BK264.out 2; have hfz6_3 := blk_frozen BK264.out 3; have hfz6_4 := blk_frozen BK264.out 4) | ((with_reducible refine gate_callee (f := 108) rfl ?_); refine goesL_ (some 9) rfl rfl Try.func108 (by kernel_rfl) rfl #[.agg #[.int .u64 a0_0, .int .u64 a0_1, .int .u64 a0_2, .slice A0_3 l0_3.length c0_3, .slice A0_4 l0_4.length c0_4]] rfl (by (try simp only [List.map_toArray, List.map_cons, List.map_nil]); first | done | rfl | (simp only [List.length_drop, List.length_take]; rfl)) ?_; (with_reducible refine (freshetref14_listed.calls a0_0 a0_1 a0_2 _ _ l0_3 _ _ l0_4 true _ ?side1 ?side2 ?side3 ?side4 A2.out).mono ?_); (case side1 => repeat (first | exact (Kd.C_below HR0_3.out HB.out) | (with_reducible refine Kd.C_alloc ?_ _) | (with_reducible refine Kd.C_drewN ?_ _) | (with_reducible refine Kd.C_drew ?_))); (case side2 => exact HC0_3.out); (case side3 => repeat (first | exact (Kd.C_below HR0_4.out HB.out) | (with_reducible refine Kd.C_alloc ?_ _) | (with_reducible refine Kd.C_drewN ?_ _) | (with_reducible refine Kd.C_drew ?_))); (case side4 => exact HC0_4.out); rintro e w7 ⟨rfl, hb⟩; refine ⟨_, rfl, ?_⟩; have n0_ := Aside0.mk (blk_below (g := gb264) (o := .cells #[.int .u64 a0_0, .int .u64 a0_1, .int .u64 a0_2, .slice A0_3 l0_3.length c0_3, .slice A0_4 l0_4.length c0_4] 70 (0, 0)) (by (with_reducible repeat (first | refine blk_drewN ?_ _ | refine blk_drew ?_ | refine blk_alloc ?_ _)); exact BK264.out) hb); have n1_ := Aside0.mk (below_step (by repeat (first | (with_reducible first | exact HB.out | apply below_alloc | apply pw_below_drewN | apply below_drew1 | refine below_set ?_ GE264.out) | exact HB.out)) hb); clear BK264; clear HB; have BK264 := n0_; have HB := n1_; clear n0_ n1_; (try clear hb); (try clear hb2); (try clear hk); (try clear hi)))
    (try simp only [Act.put, List.setIfInBounds_toArray, List.set_cons_zero, List.set_cons_succ])
    go_cut [20] (fun v20 wc => ∃ (kq : Nat) (x20_3 : Bool), v20 = .bool x20_3 ∧ Aside0 (freshetref14_Encode.j0 kq x20_3 a0_0 a0_1 a0_2 l0_3 l0_4 = some (r1, r2)) ∧ Aside0 (kq ≤ k) ∧ Aside0 (wc.heap[gb264]? = some (.cells #[.int .u64 a0_0, .int .u64 a0_1, .int .u64 a0_2, (.slice A0_3 l0_3.length c0_3), (.slice A0_4 l0_4.length c0_4)] 70 (0, 0))) ∧ Aside0 (Below w.heap.size w wc))
    case first =>
      have H := HC4.out
      clear HC4
      by_cases c8 : (l0_3.length : Int) > 256
      · rw [if_pos c8] at H
        have c8b0 : decide (256 < (l0_3.length : Int)) = true := decide_eq_true c8
        have c8b1 : decide (256 < l0_3.length) = true := decide_eq_true (by omega)
        clear c8
        (first | rw [c8b0] | (simp only [i64_w, i32_w]; rw [c8b0]) | skip)
        have H' := Aside0.mk H
        clear H
        have hcz9_0 : w7.cell? ⟨gb264, 0, none⟩ = some (.int .u64 a0_0) := (blk_cell BK264.out 0).trans rfl
        have hcz9_1 : w7.cell? ⟨gb264, 1, none⟩ = some (.int .u64 a0_1) := (blk_cell BK264.out 1).trans rfl
        have hcz9_2 : w7.cell? ⟨gb264, 2, none⟩ = some (.int .u64 a0_2) := (blk_cell BK264.out 2).trans rfl
        have hcz9_3 : w7.cell? ⟨gb264, 3, none⟩ = some (.slice A0_3 l0_3.length c0_3) := (blk_cell BK264.out 3).trans rfl
        have hcz9_4 : w7.cell? ⟨gb264, 4, none⟩ = some (.slice A0_4 l0_4.length c0_4) := (blk_cell BK264.out 4).trans rfl
        have hfz9_0 := blk_frozen BK264.out 0
        have hfz9_1 := blk_frozen BK264.out 1
        have hfz9_2 := blk_frozen BK264.out 2
        have hfz9_3 := blk_frozen BK264.out 3
        have hfz9_4 := blk_frozen BK264.out 4
        go_wp2
        go_meet
        case rel => exact ⟨_, (true), (by first | rfl | (simp; done) | (simp [*]; done) | (simp; exact H.isEmpty_bne _)), H', ⟨by first | omega | exact Nat.le_refl _⟩, ⟨by (with_reducible repeat (first | refine blk_drewN ?_ _ | refine blk_drew ?_ | refine blk_alloc ?_ _)); exact BK264.out⟩, ⟨by repeat (first | (with_reducible first | exact HB.out | apply below_alloc | apply pw_below_drewN | apply below_drew1 | refine below_set ?_ GE264.out) | exact HB.out)⟩⟩
      · rw [if_neg c8] at H
        have c8b0 : decide (256 < (l0_3.length : Int)) = false := decide_eq_false c8
        have c8b1 : decide (256 < l0_3.length) = false := decide_eq_false (by omega)
        clear c8
        (first | rw [c8b0] | (simp only [i64_w, i32_w]; rw [c8b0]) | skip)
        have H' := Aside0.mk H
        clear H
        have hcz10_0 : w7.cell? ⟨gb264, 0, none⟩ = some (.int .u64 a0_0) := (blk_cell BK264.out 0).trans rfl
        have hcz10_1 : w7.cell? ⟨gb264, 1, none⟩ = some (.int .u64 a0_1) := (blk_cell BK264.out 1).trans rfl
        have hcz10_2 : w7.cell? ⟨gb264, 2, none⟩ = some (.int .u64 a0_2) := (blk_cell BK264.out 2).trans rfl
        have hcz10_3 : w7.cell? ⟨gb264, 3, none⟩ = some (.slice A0_3 l0_3.length c0_3) := (blk_cell BK264.out 3).trans rfl
        have hcz10_4 : w7.cell? ⟨gb264, 4, none⟩ = some (.slice A0_4 l0_4.length c0_4) := (blk_cell BK264.out 4).trans rfl
        have hfz10_0 := blk_frozen BK264.out 0
        have hfz10_1 := blk_frozen BK264.out 1
        have hfz10_2 := blk_frozen BK264.out 2
        have hfz10_3 := blk_frozen BK264.out 3
        have hfz10_4 := blk_frozen BK264.out 4
        go_wp2
        go_meet
        case rel => exact ⟨_, (decide ((l0_4.length : Int) > 256)), (by first | rfl | (simp; done) | (simp [*]; done) | (simp; exact H.isEmpty_bne _)), H', ⟨by first | omega | exact Nat.le_refl _⟩, ⟨by (with_reducible repeat (first | refine blk_drewN ?_ _ | refine blk_drew ?_ | refine blk_alloc ?_ _)); exact BK264.out⟩, ⟨by repeat (first | (with_reducible first | exact HB.out | apply below_alloc | apply pw_below_drewN | apply below_drew1 | refine below_set ?_ GE264.out) | exact HB.out)⟩⟩
    case rest =>
      clear HC4
      try clear c1
      try clear p2
      try clear c3
      try clear c5
      try clear c8
      try clear c8b0
      try clear c8b1
      try clear c10
      try clear hcz10_0
      try clear hcz10_1
      try clear hcz10_2
      try clear hcz10_3
      try clear hcz10_4
      try clear hcz6_0
      try clear hcz6_1
      try clear hcz6_2
      try clear hcz6_3
      try clear hcz6_4
      try clear hcz9_0
      try clear hcz9_1
      try clear hcz9_2
      try clear hcz9_3
      try clear hcz9_4
      try clear hfz10_0
      try clear hfz10_1
      try clear hfz10_2
      try clear hfz10_3
      try clear hfz10_4
      try clear hfz6_0
      try clear hfz6_1
      try clear hfz6_2
      try clear hfz6_3
      try clear hfz6_4
      try clear hfz9_0
      try clear hfz9_1
      try clear hfz9_2
      try clear hfz9_3
      try clear hfz9_4
      obtain ⟨kq, x20_3, rfl, HA, HJ3, BK264, HB⟩ := hcut
      cases kq with
      | zero => exact absurd HA.out (by simp [freshetref14_Encode.j0])
      | succ kj3 =>
        have H := HA.out
        clear HA
        simp only [freshetref14_Encode.j0] at H
        by_cases c11 : x20_3 = true
        · subst c11
          have H1 : (some ((⟨#[]⟩ : ByteArray), 3)) = some (r1, r2) := by rw [if_pos rfl] at H; exact H
          clear H
          have H := H1
          clear H1
          simp only [Option.some.injEq, Prod.mk.injEq] at H
          obtain ⟨rfl, rfl⟩ := H
          go_wp2
          go_ret2
          exact ⟨by first | rfl | (simp [errW_none, errW_some] <;> rfl) | (simp [*, errW_none, errW_some] <;> rfl), by repeat (first | (with_reducible first | exact HB.out | apply below_alloc | apply pw_below_drewN | apply below_drew1 | refine below_set ?_ GE264.out) | exact HB.out)⟩
        · replace c11 := Bool.eq_false_iff.mpr c11
          subst c11
          have H1 : ((freshetref02_PutUint.f kj3 a0_0).bind fun t266 => ((freshetref02_PutUint.f kj3 a0_1).bind fun t267 => (if t266.size + t267.size ≤ 9223372036854775807 then ((freshetref02_PutUint.f kj3 a0_2).bind fun t268 => (if (t266 ++ t267).size + t268.size ≤ 9223372036854775807 then ((freshetref02_PutUint.f kj3 (IntKind.u64.wrap ((l0_3.length : Int)))).bind fun t269 => (if ((t266 ++ t267) ++ t268).size + t269.size ≤ 9223372036854775807 then (freshetref14_Encode.l0 kj3 (((t266 ++ t267) ++ t268) ++ t269) 0 a0_0 a0_1 a0_2 l0_3 l0_4) else (none))) else (none))) else (none)))) = some (r1, r2) := by rw [if_neg (show ¬ (false = true) by decide)] at H; exact H
          clear H
          have H := H1
          clear H1
          replace H := Option.bind_eq_some_iff.mp H
          obtain ⟨t266, A120, H⟩ := H
          replace H : ((freshetref02_PutUint.f kj3 a0_1).bind fun t267 => (if t266.size + t267.size ≤ 9223372036854775807 then ((freshetref02_PutUint.f kj3 a0_2).bind fun t268 => (if (t266 ++ t267).size + t268.size ≤ 9223372036854775807 then ((freshetref02_PutUint.f kj3 (IntKind.u64.wrap ((l0_3.length : Int)))).bind fun t269 => (if ((t266 ++ t267) ++ t268).size + t269.size ≤ 9223372036854775807 then (freshetref14_Encode.l0 kj3 (((t266 ++ t267) ++ t268) ++ t269) 0 a0_0 a0_1 a0_2 l0_3 l0_4) else (none))) else (none))) else (none))) = some (r1, r2) := H
          have A12 := Aside0.mk A120
          clear A120
          replace H := Option.bind_eq_some_iff.mp H
          obtain ⟨t267, A130, H⟩ := H
          replace H : (if t266.size + t267.size ≤ 9223372036854775807 then ((freshetref02_PutUint.f kj3 a0_2).bind fun t268 => (if (t266 ++ t267).size + t268.size ≤ 9223372036854775807 then ((freshetref02_PutUint.f kj3 (IntKind.u64.wrap ((l0_3.length : Int)))).bind fun t269 => (if ((t266 ++ t267) ++ t268).size + t269.size ≤ 9223372036854775807 then (freshetref14_Encode.l0 kj3 (((t266 ++ t267) ++ t268) ++ t269) 0 a0_0 a0_1 a0_2 l0_3 l0_4) else (none))) else (none))) else (none)) = some (r1, r2) := H
          have A13 := Aside0.mk A130
          clear A130
          by_cases c14 : t266.size + t267.size ≤ 9223372036854775807
          · rw [if_pos c14] at H
            have c14b0 := eq_true c14
            have c14b1 : decide (t266.size + t267.size ≤ 9223372036854775807) = true := decide_eq_true c14
            try have c14b2 : (9223372036854775807 < t266.size + t267.size) = False := eq_false (Nat.not_lt.2 c14)
            try (have c14b3 := c14; simp only [ByteArray.size_append] at c14b3; have c14b4 := eq_false (Nat.not_lt.2 c14b3))
            replace H := Option.bind_eq_some_iff.mp H
            obtain ⟨t268, A150, H⟩ := H
            replace H : (if (t266 ++ t267).size + t268.size ≤ 9223372036854775807 then ((freshetref02_PutUint.f kj3 (IntKind.u64.wrap ((l0_3.length : Int)))).bind fun t269 => (if ((t266 ++ t267) ++ t268).size + t269.size ≤ 9223372036854775807 then (freshetref14_Encode.l0 kj3 (((t266 ++ t267) ++ t268) ++ t269) 0 a0_0 a0_1 a0_2 l0_3 l0_4) else (none))) else (none)) = some (r1, r2) := H
            have A15 := Aside0.mk A150
            clear A150
            by_cases c16 : (t266 ++ t267).size + t268.size ≤ 9223372036854775807
            · rw [if_pos c16] at H
              have c16b0 := eq_true c16
              have c16b1 : decide ((t266 ++ t267).size + t268.size ≤ 9223372036854775807) = true := decide_eq_true c16
              try have c16b2 : (9223372036854775807 < (t266 ++ t267).size + t268.size) = False := eq_false (Nat.not_lt.2 c16)
              try (have c16b3 := c16; simp only [ByteArray.size_append] at c16b3; have c16b4 := eq_false (Nat.not_lt.2 c16b3))
              replace H := Option.bind_eq_some_iff.mp H
              obtain ⟨t269, A170, H⟩ := H
              replace H : (if ((t266 ++ t267) ++ t268).size + t269.size ≤ 9223372036854775807 then (freshetref14_Encode.l0 kj3 (((t266 ++ t267) ++ t268) ++ t269) 0 a0_0 a0_1 a0_2 l0_3 l0_4) else (none)) = some (r1, r2) := H
              have A17 := Aside0.mk A170
              clear A170
              by_cases c18 : ((t266 ++ t267) ++ t268).size + t269.size ≤ 9223372036854775807
              · rw [if_pos c18] at H
                have c18b0 := eq_true c18
                have c18b1 : decide (((t266 ++ t267) ++ t268).size + t269.size ≤ 9223372036854775807) = true := decide_eq_true c18
                try have c18b2 : (9223372036854775807 < ((t266 ++ t267) ++ t268).size + t269.size) = False := eq_false (Nat.not_lt.2 c18)
                try (have c18b3 := c18; simp only [ByteArray.size_append] at c18b3; have c18b4 := eq_false (Nat.not_lt.2 c18b3))
                have H' := Aside0.mk H
                clear H
                try go_wp2
                have n0_ := Aside0.mk (blk_drew BK264.out)
                have n1_ := Aside0.mk (below_drew1 HB.out)
                clear BK264
                clear HB
                have BK264 := n0_
                have HB := n1_
                clear n0_ n1_
                refine start_ (n := 18) (S := fun w' => w'.cell? ⟨gb264, 0, none⟩ = some (.int .u64 a0_0) ∧ w'.cell? ⟨gb264, 1, none⟩ = some (.int .u64 a0_1) ∧ w'.cell? ⟨gb264, 2, none⟩ = some (.int .u64 a0_2) ∧ w'.cell? ⟨gb264, 3, none⟩ = some (.slice A0_3 l0_3.length c0_3) ∧ w'.cell? ⟨gb264, 4, none⟩ = some (.slice A0_4 l0_4.length c0_4)) (ds := []) #[false, false, false, false, false, false, false, false, false, false, false, false, false, false, false, false, false, false] (by kernel_rfl) rfl rfl ⟨(blk_cell BK264.out 0).trans rfl, (blk_cell BK264.out 1).trans rfl, (blk_cell BK264.out 2).trans rfl, (blk_cell BK264.out 3).trans rfl, (blk_cell BK264.out 4).trans rfl⟩ (fun hHeld => ?_); refine with_tabW freshetref14_Encode.tab5 freshetref14_Encode.bits5 (fun HT_ HW_ => ?_)
                generalize wc.drew = w19 at BK264 HB hHeld ⊢
                refine pure_ (i := 0) (N := some 21) (v := ?_) (a' := ?_) #[true, false, false, false, false, false, false, false, false, false, false, false, false, false, false, false, false, false] rfl rfl (any_of HT_.out (by kernel_rfl)) (fun _ _ _ h => h) (Or.inl ⟨by rfl, ?_⟩) ?_ ?_
                rotate_left
                · intro w'
                  go_simp
                  with_reducible rfl
                rotate_left
                · simp only [Act.put, List.setIfInBounds_toArray, List.set_cons_zero, List.set_cons_succ, i64_w, i32_w]
                  rfl
                refine pure_ (i := 3) (N := some 24) (v := ?_) (a' := ?_) #[true, false, false, true, false, false, false, false, false, false, false, false, false, false, false, false, false, false] rfl rfl (any_of HT_.out (by kernel_rfl)) (fun _ _ _ h => h) (Or.inl ⟨by rfl, ?_⟩) ?_ ?_
                rotate_left
                · intro w'
                  go_simp
                  with_reducible rfl
                rotate_left
                · simp only [Act.put, List.setIfInBounds_toArray, List.set_cons_zero, List.set_cons_succ, i64_w, i32_w]
                  rfl
                refine pure_ (i := 7) (N := some 28) (v := ?_) (a' := ?_) #[true, false, false, true, false, false, false, true, false, false, false, false, false, false, false, false, false, false] rfl rfl (any_of HT_.out (by kernel_rfl)) (fun _ _ _ h => h) (Or.inl ⟨by rfl, ?_⟩) ?_ ?_
                rotate_left
                · intro w'
                  go_simp
                  with_reducible rfl
                rotate_left
                · simp only [Act.put, List.setIfInBounds_toArray, List.set_cons_zero, List.set_cons_succ, i64_w, i32_w]
                  rfl
                refine pure_ (i := 11) (N := some 32) (v := ?_) (a' := ?_) #[true, false, false, true, false, false, false, true, false, false, false, true, false, false, false, false, false, false] rfl rfl (any_of HT_.out (by kernel_rfl)) (fun _ _ _ h => h) (Or.inl ⟨by rfl, ?_⟩) ?_ ?_
                rotate_left
                · intro w'
                  go_simp
                  with_reducible rfl
                rotate_left
                · simp only [Act.put, List.setIfInBounds_toArray, List.set_cons_zero, List.set_cons_succ, i64_w, i32_w]
                  rfl
                refine take_ (i := 1) (N := some 22) (v := ?_) (a' := ?_) #[true, true, false, true, false, false, false, true, false, false, false, true, false, false, false, false, false, false] rfl rfl (take_ofW HT_.out HW_.out (by kernel_rfl)) (fun _ _ _ h => h) (Or.inl ⟨by rfl, ?_⟩) hHeld ?_ ?_
                rotate_left
                · rintro w' ⟨s0, s1, s2, s3, s4⟩
                  go_simp
                  with_reducible rfl
                rotate_left
                · simp only [Act.put, List.setIfInBounds_toArray, List.set_cons_zero, List.set_cons_succ, i64_w, i32_w]
                  rfl
                refine take_ (i := 4) (N := some 25) (v := ?_) (a' := ?_) #[true, true, false, true, true, false, false, true, false, false, false, true, false, false, false, false, false, false] rfl rfl (take_ofW HT_.out HW_.out (by kernel_rfl)) (fun _ _ _ h => h) (Or.inl ⟨by rfl, ?_⟩) hHeld ?_ ?_
                rotate_left
                · rintro w' ⟨s0, s1, s2, s3, s4⟩
                  go_simp
                  with_reducible rfl
                rotate_left
                · simp only [Act.put, List.setIfInBounds_toArray, List.set_cons_zero, List.set_cons_succ, i64_w, i32_w]
                  rfl
                refine take_ (i := 8) (N := some 29) (v := ?_) (a' := ?_) #[true, true, false, true, true, false, false, true, true, false, false, true, false, false, false, false, false, false] rfl rfl (take_ofW HT_.out HW_.out (by kernel_rfl)) (fun _ _ _ h => h) (Or.inl ⟨by rfl, ?_⟩) hHeld ?_ ?_
                rotate_left
                · rintro w' ⟨s0, s1, s2, s3, s4⟩
                  go_simp
                  with_reducible rfl
                rotate_left
                · simp only [Act.put, List.setIfInBounds_toArray, List.set_cons_zero, List.set_cons_succ, i64_w, i32_w]
                  rfl
                refine take_ (i := 12) (N := some 33) (v := ?_) (a' := ?_) #[true, true, false, true, true, false, false, true, true, false, false, true, true, false, false, false, false, false] rfl rfl (take_ofW HT_.out HW_.out (by kernel_rfl)) (fun _ _ _ h => h) (Or.inl ⟨by rfl, ?_⟩) hHeld ?_ ?_
                rotate_left
                · rintro w' ⟨s0, s1, s2, s3, s4⟩
                  go_simp
                  with_reducible rfl
                rotate_left
                · simp only [Act.put, List.setIfInBounds_toArray, List.set_cons_zero, List.set_cons_succ, i64_w, i32_w]
                  rfl
                refine pure_ (i := 13) (N := some 34) (v := ?_) (a' := ?_) #[true, true, false, true, true, false, false, true, true, false, false, true, true, true, false, false, false, false] rfl rfl (any_of HT_.out (by kernel_rfl)) (fun _ _ _ h => h) (Or.inl ⟨by rfl, ?_⟩) ?_ ?_
                rotate_left
                · intro w'
                  go_simp
                  with_reducible rfl
                rotate_left
                · simp only [Act.put, List.setIfInBounds_toArray, List.set_cons_zero, List.set_cons_succ, i64_w, i32_w]
                  rfl
                refine pure_ (i := 14) (N := some 35) (v := ?_) (a' := ?_) #[true, true, false, true, true, false, false, true, true, false, false, true, true, true, true, false, false, false] rfl rfl (any_of HT_.out (by kernel_rfl)) (fun _ _ _ h => h) (Or.inl ⟨by rfl, ?_⟩) ?_ ?_
                rotate_left
                · intro w'
                  go_simp
                  with_reducible rfl
                rotate_left
                · simp only [Act.put, List.setIfInBounds_toArray, List.set_cons_zero, List.set_cons_succ, i64_w, i32_w]
                  rfl
                refine one_ (i := 2) (N := some 23) #[true, true, true, true, true, false, false, true, true, false, false, true, true, true, true, false, false, false] rfl rfl (one_of HT_.out (by kernel_rfl)) (by decide) (fun K hK => ?_)
                refine goes_ Try.func114 (by kernel_rfl) rfl #[.int .u64 a0_0] (by rfl) rfl rfl (by (try simp only [List.map_toArray, List.map_cons, List.map_nil]); first | done | rfl | (simp only [List.length_drop, List.length_take]; rfl)) ?_
                with_reducible refine (freshetref02_PutUint.calls kj3 a0_0 t266 _ A12.out).mono ?_
                rintro e w20 ⟨rfl, hb⟩
                refine ⟨_, rfl, ?_⟩
                have n0_ := Aside0.mk (blk_below (g := gb264) (o := .cells #[.int .u64 a0_0, .int .u64 a0_1, .int .u64 a0_2, .slice A0_3 l0_3.length c0_3, .slice A0_4 l0_4.length c0_4] 70 (0, 0)) (by (with_reducible repeat (first | refine blk_drewN ?_ _ | refine blk_drew ?_ | refine blk_alloc ?_ _)); exact BK264.out) hb)
                have n1_ := Aside0.mk (below_step (by repeat (first | (with_reducible first | exact HB.out | apply below_alloc | apply pw_below_drewN | apply below_drew1 | refine below_set ?_ GE264.out) | exact HB.out)) hb)
                clear BK264
                clear HB
                have BK264 := n0_
                have HB := n1_
                clear n0_ n1_
                (try clear hb)
                (try clear hb2)
                (try clear hk)
                (try clear hi)
                refine hK.out _ _ ⟨(blk_cell BK264.out 0).trans rfl, (blk_cell BK264.out 1).trans rfl, (blk_cell BK264.out 2).trans rfl, (blk_cell BK264.out 3).trans rfl, (blk_cell BK264.out 4).trans rfl⟩ (fun hHeld => ?_)
                clear hK K
                refine norm_ (a' := ?_) ?_ ?_
                rotate_left
                · show Act.put _ (some 23) _ = _
                  simp only [Act.put, List.setIfInBounds_toArray, List.set_cons_zero, List.set_cons_succ, i64_w, i32_w]
                  rfl
                refine one_ (i := 5) (N := some 26) #[true, true, true, true, true, true, false, true, true, false, false, true, true, true, true, false, false, false] rfl rfl (one_of HT_.out (by kernel_rfl)) (by decide) (fun K hK => ?_)
                refine goes_ Try.func114 (by kernel_rfl) rfl #[.int .u64 a0_1] (by rfl) rfl rfl (by (try simp only [List.map_toArray, List.map_cons, List.map_nil]); first | done | rfl | (simp only [List.length_drop, List.length_take]; rfl)) ?_
                with_reducible refine (freshetref02_PutUint.calls kj3 a0_1 t267 _ A13.out).mono ?_
                rintro e w21 ⟨rfl, hb⟩
                refine ⟨_, rfl, ?_⟩
                have n0_ := Aside0.mk (blk_below (g := gb264) (o := .cells #[.int .u64 a0_0, .int .u64 a0_1, .int .u64 a0_2, .slice A0_3 l0_3.length c0_3, .slice A0_4 l0_4.length c0_4] 70 (0, 0)) (by (with_reducible repeat (first | refine blk_drewN ?_ _ | refine blk_drew ?_ | refine blk_alloc ?_ _)); exact BK264.out) hb)
                have n1_ := Aside0.mk (below_step (by repeat (first | (with_reducible first | exact HB.out | apply below_alloc | apply pw_below_drewN | apply below_drew1 | refine below_set ?_ GE264.out) | exact HB.out)) hb)
                clear BK264
                clear HB
                have BK264 := n0_
                have HB := n1_
                clear n0_ n1_
                (try clear hb)
                (try clear hb2)
                (try clear hk)
                (try clear hi)
                refine hK.out _ _ ⟨(blk_cell BK264.out 0).trans rfl, (blk_cell BK264.out 1).trans rfl, (blk_cell BK264.out 2).trans rfl, (blk_cell BK264.out 3).trans rfl, (blk_cell BK264.out 4).trans rfl⟩ (fun hHeld => ?_)
                clear hK K
                refine norm_ (a' := ?_) ?_ ?_
                rotate_left
                · show Act.put _ (some 26) _ = _
                  simp only [Act.put, List.setIfInBounds_toArray, List.set_cons_zero, List.set_cons_succ, i64_w, i32_w]
                  rfl
                refine pure_ (i := 6) (N := some 27) (v := ?_) (a' := ?_) #[true, true, true, true, true, true, true, true, true, false, false, true, true, true, true, false, false, false] rfl rfl (any_of HT_.out (by kernel_rfl)) (fun _ _ _ h => h) (Or.inl ⟨by rfl, ?_⟩) ?_ ?_
                rotate_left
                · intro w'
                  go_simp
                  with_reducible rfl
                rotate_left
                · simp only [Act.put, List.setIfInBounds_toArray, List.set_cons_zero, List.set_cons_succ, i64_w, i32_w]
                  rfl
                refine one_ (i := 9) (N := some 30) #[true, true, true, true, true, true, true, true, true, true, false, true, true, true, true, false, false, false] rfl rfl (one_of HT_.out (by kernel_rfl)) (by decide) (fun K hK => ?_)
                refine goes_ Try.func114 (by kernel_rfl) rfl #[.int .u64 a0_2] (by rfl) rfl rfl (by (try simp only [List.map_toArray, List.map_cons, List.map_nil]); first | done | rfl | (simp only [List.length_drop, List.length_take]; rfl)) ?_
                with_reducible refine (freshetref02_PutUint.calls kj3 a0_2 t268 _ A15.out).mono ?_
                rintro e w22 ⟨rfl, hb⟩
                refine ⟨_, rfl, ?_⟩
                have n0_ := Aside0.mk (blk_below (g := gb264) (o := .cells #[.int .u64 a0_0, .int .u64 a0_1, .int .u64 a0_2, .slice A0_3 l0_3.length c0_3, .slice A0_4 l0_4.length c0_4] 70 (0, 0)) (by (with_reducible repeat (first | refine blk_drewN ?_ _ | refine blk_drew ?_ | refine blk_alloc ?_ _)); exact BK264.out) hb)
                have n1_ := Aside0.mk (below_step (by repeat (first | (with_reducible first | exact HB.out | apply below_alloc | apply pw_below_drewN | apply below_drew1 | refine below_set ?_ GE264.out) | exact HB.out)) hb)
                clear BK264
                clear HB
                have BK264 := n0_
                have HB := n1_
                clear n0_ n1_
                (try clear hb)
                (try clear hb2)
                (try clear hk)
                (try clear hi)
                refine hK.out _ _ ⟨(blk_cell BK264.out 0).trans rfl, (blk_cell BK264.out 1).trans rfl, (blk_cell BK264.out 2).trans rfl, (blk_cell BK264.out 3).trans rfl, (blk_cell BK264.out 4).trans rfl⟩ (fun hHeld => ?_)
                clear hK K
                refine norm_ (a' := ?_) ?_ ?_
                rotate_left
                · show Act.put _ (some 30) _ = _
                  simp only [Act.put, List.setIfInBounds_toArray, List.set_cons_zero, List.set_cons_succ, i64_w, i32_w]
                  rfl
                refine pure_ (i := 10) (N := some 31) (v := ?_) (a' := ?_) #[true, true, true, true, true, true, true, true, true, true, true, true, true, true, true, false, false, false] rfl rfl (any_of HT_.out (by kernel_rfl)) (fun _ _ _ h => h) (Or.inl ⟨by rfl, ?_⟩) ?_ ?_
                rotate_left
                · intro w'
                  go_simp
                  with_reducible rfl
                rotate_left
                · simp only [Act.put, List.setIfInBounds_toArray, List.set_cons_zero, List.set_cons_succ, i64_w, i32_w]
                  rfl
                refine one_ (i := 15) (N := some 36) #[true, true, true, true, true, true, true, true, true, true, true, true, true, true, true, true, false, false] rfl rfl (one_of HT_.out (by kernel_rfl)) (by decide) (fun K hK => ?_)
                refine goes_ Try.func114 (by kernel_rfl) rfl #[.int .u64 (IntKind.u64.wrap ((l0_3.length : Int)))] (by rfl) rfl rfl (by (try simp only [List.map_toArray, List.map_cons, List.map_nil]); first | done | rfl | (simp only [List.length_drop, List.length_take]; rfl)) ?_
                with_reducible refine (freshetref02_PutUint.calls kj3 (IntKind.u64.wrap ((l0_3.length : Int))) t269 _ A17.out).mono ?_
                rintro e w23 ⟨rfl, hb⟩
                refine ⟨_, rfl, ?_⟩
                have n0_ := Aside0.mk (blk_below (g := gb264) (o := .cells #[.int .u64 a0_0, .int .u64 a0_1, .int .u64 a0_2, .slice A0_3 l0_3.length c0_3, .slice A0_4 l0_4.length c0_4] 70 (0, 0)) (by (with_reducible repeat (first | refine blk_drewN ?_ _ | refine blk_drew ?_ | refine blk_alloc ?_ _)); exact BK264.out) hb)
                have n1_ := Aside0.mk (below_step (by repeat (first | (with_reducible first | exact HB.out | apply below_alloc | apply pw_below_drewN | apply below_drew1 | refine below_set ?_ GE264.out) | exact HB.out)) hb)
                clear BK264
                clear HB
                have BK264 := n0_
                have HB := n1_
                clear n0_ n1_
                (try clear hb)
                (try clear hb2)
                (try clear hk)
                (try clear hi)
                refine hK.out _ _ ⟨(blk_cell BK264.out 0).trans rfl, (blk_cell BK264.out 1).trans rfl, (blk_cell BK264.out 2).trans rfl, (blk_cell BK264.out 3).trans rfl, (blk_cell BK264.out 4).trans rfl⟩ (fun hHeld => ?_)
                clear hK K
                refine norm_ (a' := ?_) ?_ ?_
                rotate_left
                · show Act.put _ (some 36) _ = _
                  simp only [Act.put, List.setIfInBounds_toArray, List.set_cons_zero, List.set_cons_succ, i64_w, i32_w]
                  rfl
                refine pure_ (i := 16) (N := some 37) (v := ?_) (a' := ?_) #[true, true, true, true, true, true, true, true, true, true, true, true, true, true, true, true, true, false] rfl rfl (any_of HT_.out (by kernel_rfl)) (fun _ _ _ h => h) (Or.inl ⟨by rfl, ?_⟩) ?_ ?_
                rotate_left
                · intro w'
                  go_simp
                  with_reducible rfl
                rotate_left
                · simp only [Act.put, List.setIfInBounds_toArray, List.set_cons_zero, List.set_cons_succ, i64_w, i32_w]
                  rfl
                refine pure_ (i := 17) (N := some 4) (v := ?_) (a' := ?_) #[true, true, true, true, true, true, true, true, true, true, true, true, true, true, true, true, true, true] rfl rfl (any_of HT_.out (by kernel_rfl)) (fun _ _ _ h => h) (Or.inl ⟨by rfl, ?_⟩) ?_ ?_
                rotate_left
                · intro w'
                  go_simp
                  with_reducible rfl
                rotate_left
                · simp only [Act.put, List.setIfInBounds_toArray, List.set_cons_zero, List.set_cons_succ, i64_w, i32_w]
                  rfl
                refine done_ (done_of HT_.out (by kernel_rfl)) ?_
                try go_wp2
                go_loopg [4, 5] kj3 (fun kq v4 v5 w' => ∃ (x4_2 : ByteArray) (x5_2 : Int), v4 = .string x4_2 ∧ v5 = .int .i64 x5_2 ∧ Aside0 (freshetref14_Encode.l0 kq x4_2 x5_2 a0_0 a0_1 a0_2 l0_3 l0_4 = some (r1, r2)) ∧ Aside0 (kq ≤ kj3) ∧ Aside0 (w'.heap[gb264]? = some (.cells #[.int .u64 a0_0, .int .u64 a0_1, .int .u64 a0_2, (.slice A0_3 l0_3.length c0_3), (.slice A0_4 l0_4.length c0_4)] 70 (0, 0))) ∧ Aside0 (Below w.heap.size w w'))
                case atStart => exact ⟨(((t266 ++ t267) ++ t268) ++ t269), (0), (by first | rfl | (simp; done) | (simp [*]; done) | (simp; exact H.isEmpty_bne _)), (by first | rfl | (simp; done) | (simp [*]; done) | (simp; exact H.isEmpty_bne _)), H', ⟨Nat.le_refl _⟩, ⟨by (with_reducible repeat (first | refine blk_drewN ?_ _ | refine blk_drew ?_ | refine blk_alloc ?_ _)); exact BK264.out⟩, ⟨by repeat (first | (with_reducible first | exact HB.out | apply below_alloc | apply pw_below_drewN | apply below_drew1 | refine below_set ?_ GE264.out) | exact HB.out)⟩⟩
                case round =>
                  clear H'
                  try clear c1
                  try clear p2
                  try clear c3
                  try clear c5
                  try clear c8
                  try clear c8b0
                  try clear c8b1
                  try clear c10
                  try clear c11
                  try clear c14
                  try clear c14b0
                  try clear c14b1
                  try clear c14b2
                  try clear c16
                  try clear c16b0
                  try clear c16b1
                  try clear c16b2
                  try clear c18
                  try clear c18b0
                  try clear c18b1
                  try clear c18b2
                  try clear hcz10_0
                  try clear hcz10_1
                  try clear hcz10_2
                  try clear hcz10_3
                  try clear hcz10_4
                  try clear hcz6_0
                  try clear hcz6_1
                  try clear hcz6_2
                  try clear hcz6_3
                  try clear hcz6_4
                  try clear hcz9_0
                  try clear hcz9_1
                  try clear hcz9_2
                  try clear hcz9_3
                  try clear hcz9_4
                  try clear hfz10_0
                  try clear hfz10_1
                  try clear hfz10_2
                  try clear hfz10_3
                  try clear hfz10_4
                  try clear hfz6_0
                  try clear hfz6_1
                  try clear hfz6_2
                  try clear hfz6_3
                  try clear hfz6_4
                  try clear hfz9_0
                  try clear hfz9_1
                  try clear hfz9_2
                  try clear hfz9_3
                  try clear hfz9_4
                  try clear p2
                  obtain ⟨x4_2, x5_2, rfl, rfl, HA, HK2, BK264, HB⟩ := hrel
                  cases gk with
                  | zero => exact absurd HA.out (by simp [freshetref14_Encode.l0])
                  | succ k2 =>
                    have H := HA.out
                    clear HA
                    simp only [freshetref14_Encode.l0] at H
                    by_cases c24 : x5_2 < (l0_3.length : Int)
                    · rw [if_pos c24] at H
                      have c24b0 : decide (x5_2 < (l0_3.length : Int)) = true := decide_eq_true c24
                      clear c24
                      by_cases c25 : 0 ≤ x5_2
                      · rw [if_pos c25] at H
                        have c25b0 : decide (0 ≤ x5_2) = true := decide_eq_true c25
                        clear c25
                        replace H := Option.bind_eq_some_iff.mp H
                        obtain ⟨t271, A260, H⟩ := H
                        replace H : (if x4_2.size + t271.size ≤ 9223372036854775807 then ((freshetref02_PutUint.f k2 ((rd_T84 l0_3 x5_2).f1)).bind fun t273 => (if (x4_2 ++ t271).size + t273.size ≤ 9223372036854775807 then (freshetref14_Encode.l0 k2 ((x4_2 ++ t271) ++ t273) (wrap64 (x5_2 + 1)) a0_0 a0_1 a0_2 l0_3 l0_4) else (none))) else (none)) = some (r1, r2) := H
                        have A26 := Aside0.mk A260
                        clear A260
                        by_cases c27 : x4_2.size + t271.size ≤ 9223372036854775807
                        · rw [if_pos c27] at H
                          have c27b0 := eq_true c27
                          have c27b1 : decide (x4_2.size + t271.size ≤ 9223372036854775807) = true := decide_eq_true c27
                          try have c27b2 : (9223372036854775807 < x4_2.size + t271.size) = False := eq_false (Nat.not_lt.2 c27)
                          try (have c27b3 := c27; simp only [ByteArray.size_append] at c27b3; have c27b4 := eq_false (Nat.not_lt.2 c27b3))
                          replace H := Option.bind_eq_some_iff.mp H
                          obtain ⟨t273, A280, H⟩ := H
                          replace H : (if (x4_2 ++ t271).size + t273.size ≤ 9223372036854775807 then (freshetref14_Encode.l0 k2 ((x4_2 ++ t271) ++ t273) (wrap64 (x5_2 + 1)) a0_0 a0_1 a0_2 l0_3 l0_4) else (none)) = some (r1, r2) := H
                          have A28 := Aside0.mk A280
                          clear A280
                          by_cases c29 : (x4_2 ++ t271).size + t273.size ≤ 9223372036854775807
                          · rw [if_pos c29] at H
                            have c29b0 := eq_true c29
                            have c29b1 : decide ((x4_2 ++ t271).size + t273.size ≤ 9223372036854775807) = true := decide_eq_true c29
                            try have c29b2 : (9223372036854775807 < (x4_2 ++ t271).size + t273.size) = False := eq_false (Nat.not_lt.2 c29)
                            try (have c29b3 := c29; simp only [ByteArray.size_append] at c29b3; have c29b4 := eq_false (Nat.not_lt.2 c29b3))
                            have H' := Aside0.mk H
                            clear H
                            have hcz30_0 : wr.cell? ⟨gb264, 0, none⟩ = some (.int .u64 a0_0) := (blk_cell BK264.out 0).trans rfl
                            have hcz30_1 : wr.cell? ⟨gb264, 1, none⟩ = some (.int .u64 a0_1) := (blk_cell BK264.out 1).trans rfl
                            have hcz30_2 : wr.cell? ⟨gb264, 2, none⟩ = some (.int .u64 a0_2) := (blk_cell BK264.out 2).trans rfl
                            have hcz30_3 : wr.cell? ⟨gb264, 3, none⟩ = some (.slice A0_3 l0_3.length c0_3) := (blk_cell BK264.out 3).trans rfl
                            have hcz30_4 : wr.cell? ⟨gb264, 4, none⟩ = some (.slice A0_4 l0_4.length c0_4) := (blk_cell BK264.out 4).trans rfl
                            have hfz30_0 := blk_frozen BK264.out 0
                            have hfz30_1 := blk_frozen BK264.out 1
                            have hfz30_2 := blk_frozen BK264.out 2
                            have hfz30_3 := blk_frozen BK264.out 3
                            have hfz30_4 := blk_frozen BK264.out 4
                            try go_wp2
                            have n0_ := Aside0.mk (blk_drew BK264.out)
                            have n1_ := Aside0.mk (below_drew1 HB.out)
                            clear BK264
                            clear HB
                            have BK264 := n0_
                            have HB := n1_
                            clear n0_ n1_
                            have p270 : 0 ≤ (x5_2 : Int) := of_decide_eq_true (by first | (with_reducible assumption) | assumption)
                            have q270 : x5_2 < (l0_3.length : Int) := of_decide_eq_true (by first | (with_reducible assumption) | assumption)
                            obtain ⟨ad270, e270, hx270_0, hx270_1⟩ := at_T84 HR0_3.out x5_2 p270 q270
                            have hw270_1 := hx270_1
                            have hw270_0 := hx270_0
                            cases e270
                            replace hx270_0 := (HB.out.cell (World.block_lt_of_cell? w _ hx270_0)).trans hx270_0
                            replace hx270_1 := (HB.out.cell (World.block_lt_of_cell? w _ hx270_1)).trans hx270_1
                            replace p270 := eq_true p270
                            replace q270 := eq_true q270
                            have p272 : 0 ≤ (x5_2 : Int) := of_decide_eq_true (by first | (with_reducible assumption) | assumption)
                            have q272 : x5_2 < (l0_3.length : Int) := of_decide_eq_true (by first | (with_reducible assumption) | assumption)
                            obtain ⟨ad272, e272, hx272_0, hx272_1⟩ := at_T84 HR0_3.out x5_2 p272 q272
                            have hw272_1 := hx272_1
                            have hw272_0 := hx272_0
                            obtain rfl : ad270 = ad272 := (by injection e272)
                            replace hx272_0 := (HB.out.cell (World.block_lt_of_cell? w _ hx272_0)).trans hx272_0
                            replace hx272_1 := (HB.out.cell (World.block_lt_of_cell? w _ hx272_1)).trans hx272_1
                            replace p272 := eq_true p272
                            replace q272 := eq_true q272
                            refine start_ (n := 19) (S := fun w' => w'.cell? ⟨gb264, 0, none⟩ = some (.int .u64 a0_0) ∧ w'.cell? ⟨gb264, 1, none⟩ = some (.int .u64 a0_1) ∧ w'.cell? ⟨gb264, 2, none⟩ = some (.int .u64 a0_2) ∧ w'.cell? ⟨gb264, 3, none⟩ = some (.slice (some ad270) l0_3.length c0_3) ∧ w'.cell? ⟨gb264, 4, none⟩ = some (.slice A0_4 l0_4.length c0_4) ∧ w'.cell? (ad270.add ((x5_2).toNat * 2)) = some (.int .i64 ((rd_T84 l0_3 x5_2).f0)) ∧ w'.cell? ⟨(ad270.add ((x5_2).toNat * 2)).block, (ad270.add ((x5_2).toNat * 2)).off + 1, none⟩ = some (.int .u64 ((rd_T84 l0_3 x5_2).f1)) ∧ w'.cell? (ad270.add ((x5_2).toNat * 2)) = some (.int .i64 ((rd_T84 l0_3 x5_2).f0)) ∧ w'.cell? ⟨(ad270.add ((x5_2).toNat * 2)).block, (ad270.add ((x5_2).toNat * 2)).off + 1, none⟩ = some (.int .u64 ((rd_T84 l0_3 x5_2).f1))) (ds := []) #[false, false, false, false, false, false, false, false, false, false, false, false, false, false, false, false, false, false, false] (by kernel_rfl) rfl rfl ⟨(blk_cell BK264.out 0).trans rfl, (blk_cell BK264.out 1).trans rfl, (blk_cell BK264.out 2).trans rfl, (blk_cell BK264.out 3).trans rfl, (blk_cell BK264.out 4).trans rfl, ((HB.out.cell (World.block_lt_of_cell? w _ hw270_0)).trans hw270_0), ((HB.out.cell (World.block_lt_of_cell? w _ hw270_1)).trans hw270_1), ((HB.out.cell (World.block_lt_of_cell? w _ hw272_0)).trans hw272_0), ((HB.out.cell (World.block_lt_of_cell? w _ hw272_1)).trans hw272_1)⟩ (fun hHeld => ?_); refine with_tabW freshetref14_Encode.tab9 freshetref14_Encode.bits9 (fun HT_ HW_ => ?_)
                            generalize wr.drew = w31 at BK264 HB hx270_0 hx270_1 hx272_0 hx272_1 hHeld ⊢
                            refine pure_ (i := 0) (N := some 45) (v := ?_) (a' := ?_) #[true, false, false, false, false, false, false, false, false, false, false, false, false, false, false, false, false, false, false] rfl rfl (any_of HT_.out (by kernel_rfl)) (fun _ _ _ h => h) (Or.inl ⟨by rfl, ?_⟩) ?_ ?_
                            rotate_left
                            · intro w'
                              go_simp
                              with_reducible rfl
                            rotate_left
                            · simp only [Act.put, List.setIfInBounds_toArray, List.set_cons_zero, List.set_cons_succ, i64_w, i32_w]
                              rfl
                            refine pure_ (i := 1) (N := some 46) (v := ?_) (a' := ?_) #[true, true, false, false, false, false, false, false, false, false, false, false, false, false, false, false, false, false, false] rfl rfl (any_of HT_.out (by kernel_rfl)) (fun _ _ _ h => h) (Or.inl ⟨by rfl, ?_⟩) ?_ ?_
                            rotate_left
                            · intro w'
                              go_simp
                              with_reducible rfl
                            rotate_left
                            · simp only [Act.put, List.setIfInBounds_toArray, List.set_cons_zero, List.set_cons_succ, i64_w, i32_w]
                              rfl
                            refine pure_ (i := 3) (N := some 48) (v := ?_) (a' := ?_) #[true, true, false, true, false, false, false, false, false, false, false, false, false, false, false, false, false, false, false] rfl rfl (any_of HT_.out (by kernel_rfl)) (fun _ _ _ h => h) (Or.inl ⟨by rfl, ?_⟩) ?_ ?_
                            rotate_left
                            · intro w'
                              go_simp
                              with_reducible rfl
                            rotate_left
                            · simp only [Act.put, List.setIfInBounds_toArray, List.set_cons_zero, List.set_cons_succ, i64_w, i32_w]
                              rfl
                            refine pure_ (i := 10) (N := some 55) (v := ?_) (a' := ?_) #[true, true, false, true, false, false, false, false, false, false, true, false, false, false, false, false, false, false, false] rfl rfl (any_of HT_.out (by kernel_rfl)) (fun _ _ _ h => h) (Or.inl ⟨by rfl, ?_⟩) ?_ ?_
                            rotate_left
                            · intro w'
                              go_simp
                              with_reducible rfl
                            rotate_left
                            · simp only [Act.put, List.setIfInBounds_toArray, List.set_cons_zero, List.set_cons_succ, i64_w, i32_w]
                              rfl
                            refine pure_ (i := 12) (N := some 57) (v := ?_) (a' := ?_) #[true, true, false, true, false, false, false, false, false, false, true, false, true, false, false, false, false, false, false] rfl rfl (any_of HT_.out (by kernel_rfl)) (fun _ _ _ h => h) (Or.inl ⟨by rfl, ?_⟩) ?_ ?_
                            rotate_left
                            · intro w'
                              go_simp
                              with_reducible rfl
                            rotate_left
                            · simp only [Act.put, List.setIfInBounds_toArray, List.set_cons_zero, List.set_cons_succ, i64_w, i32_w]
                              rfl
                            refine take_ (i := 2) (N := some 47) (v := ?_) (a' := ?_) #[true, true, true, true, false, false, false, false, false, false, true, false, true, false, false, false, false, false, false] rfl rfl (take_ofW HT_.out HW_.out (by kernel_rfl)) (fun _ _ _ h => h) (Or.inl ⟨by rfl, ?_⟩) hHeld ?_ ?_
                            rotate_left
                            · rintro w' ⟨s0, s1, s2, s3, s4, s5, s6, s7, s8⟩
                              go_simp
                              with_reducible rfl
                            rotate_left
                            · simp only [Act.put, List.setIfInBounds_toArray, List.set_cons_zero, List.set_cons_succ, i64_w, i32_w]
                              rfl
                            refine pure_ (i := 4) (N := some 49) (v := ?_) (a' := ?_) #[true, true, true, true, true, false, false, false, false, false, true, false, true, false, false, false, false, false, false] rfl rfl (any_of HT_.out (by kernel_rfl)) (fun _ _ _ h => h) (Or.inl ⟨by rfl, ?_⟩) ?_ ?_
                            rotate_left
                            · intro w'
                              go_simp
                              with_reducible rfl
                            rotate_left
                            · simp only [Act.put, List.setIfInBounds_toArray, List.set_cons_zero, List.set_cons_succ, i64_w, i32_w]
                              rfl
                            refine pure_ (i := 5) (N := some 50) (v := ?_) (a' := ?_) #[true, true, true, true, true, true, false, false, false, false, true, false, true, false, false, false, false, false, false] rfl rfl (any_of HT_.out (by kernel_rfl)) (fun _ _ _ h => h) (Or.inl ⟨by rfl, ?_⟩) ?_ ?_
                            rotate_left
                            · intro w'
                              go_simp
                              with_reducible rfl
                            rotate_left
                            · simp only [Act.put, List.setIfInBounds_toArray, List.set_cons_zero, List.set_cons_succ, i64_w, i32_w]
                              rfl
                            refine take_ (i := 6) (N := some 51) (v := ?_) (a' := ?_) #[true, true, true, true, true, true, true, false, false, false, true, false, true, false, false, false, false, false, false] rfl rfl (take_ofW HT_.out HW_.out (by kernel_rfl)) (fun _ _ _ h => h) (Or.inl ⟨by rfl, ?_⟩) hHeld ?_ ?_
                            rotate_left
                            · rintro w' ⟨s0, s1, s2, s3, s4, s5, s6, s7, s8⟩
                              go_simp
                              with_reducible rfl
                            rotate_left
                            · simp only [Act.put, List.setIfInBounds_toArray, List.set_cons_zero, List.set_cons_succ, i64_w, i32_w]
                              rfl
                            refine pure_ (i := 7) (N := some 52) (v := ?_) (a' := ?_) #[true, true, true, true, true, true, true, true, false, false, true, false, true, false, false, false, false, false, false] rfl rfl (any_of HT_.out (by kernel_rfl)) (fun _ _ _ h => h) (Or.inl ⟨by rfl, ?_⟩) ?_ ?_
                            rotate_left
                            · intro w'
                              go_simp
                              with_reducible rfl
                            rotate_left
                            · simp only [Act.put, List.setIfInBounds_toArray, List.set_cons_zero, List.set_cons_succ, i64_w, i32_w]
                              rfl
                            refine take_ (i := 11) (N := some 56) (v := ?_) (a' := ?_) #[true, true, true, true, true, true, true, true, false, false, true, true, true, false, false, false, false, false, false] rfl rfl (take_ofW HT_.out HW_.out (by kernel_rfl)) (fun _ _ _ h => h) (Or.inl ⟨by rfl, ?_⟩) hHeld ?_ ?_
                            rotate_left
                            · rintro w' ⟨s0, s1, s2, s3, s4, s5, s6, s7, s8⟩
                              go_simp
                              with_reducible rfl
                            rotate_left
                            · simp only [Act.put, List.setIfInBounds_toArray, List.set_cons_zero, List.set_cons_succ, i64_w, i32_w]
                              rfl
                            refine pure_ (i := 13) (N := some 58) (v := ?_) (a' := ?_) #[true, true, true, true, true, true, true, true, false, false, true, true, true, true, false, false, false, false, false] rfl rfl (any_of HT_.out (by kernel_rfl)) (fun _ _ _ h => h) (Or.inl ⟨by rfl, ?_⟩) ?_ ?_
                            rotate_left
                            · intro w'
                              go_simp
                              with_reducible rfl
                            rotate_left
                            · simp only [Act.put, List.setIfInBounds_toArray, List.set_cons_zero, List.set_cons_succ, i64_w, i32_w]
                              rfl
                            refine pure_ (i := 14) (N := some 59) (v := ?_) (a' := ?_) #[true, true, true, true, true, true, true, true, false, false, true, true, true, true, true, false, false, false, false] rfl rfl (any_of HT_.out (by kernel_rfl)) (fun _ _ _ h => h) (Or.inl ⟨by rfl, ?_⟩) ?_ ?_
                            rotate_left
                            · intro w'
                              go_simp
                              with_reducible rfl
                            rotate_left
                            · simp only [Act.put, List.setIfInBounds_toArray, List.set_cons_zero, List.set_cons_succ, i64_w, i32_w]
                              rfl
                            refine take_ (i := 15) (N := some 60) (v := ?_) (a' := ?_) #[true, true, true, true, true, true, true, true, false, false, true, true, true, true, true, true, false, false, false] rfl rfl (take_ofW HT_.out HW_.out (by kernel_rfl)) (fun _ _ _ h => h) (Or.inl ⟨by rfl, ?_⟩) hHeld ?_ ?_
                            rotate_left
                            · rintro w' ⟨s0, s1, s2, s3, s4, s5, s6, s7, s8⟩
                              go_simp
                              with_reducible rfl
                            rotate_left
                            · simp only [Act.put, List.setIfInBounds_toArray, List.set_cons_zero, List.set_cons_succ, i64_w, i32_w]
                              rfl
                            refine one_ (i := 8) (N := some 53) #[true, true, true, true, true, true, true, true, true, false, true, true, true, true, true, true, false, false, false] rfl rfl (one_of HT_.out (by kernel_rfl)) (by decide) (fun K hK => ?_)
                            refine goes_ Try.func114 (by kernel_rfl) rfl #[.int .u64 (IntKind.u64.wrap ((rd_T84 l0_3 x5_2).f0))] (by rfl) rfl rfl (by (try simp only [List.map_toArray, List.map_cons, List.map_nil]); first | done | rfl | (simp only [List.length_drop, List.length_take]; rfl)) ?_
                            with_reducible refine (freshetref02_PutUint.calls k2 (IntKind.u64.wrap ((rd_T84 l0_3 x5_2).f0)) t271 _ A26.out).mono ?_
                            rintro e w32 ⟨rfl, hb⟩
                            refine ⟨_, rfl, ?_⟩
                            have n0_ := Aside0.mk (blk_below (g := gb264) (o := .cells #[.int .u64 a0_0, .int .u64 a0_1, .int .u64 a0_2, .slice (some ad270) l0_3.length c0_3, .slice A0_4 l0_4.length c0_4] 70 (0, 0)) (by (with_reducible repeat (first | refine blk_drewN ?_ _ | refine blk_drew ?_ | refine blk_alloc ?_ _)); exact BK264.out) hb)
                            have n1_ := Aside0.mk (below_step (by repeat (first | (with_reducible first | exact HB.out | apply below_alloc | apply pw_below_drewN | apply below_drew1 | refine below_set ?_ GE264.out) | exact HB.out)) hb)
                            clear BK264
                            clear HB
                            have BK264 := n0_
                            have HB := n1_
                            clear n0_ n1_
                            (try clear hb)
                            (try clear hb2)
                            (try clear hk)
                            (try clear hi)
                            refine hK.out _ _ ⟨(blk_cell BK264.out 0).trans rfl, (blk_cell BK264.out 1).trans rfl, (blk_cell BK264.out 2).trans rfl, (blk_cell BK264.out 3).trans rfl, (blk_cell BK264.out 4).trans rfl, ((HB.out.cell (World.block_lt_of_cell? w _ hw270_0)).trans hw270_0), ((HB.out.cell (World.block_lt_of_cell? w _ hw270_1)).trans hw270_1), ((HB.out.cell (World.block_lt_of_cell? w _ hw272_0)).trans hw272_0), ((HB.out.cell (World.block_lt_of_cell? w _ hw272_1)).trans hw272_1)⟩ (fun hHeld => ?_)
                            clear hK K
                            refine norm_ (a' := ?_) ?_ ?_
                            rotate_left
                            · show Act.put _ (some 53) _ = _
                              simp only [Act.put, List.setIfInBounds_toArray, List.set_cons_zero, List.set_cons_succ, i64_w, i32_w]
                              rfl
                            refine pure_ (i := 9) (N := some 54) (v := ?_) (a' := ?_) #[true, true, true, true, true, true, true, true, true, true, true, true, true, true, true, true, false, false, false] rfl rfl (any_of HT_.out (by kernel_rfl)) (fun _ _ _ h => h) (Or.inl ⟨by rfl, ?_⟩) ?_ ?_
                            rotate_left
                            · intro w'
                              go_simp
                              with_reducible rfl
                            rotate_left
                            · simp only [Act.put, List.setIfInBounds_toArray, List.set_cons_zero, List.set_cons_succ, i64_w, i32_w]
                              rfl
                            refine one_ (i := 16) (N := some 61) #[true, true, true, true, true, true, true, true, true, true, true, true, true, true, true, true, true, false, false] rfl rfl (one_of HT_.out (by kernel_rfl)) (by decide) (fun K hK => ?_)
                            refine goes_ Try.func114 (by kernel_rfl) rfl #[.int .u64 ((rd_T84 l0_3 x5_2).f1)] (by rfl) rfl rfl (by (try simp only [List.map_toArray, List.map_cons, List.map_nil]); first | done | rfl | (simp only [List.length_drop, List.length_take]; rfl)) ?_
                            with_reducible refine (freshetref02_PutUint.calls k2 ((rd_T84 l0_3 x5_2).f1) t273 _ A28.out).mono ?_
                            rintro e w33 ⟨rfl, hb⟩
                            refine ⟨_, rfl, ?_⟩
                            have n0_ := Aside0.mk (blk_below (g := gb264) (o := .cells #[.int .u64 a0_0, .int .u64 a0_1, .int .u64 a0_2, .slice (some ad270) l0_3.length c0_3, .slice A0_4 l0_4.length c0_4] 70 (0, 0)) (by (with_reducible repeat (first | refine blk_drewN ?_ _ | refine blk_drew ?_ | refine blk_alloc ?_ _)); exact BK264.out) hb)
                            have n1_ := Aside0.mk (below_step (by repeat (first | (with_reducible first | exact HB.out | apply below_alloc | apply pw_below_drewN | apply below_drew1 | refine below_set ?_ GE264.out) | exact HB.out)) hb)
                            clear BK264
                            clear HB
                            have BK264 := n0_
                            have HB := n1_
                            clear n0_ n1_
                            (try clear hb)
                            (try clear hb2)
                            (try clear hk)
                            (try clear hi)
                            refine hK.out _ _ ⟨(blk_cell BK264.out 0).trans rfl, (blk_cell BK264.out 1).trans rfl, (blk_cell BK264.out 2).trans rfl, (blk_cell BK264.out 3).trans rfl, (blk_cell BK264.out 4).trans rfl, ((HB.out.cell (World.block_lt_of_cell? w _ hw270_0)).trans hw270_0), ((HB.out.cell (World.block_lt_of_cell? w _ hw270_1)).trans hw270_1), ((HB.out.cell (World.block_lt_of_cell? w _ hw272_0)).trans hw272_0), ((HB.out.cell (World.block_lt_of_cell? w _ hw272_1)).trans hw272_1)⟩ (fun hHeld => ?_)
                            clear hK K
                            refine norm_ (a' := ?_) ?_ ?_
                            rotate_left
                            · show Act.put _ (some 61) _ = _
                              simp only [Act.put, List.setIfInBounds_toArray, List.set_cons_zero, List.set_cons_succ, i64_w, i32_w]
                              rfl
                            refine pure_ (i := 17) (N := some 62) (v := ?_) (a' := ?_) #[true, true, true, true, true, true, true, true, true, true, true, true, true, true, true, true, true, true, false] rfl rfl (any_of HT_.out (by kernel_rfl)) (fun _ _ _ h => h) (Or.inl ⟨by rfl, ?_⟩) ?_ ?_
                            rotate_left
                            · intro w'
                              go_simp
                              with_reducible rfl
                            rotate_left
                            · simp only [Act.put, List.setIfInBounds_toArray, List.set_cons_zero, List.set_cons_succ, i64_w, i32_w]
                              rfl
                            refine pure_ (i := 18) (N := some 4) (v := ?_) (a' := ?_) #[true, true, true, true, true, true, true, true, true, true, true, true, true, true, true, true, true, true, true] rfl rfl (any_of HT_.out (by kernel_rfl)) (fun _ _ _ h => h) (Or.inl ⟨by rfl, ?_⟩) ?_ ?_
                            rotate_left
                            · intro w'
                              go_simp
                              with_reducible rfl
                            rotate_left
                            · simp only [Act.put, List.setIfInBounds_toArray, List.set_cons_zero, List.set_cons_succ, i64_w, i32_w]
                              rfl
                            refine done_ (done_of HT_.out (by kernel_rfl)) ?_
                            try go_wp2
                            go_roundg k2
                            case measure => have := HJ3.out; have := HK2.out; omega
                            case rel => exact ⟨((x4_2 ++ t271) ++ t273), (wrap64 (x5_2 + 1)), (by first | rfl | (simp; done) | (simp [*]; done) | (simp; exact H.isEmpty_bne _)), (by first | rfl | (simp; done) | (simp [*]; done) | (simp; exact H.isEmpty_bne _)), H', ⟨by have := HJ3.out; have := HK2.out; omega⟩, ⟨by (with_reducible repeat (first | refine blk_drewN ?_ _ | refine blk_drew ?_ | refine blk_alloc ?_ _)); exact BK264.out⟩, ⟨by repeat (first | (with_reducible first | exact HB.out | apply below_alloc | apply pw_below_drewN | apply below_drew1 | refine below_set ?_ GE264.out) | exact HB.out)⟩⟩
                          · rw [if_neg c29] at H
                            exact absurd H (by simp)
                        · rw [if_neg c27] at H
                          exact absurd H (by simp)
                      · rw [if_neg c25] at H
                        exact absurd H (by simp)
                    · rw [if_neg c24] at H
                      have c24b0 : decide (x5_2 < (l0_3.length : Int)) = false := decide_eq_false c24
                      clear c24
                      replace H := Option.bind_eq_some_iff.mp H
                      obtain ⟨t274, A340, H⟩ := H
                      replace H : (if x4_2.size + t274.size ≤ 9223372036854775807 then (freshetref14_Encode.l1 k2 (x4_2 ++ t274) 0 a0_0 a0_1 a0_2 l0_3 l0_4) else (none)) = some (r1, r2) := H
                      have A34 := Aside0.mk A340
                      clear A340
                      by_cases c35 : x4_2.size + t274.size ≤ 9223372036854775807
                      · rw [if_pos c35] at H
                        have c35b0 := eq_true c35
                        have c35b1 : decide (x4_2.size + t274.size ≤ 9223372036854775807) = true := decide_eq_true c35
                        try have c35b2 : (9223372036854775807 < x4_2.size + t274.size) = False := eq_false (Nat.not_lt.2 c35)
                        try (have c35b3 := c35; simp only [ByteArray.size_append] at c35b3; have c35b4 := eq_false (Nat.not_lt.2 c35b3))
                        have H' := Aside0.mk H
                        clear H
                        have hcz36_0 : wr.cell? ⟨gb264, 0, none⟩ = some (.int .u64 a0_0) := (blk_cell BK264.out 0).trans rfl
                        have hcz36_1 : wr.cell? ⟨gb264, 1, none⟩ = some (.int .u64 a0_1) := (blk_cell BK264.out 1).trans rfl
                        have hcz36_2 : wr.cell? ⟨gb264, 2, none⟩ = some (.int .u64 a0_2) := (blk_cell BK264.out 2).trans rfl
                        have hcz36_3 : wr.cell? ⟨gb264, 3, none⟩ = some (.slice A0_3 l0_3.length c0_3) := (blk_cell BK264.out 3).trans rfl
                        have hcz36_4 : wr.cell? ⟨gb264, 4, none⟩ = some (.slice A0_4 l0_4.length c0_4) := (blk_cell BK264.out 4).trans rfl
                        have hfz36_0 := blk_frozen BK264.out 0
                        have hfz36_1 := blk_frozen BK264.out 1
                        have hfz36_2 := blk_frozen BK264.out 2
                        have hfz36_3 := blk_frozen BK264.out 3
                        have hfz36_4 := blk_frozen BK264.out 4
                        go_wp2_with (first | ((with_reducible refine gate_callee (f := 114) rfl ?_); refine goesL_ (some 68) rfl rfl Try.func114 (by kernel_rfl) rfl #[.int .u64 (IntKind.u64.wrap ((l0_4.length : Int)))] rfl (by (try simp only [List.map_toArray, List.map_cons, List.map_nil]); first | done | rfl | (simp only [List.length_drop, List.length_take]; rfl)) ?_; (with_reducible refine (freshetref02_PutUint.calls k2 (IntKind.u64.wrap ((l0_4.length : Int))) t274 _ A34.out).mono ?_); rintro e w37 ⟨rfl, hb⟩; refine ⟨_, rfl, ?_⟩; have n0_ := Aside0.mk (blk_below (g := gb264) (o := .cells #[.int .u64 a0_0, .int .u64 a0_1, .int .u64 a0_2, .slice A0_3 l0_3.length c0_3, .slice A0_4 l0_4.length c0_4] 70 (0, 0)) (by (with_reducible repeat (first | refine blk_drewN ?_ _ | refine blk_drew ?_ | refine blk_alloc ?_ _)); exact BK264.out) hb); have n1_ := Aside0.mk (below_step (by repeat (first | (with_reducible first | exact HB.out | apply below_alloc | apply pw_below_drewN | apply below_drew1 | refine below_set ?_ GE264.out) | exact HB.out)) hb); clear BK264; clear HB; have BK264 := n0_; have HB := n1_; clear n0_ n1_; (try clear hb); (try clear hb2); (try clear hk); (try clear hi)))
                        go_loopg [4, 6] k2 (fun kq v4 v6 w' => ∃ (x4_3 : ByteArray) (x6_3 : Int), v4 = .string x4_3 ∧ v6 = .int .i64 x6_3 ∧ Aside0 (freshetref14_Encode.l1 kq x4_3 x6_3 a0_0 a0_1 a0_2 l0_3 l0_4 = some (r1, r2)) ∧ Aside0 (kq ≤ k2) ∧ Aside0 (w'.heap[gb264]? = some (.cells #[.int .u64 a0_0, .int .u64 a0_1, .int .u64 a0_2, (.slice A0_3 l0_3.length c0_3), (.slice A0_4 l0_4.length c0_4)] 70 (0, 0))) ∧ Aside0 (Below w.heap.size w w'))
                        case atStart => exact ⟨(x4_2 ++ t274), (0), (by first | rfl | (simp; done) | (simp [*]; done) | (simp; exact H.isEmpty_bne _)), (by first | rfl | (simp; done) | (simp [*]; done) | (simp; exact H.isEmpty_bne _)), H', ⟨Nat.le_refl _⟩, ⟨by (with_reducible repeat (first | refine blk_drewN ?_ _ | refine blk_drew ?_ | refine blk_alloc ?_ _)); exact BK264.out⟩, ⟨by repeat (first | (with_reducible first | exact HB.out | apply below_alloc | apply pw_below_drewN | apply below_drew1 | refine below_set ?_ GE264.out) | exact HB.out)⟩⟩
                        case round =>
                          clear H'
                          try clear c1
                          try clear c2
                          try clear p2
                          try clear q2
                          try clear hx2
                          try clear c3
                          try clear c5
                          try clear p6
                          try clear c8
                          try clear c8b0
                          try clear c8b1
                          try clear c10
                          try clear c11
                          try clear c14
                          try clear c14b0
                          try clear c14b1
                          try clear c14b2
                          try clear c16
                          try clear c16b0
                          try clear c16b1
                          try clear c16b2
                          try clear c18
                          try clear c18b0
                          try clear c18b1
                          try clear c18b2
                          try clear c24
                          try clear c24b0
                          try clear c25
                          try clear c25b0
                          try clear c27
                          try clear c27b0
                          try clear c27b1
                          try clear c27b2
                          try clear p27
                          try clear q27
                          try clear hx27
                          try clear c29
                          try clear c29b0
                          try clear c29b1
                          try clear c29b2
                          try clear c35
                          try clear c35b0
                          try clear c35b1
                          try clear c35b2
                          try clear hcz10_0
                          try clear hcz10_1
                          try clear hcz10_2
                          try clear hcz10_3
                          try clear hcz10_4
                          try clear hcz30_0
                          try clear hcz30_1
                          try clear hcz30_2
                          try clear hcz30_3
                          try clear hcz30_4
                          try clear hcz36_0
                          try clear hcz36_1
                          try clear hcz36_2
                          try clear hcz36_3
                          try clear hcz36_4
                          try clear hcz6_0
                          try clear hcz6_1
                          try clear hcz6_2
                          try clear hcz6_3
                          try clear hcz6_4
                          try clear hcz9_0
                          try clear hcz9_1
                          try clear hcz9_2
                          try clear hcz9_3
                          try clear hcz9_4
                          try clear hfz10_0
                          try clear hfz10_1
                          try clear hfz10_2
                          try clear hfz10_3
                          try clear hfz10_4
                          try clear hfz30_0
                          try clear hfz30_1
                          try clear hfz30_2
                          try clear hfz30_3
                          try clear hfz30_4
                          try clear hfz36_0
                          try clear hfz36_1
                          try clear hfz36_2
                          try clear hfz36_3
                          try clear hfz36_4
                          try clear hfz6_0
                          try clear hfz6_1
                          try clear hfz6_2
                          try clear hfz6_3
                          try clear hfz6_4
                          try clear hfz9_0
                          try clear hfz9_1
                          try clear hfz9_2
                          try clear hfz9_3
                          try clear hfz9_4
                          try clear hx270_0
                          try clear hx270_1
                          try clear hx272_0
                          try clear hx272_1
                          try clear p2
                          try clear p270
                          try clear p272
                          try clear q270
                          try clear q272
                          obtain ⟨x4_3, x6_3, rfl, rfl, HA, HK3, BK264, HB⟩ := hrel
                          cases gk with
                          | zero => exact absurd HA.out (by simp [freshetref14_Encode.l1])
                          | succ k3 =>
                            have H := HA.out
                            clear HA
                            simp only [freshetref14_Encode.l1] at H
                            by_cases c38 : x6_3 < (l0_4.length : Int)
                            · rw [if_pos c38] at H
                              have c38b0 : decide (x6_3 < (l0_4.length : Int)) = true := decide_eq_true c38
                              clear c38
                              by_cases c39 : 0 ≤ x6_3
                              · rw [if_pos c39] at H
                                have c39b0 : decide (0 ≤ x6_3) = true := decide_eq_true c39
                                clear c39
                                replace H := Option.bind_eq_some_iff.mp H
                                obtain ⟨t278, A400, H⟩ := H
                                replace H : (if x4_3.size + t278.size ≤ 9223372036854775807 then ((freshetref02_PutUint.f k3 ((rd_T82 l0_4 x6_3).f1.f0)).bind fun t279 => (if (x4_3 ++ t278).size + t279.size ≤ 9223372036854775807 then ((freshetref02_PutUint.f k3 (IntKind.u64.wrap ((rd_T82 l0_4 x6_3).f1.f1))).bind fun t280 => (if ((x4_3 ++ t278) ++ t279).size + t280.size ≤ 9223372036854775807 then ((freshetref02_PutUint.f k3 (IntKind.u64.wrap ((rd_T82 l0_4 x6_3).f1.f2))).bind fun t281 => (if (((x4_3 ++ t278) ++ t279) ++ t280).size + t281.size ≤ 9223372036854775807 then ((freshetref02_PutField.f k3 ((rd_T82 l0_4 x6_3).f1.f3)).bind fun t282 => (if ((((x4_3 ++ t278) ++ t279) ++ t280) ++ t281).size + t282.size ≤ 9223372036854775807 then ((freshetref02_PutField.f k3 ((rd_T82 l0_4 x6_3).f1.f4)).bind fun t283 => (if (((((x4_3 ++ t278) ++ t279) ++ t280) ++ t281) ++ t282).size + t283.size ≤ 9223372036854775807 then ((freshetref02_PutUint.f k3 ((rd_T82 l0_4 x6_3).f1.f5)).bind fun t284 => (if ((((((x4_3 ++ t278) ++ t279) ++ t280) ++ t281) ++ t282) ++ t283).size + t284.size ≤ 9223372036854775807 then ((freshetref02_PutUint.f k3 ((rd_T82 l0_4 x6_3).f1.f6)).bind fun t285 => (if (((((((x4_3 ++ t278) ++ t279) ++ t280) ++ t281) ++ t282) ++ t283) ++ t284).size + t285.size ≤ 9223372036854775807 then (freshetref14_Encode.l1 k3 ((((((((x4_3 ++ t278) ++ t279) ++ t280) ++ t281) ++ t282) ++ t283) ++ t284) ++ t285) (wrap64 (x6_3 + 1)) a0_0 a0_1 a0_2 l0_3 l0_4) else (none))) else (none))) else (none))) else (none))) else (none))) else (none))) else (none))) else (none)) = some (r1, r2) := H
                                have A40 := Aside0.mk A400
                                clear A400
                                by_cases c41 : x4_3.size + t278.size ≤ 9223372036854775807
                                · rw [if_pos c41] at H
                                  have c41b0 := eq_true c41
                                  have c41b1 : decide (x4_3.size + t278.size ≤ 9223372036854775807) = true := decide_eq_true c41
                                  try have c41b2 : (9223372036854775807 < x4_3.size + t278.size) = False := eq_false (Nat.not_lt.2 c41)
                                  try (have c41b3 := c41; simp only [ByteArray.size_append] at c41b3; have c41b4 := eq_false (Nat.not_lt.2 c41b3))
                                  replace H := Option.bind_eq_some_iff.mp H
                                  obtain ⟨t279, A420, H⟩ := H
                                  replace H : (if (x4_3 ++ t278).size + t279.size ≤ 9223372036854775807 then ((freshetref02_PutUint.f k3 (IntKind.u64.wrap ((rd_T82 l0_4 x6_3).f1.f1))).bind fun t280 => (if ((x4_3 ++ t278) ++ t279).size + t280.size ≤ 9223372036854775807 then ((freshetref02_PutUint.f k3 (IntKind.u64.wrap ((rd_T82 l0_4 x6_3).f1.f2))).bind fun t281 => (if (((x4_3 ++ t278) ++ t279) ++ t280).size + t281.size ≤ 9223372036854775807 then ((freshetref02_PutField.f k3 ((rd_T82 l0_4 x6_3).f1.f3)).bind fun t282 => (if ((((x4_3 ++ t278) ++ t279) ++ t280) ++ t281).size + t282.size ≤ 9223372036854775807 then ((freshetref02_PutField.f k3 ((rd_T82 l0_4 x6_3).f1.f4)).bind fun t283 => (if (((((x4_3 ++ t278) ++ t279) ++ t280) ++ t281) ++ t282).size + t283.size ≤ 9223372036854775807 then ((freshetref02_PutUint.f k3 ((rd_T82 l0_4 x6_3).f1.f5)).bind fun t284 => (if ((((((x4_3 ++ t278) ++ t279) ++ t280) ++ t281) ++ t282) ++ t283).size + t284.size ≤ 9223372036854775807 then ((freshetref02_PutUint.f k3 ((rd_T82 l0_4 x6_3).f1.f6)).bind fun t285 => (if (((((((x4_3 ++ t278) ++ t279) ++ t280) ++ t281) ++ t282) ++ t283) ++ t284).size + t285.size ≤ 9223372036854775807 then (freshetref14_Encode.l1 k3 ((((((((x4_3 ++ t278) ++ t279) ++ t280) ++ t281) ++ t282) ++ t283) ++ t284) ++ t285) (wrap64 (x6_3 + 1)) a0_0 a0_1 a0_2 l0_3 l0_4) else (none))) else (none))) else (none))) else (none))) else (none))) else (none))) else (none)) = some (r1, r2) := H
                                  have A42 := Aside0.mk A420
                                  clear A420
                                  by_cases c43 : (x4_3 ++ t278).size + t279.size ≤ 9223372036854775807
                                  · rw [if_pos c43] at H
                                    have c43b0 := eq_true c43
                                    have c43b1 : decide ((x4_3 ++ t278).size + t279.size ≤ 9223372036854775807) = true := decide_eq_true c43
                                    try have c43b2 : (9223372036854775807 < (x4_3 ++ t278).size + t279.size) = False := eq_false (Nat.not_lt.2 c43)
                                    try (have c43b3 := c43; simp only [ByteArray.size_append] at c43b3; have c43b4 := eq_false (Nat.not_lt.2 c43b3))
                                    replace H := Option.bind_eq_some_iff.mp H
                                    obtain ⟨t280, A440, H⟩ := H
                                    replace H : (if ((x4_3 ++ t278) ++ t279).size + t280.size ≤ 9223372036854775807 then ((freshetref02_PutUint.f k3 (IntKind.u64.wrap ((rd_T82 l0_4 x6_3).f1.f2))).bind fun t281 => (if (((x4_3 ++ t278) ++ t279) ++ t280).size + t281.size ≤ 9223372036854775807 then ((freshetref02_PutField.f k3 ((rd_T82 l0_4 x6_3).f1.f3)).bind fun t282 => (if ((((x4_3 ++ t278) ++ t279) ++ t280) ++ t281).size + t282.size ≤ 9223372036854775807 then ((freshetref02_PutField.f k3 ((rd_T82 l0_4 x6_3).f1.f4)).bind fun t283 => (if (((((x4_3 ++ t278) ++ t279) ++ t280) ++ t281) ++ t282).size + t283.size ≤ 9223372036854775807 then ((freshetref02_PutUint.f k3 ((rd_T82 l0_4 x6_3).f1.f5)).bind fun t284 => (if ((((((x4_3 ++ t278) ++ t279) ++ t280) ++ t281) ++ t282) ++ t283).size + t284.size ≤ 9223372036854775807 then ((freshetref02_PutUint.f k3 ((rd_T82 l0_4 x6_3).f1.f6)).bind fun t285 => (if (((((((x4_3 ++ t278) ++ t279) ++ t280) ++ t281) ++ t282) ++ t283) ++ t284).size + t285.size ≤ 9223372036854775807 then (freshetref14_Encode.l1 k3 ((((((((x4_3 ++ t278) ++ t279) ++ t280) ++ t281) ++ t282) ++ t283) ++ t284) ++ t285) (wrap64 (x6_3 + 1)) a0_0 a0_1 a0_2 l0_3 l0_4) else (none))) else (none))) else (none))) else (none))) else (none))) else (none)) = some (r1, r2) := H
                                    have A44 := Aside0.mk A440
                                    clear A440
                                    by_cases c45 : ((x4_3 ++ t278) ++ t279).size + t280.size ≤ 9223372036854775807
                                    · rw [if_pos c45] at H
                                      have c45b0 := eq_true c45
                                      have c45b1 : decide (((x4_3 ++ t278) ++ t279).size + t280.size ≤ 9223372036854775807) = true := decide_eq_true c45
                                      try have c45b2 : (9223372036854775807 < ((x4_3 ++ t278) ++ t279).size + t280.size) = False := eq_false (Nat.not_lt.2 c45)
                                      try (have c45b3 := c45; simp only [ByteArray.size_append] at c45b3; have c45b4 := eq_false (Nat.not_lt.2 c45b3))
                                      replace H := Option.bind_eq_some_iff.mp H
                                      obtain ⟨t281, A460, H⟩ := H
                                      replace H : (if (((x4_3 ++ t278) ++ t279) ++ t280).size + t281.size ≤ 9223372036854775807 then ((freshetref02_PutField.f k3 ((rd_T82 l0_4 x6_3).f1.f3)).bind fun t282 => (if ((((x4_3 ++ t278) ++ t279) ++ t280) ++ t281).size + t282.size ≤ 9223372036854775807 then ((freshetref02_PutField.f k3 ((rd_T82 l0_4 x6_3).f1.f4)).bind fun t283 => (if (((((x4_3 ++ t278) ++ t279) ++ t280) ++ t281) ++ t282).size + t283.size ≤ 9223372036854775807 then ((freshetref02_PutUint.f k3 ((rd_T82 l0_4 x6_3).f1.f5)).bind fun t284 => (if ((((((x4_3 ++ t278) ++ t279) ++ t280) ++ t281) ++ t282) ++ t283).size + t284.size ≤ 9223372036854775807 then ((freshetref02_PutUint.f k3 ((rd_T82 l0_4 x6_3).f1.f6)).bind fun t285 => (if (((((((x4_3 ++ t278) ++ t279) ++ t280) ++ t281) ++ t282) ++ t283) ++ t284).size + t285.size ≤ 9223372036854775807 then (freshetref14_Encode.l1 k3 ((((((((x4_3 ++ t278) ++ t279) ++ t280) ++ t281) ++ t282) ++ t283) ++ t284) ++ t285) (wrap64 (x6_3 + 1)) a0_0 a0_1 a0_2 l0_3 l0_4) else (none))) else (none))) else (none))) else (none))) else (none)) = some (r1, r2) := H
                                      have A46 := Aside0.mk A460
                                      clear A460
                                      by_cases c47 : (((x4_3 ++ t278) ++ t279) ++ t280).size + t281.size ≤ 9223372036854775807
                                      · rw [if_pos c47] at H
                                        have c47b0 := eq_true c47
                                        have c47b1 : decide ((((x4_3 ++ t278) ++ t279) ++ t280).size + t281.size ≤ 9223372036854775807) = true := decide_eq_true c47
                                        try have c47b2 : (9223372036854775807 < (((x4_3 ++ t278) ++ t279) ++ t280).size + t281.size) = False := eq_false (Nat.not_lt.2 c47)
                                        try (have c47b3 := c47; simp only [ByteArray.size_append] at c47b3; have c47b4 := eq_false (Nat.not_lt.2 c47b3))
                                        replace H := Option.bind_eq_some_iff.mp H
                                        obtain ⟨t282, A480, H⟩ := H
                                        replace H : (if ((((x4_3 ++ t278) ++ t279) ++ t280) ++ t281).size + t282.size ≤ 9223372036854775807 then ((freshetref02_PutField.f k3 ((rd_T82 l0_4 x6_3).f1.f4)).bind fun t283 => (if (((((x4_3 ++ t278) ++ t279) ++ t280) ++ t281) ++ t282).size + t283.size ≤ 9223372036854775807 then ((freshetref02_PutUint.f k3 ((rd_T82 l0_4 x6_3).f1.f5)).bind fun t284 => (if ((((((x4_3 ++ t278) ++ t279) ++ t280) ++ t281) ++ t282) ++ t283).size + t284.size ≤ 9223372036854775807 then ((freshetref02_PutUint.f k3 ((rd_T82 l0_4 x6_3).f1.f6)).bind fun t285 => (if (((((((x4_3 ++ t278) ++ t279) ++ t280) ++ t281) ++ t282) ++ t283) ++ t284).size + t285.size ≤ 9223372036854775807 then (freshetref14_Encode.l1 k3 ((((((((x4_3 ++ t278) ++ t279) ++ t280) ++ t281) ++ t282) ++ t283) ++ t284) ++ t285) (wrap64 (x6_3 + 1)) a0_0 a0_1 a0_2 l0_3 l0_4) else (none))) else (none))) else (none))) else (none)) = some (r1, r2) := H
                                        have A48 := Aside0.mk A480
                                        clear A480
                                        by_cases c49 : ((((x4_3 ++ t278) ++ t279) ++ t280) ++ t281).size + t282.size ≤ 9223372036854775807
                                        · rw [if_pos c49] at H
                                          have c49b0 := eq_true c49
                                          have c49b1 : decide (((((x4_3 ++ t278) ++ t279) ++ t280) ++ t281).size + t282.size ≤ 9223372036854775807) = true := decide_eq_true c49
                                          try have c49b2 : (9223372036854775807 < ((((x4_3 ++ t278) ++ t279) ++ t280) ++ t281).size + t282.size) = False := eq_false (Nat.not_lt.2 c49)
                                          try (have c49b3 := c49; simp only [ByteArray.size_append] at c49b3; have c49b4 := eq_false (Nat.not_lt.2 c49b3))
                                          replace H := Option.bind_eq_some_iff.mp H
                                          obtain ⟨t283, A500, H⟩ := H
                                          replace H : (if (((((x4_3 ++ t278) ++ t279) ++ t280) ++ t281) ++ t282).size + t283.size ≤ 9223372036854775807 then ((freshetref02_PutUint.f k3 ((rd_T82 l0_4 x6_3).f1.f5)).bind fun t284 => (if ((((((x4_3 ++ t278) ++ t279) ++ t280) ++ t281) ++ t282) ++ t283).size + t284.size ≤ 9223372036854775807 then ((freshetref02_PutUint.f k3 ((rd_T82 l0_4 x6_3).f1.f6)).bind fun t285 => (if (((((((x4_3 ++ t278) ++ t279) ++ t280) ++ t281) ++ t282) ++ t283) ++ t284).size + t285.size ≤ 9223372036854775807 then (freshetref14_Encode.l1 k3 ((((((((x4_3 ++ t278) ++ t279) ++ t280) ++ t281) ++ t282) ++ t283) ++ t284) ++ t285) (wrap64 (x6_3 + 1)) a0_0 a0_1 a0_2 l0_3 l0_4) else (none))) else (none))) else (none)) = some (r1, r2) := H
                                          have A50 := Aside0.mk A500
                                          clear A500
                                          by_cases c51 : (((((x4_3 ++ t278) ++ t279) ++ t280) ++ t281) ++ t282).size + t283.size ≤ 9223372036854775807
                                          · rw [if_pos c51] at H
                                            have c51b0 := eq_true c51
                                            have c51b1 : decide ((((((x4_3 ++ t278) ++ t279) ++ t280) ++ t281) ++ t282).size + t283.size ≤ 9223372036854775807) = true := decide_eq_true c51
                                            try have c51b2 : (9223372036854775807 < (((((x4_3 ++ t278) ++ t279) ++ t280) ++ t281) ++ t282).size + t283.size) = False := eq_false (Nat.not_lt.2 c51)
                                            try (have c51b3 := c51; simp only [ByteArray.size_append] at c51b3; have c51b4 := eq_false (Nat.not_lt.2 c51b3))
                                            replace H := Option.bind_eq_some_iff.mp H
                                            obtain ⟨t284, A520, H⟩ := H
                                            replace H : (if ((((((x4_3 ++ t278) ++ t279) ++ t280) ++ t281) ++ t282) ++ t283).size + t284.size ≤ 9223372036854775807 then ((freshetref02_PutUint.f k3 ((rd_T82 l0_4 x6_3).f1.f6)).bind fun t285 => (if (((((((x4_3 ++ t278) ++ t279) ++ t280) ++ t281) ++ t282) ++ t283) ++ t284).size + t285.size ≤ 9223372036854775807 then (freshetref14_Encode.l1 k3 ((((((((x4_3 ++ t278) ++ t279) ++ t280) ++ t281) ++ t282) ++ t283) ++ t284) ++ t285) (wrap64 (x6_3 + 1)) a0_0 a0_1 a0_2 l0_3 l0_4) else (none))) else (none)) = some (r1, r2) := H
                                            have A52 := Aside0.mk A520
                                            clear A520
                                            by_cases c53 : ((((((x4_3 ++ t278) ++ t279) ++ t280) ++ t281) ++ t282) ++ t283).size + t284.size ≤ 9223372036854775807
                                            · rw [if_pos c53] at H
                                              have c53b0 := eq_true c53
                                              have c53b1 : decide (((((((x4_3 ++ t278) ++ t279) ++ t280) ++ t281) ++ t282) ++ t283).size + t284.size ≤ 9223372036854775807) = true := decide_eq_true c53
                                              try have c53b2 : (9223372036854775807 < ((((((x4_3 ++ t278) ++ t279) ++ t280) ++ t281) ++ t282) ++ t283).size + t284.size) = False := eq_false (Nat.not_lt.2 c53)
                                              try (have c53b3 := c53; simp only [ByteArray.size_append] at c53b3; have c53b4 := eq_false (Nat.not_lt.2 c53b3))
                                              replace H := Option.bind_eq_some_iff.mp H
                                              obtain ⟨t285, A540, H⟩ := H
                                              replace H : (if (((((((x4_3 ++ t278) ++ t279) ++ t280) ++ t281) ++ t282) ++ t283) ++ t284).size + t285.size ≤ 9223372036854775807 then (freshetref14_Encode.l1 k3 ((((((((x4_3 ++ t278) ++ t279) ++ t280) ++ t281) ++ t282) ++ t283) ++ t284) ++ t285) (wrap64 (x6_3 + 1)) a0_0 a0_1 a0_2 l0_3 l0_4) else (none)) = some (r1, r2) := H
                                              have A54 := Aside0.mk A540
                                              clear A540
                                              by_cases c55 : (((((((x4_3 ++ t278) ++ t279) ++ t280) ++ t281) ++ t282) ++ t283) ++ t284).size + t285.size ≤ 9223372036854775807
                                              · rw [if_pos c55] at H
                                                have c55b0 := eq_true c55
                                                have c55b1 : decide ((((((((x4_3 ++ t278) ++ t279) ++ t280) ++ t281) ++ t282) ++ t283) ++ t284).size + t285.size ≤ 9223372036854775807) = true := decide_eq_true c55
                                                try have c55b2 : (9223372036854775807 < (((((((x4_3 ++ t278) ++ t279) ++ t280) ++ t281) ++ t282) ++ t283) ++ t284).size + t285.size) = False := eq_false (Nat.not_lt.2 c55)
                                                try (have c55b3 := c55; simp only [ByteArray.size_append] at c55b3; have c55b4 := eq_false (Nat.not_lt.2 c55b3))
                                                have H' := Aside0.mk H
                                                clear H
                                                have hcz56_0 : wr.cell? ⟨gb264, 0, none⟩ = some (.int .u64 a0_0) := (blk_cell BK264.out 0).trans rfl
                                                have hcz56_1 : wr.cell? ⟨gb264, 1, none⟩ = some (.int .u64 a0_1) := (blk_cell BK264.out 1).trans rfl
                                                have hcz56_2 : wr.cell? ⟨gb264, 2, none⟩ = some (.int .u64 a0_2) := (blk_cell BK264.out 2).trans rfl
                                                have hcz56_3 : wr.cell? ⟨gb264, 3, none⟩ = some (.slice A0_3 l0_3.length c0_3) := (blk_cell BK264.out 3).trans rfl
                                                have hcz56_4 : wr.cell? ⟨gb264, 4, none⟩ = some (.slice A0_4 l0_4.length c0_4) := (blk_cell BK264.out 4).trans rfl
                                                have hfz56_0 := blk_frozen BK264.out 0
                                                have hfz56_1 := blk_frozen BK264.out 1
                                                have hfz56_2 := blk_frozen BK264.out 2
                                                have hfz56_3 := blk_frozen BK264.out 3
                                                have hfz56_4 := blk_frozen BK264.out 4
                                                have p275 : 0 ≤ (x6_3 : Int) := of_decide_eq_true (by first | (with_reducible assumption) | assumption)
                                                have q275 : x6_3 < (l0_4.length : Int) := of_decide_eq_true (by first | (with_reducible assumption) | assumption)
                                                obtain ⟨ad275, e275, hx275_0, hx275_1, hx275_2, hx275_3, hx275_4, hx275_5, hx275_6, hx275_7⟩ := at_T82 HR0_4.out x6_3 p275 q275
                                                cases e275
                                                replace hx275_0 := (HB.out.cell (World.block_lt_of_cell? w _ hx275_0)).trans hx275_0
                                                replace hx275_1 := (HB.out.cell (World.block_lt_of_cell? w _ hx275_1)).trans hx275_1
                                                replace hx275_2 := (HB.out.cell (World.block_lt_of_cell? w _ hx275_2)).trans hx275_2
                                                replace hx275_3 := (HB.out.cell (World.block_lt_of_cell? w _ hx275_3)).trans hx275_3
                                                replace hx275_4 := (HB.out.cell (World.block_lt_of_cell? w _ hx275_4)).trans hx275_4
                                                replace hx275_5 := (HB.out.cell (World.block_lt_of_cell? w _ hx275_5)).trans hx275_5
                                                replace hx275_6 := (HB.out.cell (World.block_lt_of_cell? w _ hx275_6)).trans hx275_6
                                                replace hx275_7 := (HB.out.cell (World.block_lt_of_cell? w _ hx275_7)).trans hx275_7
                                                replace p275 := eq_true p275
                                                replace q275 := eq_true q275
                                                try go_wp2_with (first | ((with_reducible refine gate_dst (N := 7) rfl ?_); (try (refine gate_guard (by rfl) ?_; dsimp only)); refine box_event ?hg (N := 7) ?hd (cs := #[.int .u64 0, .int .i64 0, .int .i64 0, .string (⟨#[]⟩ : ByteArray), .string (⟨#[]⟩ : ByteArray), .int .u64 0, .int .u64 0]) (t := 58) ?hr ?_; (case hd => rfl); (case hg => rfl); (case hr => first | (go_simp; done) | (go_simp; rfl)); intro gb276 hg w57 hbox hb; have n0_ := Aside0.mk (blk_below (g := gb264) (o := .cells #[.int .u64 a0_0, .int .u64 a0_1, .int .u64 a0_2, .slice A0_3 l0_3.length c0_3, .slice (some ad275) l0_4.length c0_4] 70 (0, 0)) (by (with_reducible repeat (first | refine blk_drewN ?_ _ | refine blk_drew ?_ | refine blk_alloc ?_ _)); exact BK264.out) hb); have n1_ := Aside0.mk (below_step (by repeat (first | (with_reducible first | exact HB.out | apply below_alloc | apply pw_below_drewN | apply below_drew1 | refine below_set ?_ GE264.out) | exact HB.out)) hb); have n2_ := Aside0.mk (hbox); have n3_ := Aside0.mk ((by rw [hg]; exact (below_size (by repeat (first | (with_reducible first | exact HB.out | apply below_alloc | apply pw_below_drewN | apply below_drew1 | refine below_set ?_ GE264.out) | exact HB.out))) : w.heap.size ≤ gb276)); have n4_ := Aside0.mk ((by rw [hg]; exact (below_size (by repeat (first | (with_reducible first | exact HB.out | apply below_alloc | apply pw_below_drewN | apply below_drew1 | refine below_set ?_ GE264.out) | exact HB.out))) : w.heap.size ≤ gb276)); have n5_ := Aside0.mk ((by rw [hg]; exact Nat.ne_of_lt (blk_lt (g := gb264) (o := .cells #[.int .u64 a0_0, .int .u64 a0_1, .int .u64 a0_2, .slice A0_3 l0_3.length c0_3, .slice (some ad275) l0_4.length c0_4] 70 (0, 0)) (by (with_reducible repeat (first | refine blk_drewN ?_ _ | refine blk_drew ?_ | refine blk_alloc ?_ _)); exact BK264.out)) : gb264 ≠ gb276)); have n6_ := Aside0.mk ((by rw [hg]; exact Nat.ne_of_gt (blk_lt (g := gb264) (o := .cells #[.int .u64 a0_0, .int .u64 a0_1, .int .u64 a0_2, .slice A0_3 l0_3.length c0_3, .slice (some ad275) l0_4.length c0_4] 70 (0, 0)) (by (with_reducible repeat (first | refine blk_drewN ?_ _ | refine blk_drew ?_ | refine blk_alloc ?_ _)); exact BK264.out)) : gb276 ≠ gb264)); clear BK264; clear HB; have BK264 := n0_; have HB := n1_; have BK276 := n2_; have GW276 := n3_; have GE276 := n4_; have NB264_276 := n5_; have NB276_264 := n6_; clear n0_ n1_ n2_ n3_ n4_ n5_ n6_; clear hb hbox hg; have hnb58 := NB276_264.out; have hnc58 := NB264_276.out; have hcz59_0 : w57.cell? ⟨gb276, 0, none⟩ = some (.int .u64 0) := (blk_cell BK276.out 0).trans rfl; have hcz59_1 : w57.cell? ⟨gb276, 1, none⟩ = some (.int .i64 0) := (blk_cell BK276.out 1).trans rfl; have hcz59_2 : w57.cell? ⟨gb276, 2, none⟩ = some (.int .i64 0) := (blk_cell BK276.out 2).trans rfl; have hcz59_3 : w57.cell? ⟨gb276, 3, none⟩ = some (.string (⟨#[]⟩ : ByteArray)) := (blk_cell BK276.out 3).trans rfl; have hcz59_4 : w57.cell? ⟨gb276, 4, none⟩ = some (.string (⟨#[]⟩ : ByteArray)) := (blk_cell BK276.out 4).trans rfl; have hcz59_5 : w57.cell? ⟨gb276, 5, none⟩ = some (.int .u64 0) := (blk_cell BK276.out 5).trans rfl; have hcz59_6 : w57.cell? ⟨gb276, 6, none⟩ = some (.int .u64 0) := (blk_cell BK276.out 6).trans rfl; have hfz59_0 := blk_frozen BK276.out 0; have hfz59_1 := blk_frozen BK276.out 1; have hfz59_2 := blk_frozen BK276.out 2; have hfz59_3 := blk_frozen BK276.out 3; have hfz59_4 := blk_frozen BK276.out 4; have hfz59_5 := blk_frozen BK276.out 5; have hfz59_6 := blk_frozen BK276.out 6))
                                                have n0_ : Aside0 ((((((((w57.setCell ⟨gb276, 0, none⟩ (.int .u64 ((rd_T82 l0_4 x6_3).f1.f0))).setCell ⟨gb276, 1, none⟩ (.int .i64 ((rd_T82 l0_4 x6_3).f1.f1))).setCell ⟨gb276, 2, none⟩ (.int .i64 ((rd_T82 l0_4 x6_3).f1.f2))).setCell ⟨gb276, 3, none⟩ (.string ((rd_T82 l0_4 x6_3).f1.f3))).setCell ⟨gb276, 4, none⟩ (.string ((rd_T82 l0_4 x6_3).f1.f4))).setCell ⟨gb276, 5, none⟩ (.int .u64 ((rd_T82 l0_4 x6_3).f1.f5))).setCell ⟨gb276, 6, none⟩ (.int .u64 ((rd_T82 l0_4 x6_3).f1.f6))).heap[gb264]? = some (.cells #[.int .u64 a0_0, .int .u64 a0_1, .int .u64 a0_2, .slice A0_3 l0_3.length c0_3, .slice (some ad275) l0_4.length c0_4] 70 (0, 0))) := ⟨by (with_reducible repeat (first | refine blk_drewN ?_ _ | refine blk_drew ?_ | refine blk_alloc ?_ _)); refine blk_far ?_ NB264_276.out _; (with_reducible repeat (first | refine blk_drewN ?_ _ | refine blk_drew ?_ | refine blk_alloc ?_ _)); refine blk_far ?_ NB264_276.out _; (with_reducible repeat (first | refine blk_drewN ?_ _ | refine blk_drew ?_ | refine blk_alloc ?_ _)); refine blk_far ?_ NB264_276.out _; (with_reducible repeat (first | refine blk_drewN ?_ _ | refine blk_drew ?_ | refine blk_alloc ?_ _)); refine blk_far ?_ NB264_276.out _; (with_reducible repeat (first | refine blk_drewN ?_ _ | refine blk_drew ?_ | refine blk_alloc ?_ _)); refine blk_far ?_ NB264_276.out _; (with_reducible repeat (first | refine blk_drewN ?_ _ | refine blk_drew ?_ | refine blk_alloc ?_ _)); refine blk_far ?_ NB264_276.out _; (with_reducible repeat (first | refine blk_drewN ?_ _ | refine blk_drew ?_ | refine blk_alloc ?_ _)); refine blk_far ?_ NB264_276.out _; (with_reducible repeat (first | refine blk_drewN ?_ _ | refine blk_drew ?_ | refine blk_alloc ?_ _)); exact BK264.out⟩
                                                have n1_ : Aside0 ((((((((w57.setCell ⟨gb276, 0, none⟩ (.int .u64 ((rd_T82 l0_4 x6_3).f1.f0))).setCell ⟨gb276, 1, none⟩ (.int .i64 ((rd_T82 l0_4 x6_3).f1.f1))).setCell ⟨gb276, 2, none⟩ (.int .i64 ((rd_T82 l0_4 x6_3).f1.f2))).setCell ⟨gb276, 3, none⟩ (.string ((rd_T82 l0_4 x6_3).f1.f3))).setCell ⟨gb276, 4, none⟩ (.string ((rd_T82 l0_4 x6_3).f1.f4))).setCell ⟨gb276, 5, none⟩ (.int .u64 ((rd_T82 l0_4 x6_3).f1.f5))).setCell ⟨gb276, 6, none⟩ (.int .u64 ((rd_T82 l0_4 x6_3).f1.f6))).heap[gb276]? = some (.cells #[.int .u64 ((rd_T82 l0_4 x6_3).f1.f0), .int .i64 ((rd_T82 l0_4 x6_3).f1.f1), .int .i64 ((rd_T82 l0_4 x6_3).f1.f2), .string ((rd_T82 l0_4 x6_3).f1.f3), .string ((rd_T82 l0_4 x6_3).f1.f4), .int .u64 ((rd_T82 l0_4 x6_3).f1.f5), .int .u64 ((rd_T82 l0_4 x6_3).f1.f6)] 58 (0, 0))) := ⟨by (with_reducible repeat (first | refine blk_drewN ?_ _ | refine blk_drew ?_ | refine blk_alloc ?_ _)); refine blk_put (cs := #[.int .u64 ((rd_T82 l0_4 x6_3).f1.f0), .int .i64 ((rd_T82 l0_4 x6_3).f1.f1), .int .i64 ((rd_T82 l0_4 x6_3).f1.f2), .string ((rd_T82 l0_4 x6_3).f1.f3), .string ((rd_T82 l0_4 x6_3).f1.f4), .int .u64 ((rd_T82 l0_4 x6_3).f1.f5), .int .u64 0]) ?_ 6 _ rfl; (with_reducible repeat (first | refine blk_drewN ?_ _ | refine blk_drew ?_ | refine blk_alloc ?_ _)); refine blk_put (cs := #[.int .u64 ((rd_T82 l0_4 x6_3).f1.f0), .int .i64 ((rd_T82 l0_4 x6_3).f1.f1), .int .i64 ((rd_T82 l0_4 x6_3).f1.f2), .string ((rd_T82 l0_4 x6_3).f1.f3), .string ((rd_T82 l0_4 x6_3).f1.f4), .int .u64 0, .int .u64 0]) ?_ 5 _ rfl; (with_reducible repeat (first | refine blk_drewN ?_ _ | refine blk_drew ?_ | refine blk_alloc ?_ _)); refine blk_put (cs := #[.int .u64 ((rd_T82 l0_4 x6_3).f1.f0), .int .i64 ((rd_T82 l0_4 x6_3).f1.f1), .int .i64 ((rd_T82 l0_4 x6_3).f1.f2), .string ((rd_T82 l0_4 x6_3).f1.f3), .string (⟨#[]⟩ : ByteArray), .int .u64 0, .int .u64 0]) ?_ 4 _ rfl; (with_reducible repeat (first | refine blk_drewN ?_ _ | refine blk_drew ?_ | refine blk_alloc ?_ _)); refine blk_put (cs := #[.int .u64 ((rd_T82 l0_4 x6_3).f1.f0), .int .i64 ((rd_T82 l0_4 x6_3).f1.f1), .int .i64 ((rd_T82 l0_4 x6_3).f1.f2), .string (⟨#[]⟩ : ByteArray), .string (⟨#[]⟩ : ByteArray), .int .u64 0, .int .u64 0]) ?_ 3 _ rfl; (with_reducible repeat (first | refine blk_drewN ?_ _ | refine blk_drew ?_ | refine blk_alloc ?_ _)); refine blk_put (cs := #[.int .u64 ((rd_T82 l0_4 x6_3).f1.f0), .int .i64 ((rd_T82 l0_4 x6_3).f1.f1), .int .i64 0, .string (⟨#[]⟩ : ByteArray), .string (⟨#[]⟩ : ByteArray), .int .u64 0, .int .u64 0]) ?_ 2 _ rfl; (with_reducible repeat (first | refine blk_drewN ?_ _ | refine blk_drew ?_ | refine blk_alloc ?_ _)); refine blk_put (cs := #[.int .u64 ((rd_T82 l0_4 x6_3).f1.f0), .int .i64 0, .int .i64 0, .string (⟨#[]⟩ : ByteArray), .string (⟨#[]⟩ : ByteArray), .int .u64 0, .int .u64 0]) ?_ 1 _ rfl; (with_reducible repeat (first | refine blk_drewN ?_ _ | refine blk_drew ?_ | refine blk_alloc ?_ _)); refine blk_put (cs := #[.int .u64 0, .int .i64 0, .int .i64 0, .string (⟨#[]⟩ : ByteArray), .string (⟨#[]⟩ : ByteArray), .int .u64 0, .int .u64 0]) ?_ 0 _ rfl; (with_reducible repeat (first | refine blk_drewN ?_ _ | refine blk_drew ?_ | refine blk_alloc ?_ _)); exact BK276.out⟩
                                                have n2_ : Aside0 (Below w.heap.size w (((((((w57.setCell ⟨gb276, 0, none⟩ (.int .u64 ((rd_T82 l0_4 x6_3).f1.f0))).setCell ⟨gb276, 1, none⟩ (.int .i64 ((rd_T82 l0_4 x6_3).f1.f1))).setCell ⟨gb276, 2, none⟩ (.int .i64 ((rd_T82 l0_4 x6_3).f1.f2))).setCell ⟨gb276, 3, none⟩ (.string ((rd_T82 l0_4 x6_3).f1.f3))).setCell ⟨gb276, 4, none⟩ (.string ((rd_T82 l0_4 x6_3).f1.f4))).setCell ⟨gb276, 5, none⟩ (.int .u64 ((rd_T82 l0_4 x6_3).f1.f5))).setCell ⟨gb276, 6, none⟩ (.int .u64 ((rd_T82 l0_4 x6_3).f1.f6)))) := ⟨by repeat (first | (with_reducible first | exact HB.out | apply below_alloc | apply pw_below_drewN | apply below_drew1 | refine below_set ?_ GE264.out | refine below_set ?_ GE276.out) | exact HB.out)⟩
                                                (try clear BK264)
                                                (try clear BK276)
                                                (try clear HB)
                                                generalize (((((((w57.setCell ⟨gb276, 0, none⟩ (.int .u64 ((rd_T82 l0_4 x6_3).f1.f0))).setCell ⟨gb276, 1, none⟩ (.int .i64 ((rd_T82 l0_4 x6_3).f1.f1))).setCell ⟨gb276, 2, none⟩ (.int .i64 ((rd_T82 l0_4 x6_3).f1.f2))).setCell ⟨gb276, 3, none⟩ (.string ((rd_T82 l0_4 x6_3).f1.f3))).setCell ⟨gb276, 4, none⟩ (.string ((rd_T82 l0_4 x6_3).f1.f4))).setCell ⟨gb276, 5, none⟩ (.int .u64 ((rd_T82 l0_4 x6_3).f1.f5))).setCell ⟨gb276, 6, none⟩ (.int .u64 ((rd_T82 l0_4 x6_3).f1.f6))) = w60 at n0_ n1_ n2_ ⊢
                                                have BK264 := n0_
                                                have BK276 := n1_
                                                have HB := n2_
                                                clear n0_ n1_ n2_
                                                have n0_ := Aside0.mk (blk_drew BK264.out)
                                                have n1_ := Aside0.mk (blk_drew BK276.out)
                                                have n2_ := Aside0.mk (below_drew1 HB.out)
                                                clear BK264
                                                clear BK276
                                                clear HB
                                                have BK264 := n0_
                                                have BK276 := n1_
                                                have HB := n2_
                                                clear n0_ n1_ n2_
                                                have p277 : 0 ≤ (x6_3 : Int) := of_decide_eq_true (by first | (with_reducible assumption) | assumption)
                                                have q277 : x6_3 < (l0_4.length : Int) := of_decide_eq_true (by first | (with_reducible assumption) | assumption)
                                                obtain ⟨ad277, e277, hx277_0, hx277_1, hx277_2, hx277_3, hx277_4, hx277_5, hx277_6, hx277_7⟩ := at_T82 HR0_4.out x6_3 p277 q277
                                                have hw277_7 := hx277_7
                                                have hw277_6 := hx277_6
                                                have hw277_5 := hx277_5
                                                have hw277_4 := hx277_4
                                                have hw277_3 := hx277_3
                                                have hw277_2 := hx277_2
                                                have hw277_1 := hx277_1
                                                have hw277_0 := hx277_0
                                                obtain rfl : ad275 = ad277 := (by injection e277)
                                                replace hx277_0 := (HB.out.cell (World.block_lt_of_cell? w _ hx277_0)).trans hx277_0
                                                replace hx277_1 := (HB.out.cell (World.block_lt_of_cell? w _ hx277_1)).trans hx277_1
                                                replace hx277_2 := (HB.out.cell (World.block_lt_of_cell? w _ hx277_2)).trans hx277_2
                                                replace hx277_3 := (HB.out.cell (World.block_lt_of_cell? w _ hx277_3)).trans hx277_3
                                                replace hx277_4 := (HB.out.cell (World.block_lt_of_cell? w _ hx277_4)).trans hx277_4
                                                replace hx277_5 := (HB.out.cell (World.block_lt_of_cell? w _ hx277_5)).trans hx277_5
                                                replace hx277_6 := (HB.out.cell (World.block_lt_of_cell? w _ hx277_6)).trans hx277_6
                                                replace hx277_7 := (HB.out.cell (World.block_lt_of_cell? w _ hx277_7)).trans hx277_7
                                                replace p277 := eq_true p277
                                                replace q277 := eq_true q277
                                                refine start_ (n := 25) (S := fun w' => w'.cell? ⟨gb264, 0, none⟩ = some (.int .u64 a0_0) ∧ w'.cell? ⟨gb264, 1, none⟩ = some (.int .u64 a0_1) ∧ w'.cell? ⟨gb264, 2, none⟩ = some (.int .u64 a0_2) ∧ w'.cell? ⟨gb264, 3, none⟩ = some (.slice A0_3 l0_3.length c0_3) ∧ w'.cell? ⟨gb264, 4, none⟩ = some (.slice (some ad275) l0_4.length c0_4) ∧ w'.cell? ⟨gb276, 0, none⟩ = some (.int .u64 ((rd_T82 l0_4 x6_3).f1.f0)) ∧ w'.cell? ⟨gb276, 1, none⟩ = some (.int .i64 ((rd_T82 l0_4 x6_3).f1.f1)) ∧ w'.cell? ⟨gb276, 2, none⟩ = some (.int .i64 ((rd_T82 l0_4 x6_3).f1.f2)) ∧ w'.cell? ⟨gb276, 3, none⟩ = some (.string ((rd_T82 l0_4 x6_3).f1.f3)) ∧ w'.cell? ⟨gb276, 4, none⟩ = some (.string ((rd_T82 l0_4 x6_3).f1.f4)) ∧ w'.cell? ⟨gb276, 5, none⟩ = some (.int .u64 ((rd_T82 l0_4 x6_3).f1.f5)) ∧ w'.cell? ⟨gb276, 6, none⟩ = some (.int .u64 ((rd_T82 l0_4 x6_3).f1.f6)) ∧ w'.cell? (ad275.add ((x6_3).toNat * 8)) = some (.int .i64 ((rd_T82 l0_4 x6_3).f0)) ∧ w'.cell? ⟨(ad275.add ((x6_3).toNat * 8)).block, (ad275.add ((x6_3).toNat * 8)).off + 1, none⟩ = some (.int .u64 ((rd_T82 l0_4 x6_3).f1.f0)) ∧ w'.cell? ⟨(ad275.add ((x6_3).toNat * 8)).block, (ad275.add ((x6_3).toNat * 8)).off + 2, none⟩ = some (.int .i64 ((rd_T82 l0_4 x6_3).f1.f1)) ∧ w'.cell? ⟨(ad275.add ((x6_3).toNat * 8)).block, (ad275.add ((x6_3).toNat * 8)).off + 3, none⟩ = some (.int .i64 ((rd_T82 l0_4 x6_3).f1.f2)) ∧ w'.cell? ⟨(ad275.add ((x6_3).toNat * 8)).block, (ad275.add ((x6_3).toNat * 8)).off + 4, none⟩ = some (.string ((rd_T82 l0_4 x6_3).f1.f3)) ∧ w'.cell? ⟨(ad275.add ((x6_3).toNat * 8)).block, (ad275.add ((x6_3).toNat * 8)).off + 5, none⟩ = some (.string ((rd_T82 l0_4 x6_3).f1.f4)) ∧ w'.cell? ⟨(ad275.add ((x6_3).toNat * 8)).block, (ad275.add ((x6_3).toNat * 8)).off + 6, none⟩ = some (.int .u64 ((rd_T82 l0_4 x6_3).f1.f5)) ∧ w'.cell? ⟨(ad275.add ((x6_3).toNat * 8)).block, (ad275.add ((x6_3).toNat * 8)).off + 7, none⟩ = some (.int .u64 ((rd_T82 l0_4 x6_3).f1.f6))) (ds := []) #[false, false, false, false, false, false, false, false, false, false, false, false, false, false, false, false, false, false, false, false, false, false, false, false, false] (by kernel_rfl) rfl rfl ⟨(blk_cell BK264.out 0).trans rfl, (blk_cell BK264.out 1).trans rfl, (blk_cell BK264.out 2).trans rfl, (blk_cell BK264.out 3).trans rfl, (blk_cell BK264.out 4).trans rfl, (blk_cell BK276.out 0).trans rfl, (blk_cell BK276.out 1).trans rfl, (blk_cell BK276.out 2).trans rfl, (blk_cell BK276.out 3).trans rfl, (blk_cell BK276.out 4).trans rfl, (blk_cell BK276.out 5).trans rfl, (blk_cell BK276.out 6).trans rfl, ((HB.out.cell (World.block_lt_of_cell? w _ hw277_0)).trans hw277_0), ((HB.out.cell (World.block_lt_of_cell? w _ hw277_1)).trans hw277_1), ((HB.out.cell (World.block_lt_of_cell? w _ hw277_2)).trans hw277_2), ((HB.out.cell (World.block_lt_of_cell? w _ hw277_3)).trans hw277_3), ((HB.out.cell (World.block_lt_of_cell? w _ hw277_4)).trans hw277_4), ((HB.out.cell (World.block_lt_of_cell? w _ hw277_5)).trans hw277_5), ((HB.out.cell (World.block_lt_of_cell? w _ hw277_6)).trans hw277_6), ((HB.out.cell (World.block_lt_of_cell? w _ hw277_7)).trans hw277_7)⟩ (fun hHeld => ?_); refine with_tabW freshetref14_Encode.tab15 freshetref14_Encode.bits15 (fun HT_ HW_ => ?_)
                                                generalize w60.drew = w61 at BK264 BK276 HB hx277_0 hx277_1 hx277_2 hx277_3 hx277_4 hx277_5 hx277_6 hx277_7 hHeld ⊢
                                                refine pure_ (i := 0) (N := some 83) (v := ?_) (a' := ?_) #[true, false, false, false, false, false, false, false, false, false, false, false, false, false, false, false, false, false, false, false, false, false, false, false, false] rfl rfl (any_of HT_.out (by kernel_rfl)) (fun _ _ _ h => h) (Or.inl ⟨by rfl, ?_⟩) ?_ ?_
                                                rotate_left
                                                · intro w'
                                                  go_simp
                                                  with_reducible rfl
                                                rotate_left
                                                · simp only [Act.put, List.setIfInBounds_toArray, List.set_cons_zero, List.set_cons_succ, i64_w, i32_w]
                                                  rfl
                                                refine pure_ (i := 1) (N := some 84) (v := ?_) (a' := ?_) #[true, true, false, false, false, false, false, false, false, false, false, false, false, false, false, false, false, false, false, false, false, false, false, false, false] rfl rfl (any_of HT_.out (by kernel_rfl)) (fun _ _ _ h => h) (Or.inl ⟨by rfl, ?_⟩) ?_ ?_
                                                rotate_left
                                                · intro w'
                                                  go_simp
                                                  with_reducible rfl
                                                rotate_left
                                                · simp only [Act.put, List.setIfInBounds_toArray, List.set_cons_zero, List.set_cons_succ, i64_w, i32_w]
                                                  rfl
                                                refine pure_ (i := 3) (N := some 86) (v := ?_) (a' := ?_) #[true, true, false, true, false, false, false, false, false, false, false, false, false, false, false, false, false, false, false, false, false, false, false, false, false] rfl rfl (any_of HT_.out (by kernel_rfl)) (fun _ _ _ h => h) (Or.inl ⟨by rfl, ?_⟩) ?_ ?_
                                                rotate_left
                                                · intro w'
                                                  go_simp
                                                  with_reducible rfl
                                                rotate_left
                                                · simp only [Act.put, List.setIfInBounds_toArray, List.set_cons_zero, List.set_cons_succ, i64_w, i32_w]
                                                  rfl
                                                refine pure_ (i := 10) (N := some 93) (v := ?_) (a' := ?_) #[true, true, false, true, false, false, false, false, false, false, true, false, false, false, false, false, false, false, false, false, false, false, false, false, false] rfl rfl (any_of HT_.out (by kernel_rfl)) (fun _ _ _ h => h) (Or.inl ⟨by rfl, ?_⟩) ?_ ?_
                                                rotate_left
                                                · intro w'
                                                  go_simp
                                                  with_reducible rfl
                                                rotate_left
                                                · simp only [Act.put, List.setIfInBounds_toArray, List.set_cons_zero, List.set_cons_succ, i64_w, i32_w]
                                                  rfl
                                                refine pure_ (i := 14) (N := some 97) (v := ?_) (a' := ?_) #[true, true, false, true, false, false, false, false, false, false, true, false, false, false, true, false, false, false, false, false, false, false, false, false, false] rfl rfl (any_of HT_.out (by kernel_rfl)) (fun _ _ _ h => h) (Or.inl ⟨by rfl, ?_⟩) ?_ ?_
                                                rotate_left
                                                · intro w'
                                                  go_simp
                                                  with_reducible rfl
                                                rotate_left
                                                · simp only [Act.put, List.setIfInBounds_toArray, List.set_cons_zero, List.set_cons_succ, i64_w, i32_w]
                                                  rfl
                                                refine pure_ (i := 19) (N := some 102) (v := ?_) (a' := ?_) #[true, true, false, true, false, false, false, false, false, false, true, false, false, false, true, false, false, false, false, true, false, false, false, false, false] rfl rfl (any_of HT_.out (by kernel_rfl)) (fun _ _ _ h => h) (Or.inl ⟨by rfl, ?_⟩) ?_ ?_
                                                rotate_left
                                                · intro w'
                                                  go_simp
                                                  with_reducible rfl
                                                rotate_left
                                                · simp only [Act.put, List.setIfInBounds_toArray, List.set_cons_zero, List.set_cons_succ, i64_w, i32_w]
                                                  rfl
                                                refine take_ (i := 2) (N := some 85) (v := ?_) (a' := ?_) #[true, true, true, true, false, false, false, false, false, false, true, false, false, false, true, false, false, false, false, true, false, false, false, false, false] rfl rfl (take_ofW HT_.out HW_.out (by kernel_rfl)) (fun _ _ _ h => h) (Or.inl ⟨by rfl, ?_⟩) hHeld ?_ ?_
                                                rotate_left
                                                · rintro w' ⟨s0, s1, s2, s3, s4, s5, s6, s7, s8, s9, s10, s11, s12, s13, s14, s15, s16, s17, s18, s19⟩
                                                  go_simp
                                                  with_reducible rfl
                                                rotate_left
                                                · simp only [Act.put, List.setIfInBounds_toArray, List.set_cons_zero, List.set_cons_succ, i64_w, i32_w]
                                                  rfl
                                                refine pure_ (i := 4) (N := some 87) (v := ?_) (a' := ?_) #[true, true, true, true, true, false, false, false, false, false, true, false, false, false, true, false, false, false, false, true, false, false, false, false, false] rfl rfl (any_of HT_.out (by kernel_rfl)) (fun _ _ _ h => h) (Or.inl ⟨by rfl, ?_⟩) ?_ ?_
                                                rotate_left
                                                · intro w'
                                                  go_simp
                                                  with_reducible rfl
                                                rotate_left
                                                · simp only [Act.put, List.setIfInBounds_toArray, List.set_cons_zero, List.set_cons_succ, i64_w, i32_w]
                                                  rfl
                                                refine pure_ (i := 5) (N := some 88) (v := ?_) (a' := ?_) #[true, true, true, true, true, true, false, false, false, false, true, false, false, false, true, false, false, false, false, true, false, false, false, false, false] rfl rfl (any_of HT_.out (by kernel_rfl)) (fun _ _ _ h => h) (Or.inl ⟨by rfl, ?_⟩) ?_ ?_
                                                rotate_left
                                                · intro w'
                                                  go_simp
                                                  with_reducible rfl
                                                rotate_left
                                                · simp only [Act.put, List.setIfInBounds_toArray, List.set_cons_zero, List.set_cons_succ, i64_w, i32_w]
                                                  rfl
                                                refine take_ (i := 6) (N := some 89) (v := ?_) (a' := ?_) #[true, true, true, true, true, true, true, false, false, false, true, false, false, false, true, false, false, false, false, true, false, false, false, false, false] rfl rfl (take_ofW HT_.out HW_.out (by kernel_rfl)) (fun _ _ _ h => h) (Or.inl ⟨by rfl, ?_⟩) hHeld ?_ ?_
                                                rotate_left
                                                · rintro w' ⟨s0, s1, s2, s3, s4, s5, s6, s7, s8, s9, s10, s11, s12, s13, s14, s15, s16, s17, s18, s19⟩
                                                  go_simp
                                                  with_reducible rfl
                                                rotate_left
                                                · simp only [Act.put, List.setIfInBounds_toArray, List.set_cons_zero, List.set_cons_succ, i64_w, i32_w]
                                                  rfl
                                                refine pure_ (i := 7) (N := some 90) (v := ?_) (a' := ?_) #[true, true, true, true, true, true, true, true, false, false, true, false, false, false, true, false, false, false, false, true, false, false, false, false, false] rfl rfl (any_of HT_.out (by kernel_rfl)) (fun _ _ _ h => h) (Or.inl ⟨by rfl, ?_⟩) ?_ ?_
                                                rotate_left
                                                · intro w'
                                                  go_simp
                                                  with_reducible rfl
                                                rotate_left
                                                · simp only [Act.put, List.setIfInBounds_toArray, List.set_cons_zero, List.set_cons_succ, i64_w, i32_w]
                                                  rfl
                                                refine take_ (i := 11) (N := some 94) (v := ?_) (a' := ?_) #[true, true, true, true, true, true, true, true, false, false, true, true, false, false, true, false, false, false, false, true, false, false, false, false, false] rfl rfl (take_ofW HT_.out HW_.out (by kernel_rfl)) (fun _ _ _ h => h) (Or.inl ⟨by rfl, ?_⟩) hHeld ?_ ?_
                                                rotate_left
                                                · rintro w' ⟨s0, s1, s2, s3, s4, s5, s6, s7, s8, s9, s10, s11, s12, s13, s14, s15, s16, s17, s18, s19⟩
                                                  go_simp
                                                  with_reducible rfl
                                                rotate_left
                                                · simp only [Act.put, List.setIfInBounds_toArray, List.set_cons_zero, List.set_cons_succ, i64_w, i32_w]
                                                  rfl
                                                refine take_ (i := 15) (N := some 98) (v := ?_) (a' := ?_) #[true, true, true, true, true, true, true, true, false, false, true, true, false, false, true, true, false, false, false, true, false, false, false, false, false] rfl rfl (take_ofW HT_.out HW_.out (by kernel_rfl)) (fun _ _ _ h => h) (Or.inl ⟨by rfl, ?_⟩) hHeld ?_ ?_
                                                rotate_left
                                                · rintro w' ⟨s0, s1, s2, s3, s4, s5, s6, s7, s8, s9, s10, s11, s12, s13, s14, s15, s16, s17, s18, s19⟩
                                                  go_simp
                                                  with_reducible rfl
                                                rotate_left
                                                · simp only [Act.put, List.setIfInBounds_toArray, List.set_cons_zero, List.set_cons_succ, i64_w, i32_w]
                                                  rfl
                                                refine pure_ (i := 16) (N := some 99) (v := ?_) (a' := ?_) #[true, true, true, true, true, true, true, true, false, false, true, true, false, false, true, true, true, false, false, true, false, false, false, false, false] rfl rfl (any_of HT_.out (by kernel_rfl)) (fun _ _ _ h => h) (Or.inl ⟨by rfl, ?_⟩) ?_ ?_
                                                rotate_left
                                                · intro w'
                                                  go_simp
                                                  with_reducible rfl
                                                rotate_left
                                                · simp only [Act.put, List.setIfInBounds_toArray, List.set_cons_zero, List.set_cons_succ, i64_w, i32_w]
                                                  rfl
                                                refine take_ (i := 20) (N := some 103) (v := ?_) (a' := ?_) #[true, true, true, true, true, true, true, true, false, false, true, true, false, false, true, true, true, false, false, true, true, false, false, false, false] rfl rfl (take_ofW HT_.out HW_.out (by kernel_rfl)) (fun _ _ _ h => h) (Or.inl ⟨by rfl, ?_⟩) hHeld ?_ ?_
                                                rotate_left
                                                · rintro w' ⟨s0, s1, s2, s3, s4, s5, s6, s7, s8, s9, s10, s11, s12, s13, s14, s15, s16, s17, s18, s19⟩
                                                  go_simp
                                                  with_reducible rfl
                                                rotate_left
                                                · simp only [Act.put, List.setIfInBounds_toArray, List.set_cons_zero, List.set_cons_succ, i64_w, i32_w]
                                                  rfl
                                                refine pure_ (i := 21) (N := some 104) (v := ?_) (a' := ?_) #[true, true, true, true, true, true, true, true, false, false, true, true, false, false, true, true, true, false, false, true, true, true, false, false, false] rfl rfl (any_of HT_.out (by kernel_rfl)) (fun _ _ _ h => h) (Or.inl ⟨by rfl, ?_⟩) ?_ ?_
                                                rotate_left
                                                · intro w'
                                                  go_simp
                                                  with_reducible rfl
                                                rotate_left
                                                · simp only [Act.put, List.setIfInBounds_toArray, List.set_cons_zero, List.set_cons_succ, i64_w, i32_w]
                                                  rfl
                                                refine one_ (i := 8) (N := some 91) #[true, true, true, true, true, true, true, true, true, false, true, true, false, false, true, true, true, false, false, true, true, true, false, false, false] rfl rfl (one_of HT_.out (by kernel_rfl)) (by decide) (fun K hK => ?_)
                                                refine goes_ Try.func114 (by kernel_rfl) rfl #[.int .u64 (IntKind.u64.wrap ((rd_T82 l0_4 x6_3).f0))] (by rfl) rfl rfl (by (try simp only [List.map_toArray, List.map_cons, List.map_nil]); first | done | rfl | (simp only [List.length_drop, List.length_take]; rfl)) ?_
                                                with_reducible refine (freshetref02_PutUint.calls k3 (IntKind.u64.wrap ((rd_T82 l0_4 x6_3).f0)) t278 _ A40.out).mono ?_
                                                rintro e w62 ⟨rfl, hb⟩
                                                refine ⟨_, rfl, ?_⟩
                                                have n0_ := Aside0.mk (blk_below (g := gb264) (o := .cells #[.int .u64 a0_0, .int .u64 a0_1, .int .u64 a0_2, .slice A0_3 l0_3.length c0_3, .slice (some ad275) l0_4.length c0_4] 70 (0, 0)) (by (with_reducible repeat (first | refine blk_drewN ?_ _ | refine blk_drew ?_ | refine blk_alloc ?_ _)); exact BK264.out) hb)
                                                have n1_ := Aside0.mk (blk_below (g := gb276) (o := .cells #[.int .u64 ((rd_T82 l0_4 x6_3).f1.f0), .int .i64 ((rd_T82 l0_4 x6_3).f1.f1), .int .i64 ((rd_T82 l0_4 x6_3).f1.f2), .string ((rd_T82 l0_4 x6_3).f1.f3), .string ((rd_T82 l0_4 x6_3).f1.f4), .int .u64 ((rd_T82 l0_4 x6_3).f1.f5), .int .u64 ((rd_T82 l0_4 x6_3).f1.f6)] 58 (0, 0)) (by (with_reducible repeat (first | refine blk_drewN ?_ _ | refine blk_drew ?_ | refine blk_alloc ?_ _)); exact BK276.out) hb)
                                                have n2_ := Aside0.mk (below_step (by repeat (first | (with_reducible first | exact HB.out | apply below_alloc | apply pw_below_drewN | apply below_drew1 | refine below_set ?_ GE264.out | refine below_set ?_ GE276.out) | exact HB.out)) hb)
                                                clear BK264
                                                clear BK276
                                                clear HB
                                                have BK264 := n0_
                                                have BK276 := n1_
                                                have HB := n2_
                                                clear n0_ n1_ n2_
                                                (try clear hb)
                                                (try clear hb2)
                                                (try clear hk)
                                                (try clear hi)
                                                refine hK.out _ _ ⟨(blk_cell BK264.out 0).trans rfl, (blk_cell BK264.out 1).trans rfl, (blk_cell BK264.out 2).trans rfl, (blk_cell BK264.out 3).trans rfl, (blk_cell BK264.out 4).trans rfl, (blk_cell BK276.out 0).trans rfl, (blk_cell BK276.out 1).trans rfl, (blk_cell BK276.out 2).trans rfl, (blk_cell BK276.out 3).trans rfl, (blk_cell BK276.out 4).trans rfl, (blk_cell BK276.out 5).trans rfl, (blk_cell BK276.out 6).trans rfl, ((HB.out.cell (World.block_lt_of_cell? w _ hw277_0)).trans hw277_0), ((HB.out.cell (World.block_lt_of_cell? w _ hw277_1)).trans hw277_1), ((HB.out.cell (World.block_lt_of_cell? w _ hw277_2)).trans hw277_2), ((HB.out.cell (World.block_lt_of_cell? w _ hw277_3)).trans hw277_3), ((HB.out.cell (World.block_lt_of_cell? w _ hw277_4)).trans hw277_4), ((HB.out.cell (World.block_lt_of_cell? w _ hw277_5)).trans hw277_5), ((HB.out.cell (World.block_lt_of_cell? w _ hw277_6)).trans hw277_6), ((HB.out.cell (World.block_lt_of_cell? w _ hw277_7)).trans hw277_7)⟩ (fun hHeld => ?_)
                                                clear hK K
                                                refine norm_ (a' := ?_) ?_ ?_
                                                rotate_left
                                                · show Act.put _ (some 91) _ = _
                                                  simp only [Act.put, List.setIfInBounds_toArray, List.set_cons_zero, List.set_cons_succ, i64_w, i32_w]
                                                  rfl
                                                refine pure_ (i := 9) (N := some 92) (v := ?_) (a' := ?_) #[true, true, true, true, true, true, true, true, true, true, true, true, false, false, true, true, true, false, false, true, true, true, false, false, false] rfl rfl (any_of HT_.out (by kernel_rfl)) (fun _ _ _ h => h) (Or.inl ⟨by rfl, ?_⟩) ?_ ?_
                                                rotate_left
                                                · intro w'
                                                  go_simp
                                                  with_reducible rfl
                                                rotate_left
                                                · simp only [Act.put, List.setIfInBounds_toArray, List.set_cons_zero, List.set_cons_succ, i64_w, i32_w]
                                                  rfl
                                                refine one_ (i := 12) (N := some 95) #[true, true, true, true, true, true, true, true, true, true, true, true, true, false, true, true, true, false, false, true, true, true, false, false, false] rfl rfl (one_of HT_.out (by kernel_rfl)) (by decide) (fun K hK => ?_)
                                                refine goes_ Try.func114 (by kernel_rfl) rfl #[.int .u64 ((rd_T82 l0_4 x6_3).f1.f0)] (by rfl) rfl rfl (by (try simp only [List.map_toArray, List.map_cons, List.map_nil]); first | done | rfl | (simp only [List.length_drop, List.length_take]; rfl)) ?_
                                                with_reducible refine (freshetref02_PutUint.calls k3 ((rd_T82 l0_4 x6_3).f1.f0) t279 _ A42.out).mono ?_
                                                rintro e w63 ⟨rfl, hb⟩
                                                refine ⟨_, rfl, ?_⟩
                                                have n0_ := Aside0.mk (blk_below (g := gb264) (o := .cells #[.int .u64 a0_0, .int .u64 a0_1, .int .u64 a0_2, .slice A0_3 l0_3.length c0_3, .slice (some ad275) l0_4.length c0_4] 70 (0, 0)) (by (with_reducible repeat (first | refine blk_drewN ?_ _ | refine blk_drew ?_ | refine blk_alloc ?_ _)); exact BK264.out) hb)
                                                have n1_ := Aside0.mk (blk_below (g := gb276) (o := .cells #[.int .u64 ((rd_T82 l0_4 x6_3).f1.f0), .int .i64 ((rd_T82 l0_4 x6_3).f1.f1), .int .i64 ((rd_T82 l0_4 x6_3).f1.f2), .string ((rd_T82 l0_4 x6_3).f1.f3), .string ((rd_T82 l0_4 x6_3).f1.f4), .int .u64 ((rd_T82 l0_4 x6_3).f1.f5), .int .u64 ((rd_T82 l0_4 x6_3).f1.f6)] 58 (0, 0)) (by (with_reducible repeat (first | refine blk_drewN ?_ _ | refine blk_drew ?_ | refine blk_alloc ?_ _)); exact BK276.out) hb)
                                                have n2_ := Aside0.mk (below_step (by repeat (first | (with_reducible first | exact HB.out | apply below_alloc | apply pw_below_drewN | apply below_drew1 | refine below_set ?_ GE264.out | refine below_set ?_ GE276.out) | exact HB.out)) hb)
                                                clear BK264
                                                clear BK276
                                                clear HB
                                                have BK264 := n0_
                                                have BK276 := n1_
                                                have HB := n2_
                                                clear n0_ n1_ n2_
                                                (try clear hb)
                                                (try clear hb2)
                                                (try clear hk)
                                                (try clear hi)
                                                refine hK.out _ _ ⟨(blk_cell BK264.out 0).trans rfl, (blk_cell BK264.out 1).trans rfl, (blk_cell BK264.out 2).trans rfl, (blk_cell BK264.out 3).trans rfl, (blk_cell BK264.out 4).trans rfl, (blk_cell BK276.out 0).trans rfl, (blk_cell BK276.out 1).trans rfl, (blk_cell BK276.out 2).trans rfl, (blk_cell BK276.out 3).trans rfl, (blk_cell BK276.out 4).trans rfl, (blk_cell BK276.out 5).trans rfl, (blk_cell BK276.out 6).trans rfl, ((HB.out.cell (World.block_lt_of_cell? w _ hw277_0)).trans hw277_0), ((HB.out.cell (World.block_lt_of_cell? w _ hw277_1)).trans hw277_1), ((HB.out.cell (World.block_lt_of_cell? w _ hw277_2)).trans hw277_2), ((HB.out.cell (World.block_lt_of_cell? w _ hw277_3)).trans hw277_3), ((HB.out.cell (World.block_lt_of_cell? w _ hw277_4)).trans hw277_4), ((HB.out.cell (World.block_lt_of_cell? w _ hw277_5)).trans hw277_5), ((HB.out.cell (World.block_lt_of_cell? w _ hw277_6)).trans hw277_6), ((HB.out.cell (World.block_lt_of_cell? w _ hw277_7)).trans hw277_7)⟩ (fun hHeld => ?_)
                                                clear hK K
                                                refine norm_ (a' := ?_) ?_ ?_
                                                rotate_left
                                                · show Act.put _ (some 95) _ = _
                                                  simp only [Act.put, List.setIfInBounds_toArray, List.set_cons_zero, List.set_cons_succ, i64_w, i32_w]
                                                  rfl
                                                refine pure_ (i := 13) (N := some 96) (v := ?_) (a' := ?_) #[true, true, true, true, true, true, true, true, true, true, true, true, true, true, true, true, true, false, false, true, true, true, false, false, false] rfl rfl (any_of HT_.out (by kernel_rfl)) (fun _ _ _ h => h) (Or.inl ⟨by rfl, ?_⟩) ?_ ?_
                                                rotate_left
                                                · intro w'
                                                  go_simp
                                                  with_reducible rfl
                                                rotate_left
                                                · simp only [Act.put, List.setIfInBounds_toArray, List.set_cons_zero, List.set_cons_succ, i64_w, i32_w]
                                                  rfl
                                                refine one_ (i := 17) (N := some 100) #[true, true, true, true, true, true, true, true, true, true, true, true, true, true, true, true, true, true, false, true, true, true, false, false, false] rfl rfl (one_of HT_.out (by kernel_rfl)) (by decide) (fun K hK => ?_)
                                                refine goes_ Try.func114 (by kernel_rfl) rfl #[.int .u64 (IntKind.u64.wrap ((rd_T82 l0_4 x6_3).f1.f1))] (by rfl) rfl rfl (by (try simp only [List.map_toArray, List.map_cons, List.map_nil]); first | done | rfl | (simp only [List.length_drop, List.length_take]; rfl)) ?_
                                                with_reducible refine (freshetref02_PutUint.calls k3 (IntKind.u64.wrap ((rd_T82 l0_4 x6_3).f1.f1)) t280 _ A44.out).mono ?_
                                                rintro e w64 ⟨rfl, hb⟩
                                                refine ⟨_, rfl, ?_⟩
                                                have n0_ := Aside0.mk (blk_below (g := gb264) (o := .cells #[.int .u64 a0_0, .int .u64 a0_1, .int .u64 a0_2, .slice A0_3 l0_3.length c0_3, .slice (some ad275) l0_4.length c0_4] 70 (0, 0)) (by (with_reducible repeat (first | refine blk_drewN ?_ _ | refine blk_drew ?_ | refine blk_alloc ?_ _)); exact BK264.out) hb)
                                                have n1_ := Aside0.mk (blk_below (g := gb276) (o := .cells #[.int .u64 ((rd_T82 l0_4 x6_3).f1.f0), .int .i64 ((rd_T82 l0_4 x6_3).f1.f1), .int .i64 ((rd_T82 l0_4 x6_3).f1.f2), .string ((rd_T82 l0_4 x6_3).f1.f3), .string ((rd_T82 l0_4 x6_3).f1.f4), .int .u64 ((rd_T82 l0_4 x6_3).f1.f5), .int .u64 ((rd_T82 l0_4 x6_3).f1.f6)] 58 (0, 0)) (by (with_reducible repeat (first | refine blk_drewN ?_ _ | refine blk_drew ?_ | refine blk_alloc ?_ _)); exact BK276.out) hb)
                                                have n2_ := Aside0.mk (below_step (by repeat (first | (with_reducible first | exact HB.out | apply below_alloc | apply pw_below_drewN | apply below_drew1 | refine below_set ?_ GE264.out | refine below_set ?_ GE276.out) | exact HB.out)) hb)
                                                clear BK264
                                                clear BK276
                                                clear HB
                                                have BK264 := n0_
                                                have BK276 := n1_
                                                have HB := n2_
                                                clear n0_ n1_ n2_
                                                (try clear hb)
                                                (try clear hb2)
                                                (try clear hk)
                                                (try clear hi)
                                                refine hK.out _ _ ⟨(blk_cell BK264.out 0).trans rfl, (blk_cell BK264.out 1).trans rfl, (blk_cell BK264.out 2).trans rfl, (blk_cell BK264.out 3).trans rfl, (blk_cell BK264.out 4).trans rfl, (blk_cell BK276.out 0).trans rfl, (blk_cell BK276.out 1).trans rfl, (blk_cell BK276.out 2).trans rfl, (blk_cell BK276.out 3).trans rfl, (blk_cell BK276.out 4).trans rfl, (blk_cell BK276.out 5).trans rfl, (blk_cell BK276.out 6).trans rfl, ((HB.out.cell (World.block_lt_of_cell? w _ hw277_0)).trans hw277_0), ((HB.out.cell (World.block_lt_of_cell? w _ hw277_1)).trans hw277_1), ((HB.out.cell (World.block_lt_of_cell? w _ hw277_2)).trans hw277_2), ((HB.out.cell (World.block_lt_of_cell? w _ hw277_3)).trans hw277_3), ((HB.out.cell (World.block_lt_of_cell? w _ hw277_4)).trans hw277_4), ((HB.out.cell (World.block_lt_of_cell? w _ hw277_5)).trans hw277_5), ((HB.out.cell (World.block_lt_of_cell? w _ hw277_6)).trans hw277_6), ((HB.out.cell (World.block_lt_of_cell? w _ hw277_7)).trans hw277_7)⟩ (fun hHeld => ?_)
                                                clear hK K
                                                refine norm_ (a' := ?_) ?_ ?_
                                                rotate_left
                                                · show Act.put _ (some 100) _ = _
                                                  simp only [Act.put, List.setIfInBounds_toArray, List.set_cons_zero, List.set_cons_succ, i64_w, i32_w]
                                                  rfl
                                                refine pure_ (i := 18) (N := some 101) (v := ?_) (a' := ?_) #[true, true, true, true, true, true, true, true, true, true, true, true, true, true, true, true, true, true, true, true, true, true, false, false, false] rfl rfl (any_of HT_.out (by kernel_rfl)) (fun _ _ _ h => h) (Or.inl ⟨by rfl, ?_⟩) ?_ ?_
                                                rotate_left
                                                · intro w'
                                                  go_simp
                                                  with_reducible rfl
                                                rotate_left
                                                · simp only [Act.put, List.setIfInBounds_toArray, List.set_cons_zero, List.set_cons_succ, i64_w, i32_w]
                                                  rfl
                                                refine one_ (i := 22) (N := some 105) #[true, true, true, true, true, true, true, true, true, true, true, true, true, true, true, true, true, true, true, true, true, true, true, false, false] rfl rfl (one_of HT_.out (by kernel_rfl)) (by decide) (fun K hK => ?_)
                                                refine goes_ Try.func114 (by kernel_rfl) rfl #[.int .u64 (IntKind.u64.wrap ((rd_T82 l0_4 x6_3).f1.f2))] (by rfl) rfl rfl (by (try simp only [List.map_toArray, List.map_cons, List.map_nil]); first | done | rfl | (simp only [List.length_drop, List.length_take]; rfl)) ?_
                                                with_reducible refine (freshetref02_PutUint.calls k3 (IntKind.u64.wrap ((rd_T82 l0_4 x6_3).f1.f2)) t281 _ A46.out).mono ?_
                                                rintro e w65 ⟨rfl, hb⟩
                                                refine ⟨_, rfl, ?_⟩
                                                have n0_ := Aside0.mk (blk_below (g := gb264) (o := .cells #[.int .u64 a0_0, .int .u64 a0_1, .int .u64 a0_2, .slice A0_3 l0_3.length c0_3, .slice (some ad275) l0_4.length c0_4] 70 (0, 0)) (by (with_reducible repeat (first | refine blk_drewN ?_ _ | refine blk_drew ?_ | refine blk_alloc ?_ _)); exact BK264.out) hb)
                                                have n1_ := Aside0.mk (blk_below (g := gb276) (o := .cells #[.int .u64 ((rd_T82 l0_4 x6_3).f1.f0), .int .i64 ((rd_T82 l0_4 x6_3).f1.f1), .int .i64 ((rd_T82 l0_4 x6_3).f1.f2), .string ((rd_T82 l0_4 x6_3).f1.f3), .string ((rd_T82 l0_4 x6_3).f1.f4), .int .u64 ((rd_T82 l0_4 x6_3).f1.f5), .int .u64 ((rd_T82 l0_4 x6_3).f1.f6)] 58 (0, 0)) (by (with_reducible repeat (first | refine blk_drewN ?_ _ | refine blk_drew ?_ | refine blk_alloc ?_ _)); exact BK276.out) hb)
                                                have n2_ := Aside0.mk (below_step (by repeat (first | (with_reducible first | exact HB.out | apply below_alloc | apply pw_below_drewN | apply below_drew1 | refine below_set ?_ GE264.out | refine below_set ?_ GE276.out) | exact HB.out)) hb)
                                                clear BK264
                                                clear BK276
                                                clear HB
                                                have BK264 := n0_
                                                have BK276 := n1_
                                                have HB := n2_
                                                clear n0_ n1_ n2_
                                                (try clear hb)
                                                (try clear hb2)
                                                (try clear hk)
                                                (try clear hi)
                                                refine hK.out _ _ ⟨(blk_cell BK264.out 0).trans rfl, (blk_cell BK264.out 1).trans rfl, (blk_cell BK264.out 2).trans rfl, (blk_cell BK264.out 3).trans rfl, (blk_cell BK264.out 4).trans rfl, (blk_cell BK276.out 0).trans rfl, (blk_cell BK276.out 1).trans rfl, (blk_cell BK276.out 2).trans rfl, (blk_cell BK276.out 3).trans rfl, (blk_cell BK276.out 4).trans rfl, (blk_cell BK276.out 5).trans rfl, (blk_cell BK276.out 6).trans rfl, ((HB.out.cell (World.block_lt_of_cell? w _ hw277_0)).trans hw277_0), ((HB.out.cell (World.block_lt_of_cell? w _ hw277_1)).trans hw277_1), ((HB.out.cell (World.block_lt_of_cell? w _ hw277_2)).trans hw277_2), ((HB.out.cell (World.block_lt_of_cell? w _ hw277_3)).trans hw277_3), ((HB.out.cell (World.block_lt_of_cell? w _ hw277_4)).trans hw277_4), ((HB.out.cell (World.block_lt_of_cell? w _ hw277_5)).trans hw277_5), ((HB.out.cell (World.block_lt_of_cell? w _ hw277_6)).trans hw277_6), ((HB.out.cell (World.block_lt_of_cell? w _ hw277_7)).trans hw277_7)⟩ (fun hHeld => ?_)
                                                clear hK K
                                                refine norm_ (a' := ?_) ?_ ?_
                                                rotate_left
                                                · show Act.put _ (some 105) _ = _
                                                  simp only [Act.put, List.setIfInBounds_toArray, List.set_cons_zero, List.set_cons_succ, i64_w, i32_w]
                                                  rfl
                                                refine pure_ (i := 23) (N := some 106) (v := ?_) (a' := ?_) #[true, true, true, true, true, true, true, true, true, true, true, true, true, true, true, true, true, true, true, true, true, true, true, true, false] rfl rfl (any_of HT_.out (by kernel_rfl)) (fun _ _ _ h => h) (Or.inl ⟨by rfl, ?_⟩) ?_ ?_
                                                rotate_left
                                                · intro w'
                                                  go_simp
                                                  with_reducible rfl
                                                rotate_left
                                                · simp only [Act.put, List.setIfInBounds_toArray, List.set_cons_zero, List.set_cons_succ, i64_w, i32_w]
                                                  rfl
                                                refine pure_ (i := 24) (N := some 4) (v := ?_) (a' := ?_) #[true, true, true, true, true, true, true, true, true, true, true, true, true, true, true, true, true, true, true, true, true, true, true, true, true] rfl rfl (any_of HT_.out (by kernel_rfl)) (fun _ _ _ h => h) (Or.inl ⟨by rfl, ?_⟩) ?_ ?_
                                                rotate_left
                                                · intro w'
                                                  go_simp
                                                  with_reducible rfl
                                                rotate_left
                                                · simp only [Act.put, List.setIfInBounds_toArray, List.set_cons_zero, List.set_cons_succ, i64_w, i32_w]
                                                  rfl
                                                refine done_ (done_of HT_.out (by kernel_rfl)) ?_
                                                try go_wp2
                                                have n0_ := Aside0.mk (blk_drew BK264.out)
                                                have n1_ := Aside0.mk (blk_drew BK276.out)
                                                have n2_ := Aside0.mk (below_drew1 HB.out)
                                                clear BK264
                                                clear BK276
                                                clear HB
                                                have BK264 := n0_
                                                have BK276 := n1_
                                                have HB := n2_
                                                clear n0_ n1_ n2_
                                                refine start_ (n := 18) (S := fun w' => w'.cell? ⟨gb276, 0, none⟩ = some (.int .u64 ((rd_T82 l0_4 x6_3).f1.f0)) ∧ w'.cell? ⟨gb276, 1, none⟩ = some (.int .i64 ((rd_T82 l0_4 x6_3).f1.f1)) ∧ w'.cell? ⟨gb276, 2, none⟩ = some (.int .i64 ((rd_T82 l0_4 x6_3).f1.f2)) ∧ w'.cell? ⟨gb276, 3, none⟩ = some (.string ((rd_T82 l0_4 x6_3).f1.f3)) ∧ w'.cell? ⟨gb276, 4, none⟩ = some (.string ((rd_T82 l0_4 x6_3).f1.f4)) ∧ w'.cell? ⟨gb276, 5, none⟩ = some (.int .u64 ((rd_T82 l0_4 x6_3).f1.f5)) ∧ w'.cell? ⟨gb276, 6, none⟩ = some (.int .u64 ((rd_T82 l0_4 x6_3).f1.f6))) (ds := []) #[false, false, false, false, false, false, false, false, false, false, false, false, false, false, false, false, false, false] (by kernel_rfl) rfl rfl ⟨(blk_cell BK276.out 0).trans rfl, (blk_cell BK276.out 1).trans rfl, (blk_cell BK276.out 2).trans rfl, (blk_cell BK276.out 3).trans rfl, (blk_cell BK276.out 4).trans rfl, (blk_cell BK276.out 5).trans rfl, (blk_cell BK276.out 6).trans rfl⟩ (fun hHeld => ?_); refine with_tabW freshetref14_Encode.tab16 freshetref14_Encode.bits16 (fun HT_ HW_ => ?_)
                                                generalize w65.drew = w66 at BK264 BK276 HB hHeld ⊢
                                                refine pure_ (i := 0) (N := some 107) (v := ?_) (a' := ?_) #[true, false, false, false, false, false, false, false, false, false, false, false, false, false, false, false, false, false] rfl rfl (any_of HT_.out (by kernel_rfl)) (fun _ _ _ h => h) (Or.inl ⟨by rfl, ?_⟩) ?_ ?_
                                                rotate_left
                                                · intro w'
                                                  go_simp
                                                  with_reducible rfl
                                                rotate_left
                                                · simp only [Act.put, List.setIfInBounds_toArray, List.set_cons_zero, List.set_cons_succ, i64_w, i32_w]
                                                  rfl
                                                refine pure_ (i := 1) (N := some 108) (v := ?_) (a' := ?_) #[true, true, false, false, false, false, false, false, false, false, false, false, false, false, false, false, false, false] rfl rfl (any_of HT_.out (by kernel_rfl)) (fun _ _ _ h => h) (Or.inl ⟨by rfl, ?_⟩) ?_ ?_
                                                rotate_left
                                                · intro w'
                                                  go_simp
                                                  with_reducible rfl
                                                rotate_left
                                                · simp only [Act.put, List.setIfInBounds_toArray, List.set_cons_zero, List.set_cons_succ, i64_w, i32_w]
                                                  rfl
                                                refine pure_ (i := 5) (N := some 112) (v := ?_) (a' := ?_) #[true, true, false, false, false, true, false, false, false, false, false, false, false, false, false, false, false, false] rfl rfl (any_of HT_.out (by kernel_rfl)) (fun _ _ _ h => h) (Or.inl ⟨by rfl, ?_⟩) ?_ ?_
                                                rotate_left
                                                · intro w'
                                                  go_simp
                                                  with_reducible rfl
                                                rotate_left
                                                · simp only [Act.put, List.setIfInBounds_toArray, List.set_cons_zero, List.set_cons_succ, i64_w, i32_w]
                                                  rfl
                                                refine pure_ (i := 9) (N := some 116) (v := ?_) (a' := ?_) #[true, true, false, false, false, true, false, false, false, true, false, false, false, false, false, false, false, false] rfl rfl (any_of HT_.out (by kernel_rfl)) (fun _ _ _ h => h) (Or.inl ⟨by rfl, ?_⟩) ?_ ?_
                                                rotate_left
                                                · intro w'
                                                  go_simp
                                                  with_reducible rfl
                                                rotate_left
                                                · simp only [Act.put, List.setIfInBounds_toArray, List.set_cons_zero, List.set_cons_succ, i64_w, i32_w]
                                                  rfl
                                                refine pure_ (i := 13) (N := some 120) (v := ?_) (a' := ?_) #[true, true, false, false, false, true, false, false, false, true, false, false, false, true, false, false, false, false] rfl rfl (any_of HT_.out (by kernel_rfl)) (fun _ _ _ h => h) (Or.inl ⟨by rfl, ?_⟩) ?_ ?_
                                                rotate_left
                                                · intro w'
                                                  go_simp
                                                  with_reducible rfl
                                                rotate_left
                                                · simp only [Act.put, List.setIfInBounds_toArray, List.set_cons_zero, List.set_cons_succ, i64_w, i32_w]
                                                  rfl
                                                refine take_ (i := 2) (N := some 109) (v := ?_) (a' := ?_) #[true, true, true, false, false, true, false, false, false, true, false, false, false, true, false, false, false, false] rfl rfl (take_ofW HT_.out HW_.out (by kernel_rfl)) (fun _ _ _ h => h) (Or.inl ⟨by rfl, ?_⟩) hHeld ?_ ?_
                                                rotate_left
                                                · rintro w' ⟨s0, s1, s2, s3, s4, s5, s6⟩
                                                  go_simp
                                                  with_reducible rfl
                                                rotate_left
                                                · simp only [Act.put, List.setIfInBounds_toArray, List.set_cons_zero, List.set_cons_succ, i64_w, i32_w]
                                                  rfl
                                                refine take_ (i := 6) (N := some 113) (v := ?_) (a' := ?_) #[true, true, true, false, false, true, true, false, false, true, false, false, false, true, false, false, false, false] rfl rfl (take_ofW HT_.out HW_.out (by kernel_rfl)) (fun _ _ _ h => h) (Or.inl ⟨by rfl, ?_⟩) hHeld ?_ ?_
                                                rotate_left
                                                · rintro w' ⟨s0, s1, s2, s3, s4, s5, s6⟩
                                                  go_simp
                                                  with_reducible rfl
                                                rotate_left
                                                · simp only [Act.put, List.setIfInBounds_toArray, List.set_cons_zero, List.set_cons_succ, i64_w, i32_w]
                                                  rfl
                                                refine take_ (i := 10) (N := some 117) (v := ?_) (a' := ?_) #[true, true, true, false, false, true, true, false, false, true, true, false, false, true, false, false, false, false] rfl rfl (take_ofW HT_.out HW_.out (by kernel_rfl)) (fun _ _ _ h => h) (Or.inl ⟨by rfl, ?_⟩) hHeld ?_ ?_
                                                rotate_left
                                                · rintro w' ⟨s0, s1, s2, s3, s4, s5, s6⟩
                                                  go_simp
                                                  with_reducible rfl
                                                rotate_left
                                                · simp only [Act.put, List.setIfInBounds_toArray, List.set_cons_zero, List.set_cons_succ, i64_w, i32_w]
                                                  rfl
                                                refine take_ (i := 14) (N := some 121) (v := ?_) (a' := ?_) #[true, true, true, false, false, true, true, false, false, true, true, false, false, true, true, false, false, false] rfl rfl (take_ofW HT_.out HW_.out (by kernel_rfl)) (fun _ _ _ h => h) (Or.inl ⟨by rfl, ?_⟩) hHeld ?_ ?_
                                                rotate_left
                                                · rintro w' ⟨s0, s1, s2, s3, s4, s5, s6⟩
                                                  go_simp
                                                  with_reducible rfl
                                                rotate_left
                                                · simp only [Act.put, List.setIfInBounds_toArray, List.set_cons_zero, List.set_cons_succ, i64_w, i32_w]
                                                  rfl
                                                refine one_ (i := 3) (N := some 110) #[true, true, true, true, false, true, true, false, false, true, true, false, false, true, true, false, false, false] rfl rfl (one_of HT_.out (by kernel_rfl)) (by decide) (fun K hK => ?_)
                                                refine goes_ Try.func115 (by kernel_rfl) rfl #[.string ((rd_T82 l0_4 x6_3).f1.f3)] (by rfl) rfl rfl (by (try simp only [List.map_toArray, List.map_cons, List.map_nil]); first | done | rfl | (simp only [List.length_drop, List.length_take]; rfl)) ?_
                                                with_reducible refine (freshetref02_PutField.calls k3 ((rd_T82 l0_4 x6_3).f1.f3) t282 _ A48.out).mono ?_
                                                rintro e w67 ⟨rfl, hb⟩
                                                refine ⟨_, rfl, ?_⟩
                                                have n0_ := Aside0.mk (blk_below (g := gb264) (o := .cells #[.int .u64 a0_0, .int .u64 a0_1, .int .u64 a0_2, .slice A0_3 l0_3.length c0_3, .slice (some ad275) l0_4.length c0_4] 70 (0, 0)) (by (with_reducible repeat (first | refine blk_drewN ?_ _ | refine blk_drew ?_ | refine blk_alloc ?_ _)); exact BK264.out) hb)
                                                have n1_ := Aside0.mk (blk_below (g := gb276) (o := .cells #[.int .u64 ((rd_T82 l0_4 x6_3).f1.f0), .int .i64 ((rd_T82 l0_4 x6_3).f1.f1), .int .i64 ((rd_T82 l0_4 x6_3).f1.f2), .string ((rd_T82 l0_4 x6_3).f1.f3), .string ((rd_T82 l0_4 x6_3).f1.f4), .int .u64 ((rd_T82 l0_4 x6_3).f1.f5), .int .u64 ((rd_T82 l0_4 x6_3).f1.f6)] 58 (0, 0)) (by (with_reducible repeat (first | refine blk_drewN ?_ _ | refine blk_drew ?_ | refine blk_alloc ?_ _)); exact BK276.out) hb)
                                                have n2_ := Aside0.mk (below_step (by repeat (first | (with_reducible first | exact HB.out | apply below_alloc | apply pw_below_drewN | apply below_drew1 | refine below_set ?_ GE264.out | refine below_set ?_ GE276.out) | exact HB.out)) hb)
                                                clear BK264
                                                clear BK276
                                                clear HB
                                                have BK264 := n0_
                                                have BK276 := n1_
                                                have HB := n2_
                                                clear n0_ n1_ n2_
                                                (try clear hb)
                                                (try clear hb2)
                                                (try clear hk)
                                                (try clear hi)
                                                refine hK.out _ _ ⟨(blk_cell BK276.out 0).trans rfl, (blk_cell BK276.out 1).trans rfl, (blk_cell BK276.out 2).trans rfl, (blk_cell BK276.out 3).trans rfl, (blk_cell BK276.out 4).trans rfl, (blk_cell BK276.out 5).trans rfl, (blk_cell BK276.out 6).trans rfl⟩ (fun hHeld => ?_)
                                                clear hK K
                                                refine norm_ (a' := ?_) ?_ ?_
                                                rotate_left
                                                · show Act.put _ (some 110) _ = _
                                                  simp only [Act.put, List.setIfInBounds_toArray, List.set_cons_zero, List.set_cons_succ, i64_w, i32_w]
                                                  rfl
                                                refine pure_ (i := 4) (N := some 111) (v := ?_) (a' := ?_) #[true, true, true, true, true, true, true, false, false, true, true, false, false, true, true, false, false, false] rfl rfl (any_of HT_.out (by kernel_rfl)) (fun _ _ _ h => h) (Or.inl ⟨by rfl, ?_⟩) ?_ ?_
                                                rotate_left
                                                · intro w'
                                                  go_simp
                                                  with_reducible rfl
                                                rotate_left
                                                · simp only [Act.put, List.setIfInBounds_toArray, List.set_cons_zero, List.set_cons_succ, i64_w, i32_w]
                                                  rfl
                                                refine one_ (i := 7) (N := some 114) #[true, true, true, true, true, true, true, true, false, true, true, false, false, true, true, false, false, false] rfl rfl (one_of HT_.out (by kernel_rfl)) (by decide) (fun K hK => ?_)
                                                refine goes_ Try.func115 (by kernel_rfl) rfl #[.string ((rd_T82 l0_4 x6_3).f1.f4)] (by rfl) rfl rfl (by (try simp only [List.map_toArray, List.map_cons, List.map_nil]); first | done | rfl | (simp only [List.length_drop, List.length_take]; rfl)) ?_
                                                with_reducible refine (freshetref02_PutField.calls k3 ((rd_T82 l0_4 x6_3).f1.f4) t283 _ A50.out).mono ?_
                                                rintro e w68 ⟨rfl, hb⟩
                                                refine ⟨_, rfl, ?_⟩
                                                have n0_ := Aside0.mk (blk_below (g := gb264) (o := .cells #[.int .u64 a0_0, .int .u64 a0_1, .int .u64 a0_2, .slice A0_3 l0_3.length c0_3, .slice (some ad275) l0_4.length c0_4] 70 (0, 0)) (by (with_reducible repeat (first | refine blk_drewN ?_ _ | refine blk_drew ?_ | refine blk_alloc ?_ _)); exact BK264.out) hb)
                                                have n1_ := Aside0.mk (blk_below (g := gb276) (o := .cells #[.int .u64 ((rd_T82 l0_4 x6_3).f1.f0), .int .i64 ((rd_T82 l0_4 x6_3).f1.f1), .int .i64 ((rd_T82 l0_4 x6_3).f1.f2), .string ((rd_T82 l0_4 x6_3).f1.f3), .string ((rd_T82 l0_4 x6_3).f1.f4), .int .u64 ((rd_T82 l0_4 x6_3).f1.f5), .int .u64 ((rd_T82 l0_4 x6_3).f1.f6)] 58 (0, 0)) (by (with_reducible repeat (first | refine blk_drewN ?_ _ | refine blk_drew ?_ | refine blk_alloc ?_ _)); exact BK276.out) hb)
                                                have n2_ := Aside0.mk (below_step (by repeat (first | (with_reducible first | exact HB.out | apply below_alloc | apply pw_below_drewN | apply below_drew1 | refine below_set ?_ GE264.out | refine below_set ?_ GE276.out) | exact HB.out)) hb)
                                                clear BK264
                                                clear BK276
                                                clear HB
                                                have BK264 := n0_
                                                have BK276 := n1_
                                                have HB := n2_
                                                clear n0_ n1_ n2_
                                                (try clear hb)
                                                (try clear hb2)
                                                (try clear hk)
                                                (try clear hi)
                                                refine hK.out _ _ ⟨(blk_cell BK276.out 0).trans rfl, (blk_cell BK276.out 1).trans rfl, (blk_cell BK276.out 2).trans rfl, (blk_cell BK276.out 3).trans rfl, (blk_cell BK276.out 4).trans rfl, (blk_cell BK276.out 5).trans rfl, (blk_cell BK276.out 6).trans rfl⟩ (fun hHeld => ?_)
                                                clear hK K
                                                refine norm_ (a' := ?_) ?_ ?_
                                                rotate_left
                                                · show Act.put _ (some 114) _ = _
                                                  simp only [Act.put, List.setIfInBounds_toArray, List.set_cons_zero, List.set_cons_succ, i64_w, i32_w]
                                                  rfl
                                                refine pure_ (i := 8) (N := some 115) (v := ?_) (a' := ?_) #[true, true, true, true, true, true, true, true, true, true, true, false, false, true, true, false, false, false] rfl rfl (any_of HT_.out (by kernel_rfl)) (fun _ _ _ h => h) (Or.inl ⟨by rfl, ?_⟩) ?_ ?_
                                                rotate_left
                                                · intro w'
                                                  go_simp
                                                  with_reducible rfl
                                                rotate_left
                                                · simp only [Act.put, List.setIfInBounds_toArray, List.set_cons_zero, List.set_cons_succ, i64_w, i32_w]
                                                  rfl
                                                refine one_ (i := 11) (N := some 118) #[true, true, true, true, true, true, true, true, true, true, true, true, false, true, true, false, false, false] rfl rfl (one_of HT_.out (by kernel_rfl)) (by decide) (fun K hK => ?_)
                                                refine goes_ Try.func114 (by kernel_rfl) rfl #[.int .u64 ((rd_T82 l0_4 x6_3).f1.f5)] (by rfl) rfl rfl (by (try simp only [List.map_toArray, List.map_cons, List.map_nil]); first | done | rfl | (simp only [List.length_drop, List.length_take]; rfl)) ?_
                                                with_reducible refine (freshetref02_PutUint.calls k3 ((rd_T82 l0_4 x6_3).f1.f5) t284 _ A52.out).mono ?_
                                                rintro e w69 ⟨rfl, hb⟩
                                                refine ⟨_, rfl, ?_⟩
                                                have n0_ := Aside0.mk (blk_below (g := gb264) (o := .cells #[.int .u64 a0_0, .int .u64 a0_1, .int .u64 a0_2, .slice A0_3 l0_3.length c0_3, .slice (some ad275) l0_4.length c0_4] 70 (0, 0)) (by (with_reducible repeat (first | refine blk_drewN ?_ _ | refine blk_drew ?_ | refine blk_alloc ?_ _)); exact BK264.out) hb)
                                                have n1_ := Aside0.mk (blk_below (g := gb276) (o := .cells #[.int .u64 ((rd_T82 l0_4 x6_3).f1.f0), .int .i64 ((rd_T82 l0_4 x6_3).f1.f1), .int .i64 ((rd_T82 l0_4 x6_3).f1.f2), .string ((rd_T82 l0_4 x6_3).f1.f3), .string ((rd_T82 l0_4 x6_3).f1.f4), .int .u64 ((rd_T82 l0_4 x6_3).f1.f5), .int .u64 ((rd_T82 l0_4 x6_3).f1.f6)] 58 (0, 0)) (by (with_reducible repeat (first | refine blk_drewN ?_ _ | refine blk_drew ?_ | refine blk_alloc ?_ _)); exact BK276.out) hb)
                                                have n2_ := Aside0.mk (below_step (by repeat (first | (with_reducible first | exact HB.out | apply below_alloc | apply pw_below_drewN | apply below_drew1 | refine below_set ?_ GE264.out | refine below_set ?_ GE276.out) | exact HB.out)) hb)
                                                clear BK264
                                                clear BK276
                                                clear HB
                                                have BK264 := n0_
                                                have BK276 := n1_
                                                have HB := n2_
                                                clear n0_ n1_ n2_
                                                (try clear hb)
                                                (try clear hb2)
                                                (try clear hk)
                                                (try clear hi)
                                                refine hK.out _ _ ⟨(blk_cell BK276.out 0).trans rfl, (blk_cell BK276.out 1).trans rfl, (blk_cell BK276.out 2).trans rfl, (blk_cell BK276.out 3).trans rfl, (blk_cell BK276.out 4).trans rfl, (blk_cell BK276.out 5).trans rfl, (blk_cell BK276.out 6).trans rfl⟩ (fun hHeld => ?_)
                                                clear hK K
                                                refine norm_ (a' := ?_) ?_ ?_
                                                rotate_left
                                                · show Act.put _ (some 118) _ = _
                                                  simp only [Act.put, List.setIfInBounds_toArray, List.set_cons_zero, List.set_cons_succ, i64_w, i32_w]
                                                  rfl
                                                refine pure_ (i := 12) (N := some 119) (v := ?_) (a' := ?_) #[true, true, true, true, true, true, true, true, true, true, true, true, true, true, true, false, false, false] rfl rfl (any_of HT_.out (by kernel_rfl)) (fun _ _ _ h => h) (Or.inl ⟨by rfl, ?_⟩) ?_ ?_
                                                rotate_left
                                                · intro w'
                                                  go_simp
                                                  with_reducible rfl
                                                rotate_left
                                                · simp only [Act.put, List.setIfInBounds_toArray, List.set_cons_zero, List.set_cons_succ, i64_w, i32_w]
                                                  rfl
                                                refine one_ (i := 15) (N := some 122) #[true, true, true, true, true, true, true, true, true, true, true, true, true, true, true, true, false, false] rfl rfl (one_of HT_.out (by kernel_rfl)) (by decide) (fun K hK => ?_)
                                                refine goes_ Try.func114 (by kernel_rfl) rfl #[.int .u64 ((rd_T82 l0_4 x6_3).f1.f6)] (by rfl) rfl rfl (by (try simp only [List.map_toArray, List.map_cons, List.map_nil]); first | done | rfl | (simp only [List.length_drop, List.length_take]; rfl)) ?_
                                                with_reducible refine (freshetref02_PutUint.calls k3 ((rd_T82 l0_4 x6_3).f1.f6) t285 _ A54.out).mono ?_
                                                rintro e w70 ⟨rfl, hb⟩
                                                refine ⟨_, rfl, ?_⟩
                                                have n0_ := Aside0.mk (blk_below (g := gb264) (o := .cells #[.int .u64 a0_0, .int .u64 a0_1, .int .u64 a0_2, .slice A0_3 l0_3.length c0_3, .slice (some ad275) l0_4.length c0_4] 70 (0, 0)) (by (with_reducible repeat (first | refine blk_drewN ?_ _ | refine blk_drew ?_ | refine blk_alloc ?_ _)); exact BK264.out) hb)
                                                have n1_ := Aside0.mk (blk_below (g := gb276) (o := .cells #[.int .u64 ((rd_T82 l0_4 x6_3).f1.f0), .int .i64 ((rd_T82 l0_4 x6_3).f1.f1), .int .i64 ((rd_T82 l0_4 x6_3).f1.f2), .string ((rd_T82 l0_4 x6_3).f1.f3), .string ((rd_T82 l0_4 x6_3).f1.f4), .int .u64 ((rd_T82 l0_4 x6_3).f1.f5), .int .u64 ((rd_T82 l0_4 x6_3).f1.f6)] 58 (0, 0)) (by (with_reducible repeat (first | refine blk_drewN ?_ _ | refine blk_drew ?_ | refine blk_alloc ?_ _)); exact BK276.out) hb)
                                                have n2_ := Aside0.mk (below_step (by repeat (first | (with_reducible first | exact HB.out | apply below_alloc | apply pw_below_drewN | apply below_drew1 | refine below_set ?_ GE264.out | refine below_set ?_ GE276.out) | exact HB.out)) hb)
                                                clear BK264
                                                clear BK276
                                                clear HB
                                                have BK264 := n0_
                                                have BK276 := n1_
                                                have HB := n2_
                                                clear n0_ n1_ n2_
                                                (try clear hb)
                                                (try clear hb2)
                                                (try clear hk)
                                                (try clear hi)
                                                refine hK.out _ _ ⟨(blk_cell BK276.out 0).trans rfl, (blk_cell BK276.out 1).trans rfl, (blk_cell BK276.out 2).trans rfl, (blk_cell BK276.out 3).trans rfl, (blk_cell BK276.out 4).trans rfl, (blk_cell BK276.out 5).trans rfl, (blk_cell BK276.out 6).trans rfl⟩ (fun hHeld => ?_)
                                                clear hK K
                                                refine norm_ (a' := ?_) ?_ ?_
                                                rotate_left
                                                · show Act.put _ (some 122) _ = _
                                                  simp only [Act.put, List.setIfInBounds_toArray, List.set_cons_zero, List.set_cons_succ, i64_w, i32_w]
                                                  rfl
                                                refine pure_ (i := 16) (N := some 123) (v := ?_) (a' := ?_) #[true, true, true, true, true, true, true, true, true, true, true, true, true, true, true, true, true, false] rfl rfl (any_of HT_.out (by kernel_rfl)) (fun _ _ _ h => h) (Or.inl ⟨by rfl, ?_⟩) ?_ ?_
                                                rotate_left
                                                · intro w'
                                                  go_simp
                                                  with_reducible rfl
                                                rotate_left
                                                · simp only [Act.put, List.setIfInBounds_toArray, List.set_cons_zero, List.set_cons_succ, i64_w, i32_w]
                                                  rfl
                                                refine pure_ (i := 17) (N := some 4) (v := ?_) (a' := ?_) #[true, true, true, true, true, true, true, true, true, true, true, true, true, true, true, true, true, true] rfl rfl (any_of HT_.out (by kernel_rfl)) (fun _ _ _ h => h) (Or.inl ⟨by rfl, ?_⟩) ?_ ?_
                                                rotate_left
                                                · intro w'
                                                  go_simp
                                                  with_reducible rfl
                                                rotate_left
                                                · simp only [Act.put, List.setIfInBounds_toArray, List.set_cons_zero, List.set_cons_succ, i64_w, i32_w]
                                                  rfl
                                                refine done_ (done_of HT_.out (by kernel_rfl)) ?_
                                                try go_wp2
                                                go_roundg k3
                                                case measure => have := HJ3.out; have := HK2.out; have := HK3.out; omega
                                                case rel => exact ⟨((((((((x4_3 ++ t278) ++ t279) ++ t280) ++ t281) ++ t282) ++ t283) ++ t284) ++ t285), (wrap64 (x6_3 + 1)), (by first | rfl | (simp; done) | (simp [*]; done) | (simp; exact H.isEmpty_bne _)), (by first | rfl | (simp; done) | (simp [*]; done) | (simp; exact H.isEmpty_bne _)), H', ⟨by have := HJ3.out; have := HK2.out; have := HK3.out; omega⟩, ⟨by (with_reducible repeat (first | refine blk_drewN ?_ _ | refine blk_drew ?_ | refine blk_alloc ?_ _)); exact BK264.out⟩, ⟨by repeat (first | (with_reducible first | exact HB.out | apply below_alloc | apply pw_below_drewN | apply below_drew1 | refine below_set ?_ GE264.out | refine below_set ?_ GE276.out) | exact HB.out)⟩⟩
                                              · rw [if_neg c55] at H
                                                exact absurd H (by simp)
                                            · rw [if_neg c53] at H
                                              exact absurd H (by simp)
                                          · rw [if_neg c51] at H
                                            exact absurd H (by simp)
                                        · rw [if_neg c49] at H
                                          exact absurd H (by simp)
                                      · rw [if_neg c47] at H
                                        exact absurd H (by simp)
                                    · rw [if_neg c45] at H
                                      exact absurd H (by simp)
                                  · rw [if_neg c43] at H
                                    exact absurd H (by simp)
                                · rw [if_neg c41] at H
                                  exact absurd H (by simp)
                              · rw [if_neg c39] at H
                                exact absurd H (by simp)
                            · rw [if_neg c38] at H
                              have c38b0 : decide (x6_3 < (l0_4.length : Int)) = false := decide_eq_false c38
                              clear c38
                              simp only [Option.some.injEq, Prod.mk.injEq] at H
                              obtain ⟨rfl, rfl⟩ := H
                              have hcz71_0 : wr.cell? ⟨gb264, 0, none⟩ = some (.int .u64 a0_0) := (blk_cell BK264.out 0).trans rfl
                              have hcz71_1 : wr.cell? ⟨gb264, 1, none⟩ = some (.int .u64 a0_1) := (blk_cell BK264.out 1).trans rfl
                              have hcz71_2 : wr.cell? ⟨gb264, 2, none⟩ = some (.int .u64 a0_2) := (blk_cell BK264.out 2).trans rfl
                              have hcz71_3 : wr.cell? ⟨gb264, 3, none⟩ = some (.slice A0_3 l0_3.length c0_3) := (blk_cell BK264.out 3).trans rfl
                              have hcz71_4 : wr.cell? ⟨gb264, 4, none⟩ = some (.slice A0_4 l0_4.length c0_4) := (blk_cell BK264.out 4).trans rfl
                              have hfz71_0 := blk_frozen BK264.out 0
                              have hfz71_1 := blk_frozen BK264.out 1
                              have hfz71_2 := blk_frozen BK264.out 2
                              have hfz71_3 := blk_frozen BK264.out 3
                              have hfz71_4 := blk_frozen BK264.out 4
                              go_wp2
                              go_ret2
                              exact ⟨by first | rfl | (simp [errW_none, errW_some] <;> rfl) | (simp [*, errW_none, errW_some] <;> rfl), by repeat (first | (with_reducible first | exact HB.out | apply below_alloc | apply pw_below_drewN | apply below_drew1 | refine below_set ?_ GE264.out) | exact HB.out)⟩
                      · rw [if_neg c35] at H
                        exact absurd H (by simp)
              · rw [if_neg c18] at H
                exact absurd H (by simp)
            · rw [if_neg c16] at H
              exact absurd H (by simp)
          · rw [if_neg c14] at H
            exact absurd H (by simp)
  · replace c3 := Bool.eq_false_iff.mpr c3
    subst c3
    have H1 : (some ((⟨#[]⟩ : ByteArray), 2)) = some (r1, r2) := by rw [if_neg (show ¬ (false = true) by decide)] at H; exact H
    clear H
    have H := H1
    clear H1
    simp only [Option.some.injEq, Prod.mk.injEq] at H
    obtain ⟨rfl, rfl⟩ := H
    go_enter Try.func58, Try.ntmps58
    go_wp2_with (first | ((with_reducible refine gate_dst (N := 1) rfl ?_); (try (refine gate_guard (by rfl) ?_; dsimp only)); refine box_event ?hg (N := 1) ?hd (cs := #[.int .u64 a0_0, .int .u64 a0_1, .int .u64 a0_2, .slice A0_3 l0_3.length c0_3, .slice A0_4 l0_4.length c0_4]) (t := 70) ?hr ?_; (case hd => rfl); (case hg => rfl); (case hr => first | (go_simp; done) | (go_simp; rfl)); intro gb264 hg w72 hbox hb; have n0_ := Aside0.mk (below_step (by repeat (first | (with_reducible first | exact HB.out | apply below_alloc | apply pw_below_drewN | apply below_drew1) | exact HB.out)) hb); have n1_ := Aside0.mk (hbox); have n2_ := Aside0.mk ((by rw [hg]; exact (below_size (by repeat (first | (with_reducible first | exact HB.out | apply below_alloc | apply pw_below_drewN | apply below_drew1) | exact HB.out))) : w.heap.size ≤ gb264)); have n3_ := Aside0.mk ((by rw [hg]; exact (below_size (by repeat (first | (with_reducible first | exact HB.out | apply below_alloc | apply pw_below_drewN | apply below_drew1) | exact HB.out))) : w.heap.size ≤ gb264)); clear HB; have HB := n0_; have BK264 := n1_; have GW264 := n2_; have GE264 := n3_; clear n0_ n1_ n2_ n3_; clear hb hbox hg; have hcz73_0 : w72.cell? ⟨gb264, 0, none⟩ = some (.int .u64 a0_0) := (blk_cell BK264.out 0).trans rfl; have hcz73_1 : w72.cell? ⟨gb264, 1, none⟩ = some (.int .u64 a0_1) := (blk_cell BK264.out 1).trans rfl; have hcz73_2 : w72.cell? ⟨gb264, 2, none⟩ = some (.int .u64 a0_2) := (blk_cell BK264.out 2).trans rfl; have hcz73_3 : w72.cell? ⟨gb264, 3, none⟩ = some (.slice A0_3 l0_3.length c0_3) := (blk_cell BK264.out 3).trans rfl; have hcz73_4 : w72.cell? ⟨gb264, 4, none⟩ = some (.slice A0_4 l0_4.length c0_4) := (blk_cell BK264.out 4).trans rfl; have hfz73_0 := blk_frozen BK264.out 0; have hfz73_1 := blk_frozen BK264.out 1; have hfz73_2 := blk_frozen BK264.out 2; have hfz73_3 := blk_frozen BK264.out 3; have hfz73_4 := blk_frozen BK264.out 4) | ((with_reducible refine gate_callee (f := 108) rfl ?_); refine goesL_ (some 9) rfl rfl Try.func108 (by kernel_rfl) rfl #[.agg #[.int .u64 a0_0, .int .u64 a0_1, .int .u64 a0_2, .slice A0_3 l0_3.length c0_3, .slice A0_4 l0_4.length c0_4]] rfl (by (try simp only [List.map_toArray, List.map_cons, List.map_nil]); first | done | rfl | (simp only [List.length_drop, List.length_take]; rfl)) ?_; (with_reducible refine (freshetref14_listed.calls a0_0 a0_1 a0_2 _ _ l0_3 _ _ l0_4 false _ ?side1 ?side2 ?side3 ?side4 A2.out).mono ?_); (case side1 => repeat (first | exact (Kd.C_below HR0_3.out HB.out) | (with_reducible refine Kd.C_alloc ?_ _) | (with_reducible refine Kd.C_drewN ?_ _) | (with_reducible refine Kd.C_drew ?_))); (case side2 => exact HC0_3.out); (case side3 => repeat (first | exact (Kd.C_below HR0_4.out HB.out) | (with_reducible refine Kd.C_alloc ?_ _) | (with_reducible refine Kd.C_drewN ?_ _) | (with_reducible refine Kd.C_drew ?_))); (case side4 => exact HC0_4.out); rintro e w74 ⟨rfl, hb⟩; refine ⟨_, rfl, ?_⟩; have n0_ := Aside0.mk (blk_below (g := gb264) (o := .cells #[.int .u64 a0_0, .int .u64 a0_1, .int .u64 a0_2, .slice A0_3 l0_3.length c0_3, .slice A0_4 l0_4.length c0_4] 70 (0, 0)) (by (with_reducible repeat (first | refine blk_drewN ?_ _ | refine blk_drew ?_ | refine blk_alloc ?_ _)); exact BK264.out) hb); have n1_ := Aside0.mk (below_step (by repeat (first | (with_reducible first | exact HB.out | apply below_alloc | apply pw_below_drewN | apply below_drew1 | refine below_set ?_ GE264.out) | exact HB.out)) hb); clear BK264; clear HB; have BK264 := n0_; have HB := n1_; clear n0_ n1_; (try clear hb); (try clear hb2); (try clear hk); (try clear hi)))
    go_ret2
    exact ⟨by first | rfl | (simp [errW_none, errW_some] <;> rfl) | (simp [*, errW_none, errW_some] <;> rfl), by repeat (first | (with_reducible first | exact HB.out | apply below_alloc | apply pw_below_drewN | apply below_drew1 | refine below_set ?_ GE264.out) | exact HB.out)⟩

end Go.Proofs.Ytkjepfofiegcdaa.PB14
