import Derived.Test.YtkjepfofiegcdaaVB7
/- The size of a level, walked. Conditions: none. -/
namespace Go.Proofs.Ytkjepfofiegcdaa.V
set_option linter.unusedVariables false
set_option linter.unusedSimpArgs false
open Go.RowKit Go.Proofs.YtkjepfofiegcdaaW.PrintWords Go.Proofs.YtkjepfofiegcdaaW.PrintLast Go.Proofs.YtkjepfofiegcdaaW.PrintMore Go.Proofs.Ytkjepfofiegcdaa.PB14
def sizeL (L : List S58) : Int := L.foldl (fun acc m => wrap64 (acc + m.f1)) 0
theorem sizeL_snoc (L : List S58) (m : S58) : sizeL (L ++ [m]) = wrap64 (sizeL L + m.f1) := by unfold sizeL; rw [List.foldl_append]; rfl
def sizeV (v : Ver) (n : Int) : Int := if 0 ≤ n ∧ n < 4 then sizeL (v.lv n.toNat) else 0
theorem vcell {w : World} {g : Nat} {v : Ver} {p : Pl} {t : Nat} (h : w.heap[g]? = some (.cells (vCs v p) t (0, 0))) (i : Nat) (hi : i < 4) : w.cell? ⟨g, 3 + i, none⟩ = some (.slice (p.a i) (v.lv i).length (p.c i)) := by
  rcases (by omega : i = 0 ∨ i = 1 ∨ i = 2 ∨ i = 3) with rfl | rfl | rfl | rfl
  · exact (blk_cell h 3).trans rfl
  · exact (blk_cell h 4).trans rfl
  · exact (blk_cell h 5).trans rfl
  · exact (blk_cell h 6).trans rfl
set_option maxHeartbeats 4000000 in
set_option maxRecDepth 100000 in
theorem size_calls (w : World) (v : Ver) (p : Pl) (hC : VC w v p) (n : Int) : Calls Try.prog 64 #[.agg (vCs v p), .int .i64 n] w fun e w' => e = .returned (.int .i64 (sizeV v n)) ∧ Below w.heap.size w w' := by
  have HC := Aside0.mk hC
  clear hC
  have HB := Aside0.mk ((Below.refl w.heap.size w).alloc (Nat.le_refl _) (.cells (vCs v p) 26))
  have BX := Aside0.mk (blk_new w (.cells (vCs v p) 26))
  by_cases hn : 0 ≤ n ∧ n < 4
  · obtain ⟨i, rfl⟩ := Int.eq_ofNat_of_zero_le hn.1
    have HS := Aside0.mk (show sizeV v (i : Int) = sizeL (v.lv i) by unfold sizeV; rw [if_pos hn, Int.toNat_natCast])
    have hi : i < 4 := by omega
    have HI := Aside0.mk hi
    have HD := Aside0.mk (show decide (0 ≤ (i : Int) ∧ (i : Int) < 4) = true from decide_eq_true hn)
    rw [HS.out]
    have hv := vcell BX.out i hi
    have hw1 := (HC.out.below HB.out i hi).1
    obtain ⟨l, hl⟩ : ∃ l, v.lv i = l := ⟨_, rfl⟩
    rw [hl] at hw1 hv ⊢
    have HE := Aside0.mk hl
    have HC1 := Aside0.mk hw1
    have i0 : 0 ≤ (i : Int) := Int.natCast_nonneg _
    have i1 : (i : Int) < 4 := hn.2
    clear hl hn hw1
    go_enter Try.func64, Try.ntmps64
    go_wp2_with fail
    refine (level_calls _ _).mono ?_
    rintro e w2 ⟨rfl, hb⟩
    rw [HD.out]
    have HB2 := Aside0.mk (below_step HB.out hb)
    have hv2 := (hb.cell (World.block_lt_of_cell? _ _ hv)).trans hv
    have HC2 := Aside0.mk (Kd.C_below HC1.out hb)
    clear hb hv HB HC1 BX
    go_wp2_with fail
    have HC0 := HC2
    clear HC2 hv2
    go_loopg [5, 7, 15] l.length (fun kq v5 v7 v15 w' => ∃ k : Nat, v5 = .int .i64 (sizeL (l.take k)) ∧ v15 = .int .i64 (k : Int) ∧ Aside0 (kq + k = l.length) ∧ Aside0 (Below w.heap.size w w'))
    case atStart => exact ⟨0, rfl, rfl, ⟨by omega⟩, HB2⟩
    case round =>
      clear HB2
      obtain ⟨k, rfl, rfl, HK, HB⟩ := hrel
      cases gk with
      | zero =>
        have ek : k = l.length := by have := HK.out; omega
        subst ek
        have d0 : decide ((l.length : Int) < (l.length : Int)) = false := by simp
        rw [List.take_length]
        go_wp2_with fail
        go_ret
        exact ⟨rfl, HB.out⟩
      | succ q =>
        have hk : k < l.length := by have := HK.out; omega
        have d0 : decide ((k : Int) < (l.length : Int)) = true := decide_eq_true (by omega)
        have d1 : decide (k < l.length) = true := decide_eq_true hk
        have p0 : 0 ≤ (k : Int) := Int.natCast_nonneg _
        have p1 : (k : Int) < (l.length : Int) := by omega
        have HC1 := Aside0.mk (Kd.C_below (HC.out i HI.out).1 HB.out)
        rw [HE.out] at HC1
        have HM := Aside0.mk (show l.length ≤ 9223372036854775807 from HC1.out.2.1)
        obtain ⟨ad, ea, ha0, ha1, ha2, ha3, ha4, ha5, ha6⟩ := at_T58 HC1.out (k : Int) p0 p1
        rw [Int.toNat_natCast] at ha0 ha1 ha2 ha3 ha4 ha5 ha6
        have EM := Aside0.mk (show rd_T58 l (k : Int) = l.getD k z58 by unfold rd_T58; rw [Int.toNat_natCast])
        generalize rd_T58 l (k : Int) = m at *
        have TS := Aside0.mk (show sizeL (l.take (k + 1)) = wrap64 (sizeL (l.take k) + m.f1) by rw [take_snoc l z58 hk, sizeL_snoc, EM.out])
        obtain ⟨sz, hsz⟩ : ∃ s, s = sizeL (l.take k) := ⟨_, rfl⟩
        rw [← hsz] at TS ⊢
        obtain ⟨s2, hs2⟩ : ∃ s, s = wrap64 (sz + m.f1) := ⟨_, rfl⟩
        have ew2 : IntKind.i64.wrap (sz + m.f1) = s2 := by rw [hs2]; first | rfl | (simp only [i64_w]; done) | (rw [IntKind.wrap_i64]; unfold wrap64; omega)
        have ew3 : wrap64 (sz + m.f1) = s2 := hs2.symm
        rw [← hs2] at TS
        clear hsz hs2
        rw [ea]
        have HAX := Aside0.mk ea
        have n0_ := Aside0.mk (below_step HB.out ((Below.refl wr.heap.size wr).alloc (Nat.le_refl _) (.cells (mCs m) 58)))
        clear ea hk
        go_wp2_with fail
        have ew : wrap64 ((k : Int) + 1) = ((k + 1 : Nat) : Int) := by have h1 := HM.out; unfold wrap64; omega
        try rw [ew]
        rw [← HAX.out]
        go_roundg q
        case measure => omega
        case rel => exact ⟨k + 1, by rw [TS.out], rfl, ⟨by have := HK.out; omega⟩, n0_⟩
  · have HD := Aside0.mk (show decide (0 ≤ n ∧ n < 4) = false from decide_eq_false hn)
    have HS := Aside0.mk (show sizeV v n = 0 by unfold sizeV; rw [if_neg hn])
    rw [HS.out]
    clear hn
    go_enter Try.func64, Try.ntmps64
    go_wp2_with fail
    refine (level_calls _ _).mono ?_
    rintro e w2 ⟨rfl, hb⟩
    rw [HD.out]
    have HB2 := Aside0.mk (below_step HB.out hb)
    clear hb HB
    go_wp2_with fail
    go_ret
    exact ⟨rfl, HB2.out⟩
end Go.Proofs.Ytkjepfofiegcdaa.V
