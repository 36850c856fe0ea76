import Derived.Test.YtfemebenkbobnaaME9
/- A table tells all as the document says (tells), walked; what a table's numbers are. Conditions: at most 100000 rows. -/
namespace Go.Proofs.Ytfemebenkbobnaa.SM
set_option linter.unusedVariables false
set_option linter.unusedSimpArgs false
open Go.RowKit Go.Shelf Go.Proofs.YtfemebenkbobnaaW.PrintWords Go.Proofs.YtfemebenkbobnaaW.PrintLast Go.Proofs.YtfemebenkbobnaaW.PrintMore Go.Proofs.Ytfemebenkbobnaa.PB06
theorem drawn_below {w w' : World} (h : Drawn0 w w') : Below w.heap.size w w' := by
  obtain ⟨n, rfl⟩ := h.out
  exact pw_below_drewN (Below.refl _ _) n
/-- What is told of a table is what its rows are. -/
structure Told (t : Ts) : Prop where
  good : Good t
  least : IsLeast (t.l.map (·.1)) t.least
  great : IsGreat (t.l.map (·.1)) t.greatest
  pos : ∀ x, x ∈ t.l.map (·.1) → 1 ≤ x.f1
theorem told_nil : Told ⟨[], 0, 0, 0⟩ := ⟨⟨List.Pairwise.nil, rfl⟩, ⟨fun x hx => by simp at hx, .inl ⟨rfl, rfl⟩⟩, ⟨fun x hx => by simp at hx, Int.le_refl _, .inl rfl⟩, fun x hx => by simp at hx⟩
theorem runT_told {n : Int} {l : List S72} {hs : List Int} {t : Ts} (h : Told t) (h1 : 1 ≤ n) (hn : ∀ r, r ∈ rowsL n 0 l → takenV r t.l = false) : ∀ i, i ≤ (rowsL n 0 l).length → Told (runT (rowsL n 0 l) hs t i)
  | 0, _ => h
  | i + 1, hi => by
    have ih := runT_told (hs := hs) h h1 hn i (by omega)
    have hn2 : ∀ r, r ∈ rowsL n 0 l → takenR r (t.l.map (·.1)) = false := fun r hr => by rw [← rows_taken]; exact hn r hr
    have hfree := (addR_good h.good.sorted hn2 i (by omega)).2.2.2 (by omega)
    rw [← runT_rows (rowsL n 0 l) hs t i] at hfree
    have hlen : (rowsL n 0 l).length = l.length := rowsL_len n 0 l
    have hr1 : 1 ≤ ((rowsL n 0 l).getD i z28).f1 := by
      rw [List.getD_eq_getElem?_getD, rowsL_get n 0 i l (by omega), Nat.zero_add]
      show 1 ≤ n + (i : Int)
      omega
    have hrows : (runT (rowsL n 0 l) hs t (i + 1)).l.map (·.1) = putR ((rowsL n 0 l).getD i z28) ((runT (rowsL n 0 l) hs t i).l.map (·.1)) := rows_put _ _ _
    have hm := putR_mem hfree
    refine ⟨(runT_good h.good hn (i + 1) hi).1, ?_, ?_, fun x hx => ?_⟩
    · rw [hrows]
      exact ih.least.add ih.pos hm
    · rw [hrows]
      exact ih.great.add hm
    · rw [hrows, hm] at hx
      rcases hx with hx | rfl
      · exact ih.pos x hx
      · exact hr1
theorem addT_told {hs : List Int} {n : Int} {l : List S72} {t : Ts} (h : Told t) : Told (addT hs n l t) := by
  unfold addT
  split
  · rename_i hc
    exact runT_told h (check_ok' hc.1).1 hc.2 _ (Nat.le_refl _)
  · exact h
/-- What Add makes of the rows is what ref09's Add makes of them. -/
theorem addT_rows (hs : List Int) (n : Int) (l : List S72) (t : Ts) : (addT hs n l t).l.map (·.1) = (refAddR n l (t.l.map (·.1))).1 := by
  by_cases c : checkS n l = 0
  · by_cases c2 : ∀ r, r ∈ rowsL n 0 l → takenV r t.l = false
    · have e1 : addT hs n l t = runT (rowsL n 0 l) hs t (rowsL n 0 l).length := if_pos ⟨c, c2⟩
      have e2 : refAddR n l (t.l.map (·.1)) = (addR (rowsL n 0 l) (t.l.map (·.1)) (rowsL n 0 l).length, 0) := by
        unfold refAddR
        rw [if_neg (fun h => h c), if_pos (List.all_eq_true.mpr fun r hr => by rw [← rows_taken, c2 r hr]; rfl)]
      rw [e1, e2, runT_rows]
    · have e1 : addT hs n l t = t := if_neg (fun h => c2 h.2)
      have e2 : refAddR n l (t.l.map (·.1)) = (t.l.map (·.1), 2) := by
        unfold refAddR
        rw [if_neg (fun h => h c), if_neg (fun h => c2 fun r hr => by have h2 := List.all_eq_true.mp h r hr; rw [← rows_taken] at h2; simpa using h2)]
      rw [e1, e2]
  · have e1 : addT hs n l t = t := if_neg (fun h => c h.1)
    have e2 : refAddR n l (t.l.map (·.1)) = (t.l.map (·.1), checkS n l) := if_pos c
    rw [e1, e2]
set_option maxHeartbeats 8000000 in
set_option maxRecDepth 100000 in
theorem tells_tab {w : World} {g : Nat} {rs : List Nd} {t : Ts} (h : Sk (tabT t.room t.least t.greatest) w g rs) (hv : vals rs = t.l) (hT : Told t) (hlen : rs.length ≤ 100000) (hroom : t.room ≤ 1000000000000) (A0 : Option Addr) (c0 : Nat) (L : List S28) (hL : L = t.l.map (·.1)) (hC : k28.C w A0 L.length L) (hc0 : L.length ≤ c0) :
    Calls Try.prog 58 #[.pointer (some ⟨g, 0, none⟩), .slice A0 L.length c0] w fun e w' => e = .returned (.bool true) ∧ Below w.heap.size w w' := by
  have HS := Aside0.mk h
  have HC := Aside0.mk hC
  have HCc := Aside0.mk hc0
  have hlr : L.length = rs.length := by rw [hL, List.length_map, ← hv, vals_len]
  have HLR := Aside0.mk hlr
  have HRM := Aside0.mk (show t.room = (roomS L : Int) by rw [hL]; exact hT.good.room)
  have HRO := Aside0.mk (show roomS L ≤ 1000000000000 by have := HRM.out; omega)
  obtain ⟨ke, m, gg, hke, hm, hg⟩ := ends_f (L := L) (by omega) (by rw [hL]; exact hT.pos)
  have em : m = t.least := hm.one (by rw [hL] at *; exact hT.least) (fun x => Iff.rfl)
  have eg : gg = t.greatest := hg.one (by rw [hL] at *; exact hT.great) (fun x => Iff.rfl)
  rw [em, eg] at hke
  have HKE := Aside0.mk hke
  have HLN := Aside0.mk (show L.length ≤ 100000 by omega)
  clear h hC hc0 hlr hm hg em eg hke hv hL hT hlen hroom
  go_enter Try.func58, Try.ntmps58
  go_wp2_with fail
  refine (freshetref09_Ends.calls ke A0 c0 L _ _ w HC.out HCc.out HKE.out).mono ?_
  rintro e w1 ⟨rfl, hdr⟩
  have HB := Aside0.mk (drawn_below hdr)
  clear hdr
  go_wp2_with fail
  have h61 := tlen_tab (HS.out.below HB.out)
  rw [← HLR.out] at h61
  refine h61.mono ?_
  clear h61
  rintro e w2 ⟨rfl, hb⟩
  have n0_ := Aside0.mk (below_step HB.out hb)
  clear HB hb
  go_wp2_with fail
  have h60 := room_tab (HS.out.below n0_.out)
  rw [HRM.out] at h60
  refine h60.mono ?_
  clear h60
  rintro e w3 ⟨rfl, hb⟩
  have HB := Aside0.mk (below_step n0_.out hb)
  clear n0_ hb
  go_wp2_with fail
  refine (freshetref09_Room.calls _ A0 c0 L _ w3 (Kd.C_below HC.out HB.out) HCc.out (room_f (by have := HLN.out; omega) HRO.out)).mono ?_
  rintro e w4 ⟨rfl, hdr⟩
  have n0_ := Aside0.mk (below_step HB.out (drawn_below hdr))
  clear HB hdr
  go_wp2_with fail
  refine (least_tab (HS.out.below n0_.out)).mono ?_
  rintro e w5 ⟨rfl, hb⟩
  have HB := Aside0.mk (below_step n0_.out hb)
  clear n0_ hb
  go_wp2_with fail
  refine (greatest_tab (HS.out.below HB.out)).mono ?_
  rintro e w6 ⟨rfl, hb⟩
  have n0_ := Aside0.mk (below_step HB.out hb)
  clear HB hb
  go_wp2_with fail
  go_ret
  exact ⟨rfl, n0_.out⟩
end Go.Proofs.Ytfemebenkbobnaa.SM
