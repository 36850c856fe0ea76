import Derived.Test.YtkjepfofiegcdaaVR2Y
import Derived.Test.YtkjepfofiegcdaaVW1Y
/- edit.Decode (68), walked: what it reads. Conditions: the bytes are within reach. -/
namespace Go.Proofs.Ytkjepfofiegcdaa.V
set_option linter.unusedVariables false
set_option linter.unusedSimpArgs false
open Go.RowKit Go.Proofs.YtkjepfofiegcdaaW.PrintWords Go.Proofs.YtkjepfofiegcdaaW.PrintLast Go.Proofs.YtkjepfofiegcdaaW.PrintMore Go.Proofs.Ytkjepfofiegcdaa.PB14
open H (uintS putL)
theorem RD.kb {w w' : World} {gr : Nat} {d : Type} {k : Kd d} {e base : Nat} {v : Value} {xs : List d} (h : k.R e w base (fun _ => True) v xs) {cs : Array Value} (hx : w.heap[gr]? = some (.cells cs 148 (0, 0))) (ht : ∀ q, q ∈ e :: k.E → q ≠ 148) (hk : KB gr w w') : k.R e w' base (fun _ => True) v xs :=
  Kd.R_mono (Kd.R_step (Kd.R_types h hx ht) (fun b ho hlt => hk.1 b hlt ho.2)) (fun _ _ => trivial)
theorem RD.blk {w : World} {gr : Nat} {st : Option ByteArray} (h : RD w gr st) : ∃ cs, w.heap[gr]? = some (.cells cs 148 (0, 0)) := by
  obtain ⟨s, b, hx, _⟩ := h
  exact ⟨_, hx⟩
theorem RD.grown {w w' : World} {gr : Nat} {st : Option ByteArray} (h : RD w gr st) {row : Option Nat} (hg : w.grownBy w' row) (hne : ∀ cells, w.heap[gr]? = some (.cells cells 148 (0, 0)) → some gr ≠ row) : RD w' gr st := by
  obtain ⟨s, b, hx, hs⟩ := h
  exact ⟨s, b, blk_grown hx hg (hne _ hx), hs⟩
theorem RD.far {w : World} {gr g j : Nat} {st : Option ByteArray} (h : RD w gr st) (hne : gr ≠ g) (v : Value) : RD (w.setCell ⟨g, j, none⟩ v) gr st := by
  obtain ⟨s, b, hx, hs⟩ := h
  exact ⟨s, b, blk_far hx hne v, hs⟩
theorem KB.new {gr g j : Nat} {w w' : World} (h : KB gr w w') (hg : w.heap.size ≤ g) (h2 : gr ≤ g) (v : Value) : KB gr w (w'.setCell ⟨g, j, none⟩ v) := ⟨fun k hk hn => (Below.heap_setCell w' ⟨g, j, none⟩ v k (by simp only; omega)).trans (h.1 k hk hn), h.2.setCell h2 v⟩
theorem toList_size {s : ByteArray} (h : s.toList = []) : s.size = 0 := by
  rw [ByteArray.toList_eq, ← List.length_eq_zero_iff, Array.length_toList] at h
  exact h
theorem no148_84 : ∀ q, q ∈ 84 :: k84.E → q ≠ 148 := by intro x hx; simp [show k84.E = [] from rfl] at hx; omega
theorem no148_82 : ∀ q, q ∈ 82 :: k82.E → q ≠ 148 := by intro x hx; simp [show k82.E = [] from rfl] at hx; omega
set_option maxHeartbeats 8000000 in
set_option maxRecDepth 100000 in
theorem decode_calls (w : World) (s : ByteArray) (hs : s.size ≤ 4611686018427387904) :
    Calls Try.prog 68 #[.string s] w fun x w' => ∃ (A1 A2 : Option Addr) (c1 c2 : Nat), x = .returned (.tuple #[.agg (eCs (decV s).1 A1 c1 A2 c2), .int .i64 (decV s).2]) ∧ ((decV s).1.gone.length ≤ c1 ∧ k84.C w' A1 (decV s).1.gone.length (decV s).1.gone) ∧ ((decV s).1.added.length ≤ c2 ∧ k82.C w' A2 (decV s).1.added.length (decV s).1.added) ∧ Below w.heap.size w w' := by
  obtain ⟨de, er, hd⟩ : ∃ de er, decV s = (de, er) := ⟨_, _, rfl⟩
  rw [hd]
  have DV := Aside0.mk hd
  have HS := Aside0.mk hs
  clear hd hs
  have HB1 := Aside0.mk ((Below.refl w.heap.size w).alloc (Nat.le_refl _) (.cells #[.int .u64 0, .int .u64 0, .int .u64 0, .slice none 0 0, .slice none 0 0] 70))
  have X1 := Aside0.mk (blk_new w (.cells #[.int .u64 0, .int .u64 0, .int .u64 0, .slice none 0 0, .slice none 0 0] 70))
  go_enter Try.func68, Try.ntmps68
  go_upto_region 1 with (fail)
  generalize w.alloc (.cells #[.int .u64 0, .int .u64 0, .int .u64 0, .slice none 0 0, .slice none 0 0] 70) = w1 at *
  go_upto_region 2 with (fail)
  have HB2 := Aside0.mk (below_alloc HB1.out (.cells #[.string s, .bool false] 148))
  have X2 := Aside0.mk (blk_alloc X1.out (.cells #[.string s, .bool false] 148))
  have RDw2 := Aside0.mk (show RD (w1.alloc (.cells #[.string s, .bool false] 148)) w1.heap.size (some s) from ⟨s, false, blk_new w1 _, HS.out, .inr ⟨rfl, rfl⟩⟩)
  have NR := Aside0.mk (show w.heap.size < w1.heap.size from blk_lt X1.out)
  generalize w1.heap.size = gr at *
  generalize w1.alloc (.cells #[.string s, .bool false] 148) = w2 at *
  obtain ⟨lg, t1, ha⟩ : ∃ a b, numO (some s) mxU = (a, b) := ⟨_, _, rfl⟩
  have NC := number_calls w2 gr (some s) mxU RDw2.out
  rw [ha] at NC
  have Eha := Aside0.mk ha
  have NRlg := Aside0.mk (show 0 ≤ lg ∧ lg ≤ mxU by have h9 := numO_range (some s) (most := mxU) (by decide); rw [ha] at h9; exact h9)
  clear ha
  go_wp2_with fail
  refine NC.mono ?_
  clear NC
  rintro x w3 ⟨rfl, hrd, hkb⟩
  have RDw3 := Aside0.mk hrd
  have Kw3 := Aside0.mk hkb
  clear hrd hkb
  obtain ⟨nx, t2, hb⟩ : ∃ a b, numO t1 mxU = (a, b) := ⟨_, _, rfl⟩
  have NC := number_calls w3 gr t1 mxU RDw3.out
  rw [hb] at NC
  have Ehb := Aside0.mk hb
  have NRnx := Aside0.mk (show 0 ≤ nx ∧ nx ≤ mxU by have h9 := numO_range t1 (most := mxU) (by decide); rw [hb] at h9; exact h9)
  clear hb
  go_wp2_with fail
  refine NC.mono ?_
  clear NC
  rintro x w4 ⟨rfl, hrd, hkb⟩
  have RDw4 := Aside0.mk hrd
  have Kw4 := Aside0.mk hkb
  clear hrd hkb
  obtain ⟨sq, t3, hc⟩ : ∃ a b, numO t2 mxU = (a, b) := ⟨_, _, rfl⟩
  have NC := number_calls w4 gr t2 mxU RDw4.out
  rw [hc] at NC
  have Ehc := Aside0.mk hc
  have NRsq := Aside0.mk (show 0 ≤ sq ∧ sq ≤ mxU by have h9 := numO_range t2 (most := mxU) (by decide); rw [hc] at h9; exact h9)
  clear hc
  go_wp2_with fail
  refine NC.mono ?_
  clear NC
  rintro x w5 ⟨rfl, hrd, hkb⟩
  have RDw5 := Aside0.mk hrd
  have Kw5 := Aside0.mk hkb
  clear hrd hkb
  have K25 := Aside0.mk ((Kw3.out.trans Kw4.out).trans Kw5.out)
  have X5 := Aside0.mk (K25.out.blk (Nat.ne_of_lt NR.out) X2.out)
  have HB5 := Aside0.mk (HB2.out.trans (K25.out.2.mono (Nat.le_of_lt NR.out)))
  clear Kw3 Kw4 Kw5 RDw2 RDw3 RDw4 K25 X2 HB2 X1 HB1
  go_upto_region 3 with (fail)
  have HB6 := Aside0.mk (below_alloc HB5.out (.cells #[.int .u64 lg, .int .u64 nx, .int .u64 sq, .slice none 0 0, .slice none 0 0] 70))
  have X6 := Aside0.mk (blk_alloc X5.out (.cells #[.int .u64 lg, .int .u64 nx, .int .u64 sq, .slice none 0 0, .slice none 0 0] 70))
  have XE6 := Aside0.mk (blk_new w5 (.cells #[.int .u64 lg, .int .u64 nx, .int .u64 sq, .slice none 0 0, .slice none 0 0] 70))
  have RDw6 := Aside0.mk (RDw5.out.below (below_alloc (Below.refl w5.heap.size w5) (.cells #[.int .u64 lg, .int .u64 nx, .int .u64 sq, .slice none 0 0, .slice none 0 0] 70)))
  have NE := Aside0.mk (show gr < w5.heap.size from RDw5.out.lt)
  clear HB5 X5 RDw5
  generalize w5.heap.size = ge at *
  generalize w5.alloc (.cells #[.int .u64 lg, .int .u64 nx, .int .u64 sq, .slice none 0 0, .slice none 0 0] 70) = w6 at *
  obtain ⟨mn, t4, hd⟩ : ∃ a b, numO t3 256 = (a, b) := ⟨_, _, rfl⟩
  have NC := number_calls w6 gr t3 256 RDw6.out
  rw [hd] at NC
  have Ehd := Aside0.mk hd
  have NRmn := Aside0.mk (show 0 ≤ mn ∧ mn ≤ 256 by have h9 := numO_range t3 (most := 256) (by decide); rw [hd] at h9; exact h9)
  clear hd
  go_wp2_with fail
  refine NC.mono ?_
  clear NC
  rintro x w7 ⟨rfl, hrd, hkb⟩
  have RDw7 := Aside0.mk hrd
  have Kw7 := Aside0.mk hkb
  clear hrd hkb
  have X7 := Aside0.mk (Kw7.out.blk (Nat.ne_of_lt NR.out) X6.out)
  have XE7 := Aside0.mk (Kw7.out.blk (Nat.ne_of_gt NE.out) XE6.out)
  have HB7 := Aside0.mk (HB6.out.trans (Kw7.out.2.mono (Nat.le_of_lt NR.out)))
  obtain ⟨m0, rfl⟩ : ∃ m0 : Nat, mn = (m0 : Int) := ⟨mn.toNat, by have := NRmn.out.1; omega⟩
  have M0 := Aside0.mk (show m0 ≤ 256 by have := NRmn.out.2; omega)
  have DE := Aside0.mk (show decE s = t4.bind (cG lg nx sq m0 []) by
    unfold decE
    rw [Eha.out]; dsimp only; rw [Ehb.out]; dsimp only; rw [Ehc.out]; dsimp only; rw [Ehd.out]; dsimp only; rw [Int.toNat_natCast])
  clear Kw7 X6 XE6 HB6 RDw6 Eha Ehb Ehc Ehd NRmn NRlg NRnx NRsq
  go_wp2_with fail
  go_loopg [6] m0 (fun kq v6 w' => ∃ (n : Nat) (st : Option ByteArray) (acc : List S84) (B : Option Addr) (cb : Nat), v6 = .int .u64 (n : Int) ∧ Aside0 (kq = n ∧ n + acc.length ≤ 256) ∧ Aside0 (Below w.heap.size w w') ∧ Aside0 (w'.heap[w.heap.size]? = some (.cells #[.int .u64 0, .int .u64 0, .int .u64 0, .slice none 0 0, .slice none 0 0] 70 (0, 0))) ∧ Aside0 (w'.heap[ge]? = some (.cells #[.int .u64 lg, .int .u64 nx, .int .u64 sq, .slice B acc.length cb, .slice none 0 0] 70 (0, 0))) ∧ Aside0 (RD w' gr st) ∧ Aside0 (Kd.R k84 84 w' w.heap.size (fun _ => True) (.slice B acc.length cb) acc) ∧ Aside0 (decE s = st.bind (cG lg nx sq n acc)))
  case atStart => exact ⟨m0, t4, [], none, 0, rfl, ⟨rfl, by have := M0.out; simp; omega⟩, HB7, X7, XE7, RDw7, ⟨Kd.R_nil _ _ _ _ _⟩, DE⟩
  case round =>
    clear HB7 X7 XE7 RDw7 DE M0
    obtain ⟨n, st, acc, B, cb, rfl, HK, HB, X, XE, RDr, RA, DE⟩ := hrel
    obtain ⟨rs, rb, hrx, hrs, hst⟩ := RDr.out
    have y1 : wr.cell? ⟨gr, 1, none⟩ = some (.bool rb) := (blk_cell hrx 1).trans rfl
    have XRD := Aside0.mk hrx
    have HST := Aside0.mk hst
    clear hrx hrs hst
    cases gk with
    | zero =>
      obtain rfl : n = 0 := by have := HK.out.1; omega
      rw [cG_zero] at DE
      clear HK
      obtain ⟨mn, t5, he⟩ : ∃ a b, numO st 256 = (a, b) := ⟨_, _, rfl⟩
      have NC := number_calls wr gr st 256 RDr.out
      rw [he] at NC
      have Ehe := Aside0.mk he
      have NRmn := Aside0.mk (show 0 ≤ mn ∧ mn ≤ 256 by have h9 := numO_range st (most := 256) (by decide); rw [he] at h9; exact h9)
      clear he
      go_wp2_with fail
      refine NC.mono ?_
      clear NC
      rintro x w8 ⟨rfl, hrd, hkb⟩
      have RDw8 := Aside0.mk hrd
      have Kw8 := Aside0.mk hkb
      clear hrd hkb
      clear y1
      obtain ⟨m1, rfl⟩ : ∃ m1 : Nat, mn = (m1 : Int) := ⟨mn.toNat, by have := NRmn.out.1; omega⟩
      have M1 := Aside0.mk (show m1 ≤ 256 by have := NRmn.out.2; omega)
      have DE8 := Aside0.mk (show decE s = t5.bind (cA lg nx sq acc m1 []) by rw [DE.out, Ehe.out]; dsimp only; rw [Int.toNat_natCast])
      have HB8 := Aside0.mk (HB.out.trans (Kw8.out.2.mono (Nat.le_of_lt NR.out)))
      have X8 := Aside0.mk (Kw8.out.blk (Nat.ne_of_lt NR.out) X.out)
      have XE8 := Aside0.mk (Kw8.out.blk (Nat.ne_of_gt NE.out) XE.out)
      have RG8 := Aside0.mk (RD.kb RA.out XRD.out no148_84 Kw8.out)
      clear DE HB X XE RA RDr XRD Kw8 Ehe NRmn
      go_wp2_with fail
      go_loopg [8] m1 (fun kq v8 w' => ∃ (n2 : Nat) (sr : Option ByteArray) (ac : List S82) (B2 : Option Addr) (cb2 : Nat), v8 = .int .u64 (n2 : Int) ∧ Aside0 (kq = n2 ∧ n2 + ac.length ≤ 256) ∧ Aside0 (Below w.heap.size w w') ∧ Aside0 (w'.heap[w.heap.size]? = some (.cells #[.int .u64 0, .int .u64 0, .int .u64 0, .slice none 0 0, .slice none 0 0] 70 (0, 0))) ∧ Aside0 (w'.heap[ge]? = some (.cells #[.int .u64 lg, .int .u64 nx, .int .u64 sq, .slice B acc.length cb, .slice B2 ac.length cb2] 70 (0, 0))) ∧ Aside0 (RD w' gr sr) ∧ Aside0 (Kd.R k84 84 w' w.heap.size (fun _ => True) (.slice B acc.length cb) acc) ∧ Aside0 (Kd.R k82 82 w' w.heap.size (fun _ => True) (.slice B2 ac.length cb2) ac) ∧ Aside0 (decE s = sr.bind (cA lg nx sq acc n2 ac)))
      case atStart => exact ⟨m1, t5, [], none, 0, rfl, ⟨rfl, by have := M1.out; simp; omega⟩, HB8, X8, XE8, RDw8, RG8, ⟨Kd.R_nil _ _ _ _ _⟩, DE8⟩
      case round =>
        clear HB8 X8 XE8 RDw8 RG8 DE8 M1
        obtain ⟨n2, sr, ac, B2, cb2, rfl, HK, HB, X, XE, RDr, RG, RA, DE⟩ := hrel
        obtain ⟨rs, rb, hrx, hrs, hst⟩ := RDr.out
        have y1 : wr.cell? ⟨gr, 1, none⟩ = some (.bool rb) := (blk_cell hrx 1).trans rfl
        have XRD := Aside0.mk hrx
        have HST := Aside0.mk hst
        clear hrx hrs hst
        cases gk with
        | zero =>
          obtain rfl : n2 = 0 := by have := HK.out.1; omega
          cases rb with
          | true =>
            have hst : sr = none := by rcases HST.out with h | h; exact h.1; cases h.2
            have DN := Aside0.mk (show decE s = none by rw [DE.out, hst]; rfl)
            have XW := X; have HBW := HB
            clear hst
            go_wp2_with (first | (refine st_arr rfl 70 _ _ rfl w.heap.size 70 ?hx #[.int .u64 0, .int .u64 0, .int .u64 0, .slice none 0 0, .slice none 0 0] ?hy _ XW.out (by rw [size70]; rfl) rfl (by simp [Value.oneCell']) ?_; (case hx => rfl); (case hy => rfl); intro w7 hb7 hbb hk7 hs7; have HB7 := Aside0.mk (hbb _ _ HBW.out (Nat.le_refl _)); have X7 := Aside0.mk hb7; have HK7 := Aside0.mk hk7; clear hb7 hbb hk7 hs7) | fail)
            have r0 : w7.cell? ⟨w.heap.size, 0, none⟩ = some (.int .u64 0) := (blk_cell X7.out 0).trans rfl
            have r1 : w7.cell? ⟨w.heap.size, 1, none⟩ = some (.int .u64 0) := (blk_cell X7.out 1).trans rfl
            have r2 : w7.cell? ⟨w.heap.size, 2, none⟩ = some (.int .u64 0) := (blk_cell X7.out 2).trans rfl
            have r3 : w7.cell? ⟨w.heap.size, 3, none⟩ = some (.slice none 0 0) := (blk_cell X7.out 3).trans rfl
            have r4 : w7.cell? ⟨w.heap.size, 4, none⟩ = some (.slice none 0 0) := (blk_cell X7.out 4).trans rfl
            have EV2 : decV s = (zeroE, 7) := decE_none DN.out
            have EV3 : (de, er) = (zeroE, 7) := DV.out.symm.trans EV2
            injection EV3 with e1_ e2_
            subst e1_
            subst e2_
            exact bodyPost_ret (v := .tuple #[.agg #[.int .u64 0, .int .u64 0, .int .u64 0, .slice none 0 0, .slice none 0 0], .int .i64 7]) (by simp [results, Try.results68, go_sem, r0, r1, r2, r3, r4]) rfl ⟨none, none, 0, 0, rfl, ⟨Nat.le_refl _, ⟨rfl, by simp [zeroE], fun h => absurd h (Nat.lt_irrefl 0)⟩⟩, ⟨Nat.le_refl _, ⟨rfl, by simp [zeroE], fun h => absurd h (Nat.lt_irrefl 0)⟩⟩, HB7.out⟩
          | false =>
            have hst : sr = some rs := by rcases HST.out with h | h; cases h.2; exact h.1
            have DN0 := Aside0.mk (show decE s = cA lg nx sq acc 0 ac rs by rw [DE.out, hst]; rfl)
            clear hst
            have y0 : wr.cell? ⟨gr, 0, none⟩ = some (.string rs) := (blk_cell XRD.out 0).trans rfl
            by_cases hz : rs.size = 0
            · have hrs : rs = ⟨#[]⟩ := by
                apply ByteArray.ext
                exact Array.eq_empty_of_size_eq_zero hz
              subst hrs
              have e0 : wr.cell? ⟨ge, 0, none⟩ = some (.int .u64 lg) := (blk_cell XE.out 0).trans rfl
              have e1 : wr.cell? ⟨ge, 1, none⟩ = some (.int .u64 nx) := (blk_cell XE.out 1).trans rfl
              have e2 : wr.cell? ⟨ge, 2, none⟩ = some (.int .u64 sq) := (blk_cell XE.out 2).trans rfl
              have e3 : wr.cell? ⟨ge, 3, none⟩ = some (.slice B acc.length cb) := (blk_cell XE.out 3).trans rfl
              have e4 : wr.cell? ⟨ge, 4, none⟩ = some (.slice B2 ac.length cb2) := (blk_cell XE.out 4).trans rfl
              have LC := listed_calls wr ⟨lg, nx, sq, acc, ac⟩ B B2 cb cb2 (Kd.R_reads' RG.out).2.2 (Kd.R_reads' RA.out).2.2
              by_cases hl : listedP ⟨lg, nx, sq, acc, ac⟩
              · rw [if_pos hl] at LC
                have DN := Aside0.mk (show decE s = some ⟨lg, nx, sq, acc, ac⟩ by rw [DN0.out, cA_zero]; exact finE_yes rfl hl)
                clear hl
                go_wp2_with fail
                refine LC.mono ?_
                rintro x w5 ⟨rfl, hb⟩
                have HBW := Aside0.mk (below_step HB.out hb)
                have XW := Aside0.mk (blk_below X.out hb)
                have XEW := Aside0.mk (blk_below XE.out hb)
                have RG5 := Aside0.mk (Kd.R_below RG.out hb)
                have RA5 := Aside0.mk (Kd.R_below RA.out hb)
                clear hb LC e0 e1 e2 e3 e4 y0 y1
                have e0 : w5.cell? ⟨ge, 0, none⟩ = some (.int .u64 lg) := (blk_cell XEW.out 0).trans rfl
                have e1 : w5.cell? ⟨ge, 1, none⟩ = some (.int .u64 nx) := (blk_cell XEW.out 1).trans rfl
                have e2 : w5.cell? ⟨ge, 2, none⟩ = some (.int .u64 sq) := (blk_cell XEW.out 2).trans rfl
                have e3 : w5.cell? ⟨ge, 3, none⟩ = some (.slice B acc.length cb) := (blk_cell XEW.out 3).trans rfl
                have e4 : w5.cell? ⟨ge, 4, none⟩ = some (.slice B2 ac.length cb2) := (blk_cell XEW.out 4).trans rfl
                go_wp2_with (first | (refine st_arr rfl 70 _ _ rfl w.heap.size 70 ?hx #[.int .u64 lg, .int .u64 nx, .int .u64 sq, .slice B acc.length cb, .slice B2 ac.length cb2] ?hy _ XW.out (by rw [size70]; rfl) rfl (by simp [Value.oneCell']) ?_; (case hx => rfl); (case hy => rfl); intro w7 hb7 hbb hk7 hs7; have HB7 := Aside0.mk (hbb _ _ HBW.out (Nat.le_refl _)); have X7 := Aside0.mk hb7; have HK7 := Aside0.mk hk7; clear hb7 hbb hk7 hs7) | fail)
                have r0 : w7.cell? ⟨w.heap.size, 0, none⟩ = some (.int .u64 lg) := (blk_cell X7.out 0).trans rfl
                have r1 : w7.cell? ⟨w.heap.size, 1, none⟩ = some (.int .u64 nx) := (blk_cell X7.out 1).trans rfl
                have r2 : w7.cell? ⟨w.heap.size, 2, none⟩ = some (.int .u64 sq) := (blk_cell X7.out 2).trans rfl
                have r3 : w7.cell? ⟨w.heap.size, 3, none⟩ = some (.slice B acc.length cb) := (blk_cell X7.out 3).trans rfl
                have r4 : w7.cell? ⟨w.heap.size, 4, none⟩ = some (.slice B2 ac.length cb2) := (blk_cell X7.out 4).trans rfl
                have EV3 : (de, er) = (⟨lg, nx, sq, acc, ac⟩, 0) := DV.out.symm.trans (decE_some DN.out)
                have RG7 := Kd.R_reads' (Kd.R_mono (Kd.R_step (Kd.R_types RG5.out XW.out (by intro x hx; simp [show k84.E = [] from rfl] at hx; omega)) (fun k ho _ => HK7.out k ho.2)) (ok' := fun _ => True) (fun _ _ => trivial))
                have RA7 := Kd.R_reads' (Kd.R_mono (Kd.R_step (Kd.R_types RA5.out XW.out (by intro x hx; simp [show k82.E = [] from rfl] at hx; omega)) (fun k ho _ => HK7.out k ho.2)) (ok' := fun _ => True) (fun _ _ => trivial))
                injection EV3 with e1_ e2_
                subst e1_
                subst e2_
                exact bodyPost_ret (v := .tuple #[.agg #[.int .u64 lg, .int .u64 nx, .int .u64 sq, .slice B acc.length cb, .slice B2 ac.length cb2], .int .i64 0]) (by simp [results, Try.results68, go_sem, r0, r1, r2, r3, r4]) rfl ⟨B, B2, cb, cb2, rfl, ⟨RG7.2.1, RG7.2.2⟩, ⟨RA7.2.1, RA7.2.2⟩, HB7.out⟩
              · rw [if_neg hl] at LC
                have DN := Aside0.mk (show decE s = none by rw [DN0.out, cA_zero]; exact finE_no (fun h => hl h.2))
                clear hl
                go_wp2_with fail
                refine LC.mono ?_
                rintro x w5 ⟨rfl, hb⟩
                have HBW := Aside0.mk (below_step HB.out hb)
                have XW := Aside0.mk (blk_below X.out hb)
                clear hb LC e0 e1 e2 e3 e4 y0 y1
                go_wp2_with (first | (refine st_arr rfl 70 _ _ rfl w.heap.size 70 ?hx #[.int .u64 0, .int .u64 0, .int .u64 0, .slice none 0 0, .slice none 0 0] ?hy _ XW.out (by rw [size70]; rfl) rfl (by simp [Value.oneCell']) ?_; (case hx => rfl); (case hy => rfl); intro w7 hb7 hbb hk7 hs7; have HB7 := Aside0.mk (hbb _ _ HBW.out (Nat.le_refl _)); have X7 := Aside0.mk hb7; have HK7 := Aside0.mk hk7; clear hb7 hbb hk7 hs7) | fail)
                have r0 : w7.cell? ⟨w.heap.size, 0, none⟩ = some (.int .u64 0) := (blk_cell X7.out 0).trans rfl
                have r1 : w7.cell? ⟨w.heap.size, 1, none⟩ = some (.int .u64 0) := (blk_cell X7.out 1).trans rfl
                have r2 : w7.cell? ⟨w.heap.size, 2, none⟩ = some (.int .u64 0) := (blk_cell X7.out 2).trans rfl
                have r3 : w7.cell? ⟨w.heap.size, 3, none⟩ = some (.slice none 0 0) := (blk_cell X7.out 3).trans rfl
                have r4 : w7.cell? ⟨w.heap.size, 4, none⟩ = some (.slice none 0 0) := (blk_cell X7.out 4).trans rfl
                have EV2 : decV s = (zeroE, 7) := decE_none DN.out
                have EV3 : (de, er) = (zeroE, 7) := DV.out.symm.trans EV2
                injection EV3 with e1_ e2_
                subst e1_
                subst e2_
                exact bodyPost_ret (v := .tuple #[.agg #[.int .u64 0, .int .u64 0, .int .u64 0, .slice none 0 0, .slice none 0 0], .int .i64 7]) (by simp [results, Try.results68, go_sem, r0, r1, r2, r3, r4]) rfl ⟨none, none, 0, 0, rfl, ⟨Nat.le_refl _, ⟨rfl, by simp [zeroE], fun h => absurd h (Nat.lt_irrefl 0)⟩⟩, ⟨Nat.le_refl _, ⟨rfl, by simp [zeroE], fun h => absurd h (Nat.lt_irrefl 0)⟩⟩, HB7.out⟩
            · have DN := Aside0.mk (show decE s = none by rw [DN0.out, cA_zero]; exact finE_no (fun h => hz h.1))
              have z0 : ¬ rs.toList = [] := fun h => hz (toList_size h)
              have z1 : (rs.toList == []) = false := beq_eq_false_iff_ne.mpr z0
              have z2 : (rs.toList != []) = true := by simp [z0]
              have z3 : rs.toList.isEmpty = false := by rw [List.isEmpty_eq_false_iff]; exact z0
              have XW := X; have HBW := HB
              clear hz
              go_wp2_with (first | (refine st_arr rfl 70 _ _ rfl w.heap.size 70 ?hx #[.int .u64 0, .int .u64 0, .int .u64 0, .slice none 0 0, .slice none 0 0] ?hy _ XW.out (by rw [size70]; rfl) rfl (by simp [Value.oneCell']) ?_; (case hx => rfl); (case hy => rfl); intro w7 hb7 hbb hk7 hs7; have HB7 := Aside0.mk (hbb _ _ HBW.out (Nat.le_refl _)); have X7 := Aside0.mk hb7; have HK7 := Aside0.mk hk7; clear hb7 hbb hk7 hs7) | fail)
              have r0 : w7.cell? ⟨w.heap.size, 0, none⟩ = some (.int .u64 0) := (blk_cell X7.out 0).trans rfl
              have r1 : w7.cell? ⟨w.heap.size, 1, none⟩ = some (.int .u64 0) := (blk_cell X7.out 1).trans rfl
              have r2 : w7.cell? ⟨w.heap.size, 2, none⟩ = some (.int .u64 0) := (blk_cell X7.out 2).trans rfl
              have r3 : w7.cell? ⟨w.heap.size, 3, none⟩ = some (.slice none 0 0) := (blk_cell X7.out 3).trans rfl
              have r4 : w7.cell? ⟨w.heap.size, 4, none⟩ = some (.slice none 0 0) := (blk_cell X7.out 4).trans rfl
              have EV2 : decV s = (zeroE, 7) := decE_none DN.out
              have EV3 : (de, er) = (zeroE, 7) := DV.out.symm.trans EV2
              injection EV3 with e1_ e2_
              subst e1_
              subst e2_
              exact bodyPost_ret (v := .tuple #[.agg #[.int .u64 0, .int .u64 0, .int .u64 0, .slice none 0 0, .slice none 0 0], .int .i64 7]) (by simp [results, Try.results68, go_sem, r0, r1, r2, r3, r4]) rfl ⟨none, none, 0, 0, rfl, ⟨Nat.le_refl _, ⟨rfl, by simp [zeroE], fun h => absurd h (Nat.lt_irrefl 0)⟩⟩, ⟨Nat.le_refl _, ⟨rfl, by simp [zeroE], fun h => absurd h (Nat.lt_irrefl 0)⟩⟩, HB7.out⟩
        | succ q2 =>
          obtain rfl : n2 = q2 + 1 := HK.out.1.symm
          have d0 : decide (0 < ((q2 + 1 : Nat) : Int)) = true := decide_eq_true (by omega)
          have eq2 : IntKind.u64.wrap (q2 : Int) = (q2 : Int) := wrap_u (by omega) (by have := HK.out.2; omega)
          cases rb with
          | true =>
            have SRN : sr = none := by rcases HST.out with h | h; exact h.1; cases h.2
            have DN := Aside0.mk (show decE s = none by rw [DE.out, SRN]; rfl)
            have XW := X; have HBW := HB
            clear SRN
            go_wp2_with (first | (refine st_arr rfl 70 _ _ rfl w.heap.size 70 ?hx #[.int .u64 0, .int .u64 0, .int .u64 0, .slice none 0 0, .slice none 0 0] ?hy _ XW.out (by rw [size70]; rfl) rfl (by simp [Value.oneCell']) ?_; (case hx => rfl); (case hy => rfl); intro w7 hb7 hbb hk7 hs7; have HB7 := Aside0.mk (hbb _ _ HBW.out (Nat.le_refl _)); have X7 := Aside0.mk hb7; have HK7 := Aside0.mk hk7; clear hb7 hbb hk7 hs7) | fail)
            have r0 : w7.cell? ⟨w.heap.size, 0, none⟩ = some (.int .u64 0) := (blk_cell X7.out 0).trans rfl
            have r1 : w7.cell? ⟨w.heap.size, 1, none⟩ = some (.int .u64 0) := (blk_cell X7.out 1).trans rfl
            have r2 : w7.cell? ⟨w.heap.size, 2, none⟩ = some (.int .u64 0) := (blk_cell X7.out 2).trans rfl
            have r3 : w7.cell? ⟨w.heap.size, 3, none⟩ = some (.slice none 0 0) := (blk_cell X7.out 3).trans rfl
            have r4 : w7.cell? ⟨w.heap.size, 4, none⟩ = some (.slice none 0 0) := (blk_cell X7.out 4).trans rfl
            have EV2 : decV s = (zeroE, 7) := decE_none DN.out
            have EV3 : (de, er) = (zeroE, 7) := DV.out.symm.trans EV2
            injection EV3 with e1_ e2_
            subst e1_
            subst e2_
            exact bodyPost_ret (v := .tuple #[.agg #[.int .u64 0, .int .u64 0, .int .u64 0, .slice none 0 0, .slice none 0 0], .int .i64 7]) (by simp [results, Try.results68, go_sem, r0, r1, r2, r3, r4]) rfl ⟨none, none, 0, 0, rfl, ⟨Nat.le_refl _, ⟨rfl, by simp [zeroE], fun h => absurd h (Nat.lt_irrefl 0)⟩⟩, ⟨Nat.le_refl _, ⟨rfl, by simp [zeroE], fun h => absurd h (Nat.lt_irrefl 0)⟩⟩, HB7.out⟩
          | false =>
            rw [cA_succ] at DE
            have K0 := Aside0.mk (KB.of (below_alloc (Below.refl wr.heap.size wr) (.cells #[.int .i64 0, .int .u64 0, .int .i64 0, .int .i64 0, .string ⟨#[]⟩, .string ⟨#[]⟩, .int .u64 0, .int .u64 0] 82)) (Nat.le_of_lt RDr.out.lt))
            have XG0 := Aside0.mk (blk_new wr (.cells #[.int .i64 0, .int .u64 0, .int .i64 0, .int .i64 0, .string ⟨#[]⟩, .string ⟨#[]⟩, .int .u64 0, .int .u64 0] 82))
            have RD0 := Aside0.mk (RDr.out.below (below_alloc (Below.refl wr.heap.size wr) (.cells #[.int .i64 0, .int .u64 0, .int .i64 0, .int .i64 0, .string ⟨#[]⟩, .string ⟨#[]⟩, .int .u64 0, .int .u64 0] 82)))
            have NG := Aside0.mk (show gr < wr.heap.size from RDr.out.lt)
            go_upto_region 12 with (fail)
            obtain ⟨ga, hga⟩ : ∃ ga, ga = wr.heap.size := ⟨_, rfl⟩
            rw [← hga] at XG0 NG ⊢
            have GA := Aside0.mk (show wr.heap.size ≤ ga by omega)
            clear hga
            generalize wr.alloc (.cells #[.int .i64 0, .int .u64 0, .int .i64 0, .int .i64 0, .string ⟨#[]⟩, .string ⟨#[]⟩, .int .u64 0, .int .u64 0] 82) = u0 at *
            clear y1
            obtain ⟨lv, z0, ha0⟩ : ∃ a b, numO sr 3 = (a, b) := ⟨_, _, rfl⟩
            have NC := number_calls u0 gr sr 3 RD0.out
            rw [ha0] at NC
            have Ea0 := Aside0.mk ha0
            have NRa0 := Aside0.mk (show 0 ≤ lv ∧ lv ≤ 3 by have h9 := numO_range sr (most := 3) (by decide); rw [ha0] at h9; exact h9)
            clear ha0
            have ewlv : wrap64 lv = lv := by have := NRa0.out; unfold wrap64; omega
            go_wp2_with fail
            refine NC.mono ?_
            clear NC
            rintro x p0 ⟨rfl, hrd, hkb⟩
            have XGp0 := Aside0.mk (hkb.blk (Nat.ne_of_gt NG.out) XG0.out)
            have Kp0 := Aside0.mk (K0.out.trans hkb)
            have RDp0 := Aside0.mk hrd
            clear hrd hkb XG0 K0 RD0
            have ff := blk_frozen XGp0.out 0
            have fc : p0.cell? ⟨ga, 0, none⟩ = some (.int .i64 0) := (blk_cell XGp0.out 0).trans rfl
            have XG1 := Aside0.mk (five_set0 XGp0.out (j := 0) (.int .i64 lv) (cs' := #[.int .i64 lv, .int .u64 0, .int .i64 0, .int .i64 0, .string ⟨#[]⟩, .string ⟨#[]⟩, .int .u64 0, .int .u64 0]) rfl)
            have K1 := Aside0.mk (Kp0.out.new GA.out (Nat.le_of_lt NG.out) (j := 0) (.int .i64 lv))
            have RD1 := Aside0.mk (RDp0.out.far (g := ga) (j := 0) (Nat.ne_of_lt NG.out) (.int .i64 lv))
            go_upto_region 13 with (fail)
            clear XGp0 Kp0 RDp0 ff fc
            generalize p0.setCell ⟨ga, 0, none⟩ (.int .i64 lv) = u1 at *
            obtain ⟨nb, z1, ha1⟩ : ∃ a b, numO z0 99999999 = (a, b) := ⟨_, _, rfl⟩
            have NC := number_calls u1 gr z0 99999999 RD1.out
            rw [ha1] at NC
            have Ea1 := Aside0.mk ha1
            have NRa1 := Aside0.mk (show 0 ≤ nb ∧ nb ≤ 99999999 by have h9 := numO_range z0 (most := 99999999) (by decide); rw [ha1] at h9; exact h9)
            clear ha1
            go_wp2_with fail
            refine NC.mono ?_
            clear NC
            rintro x p1 ⟨rfl, hrd, hkb⟩
            have XGp1 := Aside0.mk (hkb.blk (Nat.ne_of_gt NG.out) XG1.out)
            have Kp1 := Aside0.mk (K1.out.trans hkb)
            have RDp1 := Aside0.mk hrd
            clear hrd hkb XG1 K1 RD1
            have ff := blk_frozen XGp1.out 1
            have fc : p1.cell? ⟨ga, 1, none⟩ = some (.int .u64 0) := (blk_cell XGp1.out 1).trans rfl
            have XG2 := Aside0.mk (five_set0 XGp1.out (j := 1) (.int .u64 nb) (cs' := #[.int .i64 lv, .int .u64 nb, .int .i64 0, .int .i64 0, .string ⟨#[]⟩, .string ⟨#[]⟩, .int .u64 0, .int .u64 0]) rfl)
            have K2 := Aside0.mk (Kp1.out.new GA.out (Nat.le_of_lt NG.out) (j := 1) (.int .u64 nb))
            have RD2 := Aside0.mk (RDp1.out.far (g := ga) (j := 1) (Nat.ne_of_lt NG.out) (.int .u64 nb))
            go_upto_region 14 with (fail)
            clear XGp1 Kp1 RDp1 ff fc
            generalize p1.setCell ⟨ga, 1, none⟩ (.int .u64 nb) = u2 at *
            obtain ⟨sz, z2, ha2⟩ : ∃ a b, numO z1 262144 = (a, b) := ⟨_, _, rfl⟩
            have NC := number_calls u2 gr z1 262144 RD2.out
            rw [ha2] at NC
            have Ea2 := Aside0.mk ha2
            have NRa2 := Aside0.mk (show 0 ≤ sz ∧ sz ≤ 262144 by have h9 := numO_range z1 (most := 262144) (by decide); rw [ha2] at h9; exact h9)
            clear ha2
            have ewsz : wrap64 sz = sz := by have := NRa2.out; unfold wrap64; omega
            go_wp2_with fail
            refine NC.mono ?_
            clear NC
            rintro x p2 ⟨rfl, hrd, hkb⟩
            have XGp2 := Aside0.mk (hkb.blk (Nat.ne_of_gt NG.out) XG2.out)
            have Kp2 := Aside0.mk (K2.out.trans hkb)
            have RDp2 := Aside0.mk hrd
            clear hrd hkb XG2 K2 RD2
            have ff := blk_frozen XGp2.out 2
            have fc : p2.cell? ⟨ga, 2, none⟩ = some (.int .i64 0) := (blk_cell XGp2.out 2).trans rfl
            have XG3 := Aside0.mk (five_set0 XGp2.out (j := 2) (.int .i64 sz) (cs' := #[.int .i64 lv, .int .u64 nb, .int .i64 sz, .int .i64 0, .string ⟨#[]⟩, .string ⟨#[]⟩, .int .u64 0, .int .u64 0]) rfl)
            have K3 := Aside0.mk (Kp2.out.new GA.out (Nat.le_of_lt NG.out) (j := 2) (.int .i64 sz))
            have RD3 := Aside0.mk (RDp2.out.far (g := ga) (j := 2) (Nat.ne_of_lt NG.out) (.int .i64 sz))
            go_upto_region 15 with (fail)
            clear XGp2 Kp2 RDp2 ff fc
            generalize p2.setCell ⟨ga, 2, none⟩ (.int .i64 sz) = u3 at *
            obtain ⟨rw_, z3, ha3⟩ : ∃ a b, numO z2 262144 = (a, b) := ⟨_, _, rfl⟩
            have NC := number_calls u3 gr z2 262144 RD3.out
            rw [ha3] at NC
            have Ea3 := Aside0.mk ha3
            have NRa3 := Aside0.mk (show 0 ≤ rw_ ∧ rw_ ≤ 262144 by have h9 := numO_range z2 (most := 262144) (by decide); rw [ha3] at h9; exact h9)
            clear ha3
            have ewrw_ : wrap64 rw_ = rw_ := by have := NRa3.out; unfold wrap64; omega
            go_wp2_with fail
            refine NC.mono ?_
            clear NC
            rintro x p3 ⟨rfl, hrd, hkb⟩
            have XGp3 := Aside0.mk (hkb.blk (Nat.ne_of_gt NG.out) XG3.out)
            have Kp3 := Aside0.mk (K3.out.trans hkb)
            have RDp3 := Aside0.mk hrd
            clear hrd hkb XG3 K3 RD3
            have ff := blk_frozen XGp3.out 3
            have fc : p3.cell? ⟨ga, 3, none⟩ = some (.int .i64 0) := (blk_cell XGp3.out 3).trans rfl
            have XG4 := Aside0.mk (five_set0 XGp3.out (j := 3) (.int .i64 rw_) (cs' := #[.int .i64 lv, .int .u64 nb, .int .i64 sz, .int .i64 rw_, .string ⟨#[]⟩, .string ⟨#[]⟩, .int .u64 0, .int .u64 0]) rfl)
            have K4 := Aside0.mk (Kp3.out.new GA.out (Nat.le_of_lt NG.out) (j := 3) (.int .i64 rw_))
            have RD4 := Aside0.mk (RDp3.out.far (g := ga) (j := 3) (Nat.ne_of_lt NG.out) (.int .i64 rw_))
            go_upto_region 16 with (fail)
            clear XGp3 Kp3 RDp3 ff fc
            generalize p3.setCell ⟨ga, 3, none⟩ (.int .i64 rw_) = u4 at *
            obtain ⟨f1, z4, ha4⟩ : ∃ a b, texO z3 = (a, b) := ⟨_, _, rfl⟩
            have NC := text_calls u4 gr z3 RD4.out
            rw [ha4] at NC
            have Ea4 := Aside0.mk ha4
            clear ha4
            go_wp2_with fail
            refine NC.mono ?_
            clear NC
            rintro x p4 ⟨rfl, hrd, hkb⟩
            have XGp4 := Aside0.mk (hkb.blk (Nat.ne_of_gt NG.out) XG4.out)
            have Kp4 := Aside0.mk (K4.out.trans hkb)
            have RDp4 := Aside0.mk hrd
            clear hrd hkb XG4 K4 RD4
            have ff := blk_frozen XGp4.out 4
            have fc : p4.cell? ⟨ga, 4, none⟩ = some (.string ⟨#[]⟩) := (blk_cell XGp4.out 4).trans rfl
            have XG5 := Aside0.mk (five_set0 XGp4.out (j := 4) (.string f1) (cs' := #[.int .i64 lv, .int .u64 nb, .int .i64 sz, .int .i64 rw_, .string f1, .string ⟨#[]⟩, .int .u64 0, .int .u64 0]) rfl)
            have K5 := Aside0.mk (Kp4.out.new GA.out (Nat.le_of_lt NG.out) (j := 4) (.string f1))
            have RD5 := Aside0.mk (RDp4.out.far (g := ga) (j := 4) (Nat.ne_of_lt NG.out) (.string f1))
            have ff5 := blk_frozen XG5.out 5
            have fc5 : (p4.setCell ⟨ga, 4, none⟩ (.string f1)).cell? ⟨ga, 5, none⟩ = some (.string ⟨#[]⟩) := (blk_cell XG5.out 5).trans rfl
            go_upto_region 17 with (fail)
            have XGx := Aside0.mk (five_set0 XG5.out (j := 5) (.string ⟨#[]⟩) (cs' := #[.int .i64 lv, .int .u64 nb, .int .i64 sz, .int .i64 rw_, .string f1, .string ⟨#[]⟩, .int .u64 0, .int .u64 0]) rfl)
            have Kx := Aside0.mk (K5.out.new GA.out (Nat.le_of_lt NG.out) (j := 5) (.string ⟨#[]⟩))
            have RDx := Aside0.mk (RD5.out.far (g := ga) (j := 5) (Nat.ne_of_lt NG.out) (.string ⟨#[]⟩))
            clear XGp4 Kp4 RDp4 XG5 K5 RD5 ff ff5 fc fc5
            generalize (p4.setCell ⟨ga, 4, none⟩ (.string f1)).setCell ⟨ga, 5, none⟩ (.string ⟨#[]⟩) = u5 at *
            have XG5 := XGx; have K5 := Kx; have RD5 := RDx
            clear XGx Kx RDx
            obtain ⟨f2, z5, ha5⟩ : ∃ a b, texO z4 = (a, b) := ⟨_, _, rfl⟩
            have NC := text_calls u5 gr z4 RD5.out
            rw [ha5] at NC
            have Ea5 := Aside0.mk ha5
            clear ha5
            go_wp2_with fail
            refine NC.mono ?_
            clear NC
            rintro x p5 ⟨rfl, hrd, hkb⟩
            have XGp5 := Aside0.mk (hkb.blk (Nat.ne_of_gt NG.out) XG5.out)
            have Kp5 := Aside0.mk (K5.out.trans hkb)
            have RDp5 := Aside0.mk hrd
            clear hrd hkb XG5 K5 RD5
            have ff := blk_frozen XGp5.out 5
            have fc : p5.cell? ⟨ga, 5, none⟩ = some (.string ⟨#[]⟩) := (blk_cell XGp5.out 5).trans rfl
            have XG6 := Aside0.mk (five_set0 XGp5.out (j := 5) (.string f2) (cs' := #[.int .i64 lv, .int .u64 nb, .int .i64 sz, .int .i64 rw_, .string f1, .string f2, .int .u64 0, .int .u64 0]) rfl)
            have K6 := Aside0.mk (Kp5.out.new GA.out (Nat.le_of_lt NG.out) (j := 5) (.string f2))
            have RD6 := Aside0.mk (RDp5.out.far (g := ga) (j := 5) (Nat.ne_of_lt NG.out) (.string f2))
            go_upto_region 18 with (fail)
            clear XGp5 Kp5 RDp5 ff fc
            generalize p5.setCell ⟨ga, 5, none⟩ (.string f2) = u6 at *
            obtain ⟨ls, z6, ha6⟩ : ∃ a b, numO z5 mxU = (a, b) := ⟨_, _, rfl⟩
            have NC := number_calls u6 gr z5 mxU RD6.out
            rw [ha6] at NC
            have Ea6 := Aside0.mk ha6
            have NRa6 := Aside0.mk (show 0 ≤ ls ∧ ls ≤ mxU by have h9 := numO_range z5 (most := mxU) (by decide); rw [ha6] at h9; exact h9)
            clear ha6
            go_wp2_with fail
            refine NC.mono ?_
            clear NC
            rintro x p6 ⟨rfl, hrd, hkb⟩
            have XGp6 := Aside0.mk (hkb.blk (Nat.ne_of_gt NG.out) XG6.out)
            have Kp6 := Aside0.mk (K6.out.trans hkb)
            have RDp6 := Aside0.mk hrd
            clear hrd hkb XG6 K6 RD6
            have ff := blk_frozen XGp6.out 6
            have fc : p6.cell? ⟨ga, 6, none⟩ = some (.int .u64 0) := (blk_cell XGp6.out 6).trans rfl
            have XG7 := Aside0.mk (five_set0 XGp6.out (j := 6) (.int .u64 ls) (cs' := #[.int .i64 lv, .int .u64 nb, .int .i64 sz, .int .i64 rw_, .string f1, .string f2, .int .u64 ls, .int .u64 0]) rfl)
            have K7 := Aside0.mk (Kp6.out.new GA.out (Nat.le_of_lt NG.out) (j := 6) (.int .u64 ls))
            have RD7 := Aside0.mk (RDp6.out.far (g := ga) (j := 6) (Nat.ne_of_lt NG.out) (.int .u64 ls))
            go_upto_region 19 with (fail)
            clear XGp6 Kp6 RDp6 ff fc
            generalize p6.setCell ⟨ga, 6, none⟩ (.int .u64 ls) = u7 at *
            obtain ⟨gt, z7, ha7⟩ : ∃ a b, numO z6 mxU = (a, b) := ⟨_, _, rfl⟩
            have NC := number_calls u7 gr z6 mxU RD7.out
            rw [ha7] at NC
            have Ea7 := Aside0.mk ha7
            have NRa7 := Aside0.mk (show 0 ≤ gt ∧ gt ≤ mxU by have h9 := numO_range z6 (most := mxU) (by decide); rw [ha7] at h9; exact h9)
            clear ha7
            go_wp2_with fail
            refine NC.mono ?_
            clear NC
            rintro x p7 ⟨rfl, hrd, hkb⟩
            have XGp7 := Aside0.mk (hkb.blk (Nat.ne_of_gt NG.out) XG7.out)
            have Kp7 := Aside0.mk (K7.out.trans hkb)
            have RDp7 := Aside0.mk hrd
            clear hrd hkb XG7 K7 RD7
            have ff := blk_frozen XGp7.out 7
            have fc : p7.cell? ⟨ga, 7, none⟩ = some (.int .u64 0) := (blk_cell XGp7.out 7).trans rfl
            have XG8 := Aside0.mk (five_set0 XGp7.out (j := 7) (.int .u64 gt) (cs' := #[.int .i64 lv, .int .u64 nb, .int .i64 sz, .int .i64 rw_, .string f1, .string f2, .int .u64 ls, .int .u64 gt]) rfl)
            have K8 := Aside0.mk (Kp7.out.new GA.out (Nat.le_of_lt NG.out) (j := 7) (.int .u64 gt))
            have RD8 := Aside0.mk (RDp7.out.far (g := ga) (j := 7) (Nat.ne_of_lt NG.out) (.int .u64 gt))
            go_upto_region 20 with (fail)
            clear XGp7 Kp7 RDp7 ff fc
            generalize p7.setCell ⟨ga, 7, none⟩ (.int .u64 gt) = u8 at *
            have HBx := Aside0.mk (HB.out.trans (K8.out.2.mono (Nat.le_of_lt NR.out)))
            have Xx := Aside0.mk (K8.out.blk (Nat.ne_of_lt NR.out) X.out)
            have XEx := Aside0.mk (K8.out.blk (Nat.ne_of_gt NE.out) XE.out)
            have RGx := Aside0.mk (RD.kb RG.out XRD.out no148_84 K8.out)
            have RAx := Aside0.mk (RD.kb RA.out XRD.out no148_82 K8.out)
            have DN := Aside0.mk (show decE s = z7.bind (cA lg nx sq acc q2 (ac ++ [⟨lv, nb, sz, rw_, f1, f2, ls, gt⟩])) by
              rw [DE.out]
              unfold addO
              simp only [Ea0.out, Ea1.out, Ea2.out, Ea3.out, Ea4.out, Ea5.out, Ea6.out, Ea7.out])
            have LAC := Aside0.mk (show ac.length ≤ 300 by have := HK.out.2; omega)
            clear DE HB X XE RG RA RDr XRD HST K8 GA
            have g0 : u8.cell? ⟨ga, 0, none⟩ = some (.int .i64 lv) := (blk_cell XG8.out 0).trans rfl
            have g1 : u8.cell? ⟨ga, 1, none⟩ = some (.int .u64 nb) := (blk_cell XG8.out 1).trans rfl
            have g2 : u8.cell? ⟨ga, 2, none⟩ = some (.int .i64 sz) := (blk_cell XG8.out 2).trans rfl
            have g3 : u8.cell? ⟨ga, 3, none⟩ = some (.int .i64 rw_) := (blk_cell XG8.out 3).trans rfl
            have g4 : u8.cell? ⟨ga, 4, none⟩ = some (.string f1) := (blk_cell XG8.out 4).trans rfl
            have g5 : u8.cell? ⟨ga, 5, none⟩ = some (.string f2) := (blk_cell XG8.out 5).trans rfl
            have g6 : u8.cell? ⟨ga, 6, none⟩ = some (.int .u64 ls) := (blk_cell XG8.out 6).trans rfl
            have g7 : u8.cell? ⟨ga, 7, none⟩ = some (.int .u64 gt) := (blk_cell XG8.out 7).trans rfl
            have z4 : u8.cell? ⟨ge, 4, none⟩ = some (.slice B2 ac.length cb2) := (blk_cell XEx.out 4).trans rfl
            go_wp2_with (first | ((with_reducible refine gate_builtin (b := .append) (xs := #[.tmp 95, .tmp 97]) rfl ?_); at_builtin; refine Kd.R_append k82 (w0 := w) w.heap.size rfl (.tmp 95) (.tmp 97) 68 82 (.agg #[(.int .i64 0), (.int .u64 0), (.int .i64 0), (.int .i64 0), (.string ⟨#[]⟩), (.string ⟨#[]⟩), (.int .u64 0), (.int .u64 0)]) 80 rfl Try.underlying68 info82 rfl (show 0 < 8 by decide) (show 0 < 80 by decide) (.slice B2 ac.length cb2) (ac) (⟨lv, nb, sz, rw_, f1, f2, ls, gt⟩ : S82) [.int .i64 lv, .int .u64 nb, .int .i64 sz, .int .i64 rw_, .string f1, .string f2, .int .u64 ls, .int .u64 gt] (fun _ => True) (fun _ => False) rfl rfl ?aPa (fun _ hk => hk.elim) ?aFa ?aOa ?aBa ?aSa ?aLa ?_; (case aPa => exact k82_mkM _ _ _ (⟨lv, nb, sz, rw_, f1, f2, ls, gt⟩ : S82)); (case aBa => exact HBx.out); (case aFa => exact (fun _ _ => trivial)); (case aOa => exact RAx.out); (case aSa => exact Below.size (HBx.out)); (case aLa => (have h1 := LAC.out; omega)); intro va wa ho hb hg hat; have HBa := Aside0.mk hb; have XEa := Aside0.mk (blk_grown XEx.out hg (Kd.R_ne RAx.out XEx.out (by decide))); have Xa := Aside0.mk (blk_grown Xx.out hg (Kd.R_ne RAx.out Xx.out (by decide))); have RGa := Aside0.mk (Kd.R_over RGx.out RAx.out (by intro x hx; simp [show k84.E = [] from rfl] at hx; omega) hg); have RDa := Aside0.mk (RD8.out.grown hg (fun _ hc => Kd.R_ne RAx.out hc (by decide))); have hc8 : wa.cell? ⟨ge, 4, none⟩ = some (.slice B2 ac.length cb2) := (blk_cell XEa.out 4).trans rfl; have hf8 := blk_frozen XEa.out 4; obtain ⟨AD2, hA2⟩ : ∃ A2, A2 = ac ++ [(⟨lv, nb, sz, rw_, f1, f2, ls, gt⟩ : S82)] := ⟨_, rfl⟩; rw [← hA2] at ho; have AQ2 := Aside0.mk hA2; clear hA2; obtain ⟨B3, cb3, hv⟩ := Kd.R_slice ho; subst hv; have HRa := Aside0.mk ho; clear ho hb hg hat) | fail)
            have HBn := Aside0.mk (below_set (j := 4) (v := .slice B3 AD2.length cb3) HBa.out (Nat.le_of_lt (Nat.lt_trans NR.out NE.out)))
            have Xn := Aside0.mk (blk_far Xa.out (p := ⟨ge, 4, none⟩) (Nat.ne_of_lt (Nat.lt_trans NR.out NE.out)) (.slice B3 AD2.length cb3))
            have XEn := Aside0.mk (five_set (cs' := #[.int .u64 lg, .int .u64 nx, .int .u64 sq, .slice B acc.length cb, .slice B3 AD2.length cb3]) XEa.out (j := 4) (.slice B3 AD2.length cb3) rfl)
            have RDn := Aside0.mk (RDa.out.far (g := ge) (j := 4) (Nat.ne_of_lt NE.out) (.slice B3 AD2.length cb3))
            have RGn := Aside0.mk (Kd.R_mono (Kd.R_set RGa.out XEa.out (by intro x hx; simp [show k84.E = [] from rfl] at hx; omega) 4 (.slice B3 AD2.length cb3)) (fun _ hk => hk))
            have RAn := Aside0.mk (Kd.R_mono (Kd.R_set HRa.out XEa.out (by intro x hx; simp [show k82.E = [] from rfl] at hx; omega) 4 (.slice B3 AD2.length cb3)) (fun _ hk => hk))
            have ADL := Aside0.mk (show AD2.length = ac.length + 1 by rw [AQ2.out, List.length_append]; rfl)
            try rw [eq2]
            clear eq2
            go_roundg q2
            case measure => omega
            case rel => exact ⟨q2, z7, AD2, B3, cb3, rfl, ⟨rfl, by have h1 := HK.out.2; have h2 := ADL.out; omega⟩, HBn, Xn, XEn, RDn, RGn, RAn, ⟨by rw [AQ2.out]; exact DN.out⟩⟩
    | succ q =>
      obtain rfl : n = q + 1 := HK.out.1.symm
      have d0 : decide (0 < ((q + 1 : Nat) : Int)) = true := decide_eq_true (by omega)
      have eq1 : IntKind.u64.wrap (q : Int) = (q : Int) := wrap_u (by omega) (by have := HK.out.2; omega)
      cases rb with
      | true =>
        have hst : st = none := by rcases HST.out with h | h; exact h.1; cases h.2
        subst hst
        have DE2 := Aside0.mk (show decE s = (numO none 256).2.bind (cA lg nx sq acc (numO none 256).1.toNat []) from DE.out)
        clear DE
        have DE := DE2
        clear DE2
        clear HK
        obtain ⟨mn, t5, he⟩ : ∃ a b, numO none 256 = (a, b) := ⟨_, _, rfl⟩
        have NC := number_calls wr gr none 256 RDr.out
        rw [he] at NC
        have Ehe := Aside0.mk he
        have NRmn := Aside0.mk (show 0 ≤ mn ∧ mn ≤ 256 by have h9 := numO_range none (most := 256) (by decide); rw [he] at h9; exact h9)
        clear he
        go_wp2_with fail
        refine NC.mono ?_
        clear NC
        rintro x w8 ⟨rfl, hrd, hkb⟩
        have RDw8 := Aside0.mk hrd
        have Kw8 := Aside0.mk hkb
        clear hrd hkb
        clear y1
        obtain ⟨m1, rfl⟩ : ∃ m1 : Nat, mn = (m1 : Int) := ⟨mn.toNat, by have := NRmn.out.1; omega⟩
        have M1 := Aside0.mk (show m1 ≤ 256 by have := NRmn.out.2; omega)
        have DE8 := Aside0.mk (show decE s = t5.bind (cA lg nx sq acc m1 []) by rw [DE.out, Ehe.out]; dsimp only; rw [Int.toNat_natCast])
        have HB8 := Aside0.mk (HB.out.trans (Kw8.out.2.mono (Nat.le_of_lt NR.out)))
        have X8 := Aside0.mk (Kw8.out.blk (Nat.ne_of_lt NR.out) X.out)
        have XE8 := Aside0.mk (Kw8.out.blk (Nat.ne_of_gt NE.out) XE.out)
        have RG8 := Aside0.mk (RD.kb RA.out XRD.out no148_84 Kw8.out)
        clear DE HB X XE RA RDr XRD Kw8 Ehe NRmn
        go_wp2_with fail
        go_loopg [8] m1 (fun kq v8 w' => ∃ (n2 : Nat) (sr : Option ByteArray) (ac : List S82) (B2 : Option Addr) (cb2 : Nat), v8 = .int .u64 (n2 : Int) ∧ Aside0 (kq = n2 ∧ n2 + ac.length ≤ 256) ∧ Aside0 (Below w.heap.size w w') ∧ Aside0 (w'.heap[w.heap.size]? = some (.cells #[.int .u64 0, .int .u64 0, .int .u64 0, .slice none 0 0, .slice none 0 0] 70 (0, 0))) ∧ Aside0 (w'.heap[ge]? = some (.cells #[.int .u64 lg, .int .u64 nx, .int .u64 sq, .slice B acc.length cb, .slice B2 ac.length cb2] 70 (0, 0))) ∧ Aside0 (RD w' gr sr) ∧ Aside0 (Kd.R k84 84 w' w.heap.size (fun _ => True) (.slice B acc.length cb) acc) ∧ Aside0 (Kd.R k82 82 w' w.heap.size (fun _ => True) (.slice B2 ac.length cb2) ac) ∧ Aside0 (decE s = sr.bind (cA lg nx sq acc n2 ac)))
        case atStart => exact ⟨m1, t5, [], none, 0, rfl, ⟨rfl, by have := M1.out; simp; omega⟩, HB8, X8, XE8, RDw8, RG8, ⟨Kd.R_nil _ _ _ _ _⟩, DE8⟩
        case round =>
          clear HB8 X8 XE8 RDw8 RG8 DE8 M1
          obtain ⟨n2, sr, ac, B2, cb2, rfl, HK, HB, X, XE, RDr, RG, RA, DE⟩ := hrel
          obtain ⟨rs, rb, hrx, hrs, hst⟩ := RDr.out
          have y1 : wr.cell? ⟨gr, 1, none⟩ = some (.bool rb) := (blk_cell hrx 1).trans rfl
          have XRD := Aside0.mk hrx
          have HST := Aside0.mk hst
          clear hrx hrs hst
          cases gk with
          | zero =>
            obtain rfl : n2 = 0 := by have := HK.out.1; omega
            cases rb with
            | true =>
              have hst : sr = none := by rcases HST.out with h | h; exact h.1; cases h.2
              have DN := Aside0.mk (show decE s = none by rw [DE.out, hst]; rfl)
              have XW := X; have HBW := HB
              clear hst
              go_wp2_with (first | (refine st_arr rfl 70 _ _ rfl w.heap.size 70 ?hx #[.int .u64 0, .int .u64 0, .int .u64 0, .slice none 0 0, .slice none 0 0] ?hy _ XW.out (by rw [size70]; rfl) rfl (by simp [Value.oneCell']) ?_; (case hx => rfl); (case hy => rfl); intro w7 hb7 hbb hk7 hs7; have HB7 := Aside0.mk (hbb _ _ HBW.out (Nat.le_refl _)); have X7 := Aside0.mk hb7; have HK7 := Aside0.mk hk7; clear hb7 hbb hk7 hs7) | fail)
              have r0 : w7.cell? ⟨w.heap.size, 0, none⟩ = some (.int .u64 0) := (blk_cell X7.out 0).trans rfl
              have r1 : w7.cell? ⟨w.heap.size, 1, none⟩ = some (.int .u64 0) := (blk_cell X7.out 1).trans rfl
              have r2 : w7.cell? ⟨w.heap.size, 2, none⟩ = some (.int .u64 0) := (blk_cell X7.out 2).trans rfl
              have r3 : w7.cell? ⟨w.heap.size, 3, none⟩ = some (.slice none 0 0) := (blk_cell X7.out 3).trans rfl
              have r4 : w7.cell? ⟨w.heap.size, 4, none⟩ = some (.slice none 0 0) := (blk_cell X7.out 4).trans rfl
              have EV2 : decV s = (zeroE, 7) := decE_none DN.out
              have EV3 : (de, er) = (zeroE, 7) := DV.out.symm.trans EV2
              injection EV3 with e1_ e2_
              subst e1_
              subst e2_
              exact bodyPost_ret (v := .tuple #[.agg #[.int .u64 0, .int .u64 0, .int .u64 0, .slice none 0 0, .slice none 0 0], .int .i64 7]) (by simp [results, Try.results68, go_sem, r0, r1, r2, r3, r4]) rfl ⟨none, none, 0, 0, rfl, ⟨Nat.le_refl _, ⟨rfl, by simp [zeroE], fun h => absurd h (Nat.lt_irrefl 0)⟩⟩, ⟨Nat.le_refl _, ⟨rfl, by simp [zeroE], fun h => absurd h (Nat.lt_irrefl 0)⟩⟩, HB7.out⟩
            | false =>
              have hst : sr = some rs := by rcases HST.out with h | h; cases h.2; exact h.1
              have DN0 := Aside0.mk (show decE s = cA lg nx sq acc 0 ac rs by rw [DE.out, hst]; rfl)
              clear hst
              have y0 : wr.cell? ⟨gr, 0, none⟩ = some (.string rs) := (blk_cell XRD.out 0).trans rfl
              by_cases hz : rs.size = 0
              · have hrs : rs = ⟨#[]⟩ := by
                  apply ByteArray.ext
                  exact Array.eq_empty_of_size_eq_zero hz
                subst hrs
                have e0 : wr.cell? ⟨ge, 0, none⟩ = some (.int .u64 lg) := (blk_cell XE.out 0).trans rfl
                have e1 : wr.cell? ⟨ge, 1, none⟩ = some (.int .u64 nx) := (blk_cell XE.out 1).trans rfl
                have e2 : wr.cell? ⟨ge, 2, none⟩ = some (.int .u64 sq) := (blk_cell XE.out 2).trans rfl
                have e3 : wr.cell? ⟨ge, 3, none⟩ = some (.slice B acc.length cb) := (blk_cell XE.out 3).trans rfl
                have e4 : wr.cell? ⟨ge, 4, none⟩ = some (.slice B2 ac.length cb2) := (blk_cell XE.out 4).trans rfl
                have LC := listed_calls wr ⟨lg, nx, sq, acc, ac⟩ B B2 cb cb2 (Kd.R_reads' RG.out).2.2 (Kd.R_reads' RA.out).2.2
                by_cases hl : listedP ⟨lg, nx, sq, acc, ac⟩
                · rw [if_pos hl] at LC
                  have DN := Aside0.mk (show decE s = some ⟨lg, nx, sq, acc, ac⟩ by rw [DN0.out, cA_zero]; exact finE_yes rfl hl)
                  clear hl
                  go_wp2_with fail
                  refine LC.mono ?_
                  rintro x w5 ⟨rfl, hb⟩
                  have HBW := Aside0.mk (below_step HB.out hb)
                  have XW := Aside0.mk (blk_below X.out hb)
                  have XEW := Aside0.mk (blk_below XE.out hb)
                  have RG5 := Aside0.mk (Kd.R_below RG.out hb)
                  have RA5 := Aside0.mk (Kd.R_below RA.out hb)
                  clear hb LC e0 e1 e2 e3 e4 y0 y1
                  have e0 : w5.cell? ⟨ge, 0, none⟩ = some (.int .u64 lg) := (blk_cell XEW.out 0).trans rfl
                  have e1 : w5.cell? ⟨ge, 1, none⟩ = some (.int .u64 nx) := (blk_cell XEW.out 1).trans rfl
                  have e2 : w5.cell? ⟨ge, 2, none⟩ = some (.int .u64 sq) := (blk_cell XEW.out 2).trans rfl
                  have e3 : w5.cell? ⟨ge, 3, none⟩ = some (.slice B acc.length cb) := (blk_cell XEW.out 3).trans rfl
                  have e4 : w5.cell? ⟨ge, 4, none⟩ = some (.slice B2 ac.length cb2) := (blk_cell XEW.out 4).trans rfl
                  go_wp2_with (first | (refine st_arr rfl 70 _ _ rfl w.heap.size 70 ?hx #[.int .u64 lg, .int .u64 nx, .int .u64 sq, .slice B acc.length cb, .slice B2 ac.length cb2] ?hy _ XW.out (by rw [size70]; rfl) rfl (by simp [Value.oneCell']) ?_; (case hx => rfl); (case hy => rfl); intro w7 hb7 hbb hk7 hs7; have HB7 := Aside0.mk (hbb _ _ HBW.out (Nat.le_refl _)); have X7 := Aside0.mk hb7; have HK7 := Aside0.mk hk7; clear hb7 hbb hk7 hs7) | fail)
                  have r0 : w7.cell? ⟨w.heap.size, 0, none⟩ = some (.int .u64 lg) := (blk_cell X7.out 0).trans rfl
                  have r1 : w7.cell? ⟨w.heap.size, 1, none⟩ = some (.int .u64 nx) := (blk_cell X7.out 1).trans rfl
                  have r2 : w7.cell? ⟨w.heap.size, 2, none⟩ = some (.int .u64 sq) := (blk_cell X7.out 2).trans rfl
                  have r3 : w7.cell? ⟨w.heap.size, 3, none⟩ = some (.slice B acc.length cb) := (blk_cell X7.out 3).trans rfl
                  have r4 : w7.cell? ⟨w.heap.size, 4, none⟩ = some (.slice B2 ac.length cb2) := (blk_cell X7.out 4).trans rfl
                  have EV3 : (de, er) = (⟨lg, nx, sq, acc, ac⟩, 0) := DV.out.symm.trans (decE_some DN.out)
                  have RG7 := Kd.R_reads' (Kd.R_mono (Kd.R_step (Kd.R_types RG5.out XW.out (by intro x hx; simp [show k84.E = [] from rfl] at hx; omega)) (fun k ho _ => HK7.out k ho.2)) (ok' := fun _ => True) (fun _ _ => trivial))
                  have RA7 := Kd.R_reads' (Kd.R_mono (Kd.R_step (Kd.R_types RA5.out XW.out (by intro x hx; simp [show k82.E = [] from rfl] at hx; omega)) (fun k ho _ => HK7.out k ho.2)) (ok' := fun _ => True) (fun _ _ => trivial))
                  injection EV3 with e1_ e2_
                  subst e1_
                  subst e2_
                  exact bodyPost_ret (v := .tuple #[.agg #[.int .u64 lg, .int .u64 nx, .int .u64 sq, .slice B acc.length cb, .slice B2 ac.length cb2], .int .i64 0]) (by simp [results, Try.results68, go_sem, r0, r1, r2, r3, r4]) rfl ⟨B, B2, cb, cb2, rfl, ⟨RG7.2.1, RG7.2.2⟩, ⟨RA7.2.1, RA7.2.2⟩, HB7.out⟩
                · rw [if_neg hl] at LC
                  have DN := Aside0.mk (show decE s = none by rw [DN0.out, cA_zero]; exact finE_no (fun h => hl h.2))
                  clear hl
                  go_wp2_with fail
                  refine LC.mono ?_
                  rintro x w5 ⟨rfl, hb⟩
                  have HBW := Aside0.mk (below_step HB.out hb)
                  have XW := Aside0.mk (blk_below X.out hb)
                  clear hb LC e0 e1 e2 e3 e4 y0 y1
                  go_wp2_with (first | (refine st_arr rfl 70 _ _ rfl w.heap.size 70 ?hx #[.int .u64 0, .int .u64 0, .int .u64 0, .slice none 0 0, .slice none 0 0] ?hy _ XW.out (by rw [size70]; rfl) rfl (by simp [Value.oneCell']) ?_; (case hx => rfl); (case hy => rfl); intro w7 hb7 hbb hk7 hs7; have HB7 := Aside0.mk (hbb _ _ HBW.out (Nat.le_refl _)); have X7 := Aside0.mk hb7; have HK7 := Aside0.mk hk7; clear hb7 hbb hk7 hs7) | fail)
                  have r0 : w7.cell? ⟨w.heap.size, 0, none⟩ = some (.int .u64 0) := (blk_cell X7.out 0).trans rfl
                  have r1 : w7.cell? ⟨w.heap.size, 1, none⟩ = some (.int .u64 0) := (blk_cell X7.out 1).trans rfl
                  have r2 : w7.cell? ⟨w.heap.size, 2, none⟩ = some (.int .u64 0) := (blk_cell X7.out 2).trans rfl
                  have r3 : w7.cell? ⟨w.heap.size, 3, none⟩ = some (.slice none 0 0) := (blk_cell X7.out 3).trans rfl
                  have r4 : w7.cell? ⟨w.heap.size, 4, none⟩ = some (.slice none 0 0) := (blk_cell X7.out 4).trans rfl
                  have EV2 : decV s = (zeroE, 7) := decE_none DN.out
                  have EV3 : (de, er) = (zeroE, 7) := DV.out.symm.trans EV2
                  injection EV3 with e1_ e2_
                  subst e1_
                  subst e2_
                  exact bodyPost_ret (v := .tuple #[.agg #[.int .u64 0, .int .u64 0, .int .u64 0, .slice none 0 0, .slice none 0 0], .int .i64 7]) (by simp [results, Try.results68, go_sem, r0, r1, r2, r3, r4]) rfl ⟨none, none, 0, 0, rfl, ⟨Nat.le_refl _, ⟨rfl, by simp [zeroE], fun h => absurd h (Nat.lt_irrefl 0)⟩⟩, ⟨Nat.le_refl _, ⟨rfl, by simp [zeroE], fun h => absurd h (Nat.lt_irrefl 0)⟩⟩, HB7.out⟩
              · have DN := Aside0.mk (show decE s = none by rw [DN0.out, cA_zero]; exact finE_no (fun h => hz h.1))
                have z0 : ¬ rs.toList = [] := fun h => hz (toList_size h)
                have z1 : (rs.toList == []) = false := beq_eq_false_iff_ne.mpr z0
                have z2 : (rs.toList != []) = true := by simp [z0]
                have z3 : rs.toList.isEmpty = false := by rw [List.isEmpty_eq_false_iff]; exact z0
                have XW := X; have HBW := HB
                clear hz
                go_wp2_with (first | (refine st_arr rfl 70 _ _ rfl w.heap.size 70 ?hx #[.int .u64 0, .int .u64 0, .int .u64 0, .slice none 0 0, .slice none 0 0] ?hy _ XW.out (by rw [size70]; rfl) rfl (by simp [Value.oneCell']) ?_; (case hx => rfl); (case hy => rfl); intro w7 hb7 hbb hk7 hs7; have HB7 := Aside0.mk (hbb _ _ HBW.out (Nat.le_refl _)); have X7 := Aside0.mk hb7; have HK7 := Aside0.mk hk7; clear hb7 hbb hk7 hs7) | fail)
                have r0 : w7.cell? ⟨w.heap.size, 0, none⟩ = some (.int .u64 0) := (blk_cell X7.out 0).trans rfl
                have r1 : w7.cell? ⟨w.heap.size, 1, none⟩ = some (.int .u64 0) := (blk_cell X7.out 1).trans rfl
                have r2 : w7.cell? ⟨w.heap.size, 2, none⟩ = some (.int .u64 0) := (blk_cell X7.out 2).trans rfl
                have r3 : w7.cell? ⟨w.heap.size, 3, none⟩ = some (.slice none 0 0) := (blk_cell X7.out 3).trans rfl
                have r4 : w7.cell? ⟨w.heap.size, 4, none⟩ = some (.slice none 0 0) := (blk_cell X7.out 4).trans rfl
                have EV2 : decV s = (zeroE, 7) := decE_none DN.out
                have EV3 : (de, er) = (zeroE, 7) := DV.out.symm.trans EV2
                injection EV3 with e1_ e2_
                subst e1_
                subst e2_
                exact bodyPost_ret (v := .tuple #[.agg #[.int .u64 0, .int .u64 0, .int .u64 0, .slice none 0 0, .slice none 0 0], .int .i64 7]) (by simp [results, Try.results68, go_sem, r0, r1, r2, r3, r4]) rfl ⟨none, none, 0, 0, rfl, ⟨Nat.le_refl _, ⟨rfl, by simp [zeroE], fun h => absurd h (Nat.lt_irrefl 0)⟩⟩, ⟨Nat.le_refl _, ⟨rfl, by simp [zeroE], fun h => absurd h (Nat.lt_irrefl 0)⟩⟩, HB7.out⟩
          | succ q2 =>
            obtain rfl : n2 = q2 + 1 := HK.out.1.symm
            have d0 : decide (0 < ((q2 + 1 : Nat) : Int)) = true := decide_eq_true (by omega)
            have eq2 : IntKind.u64.wrap (q2 : Int) = (q2 : Int) := wrap_u (by omega) (by have := HK.out.2; omega)
            cases rb with
            | true =>
              have SRN : sr = none := by rcases HST.out with h | h; exact h.1; cases h.2
              have DN := Aside0.mk (show decE s = none by rw [DE.out, SRN]; rfl)
              have XW := X; have HBW := HB
              clear SRN
              go_wp2_with (first | (refine st_arr rfl 70 _ _ rfl w.heap.size 70 ?hx #[.int .u64 0, .int .u64 0, .int .u64 0, .slice none 0 0, .slice none 0 0] ?hy _ XW.out (by rw [size70]; rfl) rfl (by simp [Value.oneCell']) ?_; (case hx => rfl); (case hy => rfl); intro w7 hb7 hbb hk7 hs7; have HB7 := Aside0.mk (hbb _ _ HBW.out (Nat.le_refl _)); have X7 := Aside0.mk hb7; have HK7 := Aside0.mk hk7; clear hb7 hbb hk7 hs7) | fail)
              have r0 : w7.cell? ⟨w.heap.size, 0, none⟩ = some (.int .u64 0) := (blk_cell X7.out 0).trans rfl
              have r1 : w7.cell? ⟨w.heap.size, 1, none⟩ = some (.int .u64 0) := (blk_cell X7.out 1).trans rfl
              have r2 : w7.cell? ⟨w.heap.size, 2, none⟩ = some (.int .u64 0) := (blk_cell X7.out 2).trans rfl
              have r3 : w7.cell? ⟨w.heap.size, 3, none⟩ = some (.slice none 0 0) := (blk_cell X7.out 3).trans rfl
              have r4 : w7.cell? ⟨w.heap.size, 4, none⟩ = some (.slice none 0 0) := (blk_cell X7.out 4).trans rfl
              have EV2 : decV s = (zeroE, 7) := decE_none DN.out
              have EV3 : (de, er) = (zeroE, 7) := DV.out.symm.trans EV2
              injection EV3 with e1_ e2_
              subst e1_
              subst e2_
              exact bodyPost_ret (v := .tuple #[.agg #[.int .u64 0, .int .u64 0, .int .u64 0, .slice none 0 0, .slice none 0 0], .int .i64 7]) (by simp [results, Try.results68, go_sem, r0, r1, r2, r3, r4]) rfl ⟨none, none, 0, 0, rfl, ⟨Nat.le_refl _, ⟨rfl, by simp [zeroE], fun h => absurd h (Nat.lt_irrefl 0)⟩⟩, ⟨Nat.le_refl _, ⟨rfl, by simp [zeroE], fun h => absurd h (Nat.lt_irrefl 0)⟩⟩, HB7.out⟩
            | false =>
              rw [cA_succ] at DE
              have K0 := Aside0.mk (KB.of (below_alloc (Below.refl wr.heap.size wr) (.cells #[.int .i64 0, .int .u64 0, .int .i64 0, .int .i64 0, .string ⟨#[]⟩, .string ⟨#[]⟩, .int .u64 0, .int .u64 0] 82)) (Nat.le_of_lt RDr.out.lt))
              have XG0 := Aside0.mk (blk_new wr (.cells #[.int .i64 0, .int .u64 0, .int .i64 0, .int .i64 0, .string ⟨#[]⟩, .string ⟨#[]⟩, .int .u64 0, .int .u64 0] 82))
              have RD0 := Aside0.mk (RDr.out.below (below_alloc (Below.refl wr.heap.size wr) (.cells #[.int .i64 0, .int .u64 0, .int .i64 0, .int .i64 0, .string ⟨#[]⟩, .string ⟨#[]⟩, .int .u64 0, .int .u64 0] 82)))
              have NG := Aside0.mk (show gr < wr.heap.size from RDr.out.lt)
              go_upto_region 12 with (fail)
              obtain ⟨ga, hga⟩ : ∃ ga, ga = wr.heap.size := ⟨_, rfl⟩
              rw [← hga] at XG0 NG ⊢
              have GA := Aside0.mk (show wr.heap.size ≤ ga by omega)
              clear hga
              generalize wr.alloc (.cells #[.int .i64 0, .int .u64 0, .int .i64 0, .int .i64 0, .string ⟨#[]⟩, .string ⟨#[]⟩, .int .u64 0, .int .u64 0] 82) = u0 at *
              clear y1
              obtain ⟨lv, z0, ha0⟩ : ∃ a b, numO sr 3 = (a, b) := ⟨_, _, rfl⟩
              have NC := number_calls u0 gr sr 3 RD0.out
              rw [ha0] at NC
              have Ea0 := Aside0.mk ha0
              have NRa0 := Aside0.mk (show 0 ≤ lv ∧ lv ≤ 3 by have h9 := numO_range sr (most := 3) (by decide); rw [ha0] at h9; exact h9)
              clear ha0
              have ewlv : wrap64 lv = lv := by have := NRa0.out; unfold wrap64; omega
              go_wp2_with fail
              refine NC.mono ?_
              clear NC
              rintro x p0 ⟨rfl, hrd, hkb⟩
              have XGp0 := Aside0.mk (hkb.blk (Nat.ne_of_gt NG.out) XG0.out)
              have Kp0 := Aside0.mk (K0.out.trans hkb)
              have RDp0 := Aside0.mk hrd
              clear hrd hkb XG0 K0 RD0
              have ff := blk_frozen XGp0.out 0
              have fc : p0.cell? ⟨ga, 0, none⟩ = some (.int .i64 0) := (blk_cell XGp0.out 0).trans rfl
              have XG1 := Aside0.mk (five_set0 XGp0.out (j := 0) (.int .i64 lv) (cs' := #[.int .i64 lv, .int .u64 0, .int .i64 0, .int .i64 0, .string ⟨#[]⟩, .string ⟨#[]⟩, .int .u64 0, .int .u64 0]) rfl)
              have K1 := Aside0.mk (Kp0.out.new GA.out (Nat.le_of_lt NG.out) (j := 0) (.int .i64 lv))
              have RD1 := Aside0.mk (RDp0.out.far (g := ga) (j := 0) (Nat.ne_of_lt NG.out) (.int .i64 lv))
              go_upto_region 13 with (fail)
              clear XGp0 Kp0 RDp0 ff fc
              generalize p0.setCell ⟨ga, 0, none⟩ (.int .i64 lv) = u1 at *
              obtain ⟨nb, z1, ha1⟩ : ∃ a b, numO z0 99999999 = (a, b) := ⟨_, _, rfl⟩
              have NC := number_calls u1 gr z0 99999999 RD1.out
              rw [ha1] at NC
              have Ea1 := Aside0.mk ha1
              have NRa1 := Aside0.mk (show 0 ≤ nb ∧ nb ≤ 99999999 by have h9 := numO_range z0 (most := 99999999) (by decide); rw [ha1] at h9; exact h9)
              clear ha1
              go_wp2_with fail
              refine NC.mono ?_
              clear NC
              rintro x p1 ⟨rfl, hrd, hkb⟩
              have XGp1 := Aside0.mk (hkb.blk (Nat.ne_of_gt NG.out) XG1.out)
              have Kp1 := Aside0.mk (K1.out.trans hkb)
              have RDp1 := Aside0.mk hrd
              clear hrd hkb XG1 K1 RD1
              have ff := blk_frozen XGp1.out 1
              have fc : p1.cell? ⟨ga, 1, none⟩ = some (.int .u64 0) := (blk_cell XGp1.out 1).trans rfl
              have XG2 := Aside0.mk (five_set0 XGp1.out (j := 1) (.int .u64 nb) (cs' := #[.int .i64 lv, .int .u64 nb, .int .i64 0, .int .i64 0, .string ⟨#[]⟩, .string ⟨#[]⟩, .int .u64 0, .int .u64 0]) rfl)
              have K2 := Aside0.mk (Kp1.out.new GA.out (Nat.le_of_lt NG.out) (j := 1) (.int .u64 nb))
              have RD2 := Aside0.mk (RDp1.out.far (g := ga) (j := 1) (Nat.ne_of_lt NG.out) (.int .u64 nb))
              go_upto_region 14 with (fail)
              clear XGp1 Kp1 RDp1 ff fc
              generalize p1.setCell ⟨ga, 1, none⟩ (.int .u64 nb) = u2 at *
              obtain ⟨sz, z2, ha2⟩ : ∃ a b, numO z1 262144 = (a, b) := ⟨_, _, rfl⟩
              have NC := number_calls u2 gr z1 262144 RD2.out
              rw [ha2] at NC
              have Ea2 := Aside0.mk ha2
              have NRa2 := Aside0.mk (show 0 ≤ sz ∧ sz ≤ 262144 by have h9 := numO_range z1 (most := 262144) (by decide); rw [ha2] at h9; exact h9)
              clear ha2
              have ewsz : wrap64 sz = sz := by have := NRa2.out; unfold wrap64; omega
              go_wp2_with fail
              refine NC.mono ?_
              clear NC
              rintro x p2 ⟨rfl, hrd, hkb⟩
              have XGp2 := Aside0.mk (hkb.blk (Nat.ne_of_gt NG.out) XG2.out)
              have Kp2 := Aside0.mk (K2.out.trans hkb)
              have RDp2 := Aside0.mk hrd
              clear hrd hkb XG2 K2 RD2
              have ff := blk_frozen XGp2.out 2
              have fc : p2.cell? ⟨ga, 2, none⟩ = some (.int .i64 0) := (blk_cell XGp2.out 2).trans rfl
              have XG3 := Aside0.mk (five_set0 XGp2.out (j := 2) (.int .i64 sz) (cs' := #[.int .i64 lv, .int .u64 nb, .int .i64 sz, .int .i64 0, .string ⟨#[]⟩, .string ⟨#[]⟩, .int .u64 0, .int .u64 0]) rfl)
              have K3 := Aside0.mk (Kp2.out.new GA.out (Nat.le_of_lt NG.out) (j := 2) (.int .i64 sz))
              have RD3 := Aside0.mk (RDp2.out.far (g := ga) (j := 2) (Nat.ne_of_lt NG.out) (.int .i64 sz))
              go_upto_region 15 with (fail)
              clear XGp2 Kp2 RDp2 ff fc
              generalize p2.setCell ⟨ga, 2, none⟩ (.int .i64 sz) = u3 at *
              obtain ⟨rw_, z3, ha3⟩ : ∃ a b, numO z2 262144 = (a, b) := ⟨_, _, rfl⟩
              have NC := number_calls u3 gr z2 262144 RD3.out
              rw [ha3] at NC
              have Ea3 := Aside0.mk ha3
              have NRa3 := Aside0.mk (show 0 ≤ rw_ ∧ rw_ ≤ 262144 by have h9 := numO_range z2 (most := 262144) (by decide); rw [ha3] at h9; exact h9)
              clear ha3
              have ewrw_ : wrap64 rw_ = rw_ := by have := NRa3.out; unfold wrap64; omega
              go_wp2_with fail
              refine NC.mono ?_
              clear NC
              rintro x p3 ⟨rfl, hrd, hkb⟩
              have XGp3 := Aside0.mk (hkb.blk (Nat.ne_of_gt NG.out) XG3.out)
              have Kp3 := Aside0.mk (K3.out.trans hkb)
              have RDp3 := Aside0.mk hrd
              clear hrd hkb XG3 K3 RD3
              have ff := blk_frozen XGp3.out 3
              have fc : p3.cell? ⟨ga, 3, none⟩ = some (.int .i64 0) := (blk_cell XGp3.out 3).trans rfl
              have XG4 := Aside0.mk (five_set0 XGp3.out (j := 3) (.int .i64 rw_) (cs' := #[.int .i64 lv, .int .u64 nb, .int .i64 sz, .int .i64 rw_, .string ⟨#[]⟩, .string ⟨#[]⟩, .int .u64 0, .int .u64 0]) rfl)
              have K4 := Aside0.mk (Kp3.out.new GA.out (Nat.le_of_lt NG.out) (j := 3) (.int .i64 rw_))
              have RD4 := Aside0.mk (RDp3.out.far (g := ga) (j := 3) (Nat.ne_of_lt NG.out) (.int .i64 rw_))
              go_upto_region 16 with (fail)
              clear XGp3 Kp3 RDp3 ff fc
              generalize p3.setCell ⟨ga, 3, none⟩ (.int .i64 rw_) = u4 at *
              obtain ⟨f1, z4, ha4⟩ : ∃ a b, texO z3 = (a, b) := ⟨_, _, rfl⟩
              have NC := text_calls u4 gr z3 RD4.out
              rw [ha4] at NC
              have Ea4 := Aside0.mk ha4
              clear ha4
              go_wp2_with fail
              refine NC.mono ?_
              clear NC
              rintro x p4 ⟨rfl, hrd, hkb⟩
              have XGp4 := Aside0.mk (hkb.blk (Nat.ne_of_gt NG.out) XG4.out)
              have Kp4 := Aside0.mk (K4.out.trans hkb)
              have RDp4 := Aside0.mk hrd
              clear hrd hkb XG4 K4 RD4
              have ff := blk_frozen XGp4.out 4
              have fc : p4.cell? ⟨ga, 4, none⟩ = some (.string ⟨#[]⟩) := (blk_cell XGp4.out 4).trans rfl
              have XG5 := Aside0.mk (five_set0 XGp4.out (j := 4) (.string f1) (cs' := #[.int .i64 lv, .int .u64 nb, .int .i64 sz, .int .i64 rw_, .string f1, .string ⟨#[]⟩, .int .u64 0, .int .u64 0]) rfl)
              have K5 := Aside0.mk (Kp4.out.new GA.out (Nat.le_of_lt NG.out) (j := 4) (.string f1))
              have RD5 := Aside0.mk (RDp4.out.far (g := ga) (j := 4) (Nat.ne_of_lt NG.out) (.string f1))
              have ff5 := blk_frozen XG5.out 5
              have fc5 : (p4.setCell ⟨ga, 4, none⟩ (.string f1)).cell? ⟨ga, 5, none⟩ = some (.string ⟨#[]⟩) := (blk_cell XG5.out 5).trans rfl
              go_upto_region 17 with (fail)
              have XGx := Aside0.mk (five_set0 XG5.out (j := 5) (.string ⟨#[]⟩) (cs' := #[.int .i64 lv, .int .u64 nb, .int .i64 sz, .int .i64 rw_, .string f1, .string ⟨#[]⟩, .int .u64 0, .int .u64 0]) rfl)
              have Kx := Aside0.mk (K5.out.new GA.out (Nat.le_of_lt NG.out) (j := 5) (.string ⟨#[]⟩))
              have RDx := Aside0.mk (RD5.out.far (g := ga) (j := 5) (Nat.ne_of_lt NG.out) (.string ⟨#[]⟩))
              clear XGp4 Kp4 RDp4 XG5 K5 RD5 ff ff5 fc fc5
              generalize (p4.setCell ⟨ga, 4, none⟩ (.string f1)).setCell ⟨ga, 5, none⟩ (.string ⟨#[]⟩) = u5 at *
              have XG5 := XGx; have K5 := Kx; have RD5 := RDx
              clear XGx Kx RDx
              obtain ⟨f2, z5, ha5⟩ : ∃ a b, texO z4 = (a, b) := ⟨_, _, rfl⟩
              have NC := text_calls u5 gr z4 RD5.out
              rw [ha5] at NC
              have Ea5 := Aside0.mk ha5
              clear ha5
              go_wp2_with fail
              refine NC.mono ?_
              clear NC
              rintro x p5 ⟨rfl, hrd, hkb⟩
              have XGp5 := Aside0.mk (hkb.blk (Nat.ne_of_gt NG.out) XG5.out)
              have Kp5 := Aside0.mk (K5.out.trans hkb)
              have RDp5 := Aside0.mk hrd
              clear hrd hkb XG5 K5 RD5
              have ff := blk_frozen XGp5.out 5
              have fc : p5.cell? ⟨ga, 5, none⟩ = some (.string ⟨#[]⟩) := (blk_cell XGp5.out 5).trans rfl
              have XG6 := Aside0.mk (five_set0 XGp5.out (j := 5) (.string f2) (cs' := #[.int .i64 lv, .int .u64 nb, .int .i64 sz, .int .i64 rw_, .string f1, .string f2, .int .u64 0, .int .u64 0]) rfl)
              have K6 := Aside0.mk (Kp5.out.new GA.out (Nat.le_of_lt NG.out) (j := 5) (.string f2))
              have RD6 := Aside0.mk (RDp5.out.far (g := ga) (j := 5) (Nat.ne_of_lt NG.out) (.string f2))
              go_upto_region 18 with (fail)
              clear XGp5 Kp5 RDp5 ff fc
              generalize p5.setCell ⟨ga, 5, none⟩ (.string f2) = u6 at *
              obtain ⟨ls, z6, ha6⟩ : ∃ a b, numO z5 mxU = (a, b) := ⟨_, _, rfl⟩
              have NC := number_calls u6 gr z5 mxU RD6.out
              rw [ha6] at NC
              have Ea6 := Aside0.mk ha6
              have NRa6 := Aside0.mk (show 0 ≤ ls ∧ ls ≤ mxU by have h9 := numO_range z5 (most := mxU) (by decide); rw [ha6] at h9; exact h9)
              clear ha6
              go_wp2_with fail
              refine NC.mono ?_
              clear NC
              rintro x p6 ⟨rfl, hrd, hkb⟩
              have XGp6 := Aside0.mk (hkb.blk (Nat.ne_of_gt NG.out) XG6.out)
              have Kp6 := Aside0.mk (K6.out.trans hkb)
              have RDp6 := Aside0.mk hrd
              clear hrd hkb XG6 K6 RD6
              have ff := blk_frozen XGp6.out 6
              have fc : p6.cell? ⟨ga, 6, none⟩ = some (.int .u64 0) := (blk_cell XGp6.out 6).trans rfl
              have XG7 := Aside0.mk (five_set0 XGp6.out (j := 6) (.int .u64 ls) (cs' := #[.int .i64 lv, .int .u64 nb, .int .i64 sz, .int .i64 rw_, .string f1, .string f2, .int .u64 ls, .int .u64 0]) rfl)
              have K7 := Aside0.mk (Kp6.out.new GA.out (Nat.le_of_lt NG.out) (j := 6) (.int .u64 ls))
              have RD7 := Aside0.mk (RDp6.out.far (g := ga) (j := 6) (Nat.ne_of_lt NG.out) (.int .u64 ls))
              go_upto_region 19 with (fail)
              clear XGp6 Kp6 RDp6 ff fc
              generalize p6.setCell ⟨ga, 6, none⟩ (.int .u64 ls) = u7 at *
              obtain ⟨gt, z7, ha7⟩ : ∃ a b, numO z6 mxU = (a, b) := ⟨_, _, rfl⟩
              have NC := number_calls u7 gr z6 mxU RD7.out
              rw [ha7] at NC
              have Ea7 := Aside0.mk ha7
              have NRa7 := Aside0.mk (show 0 ≤ gt ∧ gt ≤ mxU by have h9 := numO_range z6 (most := mxU) (by decide); rw [ha7] at h9; exact h9)
              clear ha7
              go_wp2_with fail
              refine NC.mono ?_
              clear NC
              rintro x p7 ⟨rfl, hrd, hkb⟩
              have XGp7 := Aside0.mk (hkb.blk (Nat.ne_of_gt NG.out) XG7.out)
              have Kp7 := Aside0.mk (K7.out.trans hkb)
              have RDp7 := Aside0.mk hrd
              clear hrd hkb XG7 K7 RD7
              have ff := blk_frozen XGp7.out 7
              have fc : p7.cell? ⟨ga, 7, none⟩ = some (.int .u64 0) := (blk_cell XGp7.out 7).trans rfl
              have XG8 := Aside0.mk (five_set0 XGp7.out (j := 7) (.int .u64 gt) (cs' := #[.int .i64 lv, .int .u64 nb, .int .i64 sz, .int .i64 rw_, .string f1, .string f2, .int .u64 ls, .int .u64 gt]) rfl)
              have K8 := Aside0.mk (Kp7.out.new GA.out (Nat.le_of_lt NG.out) (j := 7) (.int .u64 gt))
              have RD8 := Aside0.mk (RDp7.out.far (g := ga) (j := 7) (Nat.ne_of_lt NG.out) (.int .u64 gt))
              go_upto_region 20 with (fail)
              clear XGp7 Kp7 RDp7 ff fc
              generalize p7.setCell ⟨ga, 7, none⟩ (.int .u64 gt) = u8 at *
              have HBx := Aside0.mk (HB.out.trans (K8.out.2.mono (Nat.le_of_lt NR.out)))
              have Xx := Aside0.mk (K8.out.blk (Nat.ne_of_lt NR.out) X.out)
              have XEx := Aside0.mk (K8.out.blk (Nat.ne_of_gt NE.out) XE.out)
              have RGx := Aside0.mk (RD.kb RG.out XRD.out no148_84 K8.out)
              have RAx := Aside0.mk (RD.kb RA.out XRD.out no148_82 K8.out)
              have DN := Aside0.mk (show decE s = z7.bind (cA lg nx sq acc q2 (ac ++ [⟨lv, nb, sz, rw_, f1, f2, ls, gt⟩])) by
                rw [DE.out]
                unfold addO
                simp only [Ea0.out, Ea1.out, Ea2.out, Ea3.out, Ea4.out, Ea5.out, Ea6.out, Ea7.out])
              have LAC := Aside0.mk (show ac.length ≤ 300 by have := HK.out.2; omega)
              clear DE HB X XE RG RA RDr XRD HST K8 GA
              have g0 : u8.cell? ⟨ga, 0, none⟩ = some (.int .i64 lv) := (blk_cell XG8.out 0).trans rfl
              have g1 : u8.cell? ⟨ga, 1, none⟩ = some (.int .u64 nb) := (blk_cell XG8.out 1).trans rfl
              have g2 : u8.cell? ⟨ga, 2, none⟩ = some (.int .i64 sz) := (blk_cell XG8.out 2).trans rfl
              have g3 : u8.cell? ⟨ga, 3, none⟩ = some (.int .i64 rw_) := (blk_cell XG8.out 3).trans rfl
              have g4 : u8.cell? ⟨ga, 4, none⟩ = some (.string f1) := (blk_cell XG8.out 4).trans rfl
              have g5 : u8.cell? ⟨ga, 5, none⟩ = some (.string f2) := (blk_cell XG8.out 5).trans rfl
              have g6 : u8.cell? ⟨ga, 6, none⟩ = some (.int .u64 ls) := (blk_cell XG8.out 6).trans rfl
              have g7 : u8.cell? ⟨ga, 7, none⟩ = some (.int .u64 gt) := (blk_cell XG8.out 7).trans rfl
              have z4 : u8.cell? ⟨ge, 4, none⟩ = some (.slice B2 ac.length cb2) := (blk_cell XEx.out 4).trans rfl
              go_wp2_with (first | ((with_reducible refine gate_builtin (b := .append) (xs := #[.tmp 95, .tmp 97]) rfl ?_); at_builtin; refine Kd.R_append k82 (w0 := w) w.heap.size rfl (.tmp 95) (.tmp 97) 68 82 (.agg #[(.int .i64 0), (.int .u64 0), (.int .i64 0), (.int .i64 0), (.string ⟨#[]⟩), (.string ⟨#[]⟩), (.int .u64 0), (.int .u64 0)]) 80 rfl Try.underlying68 info82 rfl (show 0 < 8 by decide) (show 0 < 80 by decide) (.slice B2 ac.length cb2) (ac) (⟨lv, nb, sz, rw_, f1, f2, ls, gt⟩ : S82) [.int .i64 lv, .int .u64 nb, .int .i64 sz, .int .i64 rw_, .string f1, .string f2, .int .u64 ls, .int .u64 gt] (fun _ => True) (fun _ => False) rfl rfl ?aPa (fun _ hk => hk.elim) ?aFa ?aOa ?aBa ?aSa ?aLa ?_; (case aPa => exact k82_mkM _ _ _ (⟨lv, nb, sz, rw_, f1, f2, ls, gt⟩ : S82)); (case aBa => exact HBx.out); (case aFa => exact (fun _ _ => trivial)); (case aOa => exact RAx.out); (case aSa => exact Below.size (HBx.out)); (case aLa => (have h1 := LAC.out; omega)); intro va wa ho hb hg hat; have HBa := Aside0.mk hb; have XEa := Aside0.mk (blk_grown XEx.out hg (Kd.R_ne RAx.out XEx.out (by decide))); have Xa := Aside0.mk (blk_grown Xx.out hg (Kd.R_ne RAx.out Xx.out (by decide))); have RGa := Aside0.mk (Kd.R_over RGx.out RAx.out (by intro x hx; simp [show k84.E = [] from rfl] at hx; omega) hg); have RDa := Aside0.mk (RD8.out.grown hg (fun _ hc => Kd.R_ne RAx.out hc (by decide))); have hc8 : wa.cell? ⟨ge, 4, none⟩ = some (.slice B2 ac.length cb2) := (blk_cell XEa.out 4).trans rfl; have hf8 := blk_frozen XEa.out 4; obtain ⟨AD2, hA2⟩ : ∃ A2, A2 = ac ++ [(⟨lv, nb, sz, rw_, f1, f2, ls, gt⟩ : S82)] := ⟨_, rfl⟩; rw [← hA2] at ho; have AQ2 := Aside0.mk hA2; clear hA2; obtain ⟨B3, cb3, hv⟩ := Kd.R_slice ho; subst hv; have HRa := Aside0.mk ho; clear ho hb hg hat) | fail)
              have HBn := Aside0.mk (below_set (j := 4) (v := .slice B3 AD2.length cb3) HBa.out (Nat.le_of_lt (Nat.lt_trans NR.out NE.out)))
              have Xn := Aside0.mk (blk_far Xa.out (p := ⟨ge, 4, none⟩) (Nat.ne_of_lt (Nat.lt_trans NR.out NE.out)) (.slice B3 AD2.length cb3))
              have XEn := Aside0.mk (five_set (cs' := #[.int .u64 lg, .int .u64 nx, .int .u64 sq, .slice B acc.length cb, .slice B3 AD2.length cb3]) XEa.out (j := 4) (.slice B3 AD2.length cb3) rfl)
              have RDn := Aside0.mk (RDa.out.far (g := ge) (j := 4) (Nat.ne_of_lt NE.out) (.slice B3 AD2.length cb3))
              have RGn := Aside0.mk (Kd.R_mono (Kd.R_set RGa.out XEa.out (by intro x hx; simp [show k84.E = [] from rfl] at hx; omega) 4 (.slice B3 AD2.length cb3)) (fun _ hk => hk))
              have RAn := Aside0.mk (Kd.R_mono (Kd.R_set HRa.out XEa.out (by intro x hx; simp [show k82.E = [] from rfl] at hx; omega) 4 (.slice B3 AD2.length cb3)) (fun _ hk => hk))
              have ADL := Aside0.mk (show AD2.length = ac.length + 1 by rw [AQ2.out, List.length_append]; rfl)
              try rw [eq2]
              clear eq2
              go_roundg q2
              case measure => omega
              case rel => exact ⟨q2, z7, AD2, B3, cb3, rfl, ⟨rfl, by have h1 := HK.out.2; have h2 := ADL.out; omega⟩, HBn, Xn, XEn, RDn, RGn, RAn, ⟨by rw [AQ2.out]; exact DN.out⟩⟩
      | false =>
        rw [cG_succ] at DE
        obtain ⟨lv, s1, hl⟩ : ∃ a b, numO st 3 = (a, b) := ⟨_, _, rfl⟩
        have NC := number_calls wr gr st 3 RDr.out
        rw [hl] at NC
        have Ehl := Aside0.mk hl
        have NRlv := Aside0.mk (show 0 ≤ lv ∧ lv ≤ 3 by have h9 := numO_range st (most := 3) (by decide); rw [hl] at h9; exact h9)
        clear hl
        go_wp2_with fail
        refine NC.mono ?_
        clear NC
        rintro x wa ⟨rfl, hrd, hkb⟩
        have RDwa := Aside0.mk hrd
        have Kwa := Aside0.mk hkb
        clear hrd hkb
        have HBa_ := Aside0.mk (HB.out.trans (Kwa.out.2.mono (Nat.le_of_lt NR.out)))
        have Xa := Aside0.mk (Kwa.out.blk (Nat.ne_of_lt NR.out) X.out)
        have XEa := Aside0.mk (Kwa.out.blk (Nat.ne_of_gt NE.out) XE.out)
        have RAa := Aside0.mk (RD.kb RA.out XRD.out no148_84 Kwa.out)
        obtain ⟨nm, s2, hm⟩ : ∃ a b, numO s1 mxU = (a, b) := ⟨_, _, rfl⟩
        have EHm := Aside0.mk hm
        clear hm y1
        have DN := Aside0.mk (show decE s = s2.bind (cG lg nx sq q (acc ++ [⟨lv, nm⟩])) by rw [DE.out]; unfold goneO; rw [Ehl.out]; dsimp only; rw [EHm.out])
        clear DE HB X XE RA RDr XRD HST
        have ew : wrap64 lv = lv := by have := NRlv.out; unfold wrap64; omega
        go_upto_region 7 with (fail)
        refine start_ (n := 11) (S := (fun w' => w'.heap[ge]? = some (.cells #[.int .u64 lg, .int .u64 nx, .int .u64 sq, .slice B acc.length cb, .slice none 0 0] 70 (0, 0)))) (ds := [8, 10]) #[false, false, false, false, false, false, false, false, false, false, false] (by kernel_rfl) rfl rfl (blk_drew XEa.out) (fun hHeld => ?_)
        have RDd := Aside0.mk (show RD wa.drew gr s1 from RDwa.out)
        have RAd := Aside0.mk (Kd.R_drew RAa.out)
        have HBd := Aside0.mk (below_drew HBa_.out)
        have Xd := Aside0.mk (blk_drew Xa.out)
        have XEd := Aside0.mk (blk_drew XEa.out)
        generalize wa.drew = wd at *
        -- 0: Op.fieldAddr 70 t5 3
        refine pure_ (i := 0) (N := (some 35)) (v := ?_) (a' := ?_) #[true, false, false, false, false, false, false, false, false, false, false] rfl rfl (by kernel_rfl) (fun _ _ _ h => h) (Or.inl ⟨by rfl, ?_⟩) ?_ ?_
        rotate_left
        · intro w'
          go_simp
          with_reducible rfl
        rotate_left
        · simp only [Act.put, List.setIfInBounds_toArray, List.set_cons_zero, List.set_cons_succ, i64_w, i32_w]
          rfl
        -- 1: Op.load 67 t35
        refine take_ (i := 1) (N := (some 36)) (v := ?_) (a' := ?_) #[true, true, false, false, false, false, false, false, false, false, false] rfl rfl (by kernel_rfl) (fun _ _ _ h => h) (Or.inl ⟨by rfl, ?_⟩) hHeld ?_ ?_
        rotate_left
        · rintro w' s0
          have z4 : w'.cell? ⟨ge, 3, none⟩ = some (.slice B acc.length cb) := (blk_cell s0 3).trans rfl
          go_simp
          with_reducible rfl
        rotate_left
        · simp only [Act.put, List.setIfInBounds_toArray, List.set_cons_zero, List.set_cons_succ, i64_w, i32_w]
          rfl
        -- 2: Op.move t7
        refine pure_ (i := 2) (N := (some 37)) (v := ?_) (a' := ?_) #[true, true, true, false, false, false, false, false, false, false, false] rfl rfl (by kernel_rfl) (fun _ _ _ h => h) (Or.inl ⟨by rfl, ?_⟩) ?_ ?_
        rotate_left
        · intro w'
          go_simp
          with_reducible rfl
        rotate_left
        · simp only [Act.put, List.setIfInBounds_toArray, List.set_cons_zero, List.set_cons_succ, i64_w, i32_w]
          rfl
        -- 3: Op.convert 22 3 t37
        refine pure_ (i := 3) (N := (some 38)) (v := ?_) (a' := ?_) #[true, true, true, true, false, false, false, false, false, false, false] rfl rfl (by kernel_rfl) (fun _ _ _ h => h) (Or.inl ⟨by rfl, ?_⟩) ?_ ?_
        rotate_left
        · intro w'
          go_simp
          with_reducible rfl
        rotate_left
        · simp only [Act.put, List.setIfInBounds_toArray, List.set_cons_zero, List.set_cons_succ, i64_w, i32_w]
          rfl
        -- 4: Op.move t4
        refine pure_ (i := 4) (N := (some 39)) (v := ?_) (a' := ?_) #[true, true, true, true, true, false, false, false, false, false, false] rfl rfl (by kernel_rfl) (fun _ _ _ h => h) (Or.inl ⟨by rfl, ?_⟩) ?_ ?_
        rotate_left
        · intro w'
          go_simp
          with_reducible rfl
        rotate_left
        · simp only [Act.put, List.setIfInBounds_toArray, List.set_cons_zero, List.set_cons_succ, i64_w, i32_w]
          rfl
        -- 5: Op.call { value (Operand.func 122), args := #[t39, const (18446744073709551615:u64)], argTypes := #[146, 22] }
        refine one_ (i := 5) (N := (some 40)) #[true, true, true, true, true, true, false, false, false, false, false] rfl rfl (by kernel_rfl) (by decide) (fun K hK => ?_)
        have NC := number_calls wd gr s1 mxU RDd.out
        rw [EHm.out] at NC
        refine goes_ Try.func122 (by kernel_rfl) rfl #[.pointer (some ⟨gr, 0, none⟩), .int .u64 18446744073709551615] (by rfl) rfl rfl (by (try simp only [List.map_toArray, List.map_cons, List.map_nil]); first | done | rfl) ?_
        (with_reducible refine (NC).mono ?_)
        rintro e wb ⟨rfl, hrd, hkb⟩
        refine ⟨_, rfl, ?_⟩
        have RDb := Aside0.mk hrd
        have Kb := Aside0.mk hkb
        clear NC hrd hkb
        have hOld := hHeld
        clear hHeld
        refine hK.out _ _ ((Kb.out.blk (Nat.ne_of_gt NE.out) hOld)) (fun hHeld => ?_)
        clear hOld hK K
        refine norm_ (a' := ?_) ?_ ?_
        rotate_left
        · show Act.put _ (some 40) _ = _
          simp only [Act.put, List.setIfInBounds_toArray, List.set_cons_zero, List.set_cons_succ, i64_w, i32_w]
          rfl
        obtain ⟨csd, hcsd⟩ := RDd.out.blk
        have RAb := Aside0.mk (RD.kb RAd.out hcsd no148_84 Kb.out)
        clear hcsd
        have HBb := Aside0.mk (HBd.out.trans (Kb.out.2.mono (Nat.le_of_lt NR.out)))
        have Xb := Aside0.mk (Kb.out.blk (Nat.ne_of_lt NR.out) Xd.out)
        have XEb := Aside0.mk hHeld
        -- 6: Op.build 84 #[(0, t38), (1, t40)]
        refine pure_ (i := 6) (N := (some 41)) (v := ?_) (a' := ?_) #[true, true, true, true, true, true, true, false, false, false, false] rfl rfl (by kernel_rfl) (fun _ _ _ h => h) (Or.inl ⟨by rfl, ?_⟩) ?_ ?_
        rotate_left
        · intro w'
          go_simp
          with_reducible rfl
        rotate_left
        · simp only [Act.put, List.setIfInBounds_toArray, List.set_cons_zero, List.set_cons_succ, i64_w, i32_w]
          rfl
        -- 7: Op.buildSlice 67 1 #[(0, t41)]
        refine one_ (i := 7) (N := (some 42)) #[true, true, true, true, true, true, true, true, false, false, false] rfl rfl (by kernel_rfl) (by decide) (fun K hK => ?_)
        refine value_ (w1 := wb.alloc (.cells #[.int .i64 (wrap64 lv), .int .u64 nm] 84)) (v := .slice (some ⟨wb.heap.size, 0, none⟩) 1 1) (by rfl) rfl (by go_simp) ?_
        have hOld := hHeld
        clear hHeld
        refine hK.out _ _ ((blk_alloc hOld _)) (fun hHeld => ?_)
        clear hOld hK K
        refine norm_ (a' := ?_) ?_ ?_
        rotate_left
        · show Act.put _ (some 42) _ = _
          simp only [Act.put, List.setIfInBounds_toArray, List.set_cons_zero, List.set_cons_succ, i64_w, i32_w]
          rfl
        -- 8: Op.call { builtin append, args := #[t36, t42], argTypes := #[67, 67] }
        refine last_ (i := 8) (N := (some 43)) #[true, true, true, true, true, true, true, true, true, false, false] rfl rfl (by kernel_rfl) (by decide) (fun K hK => ?_)
        refine Kd.R_append_step k84 (w0 := w) (W := wb) w.heap.size (by rfl) (.tmp 36) (.tmp 42) 67 84 (.agg #[(.int .i64 0), (.int .u64 0)]) 16 (by rfl) Try.underlying67 info84 rfl (by decide) (by omega) (.slice B acc.length cb) acc (⟨wrap64 lv, nm⟩ : S84) [.int .i64 (wrap64 lv), .int .u64 nm] (fun _ => True) (fun _ => False) (by rfl) (by rfl) (k84_mkM _ _ _ (⟨wrap64 lv, nm⟩ : S84)) (fun _ h => h.elim) (fun _ _ => trivial) RAb.out HBb.out HBb.out.size (by have := HK.out.2; omega) ?_
        intro va wc ho hb hg hat
        have HBc := Aside0.mk hb
        have XEc := Aside0.mk (blk_grown XEb.out hg (Kd.R_ne RAb.out XEb.out (by decide)))
        have Xc := Aside0.mk (blk_grown Xb.out hg (Kd.R_ne RAb.out Xb.out (by decide)))
        have RDc := Aside0.mk (RDb.out.grown hg (fun _ hc => Kd.R_ne RAb.out hc (by decide)))
        obtain ⟨AD, hA2⟩ : ∃ G2, G2 = acc ++ [(⟨wrap64 lv, nm⟩ : S84)] := ⟨_, rfl⟩
        rw [← hA2] at ho
        have AQ := Aside0.mk hA2
        clear hA2
        obtain ⟨B3, cb3, hv⟩ := Kd.R_slice ho
        subst hv
        have RAc := Aside0.mk ho
        clear ho hb hg hat
        try clear hHeld
        refine hK.out _ _ ?_
        clear hK K
        refine norm_ (a' := ?_) ?_ ?_
        rotate_left
        · show Act.put _ (some 43) _ = _
          simp only [Act.put, List.setIfInBounds_toArray, List.set_cons_zero, List.set_cons_succ, i64_w, i32_w]
          rfl
        -- 9: Op.fieldAddr 70 t5 3
        refine pure_ (i := 9) (N := (some 44)) (v := ?_) (a' := ?_) #[true, true, true, true, true, true, true, true, true, true, false] rfl rfl (by kernel_rfl) (fun _ _ _ h => h) (Or.inl ⟨by rfl, ?_⟩) ?_ ?_
        rotate_left
        · intro w'
          go_simp
          with_reducible rfl
        rotate_left
        · simp only [Act.put, List.setIfInBounds_toArray, List.set_cons_zero, List.set_cons_succ, i64_w, i32_w]
          rfl
        -- 10: Op.store 67 t44 t43
        refine last_ (i := 10) (N := none) #[true, true, true, true, true, true, true, true, true, true, true] rfl rfl (by kernel_rfl) (by decide) (fun K hK => ?_)
        have hc_ : wc.cell? ⟨ge, 3, none⟩ = some (.slice B acc.length cb) := (blk_cell XEc.out 3).trans rfl
        have hf_ := blk_frozen XEc.out 3
        refine skip_ (w1 := wc.setCell ⟨ge, 3, none⟩ (.slice B3 AD.length cb3)) (by rfl) rfl (by go_simp) ?_
        clear hc_ hf_
        try clear hHeld
        refine hK.out _ _ ?_
        clear hK K
        refine done_ (by kernel_rfl) ?_
        have HBn := Aside0.mk (below_set (j := 3) (v := .slice B3 AD.length cb3) HBc.out (Nat.le_of_lt (Nat.lt_trans NR.out NE.out)))
        have Xn := Aside0.mk (blk_far Xc.out (p := ⟨ge, 3, none⟩) (Nat.ne_of_lt (Nat.lt_trans NR.out NE.out)) (.slice B3 AD.length cb3))
        have XEn := Aside0.mk (five_set (cs' := #[.int .u64 lg, .int .u64 nx, .int .u64 sq, .slice B3 AD.length cb3, .slice none 0 0]) XEc.out (j := 3) (.slice B3 AD.length cb3) rfl)
        have RDn := Aside0.mk (RDc.out.far (g := ge) (j := 3) (Nat.ne_of_lt NE.out) (.slice B3 AD.length cb3))
        have RAn := Aside0.mk (Kd.R_mono (Kd.R_set RAc.out XEc.out (by intro x hx; simp [show k84.E = [] from rfl] at hx; omega) 3 (.slice B3 AD.length cb3)) (fun _ hk => hk))
        have ADL := Aside0.mk (show AD.length = acc.length + 1 by rw [AQ.out, List.length_append]; rfl)
        go_wp2_with fail
        try rw [eq1]
        clear eq1
        go_roundg q
        case measure => omega
        case rel => exact ⟨q, s2, AD, B3, cb3, rfl, ⟨rfl, by have h1 := HK.out.2; have h2 := ADL.out; omega⟩, HBn, Xn, XEn, RDn, RAn, ⟨by rw [AQ.out, ew]; exact DN.out⟩⟩
end Go.Proofs.Ytkjepfofiegcdaa.V
