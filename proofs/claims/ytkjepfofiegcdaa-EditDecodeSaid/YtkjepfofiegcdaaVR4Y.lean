import Derived.Test.YtkjepfofiegcdaaVR2Y
import Derived.Test.YtkjepfofiegcdaaVW1Y
import Derived.Deep.MidRow
/- The reference's Decode (69), walked: it reads what edit.Decode reads. Conditions: the bytes are within reach. -/
namespace Go.Proofs.Ytkjepfofiegcdaa.V
set_option linter.unusedVariables false
set_option linter.unusedSimpArgs false
open Go.RowKit Go.Proofs.YtkjepfofiegcdaaW.PrintWords Go.Proofs.YtkjepfofiegcdaaW.PrintLast Go.Proofs.YtkjepfofiegcdaaW.PrintMore Go.Proofs.Ytkjepfofiegcdaa.PB14
open H (uintS putL)
theorem bel_cells {B g : Nat} {w0 : World} (hg : B ≤ g) : ∀ (vs : List Value) (o : Nat) {w : World}, Below B w0 w → Below B w0 (w.setCells g o vs)
  | [], _, _, h => h
  | v :: r, o, _, h => bel_cells hg r (o + 1) (h.setCell hg v)
theorem there_at {w : World} {g t : Nat} {cur : Array Value} (hg : w.heap[g]? = some (.cells cur t (0, 0))) (o n : Nat) (h : o + n ≤ cur.size) : w.there g o n := fun j hj => by
  have h1 := blk_cell hg (o + j)
  have h2 := blk_frozen hg (o + j)
  rw [h1, Array.getElem?_eq_getElem (by omega)]
  exact ⟨rfl, h2⟩
/-- The reference reads any number as a table's. -/
def addR (st : Option ByteArray) : S82 × Option ByteArray :=
  let a := numO st 3
  let b := numO a.2 mxU
  let c := numO b.2 262144
  let d := numO c.2 262144
  let f := texO d.2
  let g := texO f.2
  let h := numO g.2 mxU
  let k := numO h.2 mxU
  (⟨a.1, b.1, c.1, d.1, f.1, g.1, h.1, k.1⟩, k.2)
noncomputable def cR (lg nx sq : Int) (g : List S84) : Nat → List S82 → ByteArray → Option Edt
  | 0, acc, s => finE lg nx sq g acc s
  | n + 1, acc, s => (addR (some s)).2.bind (cR lg nx sq g n (acc ++ [(addR (some s)).1]))
theorem cR_succ {st : Option ByteArray} {lg nx sq : Int} {g : List S84} {n : Nat} {acc : List S82} : st.bind (cR lg nx sq g (n + 1) acc) = (addR st).2.bind (cR lg nx sq g n (acc ++ [(addR st).1])) := by
  cases st with
  | none => rfl
  | some s => rfl
theorem cR_zero {s : ByteArray} {lg nx sq : Int} {g : List S84} {acc : List S82} : cR lg nx sq g 0 acc s = finE lg nx sq g acc s := rfl
theorem bind_none' {α β : Type} {f : α → Option β} (h : ∀ x, f x = none) (st : Option α) : st.bind f = none := by
  cases st with
  | none => rfl
  | some x => exact h x
theorem cR_bad (lg nx sq : Int) (g : List S84) : ∀ (n : Nat) (acc : List S82) (s : ByteArray), (∃ x, x ∈ acc ∧ ¬ addOk x) → cR lg nx sq g n acc s = none
  | 0, acc, s, ⟨x, hx, hn⟩ => finE_no (fun h => hn (h.2.2 x hx))
  | n + 1, acc, s, ⟨x, hx, hn⟩ => bind_none' (fun r => cR_bad lg nx sq g n _ r ⟨x, List.mem_append_left _ hx, hn⟩) _
theorem numO_two (r : ByteArray) : (numO (some r) 99999999 = numO (some r) mxU) ∨ (numO (some r) 99999999 = (0, none) ∧ 99999999 < (numO (some r) mxU).1) := by
  rcases hu : uintS r with ⟨v, m, er⟩
  by_cases he : er = 0
  · subst he
    by_cases h1 : v ≤ 99999999
    · left
      rw [numO_good (by rw [hu]; exact ⟨rfl, h1⟩), numO_good (most := mxU) (by rw [hu]; exact ⟨rfl, show v ≤ 18446744073709551615 by omega⟩)]
    · by_cases h2 : v ≤ mxU
      · right
        rw [numO_bad (by rw [hu]; exact fun h => h1 h.2), numO_good (most := mxU) (by rw [hu]; exact ⟨rfl, h2⟩), hu]
        exact ⟨rfl, by simp only; omega⟩
      · left
        rw [numO_bad (by rw [hu]; exact fun h => h1 h.2), numO_bad (most := mxU) (by rw [hu]; exact fun h => h2 h.2)]
  · left
    rw [numO_bad (by rw [hu]; exact fun h => he h.1), numO_bad (most := mxU) (by rw [hu]; exact fun h => he h.1)]
theorem cR_eq (lg nx sq : Int) (g : List S84) : ∀ (n : Nat) (acc : List S82) (s : ByteArray), cR lg nx sq g n acc s = cA lg nx sq g n acc s
  | 0, acc, s => rfl
  | n + 1, acc, s => by
    have key : addR (some s) = addO (some s) ∨ ((addO (some s)).2 = none ∧ ¬ addOk (addR (some s)).1) := by
      rcases ha : numO (some s) 3 with ⟨a, r⟩
      cases r with
      | none =>
        left
        unfold addR addO
        rw [ha]
        rfl
      | some r =>
        rcases numO_two r with h | ⟨h1, h2⟩
        · left
          unfold addR addO
          rw [ha]
          dsimp only
          rw [h]
        · right
          unfold addR addO
          rw [ha]
          dsimp only
          rw [h1]
          refine ⟨rfl, fun h => ?_⟩
          have h3 : (numO (some r) mxU).1 < 99999999 := h.2.2.1
          omega
    show (addR (some s)).2.bind (cR lg nx sq g n (acc ++ [(addR (some s)).1])) = (addO (some s)).2.bind (cA lg nx sq g n (acc ++ [(addO (some s)).1]))
    rcases key with h | ⟨h1, h2⟩
    · rw [h, show cR lg nx sq g n (acc ++ [(addO (some s)).1]) = cA lg nx sq g n (acc ++ [(addO (some s)).1]) from funext fun x => cR_eq lg nx sq g n _ x]
    · rw [h1]
      exact bind_none' (fun r => cR_bad lg nx sq g n _ r ⟨_, List.mem_append_right _ (List.mem_cons_self ..), h2⟩) _
theorem PO.neg {s : ByteArray} {a : Int} {st : Option ByteArray} (h : PO s a st) (hn : a < 0) : a = -1 ∧ st = none := by
  rcases h with h | h
  · exact h
  · have := h.1; omega
theorem PO.pos {s : ByteArray} {a : Int} {st : Option ByteArray} (h : PO s a st) (hn : 0 ≤ a) : a ≤ (s.size : Int) ∧ st = some (s.extract a.toNat s.size) := by
  rcases h with h | h
  · have := h.1; omega
  · exact h.2
set_option maxHeartbeats 8000000 in
set_option maxRecDepth 100000 in
theorem decodeR_calls (w : World) (s : ByteArray) (hs : s.size ≤ 4611686018427387904) :
    Calls Try.prog 69 #[.string s] w fun x w' => ∃ (A1 A2 : Option Addr) (c1 c2 : Nat), x = .returned (.tuple #[.agg (eCs (decV s).1 A1 c1 A2 c2), .int .i64 (decV s).2]) ∧ ((decV s).1.gone.length ≤ c1 ∧ k84.C w' A1 (decV s).1.gone.length (decV s).1.gone) ∧ ((decV s).1.added.length ≤ c2 ∧ k82.C w' A2 (decV s).1.added.length (decV s).1.added) ∧ Below w.heap.size w w' := by
  obtain ⟨de, er, hd⟩ : ∃ de er, decV s = (de, er) := ⟨_, _, rfl⟩
  rw [hd]
  have DV := Aside0.mk hd
  have HS := Aside0.mk hs
  clear hd hs
  have HB2 := Aside0.mk (below_alloc ((Below.refl w.heap.size w).alloc (Nat.le_refl _) (.cells #[.int .u64 0, .int .u64 0, .int .u64 0, .slice none 0 0, .slice none 0 0] 70)) (.cells #[.int .u64 0, .int .u64 0, .int .u64 0, .slice none 0 0, .slice none 0 0] 70))
  have X2 := Aside0.mk (blk_alloc (blk_new w (.cells #[.int .u64 0, .int .u64 0, .int .u64 0, .slice none 0 0, .slice none 0 0] 70)) (.cells #[.int .u64 0, .int .u64 0, .int .u64 0, .slice none 0 0, .slice none 0 0] 70))
  have XE2 := Aside0.mk (blk_new (w.alloc (.cells #[.int .u64 0, .int .u64 0, .int .u64 0, .slice none 0 0, .slice none 0 0] 70)) (.cells #[.int .u64 0, .int .u64 0, .int .u64 0, .slice none 0 0, .slice none 0 0] 70))
  have NE := Aside0.mk (show w.heap.size < (w.alloc (.cells #[.int .u64 0, .int .u64 0, .int .u64 0, .slice none 0 0, .slice none 0 0] 70)).heap.size by simp)
  have P0 := Aside0.mk (show PO s 0 (some s) from .inr ⟨Int.le_refl 0, Int.natCast_nonneg _, by congr 1; apply ByteArray.ext; simp⟩)
  go_enter Try.func69, Try.ntmps69
  go_upto_region 3 with (fail)
  generalize hge : (w.alloc (.cells #[.int .u64 0, .int .u64 0, .int .u64 0, .slice none 0 0, .slice none 0 0] 70)).heap.size = ge at *
  have e2 : w.heap.size + 1 = ge := by rw [← hge]; simp
  try rw [e2]
  clear hge e2
  generalize (w.alloc (.cells #[.int .u64 0, .int .u64 0, .int .u64 0, .slice none 0 0, .slice none 0 0] 70)).alloc (.cells #[.int .u64 0, .int .u64 0, .int .u64 0, .slice none 0 0, .slice none 0 0] 70) = w2 at *
  obtain ⟨lg, t1, ha⟩ : ∃ a b, numO (some s) mxU = (a, b) := ⟨_, _, rfl⟩
  have NC := numberR_calls w2 s HS.out 0 mxU (some s) P0.out
  rw [ha] at NC
  have Eha := Aside0.mk ha
  have NRlg := Aside0.mk (show 0 ≤ lg ∧ lg ≤ mxU by have h9 := numO_range (some s) (most := mxU) (by decide); rw [ha] at h9; exact h9)
  clear ha
  go_wp2_with fail
  refine NC.mono ?_
  clear NC
  rintro x w3 ⟨q1, rfl, hpo, hb⟩
  have Pq1 := Aside0.mk hpo
  have Bw3 := Aside0.mk hb
  clear hpo hb
  obtain ⟨nx, t2, hb⟩ : ∃ a b, numO t1 mxU = (a, b) := ⟨_, _, rfl⟩
  have NC := numberR_calls w3 s HS.out q1 mxU t1 Pq1.out
  rw [hb] at NC
  have Ehb := Aside0.mk hb
  have NRnx := Aside0.mk (show 0 ≤ nx ∧ nx ≤ mxU by have h9 := numO_range t1 (most := mxU) (by decide); rw [hb] at h9; exact h9)
  clear hb
  go_wp2_with fail
  refine NC.mono ?_
  clear NC
  rintro x w4 ⟨q2, rfl, hpo, hb⟩
  have Pq2 := Aside0.mk hpo
  have Bw4 := Aside0.mk hb
  clear hpo hb
  obtain ⟨sq, t3, hc⟩ : ∃ a b, numO t2 mxU = (a, b) := ⟨_, _, rfl⟩
  have NC := numberR_calls w4 s HS.out q2 mxU t2 Pq2.out
  rw [hc] at NC
  have Ehc := Aside0.mk hc
  have NRsq := Aside0.mk (show 0 ≤ sq ∧ sq ≤ mxU by have h9 := numO_range t2 (most := mxU) (by decide); rw [hc] at h9; exact h9)
  clear hc
  go_wp2_with fail
  refine NC.mono ?_
  clear NC
  rintro x w5 ⟨q3, rfl, hpo, hb⟩
  have Pq3 := Aside0.mk hpo
  have Bw5 := Aside0.mk hb
  clear hpo hb
  have B25 := below_step (below_step Bw3.out Bw4.out) Bw5.out
  have X5 := Aside0.mk (blk_below X2.out B25)
  have XE5 := Aside0.mk (blk_below XE2.out B25)
  have HB5 := Aside0.mk (below_step HB2.out B25)
  clear B25 Bw3 Bw4 Bw5 X2 XE2 HB2 P0 Pq1 Pq2
  have ff := blk_frozen XE5.out 0
  have fc : w5.cell? ⟨ge, 0, none⟩ = some (.int .u64 0) := (blk_cell XE5.out 0).trans rfl
  have XE6 := Aside0.mk (five_set0 XE5.out (j := 0) (.int .u64 lg) (cs' := #[.int .u64 lg, .int .u64 0, .int .u64 0, .slice none 0 0, .slice none 0 0]) rfl)
  have X6 := Aside0.mk (blk_far X5.out (p := ⟨ge, 0, none⟩) (Nat.ne_of_lt NE.out) (.int .u64 lg))
  have HB6 := Aside0.mk (below_set (j := 0) (v := .int .u64 lg) HB5.out (Nat.le_of_lt NE.out))
  go_upto_region 7 with (fail)
  clear ff fc XE5 X5 HB5
  generalize w5.setCell ⟨ge, 0, none⟩ (.int .u64 lg) = w6 at *
  have ff := blk_frozen XE6.out 1
  have fc : w6.cell? ⟨ge, 1, none⟩ = some (.int .u64 0) := (blk_cell XE6.out 1).trans rfl
  have XE7 := Aside0.mk (five_set0 XE6.out (j := 1) (.int .u64 nx) (cs' := #[.int .u64 lg, .int .u64 nx, .int .u64 0, .slice none 0 0, .slice none 0 0]) rfl)
  have X7 := Aside0.mk (blk_far X6.out (p := ⟨ge, 1, none⟩) (Nat.ne_of_lt NE.out) (.int .u64 nx))
  have HB7 := Aside0.mk (below_set (j := 1) (v := .int .u64 nx) HB6.out (Nat.le_of_lt NE.out))
  go_upto_region 8 with (fail)
  clear ff fc XE6 X6 HB6
  generalize w6.setCell ⟨ge, 1, none⟩ (.int .u64 nx) = w7 at *
  have ff := blk_frozen XE7.out 2
  have fc : w7.cell? ⟨ge, 2, none⟩ = some (.int .u64 0) := (blk_cell XE7.out 2).trans rfl
  have XE8 := Aside0.mk (five_set0 XE7.out (j := 2) (.int .u64 sq) (cs' := #[.int .u64 lg, .int .u64 nx, .int .u64 sq, .slice none 0 0, .slice none 0 0]) rfl)
  have X8 := Aside0.mk (blk_far X7.out (p := ⟨ge, 2, none⟩) (Nat.ne_of_lt NE.out) (.int .u64 sq))
  have HB8 := Aside0.mk (below_set (j := 2) (v := .int .u64 sq) HB7.out (Nat.le_of_lt NE.out))
  go_upto_region 9 with (fail)
  clear ff fc XE7 X7 HB7
  generalize w7.setCell ⟨ge, 2, none⟩ (.int .u64 sq) = w8 at *
  obtain ⟨mn, t4, hd⟩ : ∃ a b, numO t3 256 = (a, b) := ⟨_, _, rfl⟩
  have NC := numberR_calls w8 s HS.out q3 256 t3 Pq3.out
  rw [hd] at NC
  have Ehd := Aside0.mk hd
  have NRmn := Aside0.mk (show 0 ≤ mn ∧ mn ≤ 256 by have h9 := numO_range t3 (most := 256) (by decide); rw [hd] at h9; exact h9)
  clear hd
  go_wp2_with fail
  refine NC.mono ?_
  clear NC
  rintro x w9 ⟨q4, rfl, hpo, hb⟩
  have Pq4 := Aside0.mk hpo
  have Bw9 := Aside0.mk hb
  clear hpo hb
  have X9 := Aside0.mk (blk_below X8.out Bw9.out)
  have XE9 := Aside0.mk (blk_below XE8.out Bw9.out)
  have HB9 := Aside0.mk (below_step HB8.out Bw9.out)
  obtain ⟨m0, rfl⟩ : ∃ m0 : Nat, mn = (m0 : Int) := ⟨mn.toNat, by have := NRmn.out.1; omega⟩
  have M0 := Aside0.mk (show m0 ≤ 256 by have := NRmn.out.2; omega)
  have DE := Aside0.mk (show decE s = t4.bind (cG lg nx sq m0 []) by
    unfold decE
    rw [Eha.out]; dsimp only; rw [Ehb.out]; dsimp only; rw [Ehc.out]; dsimp only; rw [Ehd.out]; dsimp only; rw [Int.toNat_natCast])
  clear Bw9 X8 XE8 HB8 Pq3 Eha Ehb Ehc Ehd NRmn NRlg NRnx NRsq
  go_wp2_with fail
  go_loopg [7, 11] m0 (fun kq v7 v11 w' => ∃ (i : Nat) (at_ : Int) (st : Option ByteArray) (acc : List S84) (B : Option Addr) (cb : Nat), v7 = .int .i64 at_ ∧ v11 = .int .u64 (i : Int) ∧ Aside0 (kq + i = m0 ∧ acc.length ≤ i) ∧ Aside0 (Below w.heap.size w w') ∧ Aside0 (w'.heap[w.heap.size]? = some (.cells #[.int .u64 0, .int .u64 0, .int .u64 0, .slice none 0 0, .slice none 0 0] 70 (0, 0))) ∧ Aside0 (w'.heap[ge]? = some (.cells #[.int .u64 lg, .int .u64 nx, .int .u64 sq, .slice B acc.length cb, .slice none 0 0] 70 (0, 0))) ∧ Aside0 (PO s at_ st) ∧ Aside0 (Kd.R k84 84 w' w.heap.size (fun _ => True) (.slice B acc.length cb) acc) ∧ Aside0 (decE s = st.bind (cG lg nx sq kq acc)))
  case atStart => exact ⟨0, q4, t4, [], none, 0, rfl, rfl, ⟨rfl, Nat.le_refl 0⟩, HB9, X9, XE9, Pq4, ⟨Kd.R_nil _ _ _ _ _⟩, DE⟩
  case round =>
    clear HB9 X9 XE9 Pq4 DE
    obtain ⟨i, at_, st, acc, B, cb, rfl, rfl, HK, HB, X, XE, PP, RA, DE⟩ := hrel
    cases gk with
    | zero =>
      obtain rfl : i = m0 := by have := HK.out.1; omega
      have d0 : decide ((i : Int) < (i : Int)) = false := by simp
      rw [cG_zero] at DE
      clear HK
      obtain ⟨mn, t5, he⟩ : ∃ a b, numO st 256 = (a, b) := ⟨_, _, rfl⟩
      have NC := numberR_calls wr s HS.out at_ 256 st PP.out
      rw [he] at NC
      have Ehe := Aside0.mk he
      have NRmn := Aside0.mk (show 0 ≤ mn ∧ mn ≤ 256 by have h9 := numO_range st (most := 256) (by decide); rw [he] at h9; exact h9)
      clear he
      go_wp2_with fail
      refine NC.mono ?_
      clear NC
      rintro x w10 ⟨q5, rfl, hpo, hb⟩
      have Pq5 := Aside0.mk hpo
      have Bw10 := Aside0.mk hb
      clear hpo hb
      obtain ⟨m1, rfl⟩ : ∃ m1 : Nat, mn = (m1 : Int) := ⟨mn.toNat, by have := NRmn.out.1; omega⟩
      have M1 := Aside0.mk (show m1 ≤ 256 by have := NRmn.out.2; omega)
      have DE8 := Aside0.mk (show decE s = t5.bind (cR lg nx sq acc m1 []) by rw [show cR lg nx sq acc m1 [] = cA lg nx sq acc m1 [] from funext fun x => cR_eq lg nx sq acc m1 [] x, DE.out, Ehe.out]; dsimp only; rw [Int.toNat_natCast])
      have HB8 := Aside0.mk (below_step HB.out Bw10.out)
      have X8 := Aside0.mk (blk_below X.out Bw10.out)
      have XE8 := Aside0.mk (blk_below XE.out Bw10.out)
      have RG8 := Aside0.mk (Kd.R_below RA.out Bw10.out)
      clear DE HB X XE RA PP Bw10 Ehe NRmn
      go_wp2_with fail
      go_loopg [7, 16] m1 (fun kq v7 v16 w' => ∃ (i2 : Nat) (at2 : Int) (sr : Option ByteArray) (ac : List S82) (B2 : Option Addr) (cb2 : Nat), v7 = .int .i64 at2 ∧ v16 = .int .u64 (i2 : Int) ∧ Aside0 (kq + i2 = m1 ∧ ac.length ≤ i2) ∧ Aside0 (Below w.heap.size w w') ∧ Aside0 (w'.heap[w.heap.size]? = some (.cells #[.int .u64 0, .int .u64 0, .int .u64 0, .slice none 0 0, .slice none 0 0] 70 (0, 0))) ∧ Aside0 (w'.heap[ge]? = some (.cells #[.int .u64 lg, .int .u64 nx, .int .u64 sq, .slice B acc.length cb, .slice B2 ac.length cb2] 70 (0, 0))) ∧ Aside0 (PO s at2 sr) ∧ Aside0 (Kd.R k84 84 w' w.heap.size (fun _ => True) (.slice B acc.length cb) acc) ∧ Aside0 (Kd.R k82 82 w' w.heap.size (fun _ => True) (.slice B2 ac.length cb2) ac) ∧ Aside0 (decE s = sr.bind (cR lg nx sq acc kq ac)))
      case atStart => exact ⟨0, q5, t5, [], none, 0, rfl, rfl, ⟨rfl, Nat.le_refl 0⟩, HB8, X8, XE8, Pq5, RG8, ⟨Kd.R_nil _ _ _ _ _⟩, DE8⟩
      case round =>
        clear HB8 X8 XE8 Pq5 RG8 DE8 d0
        try clear d0n
        obtain ⟨i2, at2, sr, ac, B2, cb2, rfl, rfl, HK, HB, X, XE, PP, RG, RA, DE⟩ := hrel
        cases gk with
        | zero =>
          obtain rfl : i2 = m1 := by have := HK.out.1; omega
          have d0 : decide ((i2 : Int) < (i2 : Int)) = false := by simp
          by_cases ha2 : at2 < 0
          · obtain ⟨rfl, rfl⟩ := PP.out.neg ha2
            clear ha2
            have DN := Aside0.mk (show decE s = none from DE.out)
            have XW := X; have HBW := HB
            have b0 : ((-1 : Int) == (s.size : Int)) = false := beq_eq_false_iff_ne.mpr (by omega)
            have b1 : ((-1 : Int) != (s.size : Int)) = true := bne_iff_ne.mpr (by omega)
            go_wp2_with (first | (refine st_arr rfl 70 _ _ rfl w.heap.size 70 ?hx #[.int .u64 0, .int .u64 0, .int .u64 0, .slice none 0 0, .slice none 0 0] ?hy _ XW.out (by rw [size70]; rfl) rfl (by simp [Value.oneCell']) ?_; (case hx => rfl); (case hy => rfl); intro w7 hb7 hbb hk7 hs7; have HB7 := Aside0.mk (hbb _ _ HBW.out (Nat.le_refl _)); have X7 := Aside0.mk hb7; have HK7 := Aside0.mk hk7; clear hb7 hbb hk7 hs7) | fail)
            have r0 : w7.cell? ⟨w.heap.size, 0, none⟩ = some (.int .u64 0) := (blk_cell X7.out 0).trans rfl
            have r1 : w7.cell? ⟨w.heap.size, 1, none⟩ = some (.int .u64 0) := (blk_cell X7.out 1).trans rfl
            have r2 : w7.cell? ⟨w.heap.size, 2, none⟩ = some (.int .u64 0) := (blk_cell X7.out 2).trans rfl
            have r3 : w7.cell? ⟨w.heap.size, 3, none⟩ = some (.slice none 0 0) := (blk_cell X7.out 3).trans rfl
            have r4 : w7.cell? ⟨w.heap.size, 4, none⟩ = some (.slice none 0 0) := (blk_cell X7.out 4).trans rfl
            have EV2 : decV s = (zeroE, 7) := decE_none DN.out
            have EV3 : (de, er) = (zeroE, 7) := DV.out.symm.trans EV2
            injection EV3 with e1_ e2_
            subst e1_
            subst e2_
            exact bodyPost_ret (v := .tuple #[.agg #[.int .u64 0, .int .u64 0, .int .u64 0, .slice none 0 0, .slice none 0 0], .int .i64 7]) (by simp [results, Try.results69, go_sem, r0, r1, r2, r3, r4]) rfl ⟨none, none, 0, 0, rfl, ⟨Nat.le_refl _, ⟨rfl, by simp [zeroE], fun h => absurd h (Nat.lt_irrefl 0)⟩⟩, ⟨Nat.le_refl _, ⟨rfl, by simp [zeroE], fun h => absurd h (Nat.lt_irrefl 0)⟩⟩, HB7.out⟩
          · obtain ⟨pa, hst⟩ := PP.out.pos (by omega)
            have DN0 := Aside0.mk (show decE s = cR lg nx sq acc 0 ac (s.extract at2.toNat s.size) by rw [DE.out, hst]; rfl)
            have SZ := Aside0.mk (show (s.extract at2.toNat s.size).size = s.size - at2.toNat from drop_size s at2.toNat)
            clear hst
            by_cases hz : at2 = (s.size : Int)
            · have b0 : (at2 == (s.size : Int)) = true := beq_iff_eq.mpr hz
              have b1 : (at2 != (s.size : Int)) = false := by rw [hz]; simp
              have SZ0 := Aside0.mk (show (s.extract at2.toNat s.size).size = 0 by rw [SZ.out]; omega)
              clear hz ha2 pa
              have e0 : wr.cell? ⟨ge, 0, none⟩ = some (.int .u64 lg) := (blk_cell XE.out 0).trans rfl
              have e1 : wr.cell? ⟨ge, 1, none⟩ = some (.int .u64 nx) := (blk_cell XE.out 1).trans rfl
              have e2 : wr.cell? ⟨ge, 2, none⟩ = some (.int .u64 sq) := (blk_cell XE.out 2).trans rfl
              have e3 : wr.cell? ⟨ge, 3, none⟩ = some (.slice B acc.length cb) := (blk_cell XE.out 3).trans rfl
              have e4 : wr.cell? ⟨ge, 4, none⟩ = some (.slice B2 ac.length cb2) := (blk_cell XE.out 4).trans rfl
              have LC := listedR_calls wr ⟨lg, nx, sq, acc, ac⟩ B B2 cb cb2 (Kd.R_reads' RG.out).2.2 (Kd.R_reads' RA.out).2.2
              by_cases hl : listedP ⟨lg, nx, sq, acc, ac⟩
              · rw [decide_eq_true hl] at LC
                have DN := Aside0.mk (show decE s = some ⟨lg, nx, sq, acc, ac⟩ by rw [DN0.out, cR_zero]; exact finE_yes SZ0.out hl)
                clear hl
                go_wp2_with fail
                refine LC.mono ?_
                rintro x w5 ⟨rfl, hb⟩
                have HBW := Aside0.mk (below_step HB.out hb)
                have XW := Aside0.mk (blk_below X.out hb)
                have XEW := Aside0.mk (blk_below XE.out hb)
                have RG5 := Aside0.mk (Kd.R_below RG.out hb)
                have RA5 := Aside0.mk (Kd.R_below RA.out hb)
                clear hb LC e0 e1 e2 e3 e4
                have e0 : w5.cell? ⟨ge, 0, none⟩ = some (.int .u64 lg) := (blk_cell XEW.out 0).trans rfl
                have e1 : w5.cell? ⟨ge, 1, none⟩ = some (.int .u64 nx) := (blk_cell XEW.out 1).trans rfl
                have e2 : w5.cell? ⟨ge, 2, none⟩ = some (.int .u64 sq) := (blk_cell XEW.out 2).trans rfl
                have e3 : w5.cell? ⟨ge, 3, none⟩ = some (.slice B acc.length cb) := (blk_cell XEW.out 3).trans rfl
                have e4 : w5.cell? ⟨ge, 4, none⟩ = some (.slice B2 ac.length cb2) := (blk_cell XEW.out 4).trans rfl
                go_wp2_with (first | (refine st_arr rfl 70 _ _ rfl w.heap.size 70 ?hx #[.int .u64 lg, .int .u64 nx, .int .u64 sq, .slice B acc.length cb, .slice B2 ac.length cb2] ?hy _ XW.out (by rw [size70]; rfl) rfl (by simp [Value.oneCell']) ?_; (case hx => rfl); (case hy => rfl); intro w7 hb7 hbb hk7 hs7; have HB7 := Aside0.mk (hbb _ _ HBW.out (Nat.le_refl _)); have X7 := Aside0.mk hb7; have HK7 := Aside0.mk hk7; clear hb7 hbb hk7 hs7) | fail)
                have r0 : w7.cell? ⟨w.heap.size, 0, none⟩ = some (.int .u64 lg) := (blk_cell X7.out 0).trans rfl
                have r1 : w7.cell? ⟨w.heap.size, 1, none⟩ = some (.int .u64 nx) := (blk_cell X7.out 1).trans rfl
                have r2 : w7.cell? ⟨w.heap.size, 2, none⟩ = some (.int .u64 sq) := (blk_cell X7.out 2).trans rfl
                have r3 : w7.cell? ⟨w.heap.size, 3, none⟩ = some (.slice B acc.length cb) := (blk_cell X7.out 3).trans rfl
                have r4 : w7.cell? ⟨w.heap.size, 4, none⟩ = some (.slice B2 ac.length cb2) := (blk_cell X7.out 4).trans rfl
                have EV3 : (de, er) = (⟨lg, nx, sq, acc, ac⟩, 0) := DV.out.symm.trans (decE_some DN.out)
                have RG7 := Kd.R_reads' (Kd.R_mono (Kd.R_step (Kd.R_types RG5.out XW.out (by intro x hx; simp [show k84.E = [] from rfl] at hx; omega)) (fun k ho _ => HK7.out k ho.2)) (ok' := fun _ => True) (fun _ _ => trivial))
                have RA7 := Kd.R_reads' (Kd.R_mono (Kd.R_step (Kd.R_types RA5.out XW.out (by intro x hx; simp [show k82.E = [] from rfl] at hx; omega)) (fun k ho _ => HK7.out k ho.2)) (ok' := fun _ => True) (fun _ _ => trivial))
                injection EV3 with e1_ e2_
                subst e1_
                subst e2_
                exact bodyPost_ret (v := .tuple #[.agg #[.int .u64 lg, .int .u64 nx, .int .u64 sq, .slice B acc.length cb, .slice B2 ac.length cb2], .int .i64 0]) (by simp [results, Try.results69, go_sem, r0, r1, r2, r3, r4]) rfl ⟨B, B2, cb, cb2, rfl, ⟨RG7.2.1, RG7.2.2⟩, ⟨RA7.2.1, RA7.2.2⟩, HB7.out⟩
              · rw [decide_eq_false hl] at LC
                have DN := Aside0.mk (show decE s = none by rw [DN0.out, cR_zero]; exact finE_no (fun h => hl h.2))
                clear hl
                go_wp2_with fail
                refine LC.mono ?_
                rintro x w5 ⟨rfl, hb⟩
                have HBW := Aside0.mk (below_step HB.out hb)
                have XW := Aside0.mk (blk_below X.out hb)
                clear hb LC e0 e1 e2 e3 e4
                go_wp2_with (first | (refine st_arr rfl 70 _ _ rfl w.heap.size 70 ?hx #[.int .u64 0, .int .u64 0, .int .u64 0, .slice none 0 0, .slice none 0 0] ?hy _ XW.out (by rw [size70]; rfl) rfl (by simp [Value.oneCell']) ?_; (case hx => rfl); (case hy => rfl); intro w7 hb7 hbb hk7 hs7; have HB7 := Aside0.mk (hbb _ _ HBW.out (Nat.le_refl _)); have X7 := Aside0.mk hb7; have HK7 := Aside0.mk hk7; clear hb7 hbb hk7 hs7) | fail)
                have r0 : w7.cell? ⟨w.heap.size, 0, none⟩ = some (.int .u64 0) := (blk_cell X7.out 0).trans rfl
                have r1 : w7.cell? ⟨w.heap.size, 1, none⟩ = some (.int .u64 0) := (blk_cell X7.out 1).trans rfl
                have r2 : w7.cell? ⟨w.heap.size, 2, none⟩ = some (.int .u64 0) := (blk_cell X7.out 2).trans rfl
                have r3 : w7.cell? ⟨w.heap.size, 3, none⟩ = some (.slice none 0 0) := (blk_cell X7.out 3).trans rfl
                have r4 : w7.cell? ⟨w.heap.size, 4, none⟩ = some (.slice none 0 0) := (blk_cell X7.out 4).trans rfl
                have EV2 : decV s = (zeroE, 7) := decE_none DN.out
                have EV3 : (de, er) = (zeroE, 7) := DV.out.symm.trans EV2
                injection EV3 with e1_ e2_
                subst e1_
                subst e2_
                exact bodyPost_ret (v := .tuple #[.agg #[.int .u64 0, .int .u64 0, .int .u64 0, .slice none 0 0, .slice none 0 0], .int .i64 7]) (by simp [results, Try.results69, go_sem, r0, r1, r2, r3, r4]) rfl ⟨none, none, 0, 0, rfl, ⟨Nat.le_refl _, ⟨rfl, by simp [zeroE], fun h => absurd h (Nat.lt_irrefl 0)⟩⟩, ⟨Nat.le_refl _, ⟨rfl, by simp [zeroE], fun h => absurd h (Nat.lt_irrefl 0)⟩⟩, HB7.out⟩
            · have b0 : (at2 == (s.size : Int)) = false := beq_eq_false_iff_ne.mpr hz
              have b1 : (at2 != (s.size : Int)) = true := bne_iff_ne.mpr hz
              have DN := Aside0.mk (show decE s = none by rw [DN0.out, cR_zero]; exact finE_no (fun h => hz (by have h1 := h.1; rw [SZ.out] at h1; omega)))
              have XW := X; have HBW := HB
              clear hz ha2 pa
              go_wp2_with (first | (refine st_arr rfl 70 _ _ rfl w.heap.size 70 ?hx #[.int .u64 0, .int .u64 0, .int .u64 0, .slice none 0 0, .slice none 0 0] ?hy _ XW.out (by rw [size70]; rfl) rfl (by simp [Value.oneCell']) ?_; (case hx => rfl); (case hy => rfl); intro w7 hb7 hbb hk7 hs7; have HB7 := Aside0.mk (hbb _ _ HBW.out (Nat.le_refl _)); have X7 := Aside0.mk hb7; have HK7 := Aside0.mk hk7; clear hb7 hbb hk7 hs7) | fail)
              have r0 : w7.cell? ⟨w.heap.size, 0, none⟩ = some (.int .u64 0) := (blk_cell X7.out 0).trans rfl
              have r1 : w7.cell? ⟨w.heap.size, 1, none⟩ = some (.int .u64 0) := (blk_cell X7.out 1).trans rfl
              have r2 : w7.cell? ⟨w.heap.size, 2, none⟩ = some (.int .u64 0) := (blk_cell X7.out 2).trans rfl
              have r3 : w7.cell? ⟨w.heap.size, 3, none⟩ = some (.slice none 0 0) := (blk_cell X7.out 3).trans rfl
              have r4 : w7.cell? ⟨w.heap.size, 4, none⟩ = some (.slice none 0 0) := (blk_cell X7.out 4).trans rfl
              have EV2 : decV s = (zeroE, 7) := decE_none DN.out
              have EV3 : (de, er) = (zeroE, 7) := DV.out.symm.trans EV2
              injection EV3 with e1_ e2_
              subst e1_
              subst e2_
              exact bodyPost_ret (v := .tuple #[.agg #[.int .u64 0, .int .u64 0, .int .u64 0, .slice none 0 0, .slice none 0 0], .int .i64 7]) (by simp [results, Try.results69, go_sem, r0, r1, r2, r3, r4]) rfl ⟨none, none, 0, 0, rfl, ⟨Nat.le_refl _, ⟨rfl, by simp [zeroE], fun h => absurd h (Nat.lt_irrefl 0)⟩⟩, ⟨Nat.le_refl _, ⟨rfl, by simp [zeroE], fun h => absurd h (Nat.lt_irrefl 0)⟩⟩, HB7.out⟩
        | succ q2 =>
          have d0 : decide ((i2 : Int) < (m1 : Int)) = true := decide_eq_true (by have := HK.out.1; omega)
          have d0n : decide (i2 < m1) = true := decide_eq_true (by have := HK.out.1; omega)
          have eq2 : IntKind.u64.wrap ((i2 : Int) + 1) = ((i2 + 1 : Nat) : Int) := by rw [IntKind.wrap_u64]; have := HK.out.1; have := M1.out; omega
          by_cases ha2 : at2 < 0
          · obtain ⟨rfl, rfl⟩ := PP.out.neg ha2
            clear ha2
            have DN := Aside0.mk (show decE s = none from DE.out)
            have XW := X; have HBW := HB
            have b0 : ((-1 : Int) == (s.size : Int)) = false := beq_eq_false_iff_ne.mpr (by omega)
            have b1 : ((-1 : Int) != (s.size : Int)) = true := bne_iff_ne.mpr (by omega)
            go_wp2_with (first | (refine st_arr rfl 70 _ _ rfl w.heap.size 70 ?hx #[.int .u64 0, .int .u64 0, .int .u64 0, .slice none 0 0, .slice none 0 0] ?hy _ XW.out (by rw [size70]; rfl) rfl (by simp [Value.oneCell']) ?_; (case hx => rfl); (case hy => rfl); intro w7 hb7 hbb hk7 hs7; have HB7 := Aside0.mk (hbb _ _ HBW.out (Nat.le_refl _)); have X7 := Aside0.mk hb7; have HK7 := Aside0.mk hk7; clear hb7 hbb hk7 hs7) | fail)
            have r0 : w7.cell? ⟨w.heap.size, 0, none⟩ = some (.int .u64 0) := (blk_cell X7.out 0).trans rfl
            have r1 : w7.cell? ⟨w.heap.size, 1, none⟩ = some (.int .u64 0) := (blk_cell X7.out 1).trans rfl
            have r2 : w7.cell? ⟨w.heap.size, 2, none⟩ = some (.int .u64 0) := (blk_cell X7.out 2).trans rfl
            have r3 : w7.cell? ⟨w.heap.size, 3, none⟩ = some (.slice none 0 0) := (blk_cell X7.out 3).trans rfl
            have r4 : w7.cell? ⟨w.heap.size, 4, none⟩ = some (.slice none 0 0) := (blk_cell X7.out 4).trans rfl
            have EV2 : decV s = (zeroE, 7) := decE_none DN.out
            have EV3 : (de, er) = (zeroE, 7) := DV.out.symm.trans EV2
            injection EV3 with e1_ e2_
            subst e1_
            subst e2_
            exact bodyPost_ret (v := .tuple #[.agg #[.int .u64 0, .int .u64 0, .int .u64 0, .slice none 0 0, .slice none 0 0], .int .i64 7]) (by simp [results, Try.results69, go_sem, r0, r1, r2, r3, r4]) rfl ⟨none, none, 0, 0, rfl, ⟨Nat.le_refl _, ⟨rfl, by simp [zeroE], fun h => absurd h (Nat.lt_irrefl 0)⟩⟩, ⟨Nat.le_refl _, ⟨rfl, by simp [zeroE], fun h => absurd h (Nat.lt_irrefl 0)⟩⟩, HB7.out⟩
          · have d1 : decide (0 ≤ at2) = true := decide_eq_true (by omega)
            rw [cR_succ] at DE
            clear ha2
            have K0 := Aside0.mk (below_alloc (Below.refl wr.heap.size wr) (.cells #[.int .i64 0, .int .u64 0, .int .i64 0, .int .i64 0, .string ⟨#[]⟩, .string ⟨#[]⟩, .int .u64 0, .int .u64 0] 82))
            have XG0 := Aside0.mk (blk_new wr (.cells #[.int .i64 0, .int .u64 0, .int .i64 0, .int .i64 0, .string ⟨#[]⟩, .string ⟨#[]⟩, .int .u64 0, .int .u64 0] 82))
            go_upto_region 22 with (fail)
            obtain ⟨ga, hga⟩ : ∃ ga, ga = wr.heap.size := ⟨_, rfl⟩
            rw [← hga] at XG0 ⊢
            have GA := Aside0.mk (show wr.heap.size ≤ ga by omega)
            clear hga
            generalize wr.alloc (.cells #[.int .i64 0, .int .u64 0, .int .i64 0, .int .i64 0, .string ⟨#[]⟩, .string ⟨#[]⟩, .int .u64 0, .int .u64 0] 82) = u0 at *
            obtain ⟨lv, z0, ha0⟩ : ∃ a b, numO sr 3 = (a, b) := ⟨_, _, rfl⟩
            have NC := numberR_calls u0 s HS.out at2 3 sr PP.out
            rw [ha0] at NC
            have Eha0 := Aside0.mk ha0
            have NRlv := Aside0.mk (show 0 ≤ lv ∧ lv ≤ 3 by have h9 := numO_range sr (most := 3) (by decide); rw [ha0] at h9; exact h9)
            clear ha0
            go_wp2_with fail
            refine NC.mono ?_
            clear NC
            rintro x u1 ⟨c0, rfl, hpo, hb⟩
            have Pc0 := Aside0.mk hpo
            have Bu1 := Aside0.mk hb
            clear hpo hb
            have K1 := Aside0.mk (below_step K0.out Bu1.out)
            have XG1 := Aside0.mk (blk_below XG0.out Bu1.out)
            clear K0 XG0 Bu1
            obtain ⟨nb, z1, ha1⟩ : ∃ a b, numO z0 mxU = (a, b) := ⟨_, _, rfl⟩
            have NC := numberR_calls u1 s HS.out c0 mxU z0 Pc0.out
            rw [ha1] at NC
            have Eha1 := Aside0.mk ha1
            have NRnb := Aside0.mk (show 0 ≤ nb ∧ nb ≤ mxU by have h9 := numO_range z0 (most := mxU) (by decide); rw [ha1] at h9; exact h9)
            clear ha1
            go_wp2_with fail
            refine NC.mono ?_
            clear NC
            rintro x u2 ⟨c1, rfl, hpo, hb⟩
            have Pc1 := Aside0.mk hpo
            have Bu2 := Aside0.mk hb
            clear hpo hb
            have K2 := Aside0.mk (below_step K1.out Bu2.out)
            have XG2 := Aside0.mk (blk_below XG1.out Bu2.out)
            clear K1 XG1 Bu2
            obtain ⟨sz, z2, ha2⟩ : ∃ a b, numO z1 262144 = (a, b) := ⟨_, _, rfl⟩
            have NC := numberR_calls u2 s HS.out c1 262144 z1 Pc1.out
            rw [ha2] at NC
            have Eha2 := Aside0.mk ha2
            have NRsz := Aside0.mk (show 0 ≤ sz ∧ sz ≤ 262144 by have h9 := numO_range z1 (most := 262144) (by decide); rw [ha2] at h9; exact h9)
            clear ha2
            go_wp2_with fail
            refine NC.mono ?_
            clear NC
            rintro x u3 ⟨c2, rfl, hpo, hb⟩
            have Pc2 := Aside0.mk hpo
            have Bu3 := Aside0.mk hb
            clear hpo hb
            have K3 := Aside0.mk (below_step K2.out Bu3.out)
            have XG3 := Aside0.mk (blk_below XG2.out Bu3.out)
            clear K2 XG2 Bu3
            obtain ⟨rw_, z3, ha3⟩ : ∃ a b, numO z2 262144 = (a, b) := ⟨_, _, rfl⟩
            have NC := numberR_calls u3 s HS.out c2 262144 z2 Pc2.out
            rw [ha3] at NC
            have Eha3 := Aside0.mk ha3
            have NRrw_ := Aside0.mk (show 0 ≤ rw_ ∧ rw_ ≤ 262144 by have h9 := numO_range z2 (most := 262144) (by decide); rw [ha3] at h9; exact h9)
            clear ha3
            go_wp2_with fail
            refine NC.mono ?_
            clear NC
            rintro x u4 ⟨c3, rfl, hpo, hb⟩
            have Pc3 := Aside0.mk hpo
            have Bu4 := Aside0.mk hb
            clear hpo hb
            have K4 := Aside0.mk (below_step K3.out Bu4.out)
            have XG4 := Aside0.mk (blk_below XG3.out Bu4.out)
            clear K3 XG3 Bu4
            obtain ⟨f1, z4, ha4⟩ : ∃ a b, texO z3 = (a, b) := ⟨_, _, rfl⟩
            have NC := textR_calls u4 s HS.out c3 z3 Pc3.out
            rw [ha4] at NC
            have Eha4 := Aside0.mk ha4
            clear ha4
            go_wp2_with fail
            refine NC.mono ?_
            clear NC
            rintro x u5 ⟨c4, rfl, hpo, hb⟩
            have Pc4 := Aside0.mk hpo
            have Bu5 := Aside0.mk hb
            clear hpo hb
            have K5 := Aside0.mk (below_step K4.out Bu5.out)
            have XG5 := Aside0.mk (blk_below XG4.out Bu5.out)
            clear K4 XG4 Bu5
            obtain ⟨f2, z5, ha5⟩ : ∃ a b, texO z4 = (a, b) := ⟨_, _, rfl⟩
            have NC := textR_calls u5 s HS.out c4 z4 Pc4.out
            rw [ha5] at NC
            have Eha5 := Aside0.mk ha5
            clear ha5
            go_wp2_with fail
            refine NC.mono ?_
            clear NC
            rintro x u6 ⟨c5, rfl, hpo, hb⟩
            have Pc5 := Aside0.mk hpo
            have Bu6 := Aside0.mk hb
            clear hpo hb
            have K6 := Aside0.mk (below_step K5.out Bu6.out)
            have XG6 := Aside0.mk (blk_below XG5.out Bu6.out)
            clear K5 XG5 Bu6
            obtain ⟨ls, z6, ha6⟩ : ∃ a b, numO z5 mxU = (a, b) := ⟨_, _, rfl⟩
            have NC := numberR_calls u6 s HS.out c5 mxU z5 Pc5.out
            rw [ha6] at NC
            have Eha6 := Aside0.mk ha6
            have NRls := Aside0.mk (show 0 ≤ ls ∧ ls ≤ mxU by have h9 := numO_range z5 (most := mxU) (by decide); rw [ha6] at h9; exact h9)
            clear ha6
            go_wp2_with fail
            refine NC.mono ?_
            clear NC
            rintro x u7 ⟨c6, rfl, hpo, hb⟩
            have Pc6 := Aside0.mk hpo
            have Bu7 := Aside0.mk hb
            clear hpo hb
            have K7 := Aside0.mk (below_step K6.out Bu7.out)
            have XG7 := Aside0.mk (blk_below XG6.out Bu7.out)
            clear K6 XG6 Bu7
            obtain ⟨gt, z7, ha7⟩ : ∃ a b, numO z6 mxU = (a, b) := ⟨_, _, rfl⟩
            have NC := numberR_calls u7 s HS.out c6 mxU z6 Pc6.out
            rw [ha7] at NC
            have Eha7 := Aside0.mk ha7
            have NRgt := Aside0.mk (show 0 ≤ gt ∧ gt ≤ mxU by have h9 := numO_range z6 (most := mxU) (by decide); rw [ha7] at h9; exact h9)
            clear ha7
            go_wp2_with fail
            refine NC.mono ?_
            clear NC
            rintro x u8 ⟨c7, rfl, hpo, hb⟩
            have Pc7 := Aside0.mk hpo
            have Bu8 := Aside0.mk hb
            clear hpo hb
            have K8 := Aside0.mk (below_step K7.out Bu8.out)
            have XG8 := Aside0.mk (blk_below XG7.out Bu8.out)
            clear K7 XG7 Bu8
            have ewlv : wrap64 lv = lv := by have := NRlv.out; unfold wrap64; omega
            have ewsz : wrap64 sz = sz := by have := NRsz.out; unfold wrap64; omega
            have ewrw : wrap64 rw_ = rw_ := by have := NRrw_.out; unfold wrap64; omega
            have ff := blk_frozen XG8.out 0
            have fc : u8.cell? ⟨ga, 0, none⟩ = some (.int .i64 0) := (blk_cell XG8.out 0).trans rfl
            have XG9 := Aside0.mk (five_set0 XG8.out (j := 0) (.int .i64 lv) (cs' := #[.int .i64 lv, .int .u64 0, .int .i64 0, .int .i64 0, .string ⟨#[]⟩, .string ⟨#[]⟩, .int .u64 0, .int .u64 0]) rfl)
            have K9 := Aside0.mk (K8.out.setCell (p := ⟨ga, 0, none⟩) GA.out (.int .i64 lv))
            go_upto_region 31 with (fail)
            clear ff fc XG8 K8
            generalize u8.setCell ⟨ga, 0, none⟩ (.int .i64 lv) = u9 at *
            have XG10 := Aside0.mk (show (u9.setCells ga 1 (#[.int .u64 nb, .int .i64 sz, .int .i64 rw_, .string f1, .string f2, .int .u64 ls, .int .u64 gt]).toList).heap[ga]? = some (.cells #[.int .i64 lv, .int .u64 nb, .int .i64 sz, .int .i64 rw_, .string f1, .string f2, .int .u64 ls, .int .u64 gt] 82 (0, 0)) from blk_set (blk_set (blk_set (blk_set (blk_set (blk_set (blk_set XG9.out 1 (.int .u64 nb)) 2 (.int .i64 sz)) 3 (.int .i64 rw_)) 4 (.string f1)) 5 (.string f2)) 6 (.int .u64 ls)) 7 (.int .u64 gt))
            have K10 := Aside0.mk (bel_cells GA.out (#[.int .u64 nb, .int .i64 sz, .int .i64 rw_, .string f1, .string f2, .int .u64 ls, .int .u64 gt]).toList 1 K9.out)
            have HTH := there_at XG9.out 1 7 (Nat.le_refl 8)
            go_upto_region 32 with (first | (refine wpList_store_mid rfl 58 _ _ rfl ga 1 (#[.int .u64 nb, .int .i64 sz, .int .i64 rw_, .string f1, .string f2, .int .u64 ls, .int .u64 gt]) ?hx ?hy HTH size58 (by simp [Value.oneCell']) ?_; (case hx => rfl); (case hy => rfl)) | fail)
            clear HTH XG9 K9
            generalize u9.setCells ga 1 (#[.int .u64 nb, .int .i64 sz, .int .i64 rw_, .string f1, .string f2, .int .u64 ls, .int .u64 gt]).toList = u10 at *
            have HBx := Aside0.mk (below_step HB.out K10.out)
            have Xx := Aside0.mk (blk_below X.out K10.out)
            have XEx := Aside0.mk (blk_below XE.out K10.out)
            have RGx := Aside0.mk (Kd.R_below RG.out K10.out)
            have RAx := Aside0.mk (Kd.R_below RA.out K10.out)
            have DN := Aside0.mk (show decE s = z7.bind (cR lg nx sq acc q2 (ac ++ [⟨lv, nb, sz, rw_, f1, f2, ls, gt⟩])) by
              rw [DE.out]
              unfold addR
              simp only [Eha0.out, Eha1.out, Eha2.out, Eha3.out, Eha4.out, Eha5.out, Eha6.out, Eha7.out])
            have LAC := Aside0.mk (show ac.length ≤ 300 by have := HK.out; have := M1.out; omega)
            clear DE HB X XE RG RA PP K10
            have g0 : u10.cell? ⟨ga, 0, none⟩ = some (.int .i64 lv) := (blk_cell XG10.out 0).trans rfl
            have g1 : u10.cell? ⟨ga, 1, none⟩ = some (.int .u64 nb) := (blk_cell XG10.out 1).trans rfl
            have g2 : u10.cell? ⟨ga, 2, none⟩ = some (.int .i64 sz) := (blk_cell XG10.out 2).trans rfl
            have g3 : u10.cell? ⟨ga, 3, none⟩ = some (.int .i64 rw_) := (blk_cell XG10.out 3).trans rfl
            have g4 : u10.cell? ⟨ga, 4, none⟩ = some (.string f1) := (blk_cell XG10.out 4).trans rfl
            have g5 : u10.cell? ⟨ga, 5, none⟩ = some (.string f2) := (blk_cell XG10.out 5).trans rfl
            have g6 : u10.cell? ⟨ga, 6, none⟩ = some (.int .u64 ls) := (blk_cell XG10.out 6).trans rfl
            have g7 : u10.cell? ⟨ga, 7, none⟩ = some (.int .u64 gt) := (blk_cell XG10.out 7).trans rfl
            have z4 : u10.cell? ⟨ge, 4, none⟩ = some (.slice B2 ac.length cb2) := (blk_cell XEx.out 4).trans rfl
            go_wp2_with (first | ((with_reducible refine gate_builtin (b := .append) (xs := #[.tmp 179, .tmp 181]) rfl ?_); at_builtin; refine Kd.R_append k82 (w0 := w) w.heap.size rfl (.tmp 179) (.tmp 181) 68 82 (.agg #[(.int .i64 0), (.int .u64 0), (.int .i64 0), (.int .i64 0), (.string ⟨#[]⟩), (.string ⟨#[]⟩), (.int .u64 0), (.int .u64 0)]) 80 rfl Try.underlying68 info82 rfl (show 0 < 8 by decide) (show 0 < 80 by decide) (.slice B2 ac.length cb2) (ac) (⟨lv, nb, sz, rw_, f1, f2, ls, gt⟩ : S82) [.int .i64 lv, .int .u64 nb, .int .i64 sz, .int .i64 rw_, .string f1, .string f2, .int .u64 ls, .int .u64 gt] (fun _ => True) (fun _ => False) rfl rfl ?aPa (fun _ hk => hk.elim) ?aFa ?aOa ?aBa ?aSa ?aLa ?_; (case aPa => exact k82_mkM _ _ _ (⟨lv, nb, sz, rw_, f1, f2, ls, gt⟩ : S82)); (case aBa => exact HBx.out); (case aFa => exact (fun _ _ => trivial)); (case aOa => exact RAx.out); (case aSa => exact Below.size (HBx.out)); (case aLa => (have h1 := LAC.out; omega)); intro va wa ho hb hg hat; have HBa := Aside0.mk hb; have XEa := Aside0.mk (blk_grown XEx.out hg (Kd.R_ne RAx.out XEx.out (by decide))); have Xa := Aside0.mk (blk_grown Xx.out hg (Kd.R_ne RAx.out Xx.out (by decide))); have RGa := Aside0.mk (Kd.R_over RGx.out RAx.out (by intro x hx; simp [show k84.E = [] from rfl] at hx; omega) hg); have hc8 : wa.cell? ⟨ge, 4, none⟩ = some (.slice B2 ac.length cb2) := (blk_cell XEa.out 4).trans rfl; have hf8 := blk_frozen XEa.out 4; obtain ⟨AD2, hA2⟩ : ∃ A2, A2 = ac ++ [(⟨lv, nb, sz, rw_, f1, f2, ls, gt⟩ : S82)] := ⟨_, rfl⟩; rw [← hA2] at ho; have AQ2 := Aside0.mk hA2; clear hA2; obtain ⟨B3, cb3, hv⟩ := Kd.R_slice ho; subst hv; have HRa := Aside0.mk ho; clear ho hb hg hat) | fail)
            have HBn := Aside0.mk (below_set (j := 4) (v := .slice B3 AD2.length cb3) HBa.out (Nat.le_of_lt NE.out))
            have Xn := Aside0.mk (blk_far Xa.out (p := ⟨ge, 4, none⟩) (Nat.ne_of_lt NE.out) (.slice B3 AD2.length cb3))
            have XEn := Aside0.mk (five_set0 XEa.out (j := 4) (.slice B3 AD2.length cb3) (cs' := #[.int .u64 lg, .int .u64 nx, .int .u64 sq, .slice B acc.length cb, .slice B3 AD2.length cb3]) rfl)
            have RGn := Aside0.mk (Kd.R_mono (Kd.R_set RGa.out XEa.out (by intro x hx; simp [show k84.E = [] from rfl] at hx; omega) 4 (.slice B3 AD2.length cb3)) (fun _ hk => hk))
            have RAn := Aside0.mk (Kd.R_mono (Kd.R_set HRa.out XEa.out (by intro x hx; simp [show k82.E = [] from rfl] at hx; omega) 4 (.slice B3 AD2.length cb3)) (fun _ hk => hk))
            have ADL := Aside0.mk (show AD2.length = ac.length + 1 by rw [AQ2.out, List.length_append]; rfl)
            try rw [eq2]
            clear eq2
            go_roundg q2
            case measure => omega
            case rel => exact ⟨i2 + 1, c7, z7, AD2, B3, cb3, rfl, rfl, ⟨by have h1 := HK.out.1; omega, by have h1 := HK.out.2; have h2 := ADL.out; omega⟩, HBn, Xn, XEn, Pc7, RGn, RAn, ⟨by rw [AQ2.out]; exact DN.out⟩⟩
    | succ q =>
      have d0 : decide ((i : Int) < (m0 : Int)) = true := decide_eq_true (by have := HK.out.1; omega)
      have d0n : decide (i < m0) = true := decide_eq_true (by have := HK.out.1; omega)
      have eq1 : IntKind.u64.wrap ((i : Int) + 1) = ((i + 1 : Nat) : Int) := by rw [IntKind.wrap_u64]; have := HK.out.1; have := M0.out; omega
      by_cases ha : at_ < 0
      · obtain ⟨rfl, rfl⟩ := PP.out.neg ha
        have DE2 := Aside0.mk (show decE s = (numO none 256).2.bind (cA lg nx sq acc (numO none 256).1.toNat []) from DE.out)
        clear DE ha
        have DE := DE2
        clear DE2
        clear HK
        obtain ⟨mn, t5, he⟩ : ∃ a b, numO none 256 = (a, b) := ⟨_, _, rfl⟩
        have NC := numberR_calls wr s HS.out (-1) 256 none PP.out
        rw [he] at NC
        have Ehe := Aside0.mk he
        have NRmn := Aside0.mk (show 0 ≤ mn ∧ mn ≤ 256 by have h9 := numO_range none (most := 256) (by decide); rw [he] at h9; exact h9)
        clear he
        go_wp2_with fail
        refine NC.mono ?_
        clear NC
        rintro x w10 ⟨q5, rfl, hpo, hb⟩
        have Pq5 := Aside0.mk hpo
        have Bw10 := Aside0.mk hb
        clear hpo hb
        obtain ⟨m1, rfl⟩ : ∃ m1 : Nat, mn = (m1 : Int) := ⟨mn.toNat, by have := NRmn.out.1; omega⟩
        have M1 := Aside0.mk (show m1 ≤ 256 by have := NRmn.out.2; omega)
        have DE8 := Aside0.mk (show decE s = t5.bind (cR lg nx sq acc m1 []) by rw [show cR lg nx sq acc m1 [] = cA lg nx sq acc m1 [] from funext fun x => cR_eq lg nx sq acc m1 [] x, DE.out, Ehe.out]; dsimp only; rw [Int.toNat_natCast])
        have HB8 := Aside0.mk (below_step HB.out Bw10.out)
        have X8 := Aside0.mk (blk_below X.out Bw10.out)
        have XE8 := Aside0.mk (blk_below XE.out Bw10.out)
        have RG8 := Aside0.mk (Kd.R_below RA.out Bw10.out)
        clear DE HB X XE RA PP Bw10 Ehe NRmn
        go_wp2_with fail
        go_loopg [7, 16] m1 (fun kq v7 v16 w' => ∃ (i2 : Nat) (at2 : Int) (sr : Option ByteArray) (ac : List S82) (B2 : Option Addr) (cb2 : Nat), v7 = .int .i64 at2 ∧ v16 = .int .u64 (i2 : Int) ∧ Aside0 (kq + i2 = m1 ∧ ac.length ≤ i2) ∧ Aside0 (Below w.heap.size w w') ∧ Aside0 (w'.heap[w.heap.size]? = some (.cells #[.int .u64 0, .int .u64 0, .int .u64 0, .slice none 0 0, .slice none 0 0] 70 (0, 0))) ∧ Aside0 (w'.heap[ge]? = some (.cells #[.int .u64 lg, .int .u64 nx, .int .u64 sq, .slice B acc.length cb, .slice B2 ac.length cb2] 70 (0, 0))) ∧ Aside0 (PO s at2 sr) ∧ Aside0 (Kd.R k84 84 w' w.heap.size (fun _ => True) (.slice B acc.length cb) acc) ∧ Aside0 (Kd.R k82 82 w' w.heap.size (fun _ => True) (.slice B2 ac.length cb2) ac) ∧ Aside0 (decE s = sr.bind (cR lg nx sq acc kq ac)))
        case atStart => exact ⟨0, q5, t5, [], none, 0, rfl, rfl, ⟨rfl, Nat.le_refl 0⟩, HB8, X8, XE8, Pq5, RG8, ⟨Kd.R_nil _ _ _ _ _⟩, DE8⟩
        case round =>
          clear HB8 X8 XE8 Pq5 RG8 DE8 d0
          try clear d0n
          obtain ⟨i2, at2, sr, ac, B2, cb2, rfl, rfl, HK, HB, X, XE, PP, RG, RA, DE⟩ := hrel
          cases gk with
          | zero =>
            obtain rfl : i2 = m1 := by have := HK.out.1; omega
            have d0 : decide ((i2 : Int) < (i2 : Int)) = false := by simp
            by_cases ha2 : at2 < 0
            · obtain ⟨rfl, rfl⟩ := PP.out.neg ha2
              clear ha2
              have DN := Aside0.mk (show decE s = none from DE.out)
              have XW := X; have HBW := HB
              have b0 : ((-1 : Int) == (s.size : Int)) = false := beq_eq_false_iff_ne.mpr (by omega)
              have b1 : ((-1 : Int) != (s.size : Int)) = true := bne_iff_ne.mpr (by omega)
              go_wp2_with (first | (refine st_arr rfl 70 _ _ rfl w.heap.size 70 ?hx #[.int .u64 0, .int .u64 0, .int .u64 0, .slice none 0 0, .slice none 0 0] ?hy _ XW.out (by rw [size70]; rfl) rfl (by simp [Value.oneCell']) ?_; (case hx => rfl); (case hy => rfl); intro w7 hb7 hbb hk7 hs7; have HB7 := Aside0.mk (hbb _ _ HBW.out (Nat.le_refl _)); have X7 := Aside0.mk hb7; have HK7 := Aside0.mk hk7; clear hb7 hbb hk7 hs7) | fail)
              have r0 : w7.cell? ⟨w.heap.size, 0, none⟩ = some (.int .u64 0) := (blk_cell X7.out 0).trans rfl
              have r1 : w7.cell? ⟨w.heap.size, 1, none⟩ = some (.int .u64 0) := (blk_cell X7.out 1).trans rfl
              have r2 : w7.cell? ⟨w.heap.size, 2, none⟩ = some (.int .u64 0) := (blk_cell X7.out 2).trans rfl
              have r3 : w7.cell? ⟨w.heap.size, 3, none⟩ = some (.slice none 0 0) := (blk_cell X7.out 3).trans rfl
              have r4 : w7.cell? ⟨w.heap.size, 4, none⟩ = some (.slice none 0 0) := (blk_cell X7.out 4).trans rfl
              have EV2 : decV s = (zeroE, 7) := decE_none DN.out
              have EV3 : (de, er) = (zeroE, 7) := DV.out.symm.trans EV2
              injection EV3 with e1_ e2_
              subst e1_
              subst e2_
              exact bodyPost_ret (v := .tuple #[.agg #[.int .u64 0, .int .u64 0, .int .u64 0, .slice none 0 0, .slice none 0 0], .int .i64 7]) (by simp [results, Try.results69, go_sem, r0, r1, r2, r3, r4]) rfl ⟨none, none, 0, 0, rfl, ⟨Nat.le_refl _, ⟨rfl, by simp [zeroE], fun h => absurd h (Nat.lt_irrefl 0)⟩⟩, ⟨Nat.le_refl _, ⟨rfl, by simp [zeroE], fun h => absurd h (Nat.lt_irrefl 0)⟩⟩, HB7.out⟩
            · obtain ⟨pa, hst⟩ := PP.out.pos (by omega)
              have DN0 := Aside0.mk (show decE s = cR lg nx sq acc 0 ac (s.extract at2.toNat s.size) by rw [DE.out, hst]; rfl)
              have SZ := Aside0.mk (show (s.extract at2.toNat s.size).size = s.size - at2.toNat from drop_size s at2.toNat)
              clear hst
              by_cases hz : at2 = (s.size : Int)
              · have b0 : (at2 == (s.size : Int)) = true := beq_iff_eq.mpr hz
                have b1 : (at2 != (s.size : Int)) = false := by rw [hz]; simp
                have SZ0 := Aside0.mk (show (s.extract at2.toNat s.size).size = 0 by rw [SZ.out]; omega)
                clear hz ha2 pa
                have e0 : wr.cell? ⟨ge, 0, none⟩ = some (.int .u64 lg) := (blk_cell XE.out 0).trans rfl
                have e1 : wr.cell? ⟨ge, 1, none⟩ = some (.int .u64 nx) := (blk_cell XE.out 1).trans rfl
                have e2 : wr.cell? ⟨ge, 2, none⟩ = some (.int .u64 sq) := (blk_cell XE.out 2).trans rfl
                have e3 : wr.cell? ⟨ge, 3, none⟩ = some (.slice B acc.length cb) := (blk_cell XE.out 3).trans rfl
                have e4 : wr.cell? ⟨ge, 4, none⟩ = some (.slice B2 ac.length cb2) := (blk_cell XE.out 4).trans rfl
                have LC := listedR_calls wr ⟨lg, nx, sq, acc, ac⟩ B B2 cb cb2 (Kd.R_reads' RG.out).2.2 (Kd.R_reads' RA.out).2.2
                by_cases hl : listedP ⟨lg, nx, sq, acc, ac⟩
                · rw [decide_eq_true hl] at LC
                  have DN := Aside0.mk (show decE s = some ⟨lg, nx, sq, acc, ac⟩ by rw [DN0.out, cR_zero]; exact finE_yes SZ0.out hl)
                  clear hl
                  go_wp2_with fail
                  refine LC.mono ?_
                  rintro x w5 ⟨rfl, hb⟩
                  have HBW := Aside0.mk (below_step HB.out hb)
                  have XW := Aside0.mk (blk_below X.out hb)
                  have XEW := Aside0.mk (blk_below XE.out hb)
                  have RG5 := Aside0.mk (Kd.R_below RG.out hb)
                  have RA5 := Aside0.mk (Kd.R_below RA.out hb)
                  clear hb LC e0 e1 e2 e3 e4
                  have e0 : w5.cell? ⟨ge, 0, none⟩ = some (.int .u64 lg) := (blk_cell XEW.out 0).trans rfl
                  have e1 : w5.cell? ⟨ge, 1, none⟩ = some (.int .u64 nx) := (blk_cell XEW.out 1).trans rfl
                  have e2 : w5.cell? ⟨ge, 2, none⟩ = some (.int .u64 sq) := (blk_cell XEW.out 2).trans rfl
                  have e3 : w5.cell? ⟨ge, 3, none⟩ = some (.slice B acc.length cb) := (blk_cell XEW.out 3).trans rfl
                  have e4 : w5.cell? ⟨ge, 4, none⟩ = some (.slice B2 ac.length cb2) := (blk_cell XEW.out 4).trans rfl
                  go_wp2_with (first | (refine st_arr rfl 70 _ _ rfl w.heap.size 70 ?hx #[.int .u64 lg, .int .u64 nx, .int .u64 sq, .slice B acc.length cb, .slice B2 ac.length cb2] ?hy _ XW.out (by rw [size70]; rfl) rfl (by simp [Value.oneCell']) ?_; (case hx => rfl); (case hy => rfl); intro w7 hb7 hbb hk7 hs7; have HB7 := Aside0.mk (hbb _ _ HBW.out (Nat.le_refl _)); have X7 := Aside0.mk hb7; have HK7 := Aside0.mk hk7; clear hb7 hbb hk7 hs7) | fail)
                  have r0 : w7.cell? ⟨w.heap.size, 0, none⟩ = some (.int .u64 lg) := (blk_cell X7.out 0).trans rfl
                  have r1 : w7.cell? ⟨w.heap.size, 1, none⟩ = some (.int .u64 nx) := (blk_cell X7.out 1).trans rfl
                  have r2 : w7.cell? ⟨w.heap.size, 2, none⟩ = some (.int .u64 sq) := (blk_cell X7.out 2).trans rfl
                  have r3 : w7.cell? ⟨w.heap.size, 3, none⟩ = some (.slice B acc.length cb) := (blk_cell X7.out 3).trans rfl
                  have r4 : w7.cell? ⟨w.heap.size, 4, none⟩ = some (.slice B2 ac.length cb2) := (blk_cell X7.out 4).trans rfl
                  have EV3 : (de, er) = (⟨lg, nx, sq, acc, ac⟩, 0) := DV.out.symm.trans (decE_some DN.out)
                  have RG7 := Kd.R_reads' (Kd.R_mono (Kd.R_step (Kd.R_types RG5.out XW.out (by intro x hx; simp [show k84.E = [] from rfl] at hx; omega)) (fun k ho _ => HK7.out k ho.2)) (ok' := fun _ => True) (fun _ _ => trivial))
                  have RA7 := Kd.R_reads' (Kd.R_mono (Kd.R_step (Kd.R_types RA5.out XW.out (by intro x hx; simp [show k82.E = [] from rfl] at hx; omega)) (fun k ho _ => HK7.out k ho.2)) (ok' := fun _ => True) (fun _ _ => trivial))
                  injection EV3 with e1_ e2_
                  subst e1_
                  subst e2_
                  exact bodyPost_ret (v := .tuple #[.agg #[.int .u64 lg, .int .u64 nx, .int .u64 sq, .slice B acc.length cb, .slice B2 ac.length cb2], .int .i64 0]) (by simp [results, Try.results69, go_sem, r0, r1, r2, r3, r4]) rfl ⟨B, B2, cb, cb2, rfl, ⟨RG7.2.1, RG7.2.2⟩, ⟨RA7.2.1, RA7.2.2⟩, HB7.out⟩
                · rw [decide_eq_false hl] at LC
                  have DN := Aside0.mk (show decE s = none by rw [DN0.out, cR_zero]; exact finE_no (fun h => hl h.2))
                  clear hl
                  go_wp2_with fail
                  refine LC.mono ?_
                  rintro x w5 ⟨rfl, hb⟩
                  have HBW := Aside0.mk (below_step HB.out hb)
                  have XW := Aside0.mk (blk_below X.out hb)
                  clear hb LC e0 e1 e2 e3 e4
                  go_wp2_with (first | (refine st_arr rfl 70 _ _ rfl w.heap.size 70 ?hx #[.int .u64 0, .int .u64 0, .int .u64 0, .slice none 0 0, .slice none 0 0] ?hy _ XW.out (by rw [size70]; rfl) rfl (by simp [Value.oneCell']) ?_; (case hx => rfl); (case hy => rfl); intro w7 hb7 hbb hk7 hs7; have HB7 := Aside0.mk (hbb _ _ HBW.out (Nat.le_refl _)); have X7 := Aside0.mk hb7; have HK7 := Aside0.mk hk7; clear hb7 hbb hk7 hs7) | fail)
                  have r0 : w7.cell? ⟨w.heap.size, 0, none⟩ = some (.int .u64 0) := (blk_cell X7.out 0).trans rfl
                  have r1 : w7.cell? ⟨w.heap.size, 1, none⟩ = some (.int .u64 0) := (blk_cell X7.out 1).trans rfl
                  have r2 : w7.cell? ⟨w.heap.size, 2, none⟩ = some (.int .u64 0) := (blk_cell X7.out 2).trans rfl
                  have r3 : w7.cell? ⟨w.heap.size, 3, none⟩ = some (.slice none 0 0) := (blk_cell X7.out 3).trans rfl
                  have r4 : w7.cell? ⟨w.heap.size, 4, none⟩ = some (.slice none 0 0) := (blk_cell X7.out 4).trans rfl
                  have EV2 : decV s = (zeroE, 7) := decE_none DN.out
                  have EV3 : (de, er) = (zeroE, 7) := DV.out.symm.trans EV2
                  injection EV3 with e1_ e2_
                  subst e1_
                  subst e2_
                  exact bodyPost_ret (v := .tuple #[.agg #[.int .u64 0, .int .u64 0, .int .u64 0, .slice none 0 0, .slice none 0 0], .int .i64 7]) (by simp [results, Try.results69, go_sem, r0, r1, r2, r3, r4]) rfl ⟨none, none, 0, 0, rfl, ⟨Nat.le_refl _, ⟨rfl, by simp [zeroE], fun h => absurd h (Nat.lt_irrefl 0)⟩⟩, ⟨Nat.le_refl _, ⟨rfl, by simp [zeroE], fun h => absurd h (Nat.lt_irrefl 0)⟩⟩, HB7.out⟩
              · have b0 : (at2 == (s.size : Int)) = false := beq_eq_false_iff_ne.mpr hz
                have b1 : (at2 != (s.size : Int)) = true := bne_iff_ne.mpr hz
                have DN := Aside0.mk (show decE s = none by rw [DN0.out, cR_zero]; exact finE_no (fun h => hz (by have h1 := h.1; rw [SZ.out] at h1; omega)))
                have XW := X; have HBW := HB
                clear hz ha2 pa
                go_wp2_with (first | (refine st_arr rfl 70 _ _ rfl w.heap.size 70 ?hx #[.int .u64 0, .int .u64 0, .int .u64 0, .slice none 0 0, .slice none 0 0] ?hy _ XW.out (by rw [size70]; rfl) rfl (by simp [Value.oneCell']) ?_; (case hx => rfl); (case hy => rfl); intro w7 hb7 hbb hk7 hs7; have HB7 := Aside0.mk (hbb _ _ HBW.out (Nat.le_refl _)); have X7 := Aside0.mk hb7; have HK7 := Aside0.mk hk7; clear hb7 hbb hk7 hs7) | fail)
                have r0 : w7.cell? ⟨w.heap.size, 0, none⟩ = some (.int .u64 0) := (blk_cell X7.out 0).trans rfl
                have r1 : w7.cell? ⟨w.heap.size, 1, none⟩ = some (.int .u64 0) := (blk_cell X7.out 1).trans rfl
                have r2 : w7.cell? ⟨w.heap.size, 2, none⟩ = some (.int .u64 0) := (blk_cell X7.out 2).trans rfl
                have r3 : w7.cell? ⟨w.heap.size, 3, none⟩ = some (.slice none 0 0) := (blk_cell X7.out 3).trans rfl
                have r4 : w7.cell? ⟨w.heap.size, 4, none⟩ = some (.slice none 0 0) := (blk_cell X7.out 4).trans rfl
                have EV2 : decV s = (zeroE, 7) := decE_none DN.out
                have EV3 : (de, er) = (zeroE, 7) := DV.out.symm.trans EV2
                injection EV3 with e1_ e2_
                subst e1_
                subst e2_
                exact bodyPost_ret (v := .tuple #[.agg #[.int .u64 0, .int .u64 0, .int .u64 0, .slice none 0 0, .slice none 0 0], .int .i64 7]) (by simp [results, Try.results69, go_sem, r0, r1, r2, r3, r4]) rfl ⟨none, none, 0, 0, rfl, ⟨Nat.le_refl _, ⟨rfl, by simp [zeroE], fun h => absurd h (Nat.lt_irrefl 0)⟩⟩, ⟨Nat.le_refl _, ⟨rfl, by simp [zeroE], fun h => absurd h (Nat.lt_irrefl 0)⟩⟩, HB7.out⟩
          | succ q2 =>
            have d0 : decide ((i2 : Int) < (m1 : Int)) = true := decide_eq_true (by have := HK.out.1; omega)
            have d0n : decide (i2 < m1) = true := decide_eq_true (by have := HK.out.1; omega)
            have eq2 : IntKind.u64.wrap ((i2 : Int) + 1) = ((i2 + 1 : Nat) : Int) := by rw [IntKind.wrap_u64]; have := HK.out.1; have := M1.out; omega
            by_cases ha2 : at2 < 0
            · obtain ⟨rfl, rfl⟩ := PP.out.neg ha2
              clear ha2
              have DN := Aside0.mk (show decE s = none from DE.out)
              have XW := X; have HBW := HB
              have b0 : ((-1 : Int) == (s.size : Int)) = false := beq_eq_false_iff_ne.mpr (by omega)
              have b1 : ((-1 : Int) != (s.size : Int)) = true := bne_iff_ne.mpr (by omega)
              go_wp2_with (first | (refine st_arr rfl 70 _ _ rfl w.heap.size 70 ?hx #[.int .u64 0, .int .u64 0, .int .u64 0, .slice none 0 0, .slice none 0 0] ?hy _ XW.out (by rw [size70]; rfl) rfl (by simp [Value.oneCell']) ?_; (case hx => rfl); (case hy => rfl); intro w7 hb7 hbb hk7 hs7; have HB7 := Aside0.mk (hbb _ _ HBW.out (Nat.le_refl _)); have X7 := Aside0.mk hb7; have HK7 := Aside0.mk hk7; clear hb7 hbb hk7 hs7) | fail)
              have r0 : w7.cell? ⟨w.heap.size, 0, none⟩ = some (.int .u64 0) := (blk_cell X7.out 0).trans rfl
              have r1 : w7.cell? ⟨w.heap.size, 1, none⟩ = some (.int .u64 0) := (blk_cell X7.out 1).trans rfl
              have r2 : w7.cell? ⟨w.heap.size, 2, none⟩ = some (.int .u64 0) := (blk_cell X7.out 2).trans rfl
              have r3 : w7.cell? ⟨w.heap.size, 3, none⟩ = some (.slice none 0 0) := (blk_cell X7.out 3).trans rfl
              have r4 : w7.cell? ⟨w.heap.size, 4, none⟩ = some (.slice none 0 0) := (blk_cell X7.out 4).trans rfl
              have EV2 : decV s = (zeroE, 7) := decE_none DN.out
              have EV3 : (de, er) = (zeroE, 7) := DV.out.symm.trans EV2
              injection EV3 with e1_ e2_
              subst e1_
              subst e2_
              exact bodyPost_ret (v := .tuple #[.agg #[.int .u64 0, .int .u64 0, .int .u64 0, .slice none 0 0, .slice none 0 0], .int .i64 7]) (by simp [results, Try.results69, go_sem, r0, r1, r2, r3, r4]) rfl ⟨none, none, 0, 0, rfl, ⟨Nat.le_refl _, ⟨rfl, by simp [zeroE], fun h => absurd h (Nat.lt_irrefl 0)⟩⟩, ⟨Nat.le_refl _, ⟨rfl, by simp [zeroE], fun h => absurd h (Nat.lt_irrefl 0)⟩⟩, HB7.out⟩
            · have d1 : decide (0 ≤ at2) = true := decide_eq_true (by omega)
              rw [cR_succ] at DE
              clear ha2
              have K0 := Aside0.mk (below_alloc (Below.refl wr.heap.size wr) (.cells #[.int .i64 0, .int .u64 0, .int .i64 0, .int .i64 0, .string ⟨#[]⟩, .string ⟨#[]⟩, .int .u64 0, .int .u64 0] 82))
              have XG0 := Aside0.mk (blk_new wr (.cells #[.int .i64 0, .int .u64 0, .int .i64 0, .int .i64 0, .string ⟨#[]⟩, .string ⟨#[]⟩, .int .u64 0, .int .u64 0] 82))
              go_upto_region 22 with (fail)
              obtain ⟨ga, hga⟩ : ∃ ga, ga = wr.heap.size := ⟨_, rfl⟩
              rw [← hga] at XG0 ⊢
              have GA := Aside0.mk (show wr.heap.size ≤ ga by omega)
              clear hga
              generalize wr.alloc (.cells #[.int .i64 0, .int .u64 0, .int .i64 0, .int .i64 0, .string ⟨#[]⟩, .string ⟨#[]⟩, .int .u64 0, .int .u64 0] 82) = u0 at *
              obtain ⟨lv, z0, ha0⟩ : ∃ a b, numO sr 3 = (a, b) := ⟨_, _, rfl⟩
              have NC := numberR_calls u0 s HS.out at2 3 sr PP.out
              rw [ha0] at NC
              have Eha0 := Aside0.mk ha0
              have NRlv := Aside0.mk (show 0 ≤ lv ∧ lv ≤ 3 by have h9 := numO_range sr (most := 3) (by decide); rw [ha0] at h9; exact h9)
              clear ha0
              go_wp2_with fail
              refine NC.mono ?_
              clear NC
              rintro x u1 ⟨c0, rfl, hpo, hb⟩
              have Pc0 := Aside0.mk hpo
              have Bu1 := Aside0.mk hb
              clear hpo hb
              have K1 := Aside0.mk (below_step K0.out Bu1.out)
              have XG1 := Aside0.mk (blk_below XG0.out Bu1.out)
              clear K0 XG0 Bu1
              obtain ⟨nb, z1, ha1⟩ : ∃ a b, numO z0 mxU = (a, b) := ⟨_, _, rfl⟩
              have NC := numberR_calls u1 s HS.out c0 mxU z0 Pc0.out
              rw [ha1] at NC
              have Eha1 := Aside0.mk ha1
              have NRnb := Aside0.mk (show 0 ≤ nb ∧ nb ≤ mxU by have h9 := numO_range z0 (most := mxU) (by decide); rw [ha1] at h9; exact h9)
              clear ha1
              go_wp2_with fail
              refine NC.mono ?_
              clear NC
              rintro x u2 ⟨c1, rfl, hpo, hb⟩
              have Pc1 := Aside0.mk hpo
              have Bu2 := Aside0.mk hb
              clear hpo hb
              have K2 := Aside0.mk (below_step K1.out Bu2.out)
              have XG2 := Aside0.mk (blk_below XG1.out Bu2.out)
              clear K1 XG1 Bu2
              obtain ⟨sz, z2, ha2⟩ : ∃ a b, numO z1 262144 = (a, b) := ⟨_, _, rfl⟩
              have NC := numberR_calls u2 s HS.out c1 262144 z1 Pc1.out
              rw [ha2] at NC
              have Eha2 := Aside0.mk ha2
              have NRsz := Aside0.mk (show 0 ≤ sz ∧ sz ≤ 262144 by have h9 := numO_range z1 (most := 262144) (by decide); rw [ha2] at h9; exact h9)
              clear ha2
              go_wp2_with fail
              refine NC.mono ?_
              clear NC
              rintro x u3 ⟨c2, rfl, hpo, hb⟩
              have Pc2 := Aside0.mk hpo
              have Bu3 := Aside0.mk hb
              clear hpo hb
              have K3 := Aside0.mk (below_step K2.out Bu3.out)
              have XG3 := Aside0.mk (blk_below XG2.out Bu3.out)
              clear K2 XG2 Bu3
              obtain ⟨rw_, z3, ha3⟩ : ∃ a b, numO z2 262144 = (a, b) := ⟨_, _, rfl⟩
              have NC := numberR_calls u3 s HS.out c2 262144 z2 Pc2.out
              rw [ha3] at NC
              have Eha3 := Aside0.mk ha3
              have NRrw_ := Aside0.mk (show 0 ≤ rw_ ∧ rw_ ≤ 262144 by have h9 := numO_range z2 (most := 262144) (by decide); rw [ha3] at h9; exact h9)
              clear ha3
              go_wp2_with fail
              refine NC.mono ?_
              clear NC
              rintro x u4 ⟨c3, rfl, hpo, hb⟩
              have Pc3 := Aside0.mk hpo
              have Bu4 := Aside0.mk hb
              clear hpo hb
              have K4 := Aside0.mk (below_step K3.out Bu4.out)
              have XG4 := Aside0.mk (blk_below XG3.out Bu4.out)
              clear K3 XG3 Bu4
              obtain ⟨f1, z4, ha4⟩ : ∃ a b, texO z3 = (a, b) := ⟨_, _, rfl⟩
              have NC := textR_calls u4 s HS.out c3 z3 Pc3.out
              rw [ha4] at NC
              have Eha4 := Aside0.mk ha4
              clear ha4
              go_wp2_with fail
              refine NC.mono ?_
              clear NC
              rintro x u5 ⟨c4, rfl, hpo, hb⟩
              have Pc4 := Aside0.mk hpo
              have Bu5 := Aside0.mk hb
              clear hpo hb
              have K5 := Aside0.mk (below_step K4.out Bu5.out)
              have XG5 := Aside0.mk (blk_below XG4.out Bu5.out)
              clear K4 XG4 Bu5
              obtain ⟨f2, z5, ha5⟩ : ∃ a b, texO z4 = (a, b) := ⟨_, _, rfl⟩
              have NC := textR_calls u5 s HS.out c4 z4 Pc4.out
              rw [ha5] at NC
              have Eha5 := Aside0.mk ha5
              clear ha5
              go_wp2_with fail
              refine NC.mono ?_
              clear NC
              rintro x u6 ⟨c5, rfl, hpo, hb⟩
              have Pc5 := Aside0.mk hpo
              have Bu6 := Aside0.mk hb
              clear hpo hb
              have K6 := Aside0.mk (below_step K5.out Bu6.out)
              have XG6 := Aside0.mk (blk_below XG5.out Bu6.out)
              clear K5 XG5 Bu6
              obtain ⟨ls, z6, ha6⟩ : ∃ a b, numO z5 mxU = (a, b) := ⟨_, _, rfl⟩
              have NC := numberR_calls u6 s HS.out c5 mxU z5 Pc5.out
              rw [ha6] at NC
              have Eha6 := Aside0.mk ha6
              have NRls := Aside0.mk (show 0 ≤ ls ∧ ls ≤ mxU by have h9 := numO_range z5 (most := mxU) (by decide); rw [ha6] at h9; exact h9)
              clear ha6
              go_wp2_with fail
              refine NC.mono ?_
              clear NC
              rintro x u7 ⟨c6, rfl, hpo, hb⟩
              have Pc6 := Aside0.mk hpo
              have Bu7 := Aside0.mk hb
              clear hpo hb
              have K7 := Aside0.mk (below_step K6.out Bu7.out)
              have XG7 := Aside0.mk (blk_below XG6.out Bu7.out)
              clear K6 XG6 Bu7
              obtain ⟨gt, z7, ha7⟩ : ∃ a b, numO z6 mxU = (a, b) := ⟨_, _, rfl⟩
              have NC := numberR_calls u7 s HS.out c6 mxU z6 Pc6.out
              rw [ha7] at NC
              have Eha7 := Aside0.mk ha7
              have NRgt := Aside0.mk (show 0 ≤ gt ∧ gt ≤ mxU by have h9 := numO_range z6 (most := mxU) (by decide); rw [ha7] at h9; exact h9)
              clear ha7
              go_wp2_with fail
              refine NC.mono ?_
              clear NC
              rintro x u8 ⟨c7, rfl, hpo, hb⟩
              have Pc7 := Aside0.mk hpo
              have Bu8 := Aside0.mk hb
              clear hpo hb
              have K8 := Aside0.mk (below_step K7.out Bu8.out)
              have XG8 := Aside0.mk (blk_below XG7.out Bu8.out)
              clear K7 XG7 Bu8
              have ewlv : wrap64 lv = lv := by have := NRlv.out; unfold wrap64; omega
              have ewsz : wrap64 sz = sz := by have := NRsz.out; unfold wrap64; omega
              have ewrw : wrap64 rw_ = rw_ := by have := NRrw_.out; unfold wrap64; omega
              have ff := blk_frozen XG8.out 0
              have fc : u8.cell? ⟨ga, 0, none⟩ = some (.int .i64 0) := (blk_cell XG8.out 0).trans rfl
              have XG9 := Aside0.mk (five_set0 XG8.out (j := 0) (.int .i64 lv) (cs' := #[.int .i64 lv, .int .u64 0, .int .i64 0, .int .i64 0, .string ⟨#[]⟩, .string ⟨#[]⟩, .int .u64 0, .int .u64 0]) rfl)
              have K9 := Aside0.mk (K8.out.setCell (p := ⟨ga, 0, none⟩) GA.out (.int .i64 lv))
              go_upto_region 31 with (fail)
              clear ff fc XG8 K8
              generalize u8.setCell ⟨ga, 0, none⟩ (.int .i64 lv) = u9 at *
              have XG10 := Aside0.mk (show (u9.setCells ga 1 (#[.int .u64 nb, .int .i64 sz, .int .i64 rw_, .string f1, .string f2, .int .u64 ls, .int .u64 gt]).toList).heap[ga]? = some (.cells #[.int .i64 lv, .int .u64 nb, .int .i64 sz, .int .i64 rw_, .string f1, .string f2, .int .u64 ls, .int .u64 gt] 82 (0, 0)) from blk_set (blk_set (blk_set (blk_set (blk_set (blk_set (blk_set XG9.out 1 (.int .u64 nb)) 2 (.int .i64 sz)) 3 (.int .i64 rw_)) 4 (.string f1)) 5 (.string f2)) 6 (.int .u64 ls)) 7 (.int .u64 gt))
              have K10 := Aside0.mk (bel_cells GA.out (#[.int .u64 nb, .int .i64 sz, .int .i64 rw_, .string f1, .string f2, .int .u64 ls, .int .u64 gt]).toList 1 K9.out)
              have HTH := there_at XG9.out 1 7 (Nat.le_refl 8)
              go_upto_region 32 with (first | (refine wpList_store_mid rfl 58 _ _ rfl ga 1 (#[.int .u64 nb, .int .i64 sz, .int .i64 rw_, .string f1, .string f2, .int .u64 ls, .int .u64 gt]) ?hx ?hy HTH size58 (by simp [Value.oneCell']) ?_; (case hx => rfl); (case hy => rfl)) | fail)
              clear HTH XG9 K9
              generalize u9.setCells ga 1 (#[.int .u64 nb, .int .i64 sz, .int .i64 rw_, .string f1, .string f2, .int .u64 ls, .int .u64 gt]).toList = u10 at *
              have HBx := Aside0.mk (below_step HB.out K10.out)
              have Xx := Aside0.mk (blk_below X.out K10.out)
              have XEx := Aside0.mk (blk_below XE.out K10.out)
              have RGx := Aside0.mk (Kd.R_below RG.out K10.out)
              have RAx := Aside0.mk (Kd.R_below RA.out K10.out)
              have DN := Aside0.mk (show decE s = z7.bind (cR lg nx sq acc q2 (ac ++ [⟨lv, nb, sz, rw_, f1, f2, ls, gt⟩])) by
                rw [DE.out]
                unfold addR
                simp only [Eha0.out, Eha1.out, Eha2.out, Eha3.out, Eha4.out, Eha5.out, Eha6.out, Eha7.out])
              have LAC := Aside0.mk (show ac.length ≤ 300 by have := HK.out; have := M1.out; omega)
              clear DE HB X XE RG RA PP K10
              have g0 : u10.cell? ⟨ga, 0, none⟩ = some (.int .i64 lv) := (blk_cell XG10.out 0).trans rfl
              have g1 : u10.cell? ⟨ga, 1, none⟩ = some (.int .u64 nb) := (blk_cell XG10.out 1).trans rfl
              have g2 : u10.cell? ⟨ga, 2, none⟩ = some (.int .i64 sz) := (blk_cell XG10.out 2).trans rfl
              have g3 : u10.cell? ⟨ga, 3, none⟩ = some (.int .i64 rw_) := (blk_cell XG10.out 3).trans rfl
              have g4 : u10.cell? ⟨ga, 4, none⟩ = some (.string f1) := (blk_cell XG10.out 4).trans rfl
              have g5 : u10.cell? ⟨ga, 5, none⟩ = some (.string f2) := (blk_cell XG10.out 5).trans rfl
              have g6 : u10.cell? ⟨ga, 6, none⟩ = some (.int .u64 ls) := (blk_cell XG10.out 6).trans rfl
              have g7 : u10.cell? ⟨ga, 7, none⟩ = some (.int .u64 gt) := (blk_cell XG10.out 7).trans rfl
              have z4 : u10.cell? ⟨ge, 4, none⟩ = some (.slice B2 ac.length cb2) := (blk_cell XEx.out 4).trans rfl
              go_wp2_with (first | ((with_reducible refine gate_builtin (b := .append) (xs := #[.tmp 179, .tmp 181]) rfl ?_); at_builtin; refine Kd.R_append k82 (w0 := w) w.heap.size rfl (.tmp 179) (.tmp 181) 68 82 (.agg #[(.int .i64 0), (.int .u64 0), (.int .i64 0), (.int .i64 0), (.string ⟨#[]⟩), (.string ⟨#[]⟩), (.int .u64 0), (.int .u64 0)]) 80 rfl Try.underlying68 info82 rfl (show 0 < 8 by decide) (show 0 < 80 by decide) (.slice B2 ac.length cb2) (ac) (⟨lv, nb, sz, rw_, f1, f2, ls, gt⟩ : S82) [.int .i64 lv, .int .u64 nb, .int .i64 sz, .int .i64 rw_, .string f1, .string f2, .int .u64 ls, .int .u64 gt] (fun _ => True) (fun _ => False) rfl rfl ?aPa (fun _ hk => hk.elim) ?aFa ?aOa ?aBa ?aSa ?aLa ?_; (case aPa => exact k82_mkM _ _ _ (⟨lv, nb, sz, rw_, f1, f2, ls, gt⟩ : S82)); (case aBa => exact HBx.out); (case aFa => exact (fun _ _ => trivial)); (case aOa => exact RAx.out); (case aSa => exact Below.size (HBx.out)); (case aLa => (have h1 := LAC.out; omega)); intro va wa ho hb hg hat; have HBa := Aside0.mk hb; have XEa := Aside0.mk (blk_grown XEx.out hg (Kd.R_ne RAx.out XEx.out (by decide))); have Xa := Aside0.mk (blk_grown Xx.out hg (Kd.R_ne RAx.out Xx.out (by decide))); have RGa := Aside0.mk (Kd.R_over RGx.out RAx.out (by intro x hx; simp [show k84.E = [] from rfl] at hx; omega) hg); have hc8 : wa.cell? ⟨ge, 4, none⟩ = some (.slice B2 ac.length cb2) := (blk_cell XEa.out 4).trans rfl; have hf8 := blk_frozen XEa.out 4; obtain ⟨AD2, hA2⟩ : ∃ A2, A2 = ac ++ [(⟨lv, nb, sz, rw_, f1, f2, ls, gt⟩ : S82)] := ⟨_, rfl⟩; rw [← hA2] at ho; have AQ2 := Aside0.mk hA2; clear hA2; obtain ⟨B3, cb3, hv⟩ := Kd.R_slice ho; subst hv; have HRa := Aside0.mk ho; clear ho hb hg hat) | fail)
              have HBn := Aside0.mk (below_set (j := 4) (v := .slice B3 AD2.length cb3) HBa.out (Nat.le_of_lt NE.out))
              have Xn := Aside0.mk (blk_far Xa.out (p := ⟨ge, 4, none⟩) (Nat.ne_of_lt NE.out) (.slice B3 AD2.length cb3))
              have XEn := Aside0.mk (five_set0 XEa.out (j := 4) (.slice B3 AD2.length cb3) (cs' := #[.int .u64 lg, .int .u64 nx, .int .u64 sq, .slice B acc.length cb, .slice B3 AD2.length cb3]) rfl)
              have RGn := Aside0.mk (Kd.R_mono (Kd.R_set RGa.out XEa.out (by intro x hx; simp [show k84.E = [] from rfl] at hx; omega) 4 (.slice B3 AD2.length cb3)) (fun _ hk => hk))
              have RAn := Aside0.mk (Kd.R_mono (Kd.R_set HRa.out XEa.out (by intro x hx; simp [show k82.E = [] from rfl] at hx; omega) 4 (.slice B3 AD2.length cb3)) (fun _ hk => hk))
              have ADL := Aside0.mk (show AD2.length = ac.length + 1 by rw [AQ2.out, List.length_append]; rfl)
              try rw [eq2]
              clear eq2
              go_roundg q2
              case measure => omega
              case rel => exact ⟨i2 + 1, c7, z7, AD2, B3, cb3, rfl, rfl, ⟨by have h1 := HK.out.1; omega, by have h1 := HK.out.2; have h2 := ADL.out; omega⟩, HBn, Xn, XEn, Pc7, RGn, RAn, ⟨by rw [AQ2.out]; exact DN.out⟩⟩
      · have d1 : decide (0 ≤ at_) = true := decide_eq_true (by omega)
        rw [cG_succ] at DE
        clear ha
        obtain ⟨lv, s1, hl⟩ : ∃ a b, numO st 3 = (a, b) := ⟨_, _, rfl⟩
        have NC := numberR_calls wr s HS.out at_ 3 st PP.out
        rw [hl] at NC
        have Ehl := Aside0.mk hl
        have NRlv := Aside0.mk (show 0 ≤ lv ∧ lv ≤ 3 by have h9 := numO_range st (most := 3) (by decide); rw [hl] at h9; exact h9)
        clear hl
        go_wp2_with fail
        refine NC.mono ?_
        clear NC
        rintro x u1 ⟨b1, rfl, hpo, hb⟩
        have Pb1 := Aside0.mk hpo
        have Bu1 := Aside0.mk hb
        clear hpo hb
        obtain ⟨nm, s2, hm⟩ : ∃ a b, numO s1 mxU = (a, b) := ⟨_, _, rfl⟩
        have NC := numberR_calls u1 s HS.out b1 mxU s1 Pb1.out
        rw [hm] at NC
        have Ehm := Aside0.mk hm
        have NRnm := Aside0.mk (show 0 ≤ nm ∧ nm ≤ mxU by have h9 := numO_range s1 (most := mxU) (by decide); rw [hm] at h9; exact h9)
        clear hm
        go_wp2_with fail
        refine NC.mono ?_
        clear NC
        rintro x u2 ⟨b2, rfl, hpo, hb⟩
        have Pb2 := Aside0.mk hpo
        have Bu2 := Aside0.mk hb
        clear hpo hb
        have B12 := below_step Bu1.out Bu2.out
        have HBx := Aside0.mk (below_step HB.out B12)
        have Xx := Aside0.mk (blk_below X.out B12)
        have XEx := Aside0.mk (blk_below XE.out B12)
        have RAx := Aside0.mk (Kd.R_below RA.out B12)
        have DN := Aside0.mk (show decE s = s2.bind (cG lg nx sq q (acc ++ [⟨lv, nm⟩])) by rw [DE.out]; unfold goneO; rw [Ehl.out]; dsimp only; rw [Ehm.out])
        have ew : wrap64 lv = lv := by have := NRlv.out; unfold wrap64; omega
        have LAC := Aside0.mk (show acc.length ≤ 300 by have := HK.out; have := M0.out; omega)
        clear B12 Bu1 Bu2 DE HB X XE RA PP Pb1 NRnm
        have z3 : u2.cell? ⟨ge, 3, none⟩ = some (.slice B acc.length cb) := (blk_cell XEx.out 3).trans rfl
        go_wp2_with (first | ((with_reducible refine gate_builtin (b := .append) (xs := #[.tmp 89, .tmp 94]) rfl ?_); at_builtin; refine Kd.R_append k84 (w0 := w) w.heap.size rfl (.tmp 89) (.tmp 94) 67 84 (.agg #[(.int .i64 0), (.int .u64 0)]) 16 rfl Try.underlying67 info84 rfl (show 0 < 2 by decide) (show 0 < 16 by decide) (.slice B acc.length cb) (acc) (⟨lv, nm⟩ : S84) [.int .i64 lv, .int .u64 nm] (fun _ => True) (fun _ => False) rfl rfl ?aPa (fun _ hk => hk.elim) ?aFa ?aOa ?aBa ?aSa ?aLa ?_; (case aPa => exact k84_mkM _ _ _ (⟨lv, nm⟩ : S84)); (case aBa => exact HBx.out); (case aFa => exact (fun _ _ => trivial)); (case aOa => exact RAx.out); (case aSa => exact Below.size (HBx.out)); (case aLa => (have h1 := LAC.out; omega)); intro va wa ho hb hg hat; have HBa := Aside0.mk hb; have XEa := Aside0.mk (blk_grown XEx.out hg (Kd.R_ne RAx.out XEx.out (by decide))); have Xa := Aside0.mk (blk_grown Xx.out hg (Kd.R_ne RAx.out Xx.out (by decide))); have hc8 : wa.cell? ⟨ge, 3, none⟩ = some (.slice B acc.length cb) := (blk_cell XEa.out 3).trans rfl; have hf8 := blk_frozen XEa.out 3; obtain ⟨AD, hA2⟩ : ∃ A2, A2 = acc ++ [(⟨lv, nm⟩ : S84)] := ⟨_, rfl⟩; rw [← hA2] at ho; have AQ := Aside0.mk hA2; clear hA2; obtain ⟨B3, cb3, hv⟩ := Kd.R_slice ho; subst hv; have HRa := Aside0.mk ho; clear ho hb hg hat) | fail)
        have HBn := Aside0.mk (below_set (j := 3) (v := .slice B3 AD.length cb3) HBa.out (Nat.le_of_lt NE.out))
        have Xn := Aside0.mk (blk_far Xa.out (p := ⟨ge, 3, none⟩) (Nat.ne_of_lt NE.out) (.slice B3 AD.length cb3))
        have XEn := Aside0.mk (five_set0 XEa.out (j := 3) (.slice B3 AD.length cb3) (cs' := #[.int .u64 lg, .int .u64 nx, .int .u64 sq, .slice B3 AD.length cb3, .slice none 0 0]) rfl)
        have RAn := Aside0.mk (Kd.R_mono (Kd.R_set HRa.out XEa.out (by intro x hx; simp [show k84.E = [] from rfl] at hx; omega) 3 (.slice B3 AD.length cb3)) (fun _ hk => hk))
        have ADL := Aside0.mk (show AD.length = acc.length + 1 by rw [AQ.out, List.length_append]; rfl)
        try rw [eq1]
        clear eq1 ew
        go_roundg q
        case measure => omega
        case rel => exact ⟨i + 1, b2, s2, AD, B3, cb3, rfl, rfl, ⟨by have h1 := HK.out.1; omega, by have h1 := HK.out.2; have h2 := ADL.out; omega⟩, HBn, Xn, XEn, Pb2, RAn, ⟨by rw [AQ.out]; exact DN.out⟩⟩
end Go.Proofs.Ytkjepfofiegcdaa.V
