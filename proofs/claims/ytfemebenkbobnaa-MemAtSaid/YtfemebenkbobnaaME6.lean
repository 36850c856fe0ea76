import Derived.Test.YtfemebenkbobnaaME4
import Derived.Test.YtfemebenkbobnaaUB
/- A table laid of batches, walked. Conditions: none. -/
namespace Go.Proofs.Ytfemebenkbobnaa.SM
set_option linter.unusedVariables false
set_option linter.unusedSimpArgs false
open Go.RowKit Go.Shelf Go.Proofs.YtfemebenkbobnaaW.PrintWords Go.Proofs.YtfemebenkbobnaaW.PrintLast Go.Proofs.YtfemebenkbobnaaW.PrintMore Go.Proofs.Ytfemebenkbobnaa.PB06
/-- A batch added. -/
def addT (hs : List Int) (n : Int) (l : List S72) (t : Ts) : Ts :=
  if checkS n l = 0 ∧ (∀ r, r ∈ rowsL n 0 l → takenV r t.l = false) then runT (rowsL n 0 l) hs t (rowsL n 0 l).length else t
def laidT (L : List S58) (hs : List Int) : Nat → Ts
  | 0 => ⟨[], 0, 0, 0⟩
  | i + 1 => addT hs (L.getD i z58).f0 (L.getD i z58).f1 (laidT L hs i)
theorem putV_mem {r : S28} {c : Nat} {l : List RH} {p : RH} (h : p ∈ putV r c l) : p ∈ l ∨ p = (r, c) := by
  unfold putV at h
  split at h
  · exact .inl h
  · unfold insV at h
    rcases List.mem_append.mp h with h | h
    · exact .inl ((List.takeWhile_prefix _).subset h)
    · rcases List.mem_cons.mp h with h | h
      · exact .inr h
      · exact .inl ((List.dropWhile_suffix _).subset h)
theorem runT_mem {R : List S28} {hs : List Int} {t : Ts} {p : RH} : ∀ i, i ≤ R.length → p ∈ (runT R hs t i).l → p ∈ t.l ∨ p.1 ∈ R
  | 0, _, h => .inl h
  | i + 1, hi, h => by
    rw [runT, stepT] at h
    rcases putV_mem h with h | rfl
    · exact runT_mem i (by omega) h
    · refine .inr ?_
      show R.getD i z28 ∈ R
      rw [List.getD_eq_getElem?_getD, List.getElem?_eq_getElem (by omega)]
      exact List.getElem_mem _
/-- What a laid table's size is bounded by. -/
structure Small (t : Ts) (i : Nat) : Prop where
  len : t.l.length ≤ 70 * i
  lo : 0 ≤ t.room
  hi : t.room ≤ i * 140001120
  u64 : ∀ p, p ∈ t.l → p.1.f1 ≤ 18446744073709551615
theorem add_small {hs : List Int} {n : Int} {l : List S72} {t : Ts} {i : Nat} (h : Small t i) (hl : l.length ≤ 70) : Small (addT hs n l t) (i + 1) := by
  unfold addT
  split
  · rename_i hc
    have hsz := rows_small hc.1
    have hlen : (rowsL n 0 l).length = l.length := rowsL_len n 0 l
    have h1 := runT_len (rowsL n 0 l) hs t (rowsL n 0 l).length
    have h2 := runT_room (R := rowsL n 0 l) (hs := hs) (t := t) (fun r hr => by have := hsz r hr; omega) (rowsL n 0 l).length (Nat.le_refl _)
    have h3 := h.len
    have h4 := h.lo
    have h5 := h.hi
    rw [hlen] at h1 h2
    refine ⟨by rw [hlen]; omega, by rw [hlen]; omega, by rw [hlen]; omega, fun p hp => ?_⟩
    rcases runT_mem _ (Nat.le_refl _) hp with hp | hp
    · exact h.u64 p hp
    · exact (hsz _ hp).2.2
  · exact ⟨by have := h.len; omega, h.lo, by have := h.hi; omega, h.u64⟩
theorem laid_small {L : List S58} {hs : List Int} : ∀ i, i ≤ L.length → (∀ b, b ∈ L.take i → b.f1.length ≤ 70) → Small (laidT L hs i) i
  | 0, _, _ => ⟨by simp [laidT], by simp [laidT], by simp [laidT], fun p hp => by simp [laidT] at hp⟩
  | i + 1, hi, hb => by
    have e : L.getD i z58 = L[i] := by rw [List.getD_eq_getElem?_getD, List.getElem?_eq_getElem (by omega)]; rfl
    rw [laidT]
    refine add_small (laid_small i (by omega) (fun b h => hb b ?_)) ?_
    · rw [List.take_add_one]; exact List.mem_append.mpr (.inl h)
    · rw [e]
      refine hb _ ?_
      rw [List.take_add_one, List.getElem?_eq_getElem (by omega)]
      exact List.mem_append.mpr (.inr (by simp))
set_option maxRecDepth 100000 in
theorem add_any (w : World) (g : Nat) (rs : List Nd) (t : Ts) (h : Sk (tabT t.room t.least t.greatest) w g rs) (hv : vals rs = t.l) (n0 : Int) (A0 : Option Addr) (c0 : Nat) (l0 : List S72) (hC0 : k72.C w A0 l0.length l0) (hc0 : l0.length ≤ c0) (hl0 : l0.length ≤ 70) (A1 : Option Addr) (c1 : Nat) (hs : List Int)
    (hH : ∀ w', (∀ k, k < w.heap.size → k ∉ fp g rs → w'.heap[k]? = w.heap[k]?) → (Kd.int .i64).C w' A1 hs.length hs) {i : Nat} (hi : i ≤ 100) (hsm : Small t i) :
    Calls Try.prog 49 #[.pointer (some ⟨g, 0, none⟩), .agg #[.int .u64 n0, .slice A0 l0.length c0], .slice A1 hs.length c1] w fun e w' => ∃ c rs', e = .returned (.int .i64 c) ∧ AddP w w' g rs (addT hs n0 l0 t) rs' := by
  obtain ⟨kf, hf⟩ := (ev_Check n0 l0 (by omega)).rounds
  have hlen : (rowsL n0 0 l0).length = l0.length := rowsL_len n0 0 l0
  refine (add_tab w g rs t.room t.least t.greatest h n0 A0 c0 l0 hC0 hc0 A1 c1 hs hH (checkS n0 l0) kf hf (if checkS n0 l0 = 0 then rowsL n0 0 l0 else []) (fun h0 => ?_) (fun r hr => ?_) ⟨hsm.lo, by have := hsm.hi; omega⟩ (by have := hsm.len; have h1 := congrArg List.length hv; rw [vals_len] at h1; omega) ?_).mono ?_
  · obtain ⟨kr, hr⟩ := (ev_RowsS n0 l0 (by omega)).rounds
    rw [rowsS, if_pos h0] at hr
    rw [if_pos h0]
    exact ⟨kr, hr⟩
  · by_cases h0 : checkS n0 l0 = 0
    · rw [if_pos h0] at hr
      have := rows_small h0 r hr
      omega
    · rw [if_neg h0] at hr
      simp at hr
  · split
    · omega
    · simp
  · have ht : (⟨vals rs, t.room, t.least, t.greatest⟩ : Ts) = t := by rw [hv]
    rintro e w' (⟨h1, rfl, hb⟩ | ⟨h1, ⟨r, hr, h2⟩, rfl, hb⟩ | ⟨h1, h2, rfl, rs', ha⟩)
    · refine ⟨_, rs, rfl, ?_⟩
      rw [addT, if_neg (fun hc => h1 hc.1), ← ht]
      exact AddP.refl h hb
    · refine ⟨_, rs, rfl, ?_⟩
      rw [if_pos h1] at hr
      rw [addT, if_neg (fun hc => by have := hc.2 r hr; rw [hv] at h2; rw [h2] at this; cases this), ← ht]
      exact AddP.refl h hb
    · refine ⟨_, rs', rfl, ?_⟩
      rw [if_pos h1] at h2 ha
      rw [addT, if_pos ⟨h1, fun r hr => by have := h2 r hr; rwa [hv] at this⟩]
      rw [ht] at ha
      exact ha
theorem C3_heap {w w' : World} {A : Option Addr} {n : Nat} {xs : List Int} (hk : ∀ k, k < w.heap.size → w'.heap[k]? = w.heap[k]?) (h : (Kd.int .i64).C w A n xs) : (Kd.int .i64).C w' A n xs := (Kd.heap_int .i64).C hk h
set_option maxHeartbeats 8000000 in
set_option maxRecDepth 100000 in
theorem laid_calls (w : World) (A0 : Option Addr) (c0 : Nat) (L : List S58) (hr0 : k58.C w A0 L.length L) (hc0 : L.length ≤ c0) (A1 : Option Addr) (c1 : Nat) (hs : List Int) (hr1 : (Kd.int .i64).C w A1 hs.length hs) :
    Calls Try.prog 59 #[.slice A0 L.length c0, .slice A1 hs.length c1] w fun e w' => ∃ g rs, e = .returned (.tuple #[.pointer (some ⟨g, 0, none⟩), .bool (decide (L.length ≤ 30 ∧ ∀ b, b ∈ L → b.f1.length ≤ 70))]) ∧ Below w.heap.size w w' ∧
      ((L.length ≤ 30 ∧ ∀ b, b ∈ L → b.f1.length ≤ 70) → Sk (tabT (laidT L hs L.length).room (laidT L hs L.length).least (laidT L hs L.length).greatest) w' g rs ∧ vals rs = (laidT L hs L.length).l ∧ Small (laidT L hs L.length) L.length) := by
  have HR0 := Aside0.mk hr0
  have HR1 := Aside0.mk hr1
  have HC0 := Aside0.mk hc0
  clear hr0 hr1 hc0
  go_enter Try.func59, Try.ntmps59
  go_wp2_with fail
  refine (new_calls w).mono ?_
  rintro e w1 ⟨g, rfl, hs1, hg, hb⟩
  have HS := Aside0.mk hs1
  have HG := Aside0.mk hg
  have HB := Aside0.mk hb
  clear hs1 hg hb
  by_cases c : (L.length : Int) > 30
  · have cb : decide (30 < (L.length : Int)) = true := decide_eq_true c
    have cb2 : decide (30 < L.length) = true := decide_eq_true (by omega)
    have CN := Aside0.mk (show ¬ L.length ≤ 30 by omega)
    clear c
    go_wp2_with fail
    exact bodyPost_ret (v := .tuple #[.pointer (some ⟨g, 0, none⟩), .bool false]) (by simp [results, Try.results59, go_sem]) rfl ⟨g, [], by rw [decide_eq_false (fun h => CN.out h.1)], HB.out, fun h => absurd h.1 CN.out⟩
  · have cb : decide (30 < (L.length : Int)) = false := decide_eq_false c
    have cb2 : decide (30 < L.length) = false := decide_eq_false (by omega)
    have CN := Aside0.mk (show L.length ≤ 30 by omega)
    clear c
    go_wp2_with fail
    go_loopg [7] L.length (fun kq v7 w' => ∃ (i : Nat) (rs : List Nd), v7 = .int .i64 (i : Int) ∧ Aside0 (kq + i = L.length) ∧ Aside0 (∀ b, b ∈ L.take i → b.f1.length ≤ 70) ∧ Aside0 (Sk (tabT (laidT L hs i).room (laidT L hs i).least (laidT L hs i).greatest) w' g rs) ∧ Aside0 (vals rs = (laidT L hs i).l) ∧ Aside0 (∀ k, k ∈ fp g rs → w.heap.size ≤ k) ∧ Aside0 (Below w.heap.size w w'))
    case atStart => exact ⟨0, [], rfl, ⟨by omega⟩, ⟨fun b hb => by simp at hb⟩, HS, ⟨rfl⟩, ⟨fun k hk => by rw [fp_mem] at hk; simp at hk; rw [hk]; exact HG.out⟩, HB⟩
    case round =>
      clear HS HB
      obtain ⟨i, rs, rfl, HK, H70, HS, HV, HLO, HB⟩ := hrel
      cases gk with
      | zero =>
        have ei : i = L.length := by have := HK.out; omega
        subst ei
        have d0 : decide ((L.length : Int) < (L.length : Int)) = false := by simp
        go_wp2_with fail
        have hall : L.length ≤ 30 ∧ ∀ b, b ∈ L → b.f1.length ≤ 70 := ⟨CN.out, fun b hb => H70.out b (by rw [List.take_length]; exact hb)⟩
        exact bodyPost_ret (v := .tuple #[.pointer (some ⟨g, 0, none⟩), .bool true]) (by simp [results, Try.results59, go_sem]) rfl ⟨g, rs, by rw [decide_eq_true hall], HB.out, fun _ => ⟨HS.out, HV.out, laid_small _ (Nat.le_refl _) H70.out⟩⟩
      | succ q =>
        have hi : i < L.length := by have := HK.out; omega
        have d0 : decide ((i : Int) < (L.length : Int)) = true := decide_eq_true (by omega)
        have d1 : decide (i < L.length) = true := decide_eq_true hi
        have p0 : 0 ≤ (i : Int) := Int.natCast_nonneg _
        have p1 : (i : Int) < (L.length : Int) := Int.ofNat_lt.mpr hi
        obtain ⟨ad, A2, c2, ea, hx0, hx1, hl2, hC2⟩ := at_T58 HR0.out (i : Int) (by omega) p1
        cases ea
        rw [show rd_T58 L (i : Int) = L.getD i z58 from rfl] at hx0 hx1 hl2 hC2
        have XM := Aside0.mk (show L.getD i z58 ∈ L by rw [List.getD_eq_getElem?_getD, List.getElem?_eq_getElem hi]; exact List.getElem_mem _)
        have XT := Aside0.mk (show ∀ b, b ∈ L.take (i + 1) → b ∈ L.take i ∨ b = L.getD i z58 from fun b hb => by
          rw [List.take_add_one, List.getElem?_eq_getElem hi] at hb
          rcases List.mem_append.mp hb with hb | hb
          · exact .inl hb
          · simp at hb; refine .inr ?_; rw [hb, List.getD_eq_getElem?_getD, List.getElem?_eq_getElem hi]; rfl)
        have LT := Aside0.mk (show laidT L hs (i + 1) = addT hs (L.getD i z58).f0 (L.getD i z58).f1 (laidT L hs i) from rfl)
        obtain ⟨x, hx⟩ : ∃ x, x = L.getD i z58 := ⟨_, rfl⟩
        rw [← hx] at hx0 hx1 hl2 hC2 XM XT LT
        rw [Int.toNat_natCast] at hx0 hx1
        clear hx
        have x0 := (HB.out.cell (World.block_lt_of_cell? w _ hx0)).trans hx0
        have x1 := (HB.out.cell (World.block_lt_of_cell? w _ hx1)).trans hx1
        have CX := Aside0.mk (Kd.C_below hC2 HB.out)
        have CXc := Aside0.mk hl2
        clear hx0 hx1 hl2 hC2
        by_cases c7 : (x.f1.length : Int) > 70
        · have cb3 : decide (70 < (x.f1.length : Int)) = true := decide_eq_true c7
          have cb4 : decide (70 < x.f1.length) = true := decide_eq_true (by omega)
          have C7 := Aside0.mk (show ¬ x.f1.length ≤ 70 by omega)
          clear c7
          go_wp2_with fail
          exact bodyPost_ret (v := .tuple #[.pointer (some ⟨g, 0, none⟩), .bool false]) (by simp [results, Try.results59, go_sem]) rfl ⟨g, [], by rw [decide_eq_false (fun h => C7.out (h.2 x XM.out))], HB.out, fun h => absurd (h.2 x XM.out) C7.out⟩
        · have cb3 : decide (70 < (x.f1.length : Int)) = false := decide_eq_false c7
          have cb4 : decide (70 < x.f1.length) = false := decide_eq_false (by omega)
          have C7 := Aside0.mk (show x.f1.length ≤ 70 by omega)
          clear c7
          go_wp2_with fail
          refine (add_any wr g rs (laidT L hs i) HS.out HV.out x.f0 A2 c2 x.f1 CX.out CXc.out C7.out A1 c1 hs (fun w' hk => C3_heap (w := w) (fun k hlt => (hk k (Nat.lt_of_lt_of_le hlt HB.out.size) (fun hm => by have := HLO.out k hm; omega)).trans (HB.out.block k hlt)) HR1.out) (i := i) (by have := CN.out; omega) (laid_small i (by omega) H70.out)).mono ?_
          rintro e w5 ⟨cc, rs', rfl, ha⟩
          rw [← LT.out] at ha
          have n0_ := Aside0.mk ha.sk
          have n1_ := Aside0.mk ha.val
          have n2_ := Aside0.mk (show ∀ k, k ∈ fp g rs' → w.heap.size ≤ k from fun k hk => (ha.new k hk).elim (HLO.out k) (fun h => Nat.le_trans HB.out.size h))
          have n3_ := Aside0.mk (ha.kp.low w.heap.size w HB.out (HLO.out g (fp_mem.mpr (.inl rfl))) HB.out.size (fun k hk => HLO.out k (fp_mem.mpr (.inr hk))))
          have n4_ := Aside0.mk (show ∀ b, b ∈ L.take (i + 1) → b.f1.length ≤ 70 from fun b hb => (XT.out b hb).elim (H70.out b) (fun h => by rw [h]; exact C7.out))
          clear ha HS HV HLO HB H70 x0 x1 CX
          go_wp2_with fail
          have hi100 := CN.out
          have ew : wrap64 ((i : Int) + 1) = ((i + 1 : Nat) : Int) := by unfold wrap64; omega
          try rw [ew]
          go_roundg q
          case measure => omega
          case rel => exact ⟨i + 1, rs', rfl, ⟨by have := HK.out; omega⟩, n4_, n0_, n1_, n2_, n3_⟩
end Go.Proofs.Ytfemebenkbobnaa.SM
