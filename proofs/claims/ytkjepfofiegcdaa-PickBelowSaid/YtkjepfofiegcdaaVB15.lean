import Derived.Test.YtkjepfofiegcdaaVB14
/- pick.Bottom, walked. Conditions: none. -/
namespace Go.Proofs.Ytkjepfofiegcdaa.V
set_option linter.unusedVariables false
set_option linter.unusedSimpArgs false
open Go.RowKit Go.Proofs.YtkjepfofiegcdaaW.PrintWords Go.Proofs.YtkjepfofiegcdaaW.PrintLast Go.Proofs.YtkjepfofiegcdaaW.PrintMore Go.Proofs.Ytkjepfofiegcdaa.PB14
def askP (v : Ver) (lev : Int) : Prop := rightP v ∧ 0 ≤ lev ∧ lev < 3
instance (v : Ver) (lev : Int) : Decidable (askP v lev) := by unfold askP; infer_instance
set_option maxHeartbeats 4000000 in
set_option maxRecDepth 100000 in
theorem asked_calls (w : World) (v : Ver) (p : Pl) (hC : VC w v p) (hW : VW v) (lev : Int) (A1 : Option Addr) (c1 : Nat) (In : List S58) (A2 : Option Addr) (c2 : Nat) (Ov : List S58) :
    Calls Try.prog 96 #[.agg (vCs v p), .agg #[.int .i64 lev, .slice A1 In.length c1, .slice A2 Ov.length c2]] w fun e w' => e = .returned (.bool (decide (askP v lev))) ∧ Below w.heap.size w w' := by
  have HC := Aside0.mk hC
  have HW := Aside0.mk hW
  have HB := Aside0.mk (below_alloc ((Below.refl w.heap.size w).alloc (Nat.le_refl _) (.cells (vCs v p) 26)) (.cells #[.int .i64 lev, .slice A1 In.length c1, .slice A2 Ov.length c2] 52))
  have X3 := Aside0.mk (blk_new (w.alloc (.cells (vCs v p) 26)) (.cells #[.int .i64 lev, .slice A1 In.length c1, .slice A2 Ov.length c2] 52))
  clear hC hW
  go_enter Try.func96, Try.ntmps96
  go_wp2_with fail
  refine (right_calls _ v p (HC.out.below HB.out) HW.out).mono ?_
  rintro e w2 ⟨rfl, hb⟩
  have HB2 := Aside0.mk (below_step HB.out hb)
  have X32 := Aside0.mk (blk_below X3.out hb)
  have y0 : w2.cell? ⟨w.heap.size + 1, 0, none⟩ = some (.int .i64 lev) := by
    have h1 := (blk_cell X32.out 0).trans rfl
    rw [show (w.alloc (.cells (vCs v p) 26)).heap.size = w.heap.size + 1 by simp] at h1
    exact h1
  clear hb HB X3
  by_cases hr : rightP v
  · rw [decide_eq_true hr]
    have RV := Aside0.mk hr
    clear hr
    by_cases h0 : 0 ≤ lev
    · by_cases h1 : lev < 3
      · go_wp2_with fail
        go_ret
        exact ⟨ret_bool (by symm; rw [decide_eq_true_iff]; exact ⟨RV.out, by omega, by omega⟩), HB2.out⟩
      · go_wp2_with fail
        go_ret
        exact ⟨ret_bool (by rw [decide_eq_decide]; exact ⟨fun h => ⟨RV.out, by omega, by omega⟩, fun h => h.2.2⟩), HB2.out⟩
    · go_wp2_with fail
      go_ret
      exact ⟨ret_bool (by symm; rw [decide_eq_false_iff_not]; rintro ⟨_, a, b⟩; omega), HB2.out⟩
  · rw [decide_eq_false hr]
    have RV := Aside0.mk hr
    clear hr
    go_wp2_with fail
    go_ret
    exact ⟨ret_bool (by symm; rw [decide_eq_false_iff_not]; rintro ⟨a, _, _⟩; exact RV.out a), HB2.out⟩
def BotP (v : Ver) (lev : Nat) (L : List S58) : Prop := L = [] ∨ ∀ i, i < 4 → lev + 2 ≤ i → ∀ m, m ∈ v.lv i → overB m (spanM L) = false
instance (v : Ver) (lev : Nat) (L : List S58) : Decidable (BotP v lev L) := by unfold BotP; infer_instance
def botB (v : Ver) (lev : Int) (L : List S58) : Bool := decide (askP v lev) && decide (BotP v lev.toNat L)
def botE (v : Ver) (lev : Int) : Int := if askP v lev then 0 else 2
theorem C23_two (w : World) (A1 A2 : Option Addr) (c1 c2 : Nat) (L1 L2 : List S58) (h1 : k58.C w A1 L1.length L1) (hc1 : L1.length ≤ c1) (h2 : k58.C w A2 L2.length L2) (hc2 : L2.length ≤ c2) : k23.C (w.alloc (.cells #[.slice A1 L1.length c1, .slice A2 L2.length c2] 23)) (some ⟨w.heap.size, 0, none⟩) 2 [L1, L2] := by
  have hb := (Below.refl w.heap.size w).alloc (Nat.le_refl _) (.cells #[.slice A1 L1.length c1, .slice A2 L2.length c2] 23)
  have hn := blk_new w (.cells #[.slice A1 L1.length c1, .slice A2 L2.length c2] 23)
  refine ⟨rfl, by decide, fun _ => ⟨_, rfl, fun j q hj => ?_⟩⟩
  have hj2 : j = 0 ∨ j = 1 := by
    match j, hj with
    | 0, _ => exact .inl rfl
    | 1, _ => exact .inr rfl
    | n + 2, hj => simp at hj
  rcases hj2 with rfl | rfl
  · simp at hj
    subst hj
    refine ⟨[.slice A1 L1.length c1], rfl, ⟨A1, c1, rfl, hc1, Kd.C_below h1 hb⟩, fun i u hu => ?_⟩
    have h0 : i = 0 := by
      cases i with
      | zero => rfl
      | succ n => simp at hu
    subst h0
    simp at hu
    rw [← hu]
    show (w.alloc _).cell? ((⟨w.heap.size, 0, none⟩ : Addr).add (0 * 1 + 0)) = _
    rw [Addr.add_mid, blk_cell hn]
    rfl
  · simp at hj
    subst hj
    refine ⟨[.slice A2 L2.length c2], rfl, ⟨A2, c2, rfl, hc2, Kd.C_below h2 hb⟩, fun i u hu => ?_⟩
    have h0 : i = 0 := by
      cases i with
      | zero => rfl
      | succ n => simp at hu
    subst h0
    simp at hu
    rw [← hu]
    show (w.alloc _).cell? ((⟨w.heap.size, 0, none⟩ : Addr).add (1 * 1 + 0)) = _
    rw [Addr.add_mid, blk_cell hn]
    rfl
theorem spanO_some (L : List S58) : (spanO L).isSome = true ↔ L ≠ [] := by
  rcases List.eq_nil_or_concat L with rfl | ⟨L', m, rfl⟩
  · simp [spanO]
  · rw [List.concat_eq_append, spanO_snoc]
    simp [spanS]
set_option maxHeartbeats 8000000 in
set_option maxRecDepth 100000 in
theorem bottom_calls (w : World) (v : Ver) (p : Pl) (hC : VC w v p) (hW : VW v) (lev : Int) (A1 : Option Addr) (c1 : Nat) (In : List S58) (A2 : Option Addr) (c2 : Nat) (Ov : List S58) (h1 : k58.C w A1 In.length In) (hc1 : In.length ≤ c1) (h2 : k58.C w A2 Ov.length Ov) (hc2 : Ov.length ≤ c2) :
    Calls Try.prog 45 #[.agg (vCs v p), .agg #[.int .i64 lev, .slice A1 In.length c1, .slice A2 Ov.length c2]] w fun e w' => e = .returned (.tuple #[.bool (botB v lev (In ++ Ov)), .int .i64 (botE v lev)]) ∧ Below w.heap.size w w' := by
  have HC := Aside0.mk hC
  have HW := Aside0.mk hW
  have H1 := Aside0.mk h1
  have H2 := Aside0.mk h2
  have Hc1 := Aside0.mk hc1
  have Hc2 := Aside0.mk hc2
  have HB := Aside0.mk (below_alloc ((Below.refl w.heap.size w).alloc (Nat.le_refl _) (.cells (vCs v p) 26)) (.cells #[.int .i64 lev, .slice A1 In.length c1, .slice A2 Ov.length c2] 52))
  have X2 := Aside0.mk (blk_alloc (blk_new w (.cells (vCs v p) 26)) (.cells #[.int .i64 lev, .slice A1 In.length c1, .slice A2 Ov.length c2] 52))
  have X3 := Aside0.mk (blk_new (w.alloc (.cells (vCs v p) 26)) (.cells #[.int .i64 lev, .slice A1 In.length c1, .slice A2 Ov.length c2] 52))
  clear hC hW h1 h2 hc1 hc2
  obtain ⟨bb, hbb⟩ : ∃ c, c = botB v lev (In ++ Ov) := ⟨_, rfl⟩
  obtain ⟨ee, hee⟩ : ∃ c, c = botE v lev := ⟨_, rfl⟩
  rw [← hbb, ← hee]
  have HBB := Aside0.mk hbb
  have HEE := Aside0.mk hee
  clear hbb hee
  go_enter Try.func45, Try.ntmps45
  go_wp2_with fail
  generalize hg3 : (w.alloc (.cells (vCs v p) 26)).heap.size = g3 at *
  have e3 : w.heap.size + 1 = g3 := by rw [← hg3]; simp
  try rw [e3]
  have N1 := Aside0.mk (show w.heap.size < g3 by omega)
  clear hg3 e3
  generalize (w.alloc (.cells (vCs v p) 26)).alloc (.cells #[.int .i64 lev, .slice A1 In.length c1, .slice A2 Ov.length c2] 52) = w1 at *
  refine (asked_calls w1 v p (HC.out.below HB.out) HW.out lev A1 c1 In A2 c2 Ov).mono ?_
  rintro e w2 ⟨rfl, hb⟩
  have HB2 := Aside0.mk (below_step HB.out hb)
  have X22 := Aside0.mk (blk_below X2.out hb)
  have X32 := Aside0.mk (blk_below X3.out hb)
  clear hb HB X2 X3
  by_cases ha : askP v lev
  · rw [decide_eq_true ha]
    have AV := Aside0.mk ha
    have E2 := Aside0.mk (show ee = 0 by rw [HEE.out, botE, if_pos ha])
    have y0 : w2.cell? ⟨g3, 0, none⟩ = some (.int .i64 lev) := (blk_cell X32.out 0).trans rfl
    have y1 : w2.cell? ⟨g3, 1, none⟩ = some (.slice A1 In.length c1) := (blk_cell X32.out 1).trans rfl
    have y2 : w2.cell? ⟨g3, 2, none⟩ = some (.slice A2 Ov.length c2) := (blk_cell X32.out 2).trans rfl
    clear ha
    go_wp2_with fail
    have hsp := span_calls _ _ 2 [In, Ov] (C23_two w2 A1 A2 c1 c2 In Ov (Kd.C_below H1.out HB2.out) Hc1.out (Kd.C_below H2.out HB2.out) Hc2.out)
    rw [show [In, Ov].flatten = In ++ Ov by simp] at hsp
    refine hsp.mono ?_
    clear hsp
    rintro e w4 ⟨rfl, hb⟩
    replace hb := below_step (below_alloc (Below.refl _ _) _) hb
    obtain ⟨sp, hsp⟩ : ∃ s, s = spanM (In ++ Ov) := ⟨_, rfl⟩
    obtain ⟨ok, hok⟩ : ∃ s, s = (spanO (In ++ Ov)).isSome := ⟨_, rfl⟩
    rw [← hsp, ← hok]
    have SP := Aside0.mk hsp
    have OK := Aside0.mk hok
    have HB4 := Aside0.mk (below_alloc (below_step HB2.out hb) (.cells (mCs sp) 58))
    have X24 := Aside0.mk (blk_alloc (blk_below X22.out hb) (.cells (mCs sp) 58))
    have X34 := Aside0.mk (blk_alloc (blk_below X32.out hb) (.cells (mCs sp) 58))
    have XS := Aside0.mk (show Tb (w4.alloc (.cells (mCs sp) 58)) w4.heap.size sp from blk_new w4 _)
    have y3 : (w4.alloc (.cells (mCs sp) 58)).cell? ⟨g3, 0, none⟩ = some (.int .i64 lev) := (blk_cell X34.out 0).trans rfl
    clear hb HB2 X22 X32 y0 y1 y2 hsp hok
    obtain ⟨l, rfl⟩ := Int.eq_ofNat_of_zero_le AV.out.2.1
    have hl3 := AV.out.2.2
    rcases (by omega : l = 0 ∨ l = 1 ∨ l = 2) with rfl | rfl | rfl
    · have hz : ((0 : Nat) : Int) = 0 := rfl
      rw [hz] at *
      clear hz hl3
      go_wp2_with fail
      clear y3
      generalize w4.heap.size = gs at *
      generalize w4.alloc (.cells (mCs sp) 58) = w5 at *
      have LO := Aside0.mk (show ok = true → ∀ i, 2 ≤ i → i < 2 + 0 → ∀ m, m ∈ v.lv i → overB m sp = false from fun _ i h1 h2 => by omega)
      go_loopg [9, 29] 2 (fun kq v9 v29 w' => ∃ j : Nat, v29 = .int .i64 (j : Int) ∧ Aside0 (kq + j = 2) ∧ Aside0 (Below w.heap.size w w') ∧ Aside0 (w'.heap[w.heap.size]? = some (.cells (vCs v p) 26 (0, 0))) ∧ Aside0 (Tb w' gs sp) ∧ Aside0 (ok = true → ∀ i, 2 ≤ i → i < 2 + j → ∀ m, m ∈ v.lv i → overB m sp = false))
      case atStart => exact ⟨0, rfl, ⟨by omega⟩, HB4, X24, XS, LO⟩
      case round =>
        clear HB4 X24 XS LO
        obtain ⟨j, rfl, HK, HB, X2, XS, LO⟩ := hrel
        cases gk with
        | zero =>
          have ej : j = 2 := by have := HK.out; omega
          subst ej
          have E1 := Aside0.mk (show bb = true by
            rw [HBB.out, botB, decide_eq_true AV.out, Bool.true_and, decide_eq_true_iff]
            by_cases hL : In ++ Ov = []
            · exact .inl hL
            · refine .inr fun i hi h2 m hm => ?_
              have h3 := LO.out (by rw [OK.out, spanO_some]; exact hL) i h2 (by omega) m hm
              rw [← SP.out]; exact h3)
          go_wp2_with fail
          exact bodyPost_ret (v := .tuple #[.bool true, .int .i64 0]) (by simp [results, Try.results45, go_sem]) rfl ⟨by rw [E1.out, E2.out], HB.out⟩
        | succ q =>
          have hj : j < 2 := by have := HK.out; omega
          have d0 : decide ((j : Int) < 2) = true := decide_eq_true (by omega)
          have d1 : decide (j < 2) = true := decide_eq_true (by omega)
          have p0 : 0 ≤ (j : Int) := Int.natCast_nonneg _
          have p1 : (j : Int) < 2 := by omega
          have HI := Aside0.mk (show 2 + j < 4 by omega)
          have hv := vcell X2.out (2 + j) HI.out
          rw [show 3 + (2 + j) = 5 + j by omega] at hv
          have hC1 := (HC.out.below HB.out) (2 + j) HI.out
          have hlen := AV.out.1.2.1.1 (2 + j) HI.out
          obtain ⟨l, hl⟩ : ∃ l, l = v.lv (2 + j) := ⟨_, rfl⟩
          rw [← hl] at hv hC1 hlen
          have LE := Aside0.mk hl
          have HC1 := Aside0.mk hC1.1
          have HL1 := Aside0.mk (show l.length ≤ 1000000000 by omega)
          have ew : wrap64 ((j : Int) + 1) = ((j + 1 : Nat) : Int) := by unfold wrap64; omega
          clear hl hC1 hlen hj
          cases ok with
          | false =>
            go_wp2_with fail
            try rw [ew]
            go_roundg q
            case measure => omega
            case rel => exact ⟨j + 1, rfl, ⟨by have := HK.out; omega⟩, HB, X2, XS, ⟨fun h => by cases h⟩⟩
          | true =>
            go_wp2_with fail
            refine (chosen97_calls _ _ _ l HC1.out HL1.out sp gs XS.out).mono ?_
            rintro e w7 ⟨x, rfl, hR, hb⟩
            obtain ⟨Ax, cx, hvx⟩ := Kd.R_slice hR
            subst hvx
            have HB7 := Aside0.mk (below_step HB.out hb)
            have X27 := Aside0.mk (blk_below X2.out hb)
            have XS7 := Aside0.mk (XS.out.below hb)
            obtain ⟨F, hF⟩ : ∃ F, F = l.filter fun m => overB m sp := ⟨_, rfl⟩
            rw [← hF]
            have FE := Aside0.mk hF
            clear hR hb hF hv
            by_cases hE : F = []
            · have FN := Aside0.mk (show ∀ m, m ∈ l → overB m sp = false from fun m hm => by
                cases hq : overB m sp with
                | false => rfl
                | true => have h1 : m ∈ F := by { rw [FE.out, List.mem_filter]; exact ⟨hm, hq⟩ }; rw [hE] at h1; simp at h1)
              subst hE
              go_wp2_with fail
              try rw [ew]
              go_roundg q
              case measure => omega
              case rel => exact ⟨j + 1, rfl, ⟨by have := HK.out; omega⟩, HB7, X27, XS7, ⟨fun h i h1 h2 m hm => by
                by_cases e : i = 2 + j
                · subst e; rw [← LE.out] at hm; exact FN.out m hm
                · exact LO.out h i h1 (by omega) m hm⟩⟩
            · have FP := Aside0.mk (List.length_pos_iff.mpr hE)
              have d2 : decide (0 < (F.length : Int)) = true := decide_eq_true (by have := FP.out; omega)
              have d3 : decide (0 < F.length) = true := decide_eq_true FP.out
              have E1 := Aside0.mk (show bb = false by
                rw [HBB.out, botB, decide_eq_true AV.out, Bool.true_and, decide_eq_false_iff_not]
                rintro (h1 | h1)
                · rw [h1] at OK; have := OK.out; simp [spanO] at this
                · apply hE
                  rw [FE.out, List.filter_eq_nil_iff]
                  intro m hm
                  have h2 := h1 (2 + j) HI.out (by show ((0 : Int)).toNat + 2 ≤ _; omega) m (by rw [← LE.out]; exact hm)
                  rw [SP.out, h2]; simp)
              clear hE
              go_wp2_with fail
              exact bodyPost_ret (v := .tuple #[.bool false, .int .i64 0]) (by simp [results, Try.results45, go_sem]) rfl ⟨by rw [E1.out, E2.out], HB7.out⟩
    · have hz : ((1 : Nat) : Int) = 1 := rfl
      rw [hz] at *
      clear hz hl3
      go_wp2_with fail
      clear y3
      generalize w4.heap.size = gs at *
      generalize w4.alloc (.cells (mCs sp) 58) = w5 at *
      have LO := Aside0.mk (show ok = true → ∀ i, 3 ≤ i → i < 3 + 0 → ∀ m, m ∈ v.lv i → overB m sp = false from fun _ i h1 h2 => by omega)
      go_loopg [9, 29] 1 (fun kq v9 v29 w' => ∃ j : Nat, v29 = .int .i64 (j : Int) ∧ Aside0 (kq + j = 1) ∧ Aside0 (Below w.heap.size w w') ∧ Aside0 (w'.heap[w.heap.size]? = some (.cells (vCs v p) 26 (0, 0))) ∧ Aside0 (Tb w' gs sp) ∧ Aside0 (ok = true → ∀ i, 3 ≤ i → i < 3 + j → ∀ m, m ∈ v.lv i → overB m sp = false))
      case atStart => exact ⟨0, rfl, ⟨by omega⟩, HB4, X24, XS, LO⟩
      case round =>
        clear HB4 X24 XS LO
        obtain ⟨j, rfl, HK, HB, X2, XS, LO⟩ := hrel
        cases gk with
        | zero =>
          have ej : j = 1 := by have := HK.out; omega
          subst ej
          have E1 := Aside0.mk (show bb = true by
            rw [HBB.out, botB, decide_eq_true AV.out, Bool.true_and, decide_eq_true_iff]
            by_cases hL : In ++ Ov = []
            · exact .inl hL
            · refine .inr fun i hi h2 m hm => ?_
              have h3 := LO.out (by rw [OK.out, spanO_some]; exact hL) i h2 (by omega) m hm
              rw [← SP.out]; exact h3)
          go_wp2_with fail
          exact bodyPost_ret (v := .tuple #[.bool true, .int .i64 0]) (by simp [results, Try.results45, go_sem]) rfl ⟨by rw [E1.out, E2.out], HB.out⟩
        | succ q =>
          have hj : j < 1 := by have := HK.out; omega
          have d0 : decide ((j : Int) < 1) = true := decide_eq_true (by omega)
          have d1 : decide (j < 1) = true := decide_eq_true (by omega)
          have p0 : 0 ≤ (j : Int) := Int.natCast_nonneg _
          have p1 : (j : Int) < 1 := by omega
          have HI := Aside0.mk (show 3 + j < 4 by omega)
          have hv := vcell X2.out (3 + j) HI.out
          rw [show 3 + (3 + j) = 6 + j by omega] at hv
          have hC1 := (HC.out.below HB.out) (3 + j) HI.out
          have hlen := AV.out.1.2.1.1 (3 + j) HI.out
          obtain ⟨l, hl⟩ : ∃ l, l = v.lv (3 + j) := ⟨_, rfl⟩
          rw [← hl] at hv hC1 hlen
          have LE := Aside0.mk hl
          have HC1 := Aside0.mk hC1.1
          have HL1 := Aside0.mk (show l.length ≤ 1000000000 by omega)
          have ew : wrap64 ((j : Int) + 1) = ((j + 1 : Nat) : Int) := by unfold wrap64; omega
          clear hl hC1 hlen hj
          cases ok with
          | false =>
            go_wp2_with fail
            try rw [ew]
            go_roundg q
            case measure => omega
            case rel => exact ⟨j + 1, rfl, ⟨by have := HK.out; omega⟩, HB, X2, XS, ⟨fun h => by cases h⟩⟩
          | true =>
            go_wp2_with fail
            refine (chosen97_calls _ _ _ l HC1.out HL1.out sp gs XS.out).mono ?_
            rintro e w7 ⟨x, rfl, hR, hb⟩
            obtain ⟨Ax, cx, hvx⟩ := Kd.R_slice hR
            subst hvx
            have HB7 := Aside0.mk (below_step HB.out hb)
            have X27 := Aside0.mk (blk_below X2.out hb)
            have XS7 := Aside0.mk (XS.out.below hb)
            obtain ⟨F, hF⟩ : ∃ F, F = l.filter fun m => overB m sp := ⟨_, rfl⟩
            rw [← hF]
            have FE := Aside0.mk hF
            clear hR hb hF hv
            by_cases hE : F = []
            · have FN := Aside0.mk (show ∀ m, m ∈ l → overB m sp = false from fun m hm => by
                cases hq : overB m sp with
                | false => rfl
                | true => have h1 : m ∈ F := by { rw [FE.out, List.mem_filter]; exact ⟨hm, hq⟩ }; rw [hE] at h1; simp at h1)
              subst hE
              go_wp2_with fail
              try rw [ew]
              go_roundg q
              case measure => omega
              case rel => exact ⟨j + 1, rfl, ⟨by have := HK.out; omega⟩, HB7, X27, XS7, ⟨fun h i h1 h2 m hm => by
                by_cases e : i = 3 + j
                · subst e; rw [← LE.out] at hm; exact FN.out m hm
                · exact LO.out h i h1 (by omega) m hm⟩⟩
            · have FP := Aside0.mk (List.length_pos_iff.mpr hE)
              have d2 : decide (0 < (F.length : Int)) = true := decide_eq_true (by have := FP.out; omega)
              have d3 : decide (0 < F.length) = true := decide_eq_true FP.out
              have E1 := Aside0.mk (show bb = false by
                rw [HBB.out, botB, decide_eq_true AV.out, Bool.true_and, decide_eq_false_iff_not]
                rintro (h1 | h1)
                · rw [h1] at OK; have := OK.out; simp [spanO] at this
                · apply hE
                  rw [FE.out, List.filter_eq_nil_iff]
                  intro m hm
                  have h2 := h1 (3 + j) HI.out (by show ((1 : Int)).toNat + 2 ≤ _; omega) m (by rw [← LE.out]; exact hm)
                  rw [SP.out, h2]; simp)
              clear hE
              go_wp2_with fail
              exact bodyPost_ret (v := .tuple #[.bool false, .int .i64 0]) (by simp [results, Try.results45, go_sem]) rfl ⟨by rw [E1.out, E2.out], HB7.out⟩
    · have hz : ((2 : Nat) : Int) = 2 := rfl
      rw [hz] at *
      clear hz hl3
      go_wp2_with fail
      clear y3
      generalize w4.heap.size = gs at *
      generalize w4.alloc (.cells (mCs sp) 58) = w5 at *
      have LO := Aside0.mk (show ok = true → ∀ i, 4 ≤ i → i < 4 + 0 → ∀ m, m ∈ v.lv i → overB m sp = false from fun _ i h1 h2 => by omega)
      go_loopg [9, 29] 0 (fun kq v9 v29 w' => ∃ j : Nat, v29 = .int .i64 (j : Int) ∧ Aside0 (kq + j = 0) ∧ Aside0 (Below w.heap.size w w') ∧ Aside0 (w'.heap[w.heap.size]? = some (.cells (vCs v p) 26 (0, 0))) ∧ Aside0 (Tb w' gs sp) ∧ Aside0 (ok = true → ∀ i, 4 ≤ i → i < 4 + j → ∀ m, m ∈ v.lv i → overB m sp = false))
      case atStart => exact ⟨0, rfl, ⟨by omega⟩, HB4, X24, XS, LO⟩
      case round =>
        clear HB4 X24 XS LO
        obtain ⟨j, rfl, HK, HB, X2, XS, LO⟩ := hrel
        cases gk with
        | zero =>
          have ej : j = 0 := by have := HK.out; omega
          subst ej
          have E1 := Aside0.mk (show bb = true by
            rw [HBB.out, botB, decide_eq_true AV.out, Bool.true_and, decide_eq_true_iff]
            by_cases hL : In ++ Ov = []
            · exact .inl hL
            · refine .inr fun i hi h2 m hm => ?_
              have h3 := LO.out (by rw [OK.out, spanO_some]; exact hL) i h2 (by omega) m hm
              rw [← SP.out]; exact h3)
          go_wp2_with fail
          exact bodyPost_ret (v := .tuple #[.bool true, .int .i64 0]) (by simp [results, Try.results45, go_sem]) rfl ⟨by rw [E1.out, E2.out], HB.out⟩
        | succ q =>
          exact absurd HK.out (by omega)
  · rw [decide_eq_false ha]
    have E1 := Aside0.mk (show bb = false by rw [HBB.out, botB, decide_eq_false ha]; rfl)
    have E2 := Aside0.mk (show ee = 2 by rw [HEE.out, botE, if_neg ha])
    clear ha
    go_wp2_with fail
    exact bodyPost_ret (v := .tuple #[.bool false, .int .i64 2]) (by simp [results, Try.results45, go_sem]) rfl ⟨by rw [E1.out, E2.out], HB2.out⟩
end Go.Proofs.Ytkjepfofiegcdaa.V
