import Derived.Test.YtfemebenkbobnaaMEA
import Derived.Test.YtfemebenkbobnaaHOp5
/- Is a script too long (long), walked; what Add answers, in terms of ref09's Add. Conditions: none. -/
namespace Go.Proofs.Ytfemebenkbobnaa.SM
set_option linter.unusedVariables false
set_option linter.unusedSimpArgs false
open Go.RowKit Go.Shelf Go.Proofs.YtfemebenkbobnaaW.PrintWords Go.Proofs.YtfemebenkbobnaaW.PrintLast Go.Proofs.YtfemebenkbobnaaW.PrintMore Go.Proofs.Ytfemebenkbobnaa.PB06
open Go.Proofs.Ytfemebenkbobnaa.H (S84 k84 z84 at_T84)
def Fits (xs : List S84) : Prop := xs.length ≤ 60 ∧ ∀ x, x ∈ xs → x.b.f1.length ≤ 70 ∧ x.hs.length ≤ 200
theorem take_getD {L : List S84} {i : Nat} (hi : i < L.length) : ∀ x, x ∈ L.take (i + 1) → x ∈ L.take i ∨ x = L.getD i z84 := fun x hx => by
  rw [List.take_add_one, List.getElem?_eq_getElem hi] at hx
  rcases List.mem_append.mp hx with hx | hx
  · exact .inl hx
  · simp at hx
    refine .inr ?_
    rw [hx, List.getD_eq_getElem?_getD, List.getElem?_eq_getElem hi]
    rfl
/-- The i-th call's cells, by its place. -/
theorem at_84 {w : World} {A : Option Addr} {xs : List S84} (h : Kd.C k84 w A xs.length xs) (i : Nat) (hi : i < xs.length) : ∃ ad A1 c1 A2 c2, A = some ad ∧ w.cell? ⟨(ad.add (i * 7)).block, (ad.add (i * 7)).off + 2, none⟩ = some (.slice A1 (xs.getD i z84).b.f1.length c1) ∧ w.cell? ⟨(ad.add (i * 7)).block, (ad.add (i * 7)).off + 3, none⟩ = some (.slice A2 (xs.getD i z84).hs.length c2) := by
  obtain ⟨ad, c, e, _, hK, hc0⟩ := Kd.C_get h z84 (i : Int) (by omega) (by omega)
  have hc : ∀ j u, c[j]? = some u → w.cell? (ad.add (i * 7 + j)) = some u := hc0
  obtain ⟨A1, c1, A2, c2, rfl, l1, g1, l2, g2⟩ := Go.Proofs.Ytfemebenkbobnaa.H.k84_open hK
  exact ⟨ad, A1, c1, A2, c2, e, by rw [← add_field _ _ 2 (by omega)]; exact hc 2 _ rfl, by rw [← add_field _ _ 3 (by omega)]; exact hc 3 _ rfl⟩
set_option maxHeartbeats 8000000 in
set_option maxRecDepth 100000 in
theorem long_calls (w : World) (A0 : Option Addr) (c0 : Nat) (xs : List S84) (hr0 : k84.C w A0 xs.length xs) : Calls Try.prog 53 #[.slice A0 xs.length c0] w fun e w' => ∃ b, e = .returned (.bool b) ∧ (b = false ↔ Fits xs) ∧ Below w.heap.size w w' := by
  have HR0 := Aside0.mk hr0
  clear hr0
  go_enter Try.func53, Try.ntmps53
  by_cases c : (xs.length : Int) > 60
  · have cb : decide (60 < (xs.length : Int)) = true := decide_eq_true c
    have cb2 : decide (60 < xs.length) = true := decide_eq_true (by omega)
    have CN := Aside0.mk (show ¬ xs.length ≤ 60 by omega)
    clear c
    go_wp2_with fail
    go_ret
    exact ⟨true, rfl, ⟨fun h => by (cases h), fun h => absurd h.1 CN.out⟩, Below.refl _ _⟩
  · have cb : decide (60 < (xs.length : Int)) = false := decide_eq_false c
    have cb2 : decide (60 < xs.length) = false := decide_eq_false (by omega)
    have CN := Aside0.mk (show xs.length ≤ 60 by omega)
    clear c
    go_wp2_with fail
    go_loopg [3] xs.length (fun kq v3 w' => ∃ (i : Nat), v3 = .int .i64 (i : Int) ∧ Aside0 (kq + i = xs.length) ∧ Aside0 (∀ x, x ∈ xs.take i → x.b.f1.length ≤ 70 ∧ x.hs.length ≤ 200) ∧ w' = w)
    case atStart => exact ⟨0, rfl, ⟨by omega⟩, ⟨fun x hx => by simp at hx⟩, rfl⟩
    case round =>
      obtain ⟨i, rfl, HK, HF, rfl⟩ := hrel
      cases gk with
      | zero =>
        have ei : i = xs.length := by have := HK.out; omega
        subst ei
        have d0 : decide ((xs.length : Int) < (xs.length : Int)) = false := by simp
        go_wp2_with fail
        go_ret
        exact ⟨false, rfl, ⟨fun _ => ⟨CN.out, fun x hx => HF.out x (by rw [List.take_length]; exact hx)⟩, fun _ => rfl⟩, Below.refl _ _⟩
      | succ q =>
        have hi : i < xs.length := by have := HK.out; omega
        have d0 : decide ((i : Int) < (xs.length : Int)) = true := decide_eq_true (by omega)
        have d1 : decide (i < xs.length) = true := decide_eq_true hi
        have p0 : 0 ≤ (i : Int) := Int.natCast_nonneg _
        have p1 : (i : Int) < (xs.length : Int) := Int.ofNat_lt.mpr hi
        obtain ⟨ad, A1, c1, A2, c2, ea, hx2, hx3⟩ := at_84 HR0.out i hi
        cases ea
        have TG := Aside0.mk (take_getD hi)
        have XM := Aside0.mk (show xs.getD i z84 ∈ xs by rw [List.getD_eq_getElem?_getD, List.getElem?_eq_getElem hi]; exact List.getElem_mem _)
        generalize xs.getD i z84 = x at *
        by_cases c7 : x.b.f1.length > 70
        · have k1 : decide (70 < (x.b.f1.length : Int)) = true := decide_eq_true (by omega)
          have k2 : decide (70 < x.b.f1.length) = true := decide_eq_true c7
          have C7 := Aside0.mk c7
          clear c7
          go_wp2_with fail
          go_ret
          exact ⟨true, rfl, ⟨fun h => by (cases h), fun h => by have h1 := (h.2 x XM.out).1; have h2 := C7.out; omega⟩, Below.refl _ _⟩
        · have k1 : decide (70 < (x.b.f1.length : Int)) = false := decide_eq_false (by omega)
          have k2 : decide (70 < x.b.f1.length) = false := decide_eq_false c7
          have C7 := Aside0.mk c7
          clear c7
          by_cases c8 : x.hs.length > 200
          · have k3 : decide (200 < (x.hs.length : Int)) = true := decide_eq_true (by omega)
            have k4 : decide (200 < x.hs.length) = true := decide_eq_true c8
            have C8 := Aside0.mk c8
            clear c8
            go_wp2_with fail
            go_ret
            exact ⟨true, rfl, ⟨fun h => by (cases h), fun h => by have h1 := (h.2 x XM.out).2; have h2 := C8.out; omega⟩, Below.refl _ _⟩
          · have k3 : decide (200 < (x.hs.length : Int)) = false := decide_eq_false (by omega)
            have k4 : decide (200 < x.hs.length) = false := decide_eq_false c8
            have C8 := Aside0.mk c8
            clear c8
            have HF2 := Aside0.mk (show ∀ y, y ∈ xs.take (i + 1) → y.b.f1.length ≤ 70 ∧ y.hs.length ≤ 200 from fun y hy => (TG.out y hy).elim (HF.out y) (fun e => by rw [e]; have := C7.out; have := C8.out; omega))
            go_wp2_with fail
            have hi100 := CN.out
            have ew : wrap64 ((i : Int) + 1) = ((i + 1 : Nat) : Int) := by unfold wrap64; omega
            try rw [ew]
            go_roundg q
            case measure => omega
            case rel => exact ⟨i + 1, rfl, ⟨by have := HK.out; omega⟩, HF2, rfl⟩
/-- Add, told by what ref09's Add answers. -/
theorem add_code (w : World) (g : Nat) (rs : List Nd) (t : Ts) (h : Sk (tabT t.room t.least t.greatest) w g rs) (hv : vals rs = t.l) (n0 : Int) (A0 : Option Addr) (c0 : Nat) (l0 : List S72) (hC0 : k72.C w A0 l0.length l0) (hc0 : l0.length ≤ c0) (hl0 : l0.length ≤ 70) (A1 : Option Addr) (c1 : Nat) (hs : List Int)
    (hH : ∀ w', (∀ k, k < w.heap.size → k ∉ fp g rs → w'.heap[k]? = w.heap[k]?) → (Kd.int .i64).C w' A1 hs.length hs) {i : Nat} (hi : i ≤ 100) (hsm : Small t i) :
    Calls Try.prog 49 #[.pointer (some ⟨g, 0, none⟩), .agg #[.int .u64 n0, .slice A0 l0.length c0], .slice A1 hs.length c1] w fun e w' => ∃ rs', e = .returned (.int .i64 (refAddR n0 l0 (t.l.map (·.1))).2) ∧ AddP w w' g rs (addT hs n0 l0 t) rs' := by
  obtain ⟨kf, hf⟩ := (ev_Check n0 l0 (by omega)).rounds
  have hlen : (rowsL n0 0 l0).length = l0.length := rowsL_len n0 0 l0
  refine (add_tab w g rs t.room t.least t.greatest h n0 A0 c0 l0 hC0 hc0 A1 c1 hs hH (checkS n0 l0) kf hf (if checkS n0 l0 = 0 then rowsL n0 0 l0 else []) (fun h0 => ?_) (fun r hr => ?_) ⟨hsm.lo, by have := hsm.hi; omega⟩ (by have := hsm.len; have h1 := congrArg List.length hv; rw [vals_len] at h1; omega) ?_).mono ?_
  · obtain ⟨kr, hr⟩ := (ev_RowsS n0 l0 (by omega)).rounds
    rw [rowsS, if_pos h0] at hr
    rw [if_pos h0]
    exact ⟨kr, hr⟩
  · by_cases h0 : checkS n0 l0 = 0
    · rw [if_pos h0] at hr
      have := rows_small h0 r hr
      omega
    · rw [if_neg h0] at hr
      simp at hr
  · split
    · omega
    · simp
  · have ht : (⟨vals rs, t.room, t.least, t.greatest⟩ : Ts) = t := by rw [hv]
    rintro e w' (⟨h1, rfl, hb⟩ | ⟨h1, ⟨r, hr, h2⟩, rfl, hb⟩ | ⟨h1, h2, rfl, rs', ha⟩)
    · have e2 : refAddR n0 l0 (t.l.map (·.1)) = (t.l.map (·.1), checkS n0 l0) := if_pos h1
      refine ⟨rs, by rw [e2], ?_⟩
      rw [addT, if_neg (fun hc => h1 hc.1), ← ht]
      exact AddP.refl h hb
    · rw [if_pos h1] at hr
      have e2 : refAddR n0 l0 (t.l.map (·.1)) = (t.l.map (·.1), 2) := by
        unfold refAddR
        rw [if_neg (fun h => h h1), if_neg (fun h => by have h3 := List.all_eq_true.mp h r hr; rw [← rows_taken, ← hv, h2] at h3; cases h3)]
      refine ⟨rs, by rw [e2], ?_⟩
      rw [addT, if_neg (fun hc => by have := hc.2 r hr; rw [hv] at h2; rw [h2] at this; cases this), ← ht]
      exact AddP.refl h hb
    · rw [if_pos h1] at h2 ha
      have e2 : (refAddR n0 l0 (t.l.map (·.1))).2 = 0 := by
        unfold refAddR
        rw [if_neg (fun h => h h1), if_pos (List.all_eq_true.mpr fun r hr => by rw [← rows_taken, ← hv, h2 r hr]; rfl)]
      refine ⟨rs', by rw [e2], ?_⟩
      rw [addT, if_pos ⟨h1, fun r hr => by have := h2 r hr; rwa [hv] at this⟩]
      rw [ht] at ha
      exact ha
end Go.Proofs.Ytfemebenkbobnaa.SM
