import Derived.Test.YtkjepfofiegcdaaVM4Y
import Derived.Test.YtkjepfofiegcdaaVJ1Y
/- What edit.Apply makes, in the plain: right versions; the whole edit of a right version; what is added is taken away again. Conditions: none. -/
namespace Go.Proofs.Ytkjepfofiegcdaa.V
set_option linter.unusedVariables false
set_option linter.unusedSimpArgs false
open Go.RowKit Go.Proofs.YtkjepfofiegcdaaW.PrintWords Go.Proofs.YtkjepfofiegcdaaW.PrintLast Go.Proofs.YtkjepfofiegcdaaW.PrintMore Go.Proofs.Ytkjepfofiegcdaa.PB14
theorem lastV_cases (u : Ver) : (rightP u ∧ lastV u = (u, 0)) ∨ (¬ rightP u ∧ lastV u = (zeroV, 11)) := by
  unfold lastV
  by_cases h : rightP u
  · rw [if_pos h]; exact .inl ⟨h, rfl⟩
  · rw [if_neg h]; exact .inr ⟨h, rfl⟩
theorem comeV_cases (u : Ver) (l : List S82) : (∃ x, adsV u l = some x ∧ rightP x ∧ comeV u l = (x, 0)) ∨ ∃ r, comeV u l = (zeroV, r) ∧ (r = 5 ∨ r = 11) := by
  unfold comeV
  cases h : adsV u l with
  | none => exact .inr ⟨5, rfl, .inl rfl⟩
  | some x =>
    rcases lastV_cases x with ⟨h1, h2⟩ | ⟨_, h2⟩
    · exact .inl ⟨x, rfl, h1, h2⟩
    · exact .inr ⟨11, h2, .inr rfl⟩
theorem goneV_cases (u : Ver) (l : List S84) (r : List S82) : (∃ y x, gosV u l = some y ∧ adsV y r = some x ∧ rightP x ∧ goneV u l r = (x, 0)) ∨ ∃ n, goneV u l r = (zeroV, n) ∧ (n = 4 ∨ n = 5 ∨ n = 11) := by
  unfold goneV
  cases h : gosV u l with
  | none => exact .inr ⟨4, rfl, .inl rfl⟩
  | some y =>
    rcases comeV_cases y r with ⟨x, h1, h2, h3⟩ | ⟨n, h1, h2⟩
    · exact .inl ⟨y, x, rfl, h1, h2, h3⟩
    · exact .inr ⟨n, h1, .inr h2⟩
theorem applyV_cases (v : Ver) (e : Edt) : (∃ y x, askE v e ∧ gosV (bndV v e) e.gone = some y ∧ adsV y e.added = some x ∧ rightP x ∧ applyV v e = (x, 0)) ∨ ∃ n, applyV v e = (zeroV, n) ∧ (n = 2 ∨ n = 4 ∨ n = 5 ∨ n = 11) := by
  unfold applyV
  by_cases h : askE v e
  · rw [if_pos h]
    rcases goneV_cases (bndV v e) e.gone e.added with ⟨y, x, h1, h2, h3, h4⟩ | ⟨n, h1, h2⟩
    · exact .inl ⟨y, x, h, h1, h2, h3, h4⟩
    · exact .inr ⟨n, h1, .inr h2⟩
  · rw [if_neg h]
    exact .inr ⟨2, rfl, .inl rfl⟩
theorem applyV_ok {v u : Ver} {e : Edt} (h : applyV v e = (u, 0)) : rightP v ∧ rightP u := by
  rcases applyV_cases v e with ⟨y, x, h1, _, _, h4, h5⟩ | ⟨n, h1, h2⟩
  · rw [h5] at h; injection h with h6 _; subst h6; exact ⟨h1.1.1, h4⟩
  · rw [h1] at h; injection h with _ h6; omega
theorem applyV_bad {v u : Ver} {e : Edt} {r : Int} (h : applyV v e = (u, r)) (hr : r ≠ 0) : u = zeroV := by
  rcases applyV_cases v e with ⟨y, x, h1, _, _, h4, h5⟩ | ⟨n, h1, h2⟩
  · rw [h5] at h; injection h with _ h6; exact absurd h6.symm hr
  · rw [h1] at h; injection h with h6 _; exact h6.symm
theorem applyV_not {v : Ver} {e : Edt} (h : ¬ rightP v) : applyV v e = (zeroV, 2) := by
  unfold applyV
  exact if_neg fun h2 => h h2.1.1
/-! The whole edit. -/
theorem pair_of {R : S58 → S58 → Prop} (ht : ∀ a b c, R a b → R b c → R a c) : ∀ {l : List S58}, (∀ k, k < l.length - 1 → R (l.getD k z58) (l.getD (k + 1) z58)) → l.Pairwise R
  | [], _ => List.Pairwise.nil
  | a :: l, h => by
    have ih : l.Pairwise R := pair_of ht fun k hk => by
      have h2 := h (k + 1) (by rw [List.length_cons]; omega)
      simpa using h2
    refine List.Pairwise.cons (fun b hb => ?_) ih
    cases l with
    | nil => cases hb
    | cons b0 l =>
      have h0 : R a b0 := by have h2 := h 0 (by simp); simpa using h2
      rcases List.mem_cons.mp hb with rfl | hb
      · exact h0
      · exact ht _ _ _ h0 (List.rel_of_pairwise_cons ih hb)
def befR (i : Nat) (a b : S58) : Prop := if i = 0 then a.f0 < b.f0 else Op.bytesLess a.f3.toList b.f3.toList = true
theorem befR_trans (i : Nat) (a b c : S58) (h1 : befR i a b) (h2 : befR i b c) : befR i a c := by
  unfold befR at *
  by_cases e : i = 0
  · rw [if_pos e] at *; omega
  · rw [if_neg e] at *; exact less_trans h1 h2
theorem befR_bef {i : Nat} {a b : S58} (h : befR i a b) : befP (i : Int) b a := by
  unfold befR at h
  by_cases e : i = 0
  · rw [if_pos e] at h; exact .inl ⟨by omega, h⟩
  · rw [if_neg e] at h
    refine .inr ⟨by omega, ?_⟩
    exact le_less.mp (.inl h)
theorem befR_gap {i : Nat} {a b : S58} (h : gapP i a b) (hm : mayP a) : befR i a b := by
  unfold gapP at h
  unfold befR
  by_cases e : i = 0
  · rw [if_pos e] at *; exact h
  · rw [if_neg e] at *
    have h2 : Op.bytesLess a.f4.toList a.f3.toList = false := hm.2.2.2.2.2.2.2.2.2.1
    rcases le_less.mpr h2 with h3 | h3
    · exact less_trans h3 h
    · rw [h3]; exact h
theorem right_mem {v : Ver} (h : rightP v) {i : Nat} (hi : i < 4) {m : S58} (hm : m ∈ v.lv i) : mayP m := by
  refine (h.2.1.2.1 m ?_).1
  rw [catV4]
  rcases (by omega : i = 0 ∨ i = 1 ∨ i = 2 ∨ i = 3) with rfl | rfl | rfl | rfl <;> simp [hm]
theorem right_pair {v : Ver} (h : rightP v) {i : Nat} (hi : i < 4) : (v.lv i).Pairwise (befR i) :=
  pair_of (befR_trans i) fun k hk => befR_gap (h.2.2 i hi k hk) (right_mem h hi (getD_mem _ _ (by omega)))
theorem wiL_last {i : Nat} {m : S58} : ∀ {l : List S58}, (∀ x, x ∈ l → befP (i : Int) m x) → wiL (i : Int) m l = l ++ [m] := fun {l} h => by
  have : plc (i : Int) m l = l.length := by
    refine plc_at (Nat.le_refl _) (fun j hj => h _ (getD_mem _ _ hj)) (.inl rfl)
  unfold wiL
  rw [this, List.take_length, List.drop_length]
theorem Ver.set_set (v : Ver) (i : Nat) (hi : i < 4) (a b : List S58) : (v.set i a).set i b = v.set i b := by
  rcases (by omega : i = 0 ∨ i = 1 ∨ i = 2 ∨ i = 3) with rfl | rfl | rfl | rfl <;> rfl
theorem ads_pl {i : Nat} (hi : i < 4) : ∀ (l : List S58) (y : Ver), (y.lv i ++ l).Pairwise (befR i) → (∀ m, m ∈ l → cntV y m.f0 = 0) → (nums l).Nodup → adsV y (plL i l) = some (y.set i (y.lv i ++ l))
  | [], y, _, _, _ => by
    rw [List.append_nil, Ver.set_self y i hi]
    rfl
  | m :: l, y, hp, hc, hn => by
    have h1 : adV y ⟨(i : Int), m⟩ = some (y.set i (y.lv i ++ [m])) := by
      unfold adV
      rw [if_neg (by rw [hc m (List.mem_cons_self ..)]; omega), Int.toNat_natCast]
      rw [wiL_last fun x hx => befR_bef ((List.pairwise_append.mp hp).2.2 x hx m (List.mem_cons_self ..))]
    rw [show plL i (m :: l) = ⟨(i : Int), m⟩ :: plL i l from rfl, adsV, h1]
    show adsV (y.set i (y.lv i ++ [m])) (plL i l) = _
    have e1 : (y.set i (y.lv i ++ [m])).lv i = y.lv i ++ [m] := by rw [Ver.set_lv y i i hi hi, if_pos rfl]
    have hn2 : m.f0 ∉ nums l ∧ (nums l).Nodup := by
      unfold nums at hn ⊢
      rw [List.map_cons, List.nodup_cons] at hn
      exact hn
    rw [ads_pl hi l _ (by rw [e1, List.append_assoc]; exact hp) (fun x hx => by
      have h2 := set_cnt y i hi (y.lv i ++ [m]) x.f0
      have h3 := hc x (List.mem_cons_of_mem _ hx)
      have h4 : (nums (y.lv i ++ [m])).count x.f0 = (nums (y.lv i)).count x.f0 := by
        unfold nums
        rw [List.map_append, List.count_append]
        have : List.count x.f0 (List.map (fun x : S58 => x.f0) [m]) = 0 := by
          rw [List.count_eq_zero]
          intro h5
          rw [List.map_cons, List.map_nil, List.mem_singleton] at h5
          exact hn2.1 (h5 ▸ mem_nums.mpr ⟨x, hx, rfl⟩)
        omega
      omega) hn2.2, e1, Ver.set_set y i hi, List.append_assoc]
    rfl
theorem ads_app : ∀ (a b : List S82) (y : Ver), adsV y (a ++ b) = (adsV y a).bind fun u => adsV u b
  | [], b, y => rfl
  | x :: a, b, y => by
    rw [List.cons_append, adsV, adsV]
    cases adV y x with
    | none => rfl
    | some u => exact ads_app a b u
theorem right_ap {v : Ver} (h : rightP v) : apV v := apV_of h.2.1.2.2
/-- The first levels of a version, the others empty. -/
def headV (v : Ver) : Nat → Ver
  | 0 => ⟨v.log, v.next, v.seq, [], [], [], []⟩
  | i + 1 => (headV v i).set i (v.lv i)
theorem headV_lv (v : Ver) : ∀ (i : Nat), i ≤ 4 → ∀ j, j < 4 → (headV v i).lv j = if j < i then v.lv j else []
  | 0, _, j, hj => by
    rcases (by omega : j = 0 ∨ j = 1 ∨ j = 2 ∨ j = 3) with rfl | rfl | rfl | rfl <;> rfl
  | i + 1, hi, j, hj => by
    rw [headV, Ver.set_lv _ i j (by omega) hj]
    by_cases e : j = i
    · subst e; rw [if_pos rfl, if_pos (by omega)]
    · rw [if_neg e, headV_lv v i (by omega) j hj]
      by_cases e2 : j < i
      · rw [if_pos e2, if_pos (by omega)]
      · rw [if_neg e2, if_neg (by omega)]
theorem headV_cnt {v : Ver} (h : apV v) {i : Nat} (hi : i < 4) {m : S58} (hm : m ∈ v.lv i) : cntV (headV v i) m.f0 = 0 := by
  have h1 := h m.f0
  rw [lv_cnt] at h1 ⊢
  have h2 : 1 ≤ (nums (v.lv i)).count m.f0 := List.count_pos_iff.mpr (mem_nums.mpr ⟨m, hm, rfl⟩)
  have k : ∀ j, j < 4 → (j < i → (nums ((headV v i).lv j)).count m.f0 = (nums (v.lv j)).count m.f0) ∧ (i ≤ j → (nums ((headV v i).lv j)).count m.f0 = 0) := fun j hj => by
    rw [headV_lv v i (by omega) j hj]
    exact ⟨fun h => by rw [if_pos h], fun h => by rw [if_neg (by omega)]; rfl⟩
  have k0 := k 0 (by omega)
  have k1 := k 1 (by omega)
  have k2 := k 2 (by omega)
  have k3 := k 3 (by omega)
  clear k
  rcases (by omega : i = 0 ∨ i = 1 ∨ i = 2 ∨ i = 3) with rfl | rfl | rfl | rfl
  · omega
  · omega
  · omega
  · omega
theorem ads_who {v : Ver} (h : rightP v) : ∀ i, i ≤ 4 → adsV (headV v 0) (whoL v i) = some (headV v i)
  | 0, _ => rfl
  | i + 1, hi => by
    have ih := ads_who h i (by omega)
    have hl : (headV v i).lv i = [] := by rw [headV_lv v i (by omega) i (by omega), if_neg (by omega)]
    rw [whoL, ads_app, ih]
    show adsV (headV v i) (plL i (v.lv i)) = _
    rw [ads_pl (by omega) (v.lv i) (headV v i) (by rw [hl, List.nil_append]; exact right_pair h (by omega)) (fun m hm => headV_cnt (right_ap h) (by omega) hm) ((right_ap h).lv (by omega)), hl, List.nil_append]
    rfl
theorem who_mem {v : Ver} {x : S82} : ∀ i, i ≤ 4 → x ∈ whoL v i → ∃ j, j < i ∧ x.f0 = (j : Int) ∧ x.f1 ∈ v.lv j
  | 0, _, h => by cases h
  | i + 1, hi, h => by
    rw [whoL, List.mem_append] at h
    rcases h with h | h
    · obtain ⟨j, h1, h2⟩ := who_mem i (by omega) h
      exact ⟨j, by omega, h2⟩
    · obtain ⟨m, hm, rfl⟩ := List.mem_map.mp h
      exact ⟨i, by omega, rfl, hm⟩
theorem headV_all (v : Ver) : headV v 4 = v := by cases v; rfl
theorem whole_makes {v : Ver} (h : rightP v) (hs : 0 ≤ v.seq) : applyV firstV (wholeE v) = (v, 0) := by
  have hb := h.1
  have hw : wholeE v = ⟨v.log, v.next, v.seq, [], whoL v 4⟩ := by unfold wholeE; exact if_pos h
  have ha : askE firstV (wholeE v) := by
    rw [hw]
    refine ⟨⟨right1, ?_, ?_, ?_⟩, (fun x hx => by cases hx), fun x hx => ?_⟩
    · show laterB 1 v.log = true
      unfold laterB
      rw [Bool.or_eq_true, decide_eq_true_eq, decide_eq_true_eq]
      exact .inr hb.1
    · show laterB 1 v.next = true
      unfold laterB
      rw [Bool.or_eq_true, decide_eq_true_eq, decide_eq_true_eq]
      exact .inr hb.2.2.1
    · show laterB 0 v.seq = true
      unfold laterB
      rw [Bool.or_eq_true, decide_eq_true_eq, decide_eq_true_eq]
      exact .inr hs
    · obtain ⟨j, h1, h2, h3⟩ := who_mem 4 (Nat.le_refl _) hx
      exact ⟨⟨by omega, by omega⟩, right_mem h h1 h3⟩
  have e : bndV firstV (wholeE v) = headV v 0 := by
    rw [hw]
    show Ver.mk (laterN 1 v.log) (laterN 1 v.next) (laterN 0 v.seq) [] [] [] [] = Ver.mk v.log v.next v.seq [] [] [] []
    have e1 : laterN 1 v.log = v.log := if_neg (by have := hb.1; omega)
    have e2 : laterN 1 v.next = v.next := if_neg (by have := hb.2.2.1; omega)
    have e3 : laterN 0 v.seq = v.seq := by
      unfold laterN
      by_cases e : v.seq = 0
      · rw [if_pos e]; exact e.symm
      · rw [if_neg e]
    rw [e1, e2, e3]
  unfold applyV
  rw [if_pos ha, e]
  have e2 : goneV (headV v 0) (wholeE v).gone (wholeE v).added = comeV (headV v 0) (whoL v 4) := by rw [hw]; rfl
  rw [e2]
  unfold comeV
  rw [ads_who h 4 (Nat.le_refl _), headV_all]
  exact if_pos h
/-! What is added is taken away again. -/
theorem gos_char : ∀ (gl : List S84) (y : Ver), apV y → (∀ x, x ∈ gl → (0 ≤ x.f0 ∧ x.f0 < 4) ∧ x.f1 ∈ nums (y.lv x.f0.toNat)) → (gl.map (·.f1)).Nodup → ∃ y', gosV y gl = some y' ∧ (y'.log = y.log ∧ y'.next = y.next ∧ y'.seq = y.seq) ∧ ∀ i, i < 4 → y'.lv i = (y.lv i).filter fun m => decide (m.f0 ∉ gl.map (·.f1))
  | [], y, _, _, _ => ⟨y, rfl, ⟨rfl, rfl, rfl⟩, fun i hi => by rw [List.filter_eq_self.mpr]; intro m _; simp⟩
  | x :: gl, y, ha, hx, hn => by
    obtain ⟨⟨x0, x1⟩, x2⟩ := hx x (List.mem_cons_self ..)
    rw [List.map_cons, List.nodup_cons] at hn
    have hlv : x.f0.toNat < 4 := by omega
    have e1 : ∀ i, i < 4 → (y.set x.f0.toNat (woL (y.lv x.f0.toNat) x.f1)).lv i = woL (y.lv i) x.f1 := fun i hi => by
      rw [Ver.set_lv y _ i hlv hi]
      by_cases e : i = x.f0.toNat
      · rw [if_pos e, e]
      · rw [if_neg e, woL_none]
        intro h2
        have h3 := ha x.f1
        rw [lv_cnt] at h3
        have c1 : 1 ≤ (nums (y.lv i)).count x.f1 := List.count_pos_iff.mpr h2
        have c2 : 1 ≤ (nums (y.lv x.f0.toNat)).count x.f1 := List.count_pos_iff.mpr x2
        generalize x.f0.toNat = j at *
        rcases (by omega : i = 0 ∨ i = 1 ∨ i = 2 ∨ i = 3) with rfl | rfl | rfl | rfl <;> rcases (by omega : j = 0 ∨ j = 1 ∨ j = 2 ∨ j = 3) with rfl | rfl | rfl | rfl <;> first | exact e rfl | omega
    obtain ⟨y', h1, h2, h3⟩ := gos_char gl (y.set x.f0.toNat (woL (y.lv x.f0.toNat) x.f1)) (ha.wo hlv x.f1) (fun z hz => by
      obtain ⟨⟨z0, z1⟩, z2⟩ := hx z (List.mem_cons_of_mem _ hz)
      refine ⟨⟨z0, z1⟩, ?_⟩
      rw [e1 _ (by omega)]
      obtain ⟨m, hm, hf⟩ := mem_nums.mp z2
      refine mem_nums.mpr ⟨m, ?_, hf⟩
      unfold woL
      rw [List.mem_filter]
      refine ⟨hm, decide_eq_true fun e => hn.1 ?_⟩
      rw [← e, hf]
      exact List.mem_map_of_mem hz) hn.2
    refine ⟨y', ?_, ?_, fun i hi => ?_⟩
    · rw [gosV, goV, if_pos x2]; exact h1
    · have : ∀ (v : Ver) (i : Nat) (l : List S58), (v.set i l).log = v.log ∧ (v.set i l).next = v.next ∧ (v.set i l).seq = v.seq := fun v i l => by
        rcases i with _ | _ | _ | i <;> exact ⟨rfl, rfl, rfl⟩
      obtain ⟨a, b, c⟩ := this y x.f0.toNat (woL (y.lv x.f0.toNat) x.f1)
      exact ⟨h2.1.trans a, h2.2.1.trans b, h2.2.2.trans c⟩
    · rw [h3 i hi, e1 i hi]
      unfold woL
      rw [List.filter_filter]
      refine List.filter_congr fun m _ => ?_
      rw [List.map_cons]
      simp only [List.mem_cons, not_or]
      by_cases c1 : m.f0 = x.f1 <;> by_cases c2 : m.f0 ∈ gl.map (·.f1) <;> simp [c1, c2]
theorem ads_char : ∀ (al : List S82) (y y' : Ver), adsV y al = some y' → (∀ x, x ∈ al → 0 ≤ x.f0 ∧ x.f0 < 4) → (y'.log = y.log ∧ y'.next = y.next ∧ y'.seq = y.seq) ∧ (∀ S : List Int, (∀ x, x ∈ al → x.f1.f0 ∈ S) → ∀ i, i < 4 → (y'.lv i).filter (fun m => decide (m.f0 ∉ S)) = (y.lv i).filter fun m => decide (m.f0 ∉ S)) ∧ (∀ x, x ∈ al → x.f1.f0 ∈ nums (y'.lv x.f0.toNat)) ∧ (al.map (·.f1.f0)).Nodup ∧ (∀ x, x ∈ al → cntV y x.f1.f0 = 0) ∧ ∀ i, i < 4 → ∀ n, n ∈ nums (y.lv i) → n ∈ nums (y'.lv i)
  | [], y, y', h, _ => by
    injection h with h
    subst h
    exact ⟨⟨rfl, rfl, rfl⟩, fun _ _ _ _ => rfl, (fun x hx => by cases hx), List.nodup_nil, (fun x hx => by cases hx), fun _ _ _ h => h⟩
  | x :: al, y, y', h, hl => by
    obtain ⟨x0, x1⟩ := hl x (List.mem_cons_self ..)
    have hlv : x.f0.toNat < 4 := by omega
    have ex : ((x.f0.toNat : Nat) : Int) = x.f0 := by omega
    rw [adsV] at h
    unfold adV at h
    by_cases hc : 0 < cntV y x.f1.f0
    · rw [if_pos hc] at h; cases h
    rw [if_neg hc] at h
    have h' : adsV (y.set x.f0.toNat (wiL x.f0 x.f1 (y.lv x.f0.toNat))) al = some y' := h
    obtain ⟨i1, i2, i3, i4, i5, i6⟩ := ads_char al _ y' h' (fun z hz => hl z (List.mem_cons_of_mem _ hz))
    have cw : ∀ n, cntV (y.set x.f0.toNat (wiL x.f0 x.f1 (y.lv x.f0.toNat))) n = cntV y n + if x.f1.f0 = n then 1 else 0 := fun n => wi_cnt y hlv x.f0 x.f1 n
    have mw : ∀ n, n = x.f1.f0 ∨ n ∈ nums (y.lv x.f0.toNat) → n ∈ nums (wiL x.f0 x.f1 (y.lv x.f0.toNat)) := fun n hn => by
      have h2 := wiL_cnt x.f0 x.f1 (y.lv x.f0.toNat) n
      refine List.count_pos_iff.mp ?_
      rcases hn with rfl | hn
      · rw [if_pos rfl] at h2; omega
      · have := List.count_pos_iff.mpr hn; omega
    refine ⟨?_, fun S hS i hi => ?_, fun z hz => ?_, ?_, fun z hz => ?_, fun i hi n hn => ?_⟩
    · have : ∀ (v : Ver) (i : Nat) (l : List S58), (v.set i l).log = v.log ∧ (v.set i l).next = v.next ∧ (v.set i l).seq = v.seq := fun v i l => by
        rcases i with _ | _ | _ | i <;> exact ⟨rfl, rfl, rfl⟩
      obtain ⟨a, b, c⟩ := this y x.f0.toNat (wiL x.f0 x.f1 (y.lv x.f0.toNat))
      exact ⟨i1.1.trans a, i1.2.1.trans b, i1.2.2.trans c⟩
    · rw [i2 S (fun z hz => hS z (List.mem_cons_of_mem _ hz)) i hi, Ver.set_lv y _ i hlv hi]
      by_cases e : i = x.f0.toNat
      · rw [if_pos e, e]
        unfold wiL
        rw [List.filter_append, List.filter_cons, if_neg (by simp [hS x (List.mem_cons_self ..)]), ← List.filter_append, List.take_append_drop]
      · rw [if_neg e]
    · rcases List.mem_cons.mp hz with rfl | hz
      · refine i6 _ hlv _ ?_
        rw [Ver.set_lv y _ _ hlv hlv, if_pos rfl]
        exact mw _ (.inl rfl)
      · exact i3 z hz
    · rw [List.map_cons, List.nodup_cons]
      refine ⟨fun hm => ?_, i4⟩
      obtain ⟨z, hz, e⟩ := List.mem_map.mp hm
      have h2 := i5 z hz
      rw [cw, e, if_pos rfl] at h2
      omega
    · rcases List.mem_cons.mp hz with rfl | hz
      · omega
      · have h2 := i5 z hz
        rw [cw] at h2
        omega
    · refine i6 i hi n ?_
      rw [Ver.set_lv y _ i hlv hi]
      by_cases e : i = x.f0.toNat
      · rw [if_pos e]
        rw [e] at hn
        exact mw n (.inr hn)
      · rw [if_neg e]; exact hn
/-- What takes away again what an edit adds. -/
def backL (l : List S82) : List S84 := l.map fun x => ⟨x.f0, x.f1.f0⟩
theorem bnd_zero (v : Ver) (g : List S84) (a : List S82) : bndV v ⟨0, 0, 0, g, a⟩ = v := by cases v; rfl
theorem laterB_zero (n : Int) : laterB n 0 = true := by unfold laterB; simp
theorem again {v w : Ver} {l : List S82} (h : applyV v ⟨0, 0, 0, [], l⟩ = (w, 0)) : applyV w ⟨0, 0, 0, backL l, []⟩ = (v, 0) := by
  rcases applyV_cases v ⟨0, 0, 0, [], l⟩ with ⟨y, x, h1, h2, h3, h4, h5⟩ | ⟨n, h1, h2⟩
  · rw [h5] at h
    injection h with h _
    subst h
    rw [bnd_zero] at h2
    injection h2 with h2
    subst h2
    have hl : ∀ z, z ∈ l → 0 ≤ z.f0 ∧ z.f0 < 4 := fun z hz => (h1.2.2 z hz).1
    obtain ⟨i1, i2, i3, i4, i5, i6⟩ := ads_char l v x h3 hl
    have e1 : (backL l).map (·.f1) = l.map (·.f1.f0) := by unfold backL; rw [List.map_map]; rfl
    obtain ⟨y', g1, g2, g3⟩ := gos_char (backL l) x (right_ap h4) (fun z hz => by
      obtain ⟨a, ha, rfl⟩ := List.mem_map.mp hz
      exact ⟨hl a ha, i3 a ha⟩) (by rw [e1]; exact i4)
    have ev : y' = v := by
      refine sameP_iff.mp ⟨⟨g2.1.trans i1.1, g2.2.1.trans i1.2.1, g2.2.2.trans i1.2.2⟩, fun i hi => ?_⟩
      rw [g3 i hi, e1, i2 _ (fun z hz => List.mem_map_of_mem (f := fun a : S82 => a.f1.f0) hz) i hi, List.filter_eq_self]
      intro m hm
      refine decide_eq_true fun h2 => ?_
      obtain ⟨a, ha, e⟩ := List.mem_map.mp h2
      have h3 := i5 a ha
      rw [lv_cnt] at h3
      have c1 : 1 ≤ (nums (v.lv i)).count a.f1.f0 := List.count_pos_iff.mpr (mem_nums.mpr ⟨m, hm, e.symm⟩)
      rcases (by omega : i = 0 ∨ i = 1 ∨ i = 2 ∨ i = 3) with rfl | rfl | rfl | rfl <;> omega
    subst ev
    unfold applyV
    rw [if_pos ⟨⟨h4, laterB_zero _, laterB_zero _, laterB_zero _⟩, fun z hz => by
      obtain ⟨a, ha, rfl⟩ := List.mem_map.mp hz
      exact hl a ha, fun z hz => by cases hz⟩, bnd_zero]
    show goneV x (backL l) [] = _
    unfold goneV
    rw [g1]
    exact if_pos h1.1.1
  · rw [h1] at h
    injection h with _ h
    omega
end Go.Proofs.Ytkjepfofiegcdaa.V
/- Apply's contract with its answer under letters; a whole row stored in a region that draws its order. Conditions: as before. -/
namespace Go.Proofs.Ytkjepfofiegcdaa.V
set_option linter.unusedVariables false
set_option linter.unusedSimpArgs false
open Go.RowKit Go.Proofs.YtkjepfofiegcdaaW.PrintWords Go.Proofs.YtkjepfofiegcdaaW.PrintLast Go.Proofs.YtkjepfofiegcdaaW.PrintMore Go.Proofs.Ytkjepfofiegcdaa.PB14
theorem apply2_calls (w : World) (v : Ver) (p : Pl) (e : Edt) (A1 A2 : Option Addr) (c1 c2 : Nat) {u : Ver} {f : Int} (h : applyV v e = (u, f)) (hC : VC w v p) (hW : VW v) (h1 : k84.C w A1 e.gone.length e.gone) (h2 : k82.C w A2 e.added.length e.added) (hn : ∀ i, i < 4 → (v.lv i).length ≤ 100000) (hga : e.added.length ≤ 100000) :
    Calls Try.prog 54 #[.agg (vCs v p), .agg (eCs e A1 c1 A2 c2)] w fun x w' => ∃ q : Pl, x = .returned (.tuple #[.agg (vCs u q), .int .i64 f]) ∧ Rows4 w' w.heap.size u q ∧ Below w.heap.size w w' := by
  have h3 := apply_calls w v p e A1 A2 c1 c2 hC hW h1 h2 hn hga
  rw [h] at h3
  exact h3
section
variable {P : Program} {ops : Array Oper} {Q : Exit → Act → World → Prop}
/-- A whole row stored into its block, in a region that draws its order. -/
theorem store_ {oi : Oper} {a : Act} {w : World} {K : Act → World → Prop} (hw : Region.wanted oi (yielded ops a.tmps) = true) (hN : oi.dst = none) (ty : TypeId) (x y : Operand) (ho : oi.op = .store ty x y) (g t : Nat) (hx : a.eval x = .pointer (some ⟨g, 0, none⟩)) (cells : Array Value) (hy : a.eval y = .agg cells) (old : Array Value) (hg : w.heap[g]? = some (.cells old t (0, 0)))
    (hi : (P.info? ty).map (·.size) = some cells.size) (hs : old.size = cells.size) (h1 : cells.all (·.oneCell') = true)
    (h : ∀ w1 : World, w1.heap[g]? = some (.cells cells t (0, 0)) → (∀ B w0, Below B w0 w → B ≤ g → Below B w0 w1) → (∀ k, k ≠ g → w1.heap[k]? = w.heap[k]?) → w1.heap.size = w.heap.size → K a w1) : if Region.wanted oi (yielded ops a.tmps) = true then Oper.wp P oi a w K Q else K (a.put none undef) w := by
  refine skip_ hw hN ?_ (h _ (setRow_heap w g old cells t (0, 0) hg) (fun B w0 hb hle => below_setRow hb hle cells) (fun k hk => setRow_other w g k cells hk) (setRow_size w g cells))
  unfold execOp
  simp only [ho, hx, hy, Instr.storeAt, Instr.sureAddr, Sem.run_bind, Sem.run_pure, Result.andThen_ok, run_storeVar_row w g t ty old cells hg hi hs h1]
end
theorem whole_added {v : Ver} (h : ∀ i, i < 4 → (v.lv i).length ≤ 80) : (wholeE v).added.length ≤ 100000 := by
  unfold wholeE
  by_cases hr : rightP v
  · rw [if_pos hr]
    have := whoL_len hr.2.1.1 4 (Nat.le_refl _)
    show (whoL v 4).length ≤ 100000
    omega
  · rw [if_neg hr]
    exact Nat.zero_le _
theorem whole_gone (v : Ver) : (wholeE v).gone = [] := by unfold wholeE; split <;> rfl
theorem zero84 (w : World) : k84.C w none ([] : List S84).length [] := ⟨rfl, by simp, fun h => absurd h (Nat.lt_irrefl 0)⟩
theorem zero82 (w : World) : k82.C w none ([] : List S82).length [] := ⟨rfl, by simp, fun h => absurd h (Nat.lt_irrefl 0)⟩
/-- What the first version comes to by a right version's whole edit. -/
theorem makes_calls (w : World) (v : Ver) (B : Option Addr) (cb : Nat) (hr : rightP v) (hs : 0 ≤ v.seq) (hl : ∀ i, i < 4 → (v.lv i).length ≤ 80) (h2 : k82.C w B (wholeE v).added.length (wholeE v).added) :
    Calls Try.prog 54 #[.agg (vCs firstV firstP), .agg (eCs (wholeE v) none 0 B cb)] w fun x w' => ∃ q : Pl, x = .returned (.tuple #[.agg (vCs v q), .int .i64 0]) ∧ Rows4 w' w.heap.size v q ∧ Below w.heap.size w w' := by
  exact (apply2_calls w firstV firstP (wholeE v) none B 0 cb (whole_makes hr hs) (vcF w) vwF (by rw [whole_gone]; exact zero84 w) h2 (fun i hi => by rw [lvF i hi]; exact Nat.zero_le _) (whole_added hl))
theorem right_vw {v : Ver} (h : rightP v) : VW v := fun i hi m hm => by
  have h1 := right_mem h hi hm
  have h2 := h1.1
  have h3 := h1.2.1
  omega
theorem vc_zero2 (w : World) : VC w zeroV firstP := (Rows4.zero w w.heap.size).vc
theorem same_zero (w : World) (q : Pl) (h : VC w zeroV q) : Calls Try.prog 61 #[.agg (vCs zeroV q), .agg (vCs zeroV firstP)] w fun e w' => e = .returned (.bool true) ∧ Below w.heap.size w w' := by
  have h2 := same61_calls w zeroV zeroV q firstP h (vc_zero2 w)
  rw [decide_eq_true (sameP_iff.mpr rfl)] at h2
  exact h2
theorem same_self (w : World) (v : Ver) (p q : Pl) (h : VC w v p) (h2 : VC w v q) : Calls Try.prog 61 #[.agg (vCs v p), .agg (vCs v q)] w fun e w' => e = .returned (.bool true) ∧ Below w.heap.size w w' := by
  have h2 := same61_calls w v v p q h h2
  rw [decide_eq_true (sameP_iff.mpr rfl)] at h2
  exact h2
end Go.Proofs.Ytkjepfofiegcdaa.V
