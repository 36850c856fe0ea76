import Derived.Test.YtfemebenkbobnaaSM0
import Derived.Test.YtfemebenkbobnaaK08
import Derived.Test.YtfemebenkbobnaaHMore
/- Walks of the skip list: Len, Height, search. Conditions: the list's nodes fit in 62 bits. -/
namespace Go.Proofs.Ytfemebenkbobnaa.SM
set_option linter.unusedVariables false
set_option linter.unusedSimpArgs false
open Go.RowKit Go.Proofs.YtfemebenkbobnaaW.PrintWords Go.Proofs.YtfemebenkbobnaaW.PrintLast Go.Proofs.YtfemebenkbobnaaW.PrintMore Go.Proofs.Ytfemebenkbobnaa.PB06
variable {TL : Tl}
attribute [local go_sem] max2_int min2_int max_two min_two max_three min_three max_four min_four
theorem len_calls (w : World) (g : Nat) (ln ht : Int) (rs : List Nd) (h : SL TL w g ln ht rs) : Calls Try.prog 22 #[.pointer (some ⟨g, 0, none⟩)] w fun e w' => e = .returned (.int .i64 ln) ∧ Below w.heap.size w w' := by
  have hc : w.cell? ⟨g, 16, none⟩ = some (.int .i64 ln) := by rw [blk_cell h.head, List.getElem?_toArray, cellsH_len_]
  go_enter Try.func22, Try.ntmps22
  go_wp2
  go_ret
  exact ⟨rfl, Below.refl _ _⟩
theorem height_calls (w : World) (g : Nat) (ln ht : Int) (rs : List Nd) (h : SL TL w g ln ht rs) : Calls Try.prog 30 #[.pointer (some ⟨g, 0, none⟩)] w fun e w' => e = .returned (.int .i64 ht) ∧ Below w.heap.size w w' := by
  have hc : w.cell? ⟨g, 17, none⟩ = some (.int .i64 ht) := by rw [blk_cell h.head, List.getElem?_toArray, cellsH_ht]
  go_enter Try.func30, Try.ntmps30
  go_wp2
  go_ret
  exact ⟨rfl, Below.refl _ _⟩
theorem len_nil (w : World) : Calls Try.prog 22 #[.pointer none] w fun e w' => e = .returned (.int .i64 0) ∧ Below w.heap.size w w' := by
  go_enter Try.func22, Try.ntmps22
  go_wp2
  go_ret
  exact ⟨rfl, Below.refl _ _⟩
theorem height_nil (w : World) : Calls Try.prog 30 #[.pointer none] w fun e w' => e = .returned (.int .i64 0) ∧ Below w.heap.size w w' := by
  go_enter Try.func30, Try.ntmps30
  go_wp2
  go_ret
  exact ⟨rfl, Below.refl _ _⟩
/-- Does a row stand ahead of a place? -/
def aheadB (key : ByteArray) (seq : Int) (r : S28) : Bool := Op.bytesLess r.f0.toList key.toList || (decide (r.f0.toList = key.toList) && decide (r.f1 > seq))
theorem ahead_f (key : ByteArray) (seq : Int) (r : S28) : skip_ahead.f r.f0 r.f1 r.f2 r.f3 key seq = some (aheadB key seq r) := by
  unfold skip_ahead.f aheadB
  by_cases h1 : Op.bytesLess r.f0.toList key.toList = true
  · rw [if_pos h1, h1]; rfl
  · rw [if_neg h1, Bool.eq_false_iff.mpr h1]
    by_cases h2 : r.f0.toList = key.toList
    · rw [if_pos h2, decide_eq_true h2]; simp
    · rw [if_neg h2, decide_eq_false h2]; rfl
/-- How many nodes a search goes past, from so many levels down, over nodes of these heights. -/
def aft (n : Nat) : List Nat → List Nat
  | [] => []
  | x :: r => if r.any (fun y => decide (n < y)) then aft n r else if n < x then r else x :: r
def stepsN : Nat → List Nat → Nat
  | 0, _ => 0
  | n + 1, l => l.countP (fun x => decide (n < x)) + stepsN n (aft n l)
theorem aft_none {n : Nat} {l : List Nat} (h : ∀ x, x ∈ l → x ≤ n) : aft n l = l := by
  cases l with
  | nil => rfl
  | cons x r =>
    rw [aft, if_neg, if_neg]
    · have := h x List.mem_cons_self; omega
    · rw [Bool.not_eq_true, List.any_eq_false]
      intro y hy
      have := h y (List.mem_cons_of_mem _ hy)
      simp; omega
theorem aft_mid {n y : Nat} : ∀ {a r : List Nat}, n < y → aft n (a ++ y :: r) = aft n r
  | [], r, h => by
    rw [List.nil_append, aft]
    by_cases c : r.any (fun y => decide (n < y)) = true
    · rw [if_pos c]
    · rw [if_neg c, if_pos h, aft_none]
      intro x hx
      rw [Bool.not_eq_true, List.any_eq_false] at c
      have := c x hx
      simp at this; omega
  | x :: a, r, h => by
    rw [List.cons_append, aft, if_pos, aft_mid h]
    rw [List.any_eq_true]
    exact ⟨y, by simp, by simp; omega⟩
theorem count_none {n : Nat} {l : List Nat} (h : ∀ x, x ∈ l → x ≤ n) : l.countP (fun x => decide (n < x)) = 0 := by
  rw [List.countP_eq_zero]
  intro x hx
  have := h x hx
  simp; omega
def hts (key : ByteArray) (seq : Int) (R : List Nd) : List Nat := (R.takeWhile (fun x => aheadB key seq x.row)).map (·.h)
theorem steps_end {n : Nat} {l : List Nat} (h : ∀ x, x ∈ l → x ≤ n) : stepsN (n + 1) l = stepsN n l := by
  rw [stepsN, count_none h, aft_none h, Nat.zero_add]
theorem steps_go {n y : Nat} {a r : List Nat} (h : n < y) (ha : ∀ x, x ∈ a → x ≤ n) : stepsN (n + 1) (a ++ y :: r) = stepsN (n + 1) r + 1 := by
  rw [stepsN, stepsN, aft_mid h, List.countP_append, count_none ha, List.countP_cons_of_pos (by simpa using h)]
  omega
theorem aft_len (n : Nat) : ∀ l : List Nat, (aft n l).length + l.countP (fun x => decide (n < x)) ≤ l.length
  | [] => by simp [aft]
  | x :: r => by
    have ih := aft_len n r
    rw [aft, List.countP_cons]
    by_cases c : r.any (fun y => decide (n < y)) = true
    · rw [if_pos c, List.length_cons]
      split <;> omega
    · rw [if_neg c]
      have c0 : r.countP (fun x => decide (n < x)) = 0 := by
        rw [List.countP_eq_zero]
        rw [Bool.not_eq_true, List.any_eq_false] at c
        exact c
      rw [c0]
      by_cases d : n < x
      · rw [if_pos d, if_pos (by simpa using d), List.length_cons]; omega
      · rw [if_neg d, if_neg (by simpa using d)]; omega
theorem stepsN_le : ∀ (n : Nat) (l : List Nat), stepsN n l ≤ l.length
  | 0, l => by simp [stepsN]
  | n + 1, l => by
    have h1 := aft_len n l
    have h2 := stepsN_le n (aft n l)
    rw [stepsN]
    omega
/-- What stands ahead stands in front. -/
def Front (key : ByteArray) (seq : Int) (rs : List Nd) : Prop := rs.Pairwise fun x y => aheadB key seq y.row = true → aheadB key seq x.row = true
/-- What the search finds at level j. -/
def Found (g : Nat) (key : ByteArray) (seq : Int) (rs : List Nd) (j : Nat) (v : Value) : Prop :=
  ∃ P R, rs = P ++ R ∧ v = .pointer (some ⟨endB g P, 0, none⟩) ∧ High j P ∧ (∀ x, x ∈ P → aheadB key seq x.row = true) ∧ ∀ x, x ∈ R → aheadB key seq x.row = true → x.h ≤ j
theorem takeWhile_front {key : ByteArray} {seq : Int} {R1 R2 : List Nd} {y : Nd} (hf : Front key seq (R1 ++ y :: R2)) (hy : aheadB key seq y.row = true) : (R1 ++ y :: R2).takeWhile (fun x => aheadB key seq x.row) = R1 ++ y :: R2.takeWhile (fun x => aheadB key seq x.row) := by
  have h1 : ∀ x, x ∈ R1 → aheadB key seq x.row = true := fun x hx => (List.pairwise_append.mp hf).2.2 x hx y List.mem_cons_self hy
  induction R1 with
  | nil => simp [hy]
  | cons x r ih =>
    rw [List.cons_append, List.takeWhile_cons, if_pos (h1 x List.mem_cons_self), ih (List.Pairwise.of_cons (by rw [List.cons_append] at hf; exact hf)) (fun z hz => h1 z (List.mem_cons_of_mem _ hz))]
    rfl
theorem Front.right {key : ByteArray} {seq : Int} {P R : List Nd} (h : Front key seq (P ++ R)) : Front key seq R := (List.pairwise_append.mp h).2.1
theorem ahead_le {key : ByteArray} {seq : Int} {i : Nat} {R : List Nd} (hf : Front key seq R) (hn : ∀ y, nxt i R = some y → ∃ R1 z R2, R = R1 ++ z :: R2 ∧ (∀ x, x ∈ R1 → x.h ≤ i) ∧ aheadB key seq z.row = false) : ∀ x, x ∈ R → aheadB key seq x.row = true → x.h ≤ i := by
  intro x hx ha
  cases hq : nxt i R with
  | none => exact nxt_none hq x hx
  | some b =>
    obtain ⟨R1, z, R2, rfl, h1, h2⟩ := hn b hq
    rcases List.mem_append.mp hx with hx | hx
    · exact h1 x hx
    · rcases List.mem_cons.mp hx with rfl | hx
      · rw [h2] at ha; cases ha
      · have := (List.pairwise_cons.mp (List.pairwise_append.mp hf).2.1).1 x hx ha
        rw [h2] at this; cases this
theorem hts_le {key : ByteArray} {seq : Int} {i : Nat} {R : List Nd} (h : ∀ x, x ∈ R → aheadB key seq x.row = true → x.h ≤ i) : ∀ x, x ∈ hts key seq R → x ≤ i := by
  intro x hx
  obtain ⟨y, hy, rfl⟩ := List.mem_map.mp hx
  exact h y ((List.takeWhile_prefix _).subset hy) (List.all_eq_true.mp (List.all_takeWhile) y hy)
theorem size30 : (Try.prog.info? 30).map (·.size) = some 12 := by kernel_rfl
set_option maxHeartbeats 8000000 in
set_option maxRecDepth 100000 in
theorem search_calls (w : World) (g : Nat) (ln ht : Int) (rs : List Nd) (key : ByteArray) (seq : Int) (h : SL TL w g ln ht rs) (hf : Front key seq rs) (hlen : rs.length ≤ 4611686018427387904) : Calls Try.prog 64 #[.pointer (some ⟨g, 0, none⟩), .string key, .int .u64 seq] w fun e w' =>
    ∃ bs : List Value, e = .returned (.tuple #[.agg bs.toArray, .int .i64 (stepsN 12 (hts key seq rs))]) ∧ bs.length = 12 ∧ (∀ j, j < 12 → ∃ v, bs[j]? = some v ∧ Found g key seq rs j v) ∧ Below w.heap.size w w' := by
  have HS := Aside0.mk h
  have HF := Aside0.mk hf
  have HB := Aside0.mk (Below.refl w.heap.size w)
  have HN := Aside0.mk hlen
  clear h hf hlen
  go_enter Try.func64, Try.ntmps64
  go_wp2_with ((with_reducible refine gate_dst (N := 6) rfl ?_); refine box_event ?hg (N := 6) ?hd (cs := #[.pointer none, .pointer none, .pointer none, .pointer none, .pointer none, .pointer none, .pointer none, .pointer none, .pointer none, .pointer none, .pointer none, .pointer none]) (t := 30) ?hr ?_; (case hd => rfl); (case hg => rfl); (case hr => first | (go_simp; done) | (go_simp; rfl)); intro gb hg w4 hbox hb; have n0_ := Aside0.mk (below_step HB.out hb); have n1_ := Aside0.mk hbox; have GE := Aside0.mk (by rw [hg]; exact Nat.le_refl _ : w.heap.size ≤ gb); clear HB; have HB := n0_; have BK := n1_; clear n0_ n1_; clear hb hbox hg)
  go_loopg [7, 8, 9] 12 (fun kq v7 v8 v9 w' => ∃ (s : Nat) (P R : List Nd) (bs : List Value), v7 = .int .i64 (s : Int) ∧ v8 = .pointer (some ⟨endB g P, 0, none⟩) ∧ v9 = .int .i64 ((kq : Int) - 1) ∧ Aside0 (kq ≤ 12) ∧ Aside0 (rs = P ++ R) ∧ Aside0 (∀ j, j < kq → High j P) ∧ Aside0 (∀ x, x ∈ P → aheadB key seq x.row = true) ∧ Aside0 (s + stepsN kq (hts key seq R) = stepsN 12 (hts key seq rs)) ∧ Aside0 (bs.length = 12) ∧ Aside0 (∀ j, kq ≤ j → j < 12 → ∃ v, bs[j]? = some v ∧ Found g key seq rs j v) ∧ Aside0 (w'.heap[gb]? = some (.cells bs.toArray 30 (0, 0))) ∧ Aside0 (Below w.heap.size w w'))
  case atStart => exact ⟨0, [], rs, List.replicate 12 (.pointer none), rfl, rfl, rfl, ⟨Nat.le_refl _⟩, ⟨rfl⟩, ⟨fun j _ => High_nil j⟩, ⟨fun x hx => by simp at hx⟩, ⟨by omega⟩, ⟨rfl⟩, ⟨fun j h1 h2 => by omega⟩, ⟨BK.out⟩, ⟨HB.out⟩⟩
  case round =>
    clear HB BK
    obtain ⟨s, P, R, bs, rfl, rfl, rfl, HK, HR, HH, HA, HT, HL, HX, BK, HB⟩ := hrel
    obtain ⟨wo, hwo⟩ : ∃ wo : World, wo = wr := ⟨_, rfl⟩
    subst hwo
    cases gk with
    | zero =>
      have c0 : decide (((0 : Nat) : Int) - 1 ≥ 0) = false := by decide
      have hi30 : (Try.prog.info? 30).map (·.size) = some bs.toArray.size := by rw [size30]; simp [HL.out]
      have hall : bs.toArray.all (·.oneCell') = true := by
        rw [Array.all_eq_true_iff_forall_mem]
        intro v hv
        obtain ⟨j, hj⟩ := List.mem_iff_getElem?.mp (List.mem_toArray.mp hv)
        obtain ⟨u, h1, _, _, _, rfl, _⟩ := HX.out j (by omega) (by have := (List.getElem?_eq_some_iff.mp hj).1; have := HL.out; omega)
        rw [h1] at hj; cases hj; rfl
      have A1 := Aside0.mk hi30
      have A2 := Aside0.mk hall
      clear hi30 hall
      go_wp2_with (first | ((with_reducible refine gate_dst (N := 49) rfl ?_); refine ld_arr rfl 30 _ rfl gb 30 ?hx bs.toArray (0, 0) _ BK.out Try.underlying30 rfl A1.out ?_; (case hx => rfl)) | (refine st_arr rfl 30 _ _ rfl gb 30 ?hx bs.toArray ?hy bs.toArray BK.out A1.out rfl A2.out ?_; (case hx => rfl); (case hy => rfl); intro w5 hb5 hbb hk5 hs5; have n0_ := Aside0.mk hb5; have n1_ := Aside0.mk (hbb _ _ HB.out GE.out); clear BK HB; have BK := n0_; have HB := n1_; clear n0_ n1_ hb5 hbb hk5 hs5))
      refine bodyPost_ret (results_ct rfl _ _ gb 30 bs.toArray (0, 0) _ rfl BK.out Try.underlying30 rfl A1.out) rfl ?_
      refine ⟨bs, ?_, HL.out, fun j hj => HX.out j (Nat.zero_le _) hj, HB.out⟩
      have e : (s : Int) = (stepsN 12 (hts key seq rs) : Int) := by have := HT.out; rw [stepsN] at this; omega
      rw [← e]
      rfl
    | succ i =>
      rw [show (((i + 1 : Nat) : Int) - 1) = (i : Int) from by omega]
      have c0 : decide ((i : Int) ≥ 0) = true := decide_eq_true (by omega)
      go_wp2
      go_loopg [7, 8] R.length (fun kq v7 v8 w' => ∃ (s : Nat) (P R : List Nd), v7 = .int .i64 (s : Int) ∧ v8 = .pointer (some ⟨endB g P, 0, none⟩) ∧ Aside0 (R.length = kq) ∧ Aside0 (rs = P ++ R) ∧ Aside0 (High i P) ∧ Aside0 (∀ x, x ∈ P → aheadB key seq x.row = true) ∧ Aside0 (s + stepsN (i + 1) (hts key seq R) = stepsN 12 (hts key seq rs)) ∧ Aside0 (w'.heap[gb]? = some (.cells bs.toArray 30 (0, 0))) ∧ Aside0 (Below w.heap.size w w'))
      case atStart => exact ⟨s, P, R, rfl, rfl, ⟨rfl⟩, HR, ⟨HH.out i (Nat.lt_succ_self i)⟩, HA, HT, BK, HB⟩
      case round =>
        clear HR HH HA HT BK HB
        obtain ⟨s2, P2, R2, rfl, rfl, HG, HR, HH, HA, HT, BK, HB⟩ := hrel
        have hi12 : i < 12 := by have := HK.out; omega
        have hn := (HS.out.below HB.out).next HR.out hi12 HH.out
        have e4 : (i : Int).toNat = i := by omega
        have q1 : (i : Int) < 12 := by omega
        have q0 : 0 ≤ (i : Int) := by omega
        obtain ⟨ub, hub⟩ : ∃ ub, bs[i]? = some ub := ⟨_, List.getElem?_eq_getElem (by have := HL.out; omega)⟩
        have hcb : wr.cell? ⟨gb, i, none⟩ = some ub := by rw [blk_cell BK.out, List.getElem?_toArray, hub]
        have hfb := blk_frozen BK.out i
        have HU := Aside0.mk hub
        clear hub
        -- what is told where the inner loop ends
        have leave : (∀ y, nxt i R2 = some y → ∃ R1 z R3, R2 = R1 ++ z :: R3 ∧ (∀ x, x ∈ R1 → x.h ≤ i) ∧ aheadB key seq z.row = false) → Found g key seq rs i (.pointer (some ⟨endB g P2, 0, none⟩)) ∧ s2 + stepsN i (hts key seq R2) = stepsN 12 (hts key seq rs) := by
          intro hl
          have hle := ahead_le (i := i) (Front.right (P := P2) (by rw [← HR.out]; exact HF.out)) hl
          refine ⟨⟨P2, R2, HR.out, rfl, HH.out, HA.out, hle⟩, ?_⟩
          have := HT.out
          rw [steps_end (hts_le hle)] at this
          exact this
        have LV := Aside0.mk leave
        clear leave
        -- the table with one more
        have tab : Found g key seq rs i (.pointer (some ⟨endB g P2, 0, none⟩)) → ∀ j, i ≤ j → j < 12 → ∃ v, (bs.set i (.pointer (some ⟨endB g P2, 0, none⟩)))[j]? = some v ∧ Found g key seq rs j v := by
          intro hfd j h1 h2
          rcases Nat.lt_or_ge i j with h3 | h3
          · obtain ⟨v, h4, h5⟩ := HX.out j (by omega) h2
            exact ⟨v, by rw [List.getElem?_set_ne (by omega)]; exact h4, h5⟩
          · obtain rfl : i = j := by omega
            exact ⟨_, by rw [List.getElem?_set_self (by have := HL.out; omega)], hfd⟩
        have TB := Aside0.mk tab
        clear tab
        cases hq : nxt i R2 with
        | none =>
          rw [hq, show pv none = .pointer none from rfl] at hn
          have HQ := Aside0.mk hq
          clear hq
          go_wp2
          obtain ⟨l1, l2⟩ := LV.out (fun y hy => by rw [HQ.out] at hy; cases hy)
          go_roundg i
          case measure => omega
          case rel => exact ⟨s2, P2, R2, bs.set i (.pointer (some ⟨endB g P2, 0, none⟩)), rfl, rfl, rfl, ⟨by omega⟩, HR, ⟨fun j hj => HH.out.mono (by omega)⟩, HA, ⟨l2⟩, ⟨by rw [List.length_set]; exact HL.out⟩, ⟨TB.out l1⟩, ⟨blk_put BK.out i _ (by simp)⟩, ⟨HB.out.setCell GE.out _⟩⟩
        | some b =>
          rw [hq, show pv (some b) = .pointer (some ⟨b, 0, none⟩) from rfl] at hn
          obtain ⟨R1, y, R3, hsp, rfl, hhi, hlo⟩ := nxt_split hq
          have hnode := (HS.out.below HB.out).node (P := P2 ++ R1) (x := y) (R := R3) (by rw [HR.out, hsp, List.append_assoc])
          have hr0 : wr.cell? ⟨y.blk, 0, none⟩ = some (.string y.row.f0) := by rw [blk_cell hnode, List.getElem?_toArray, cellsN_row y R3 0 (by omega)]; rfl
          have hr1 : wr.cell? ⟨y.blk, 1, none⟩ = some (.int .u64 y.row.f1) := by rw [blk_cell hnode, List.getElem?_toArray, cellsN_row y R3 1 (by omega)]; rfl
          have hr2 : wr.cell? ⟨y.blk, 2, none⟩ = some (.int .i64 y.row.f2) := by rw [blk_cell hnode, List.getElem?_toArray, cellsN_row y R3 2 (by omega)]; rfl
          have hr3 : wr.cell? ⟨y.blk, 3, none⟩ = some (.string y.row.f3) := by rw [blk_cell hnode, List.getElem?_toArray, cellsN_row y R3 3 (by omega)]; rfl
          have HQ := Aside0.mk hq
          have HSP := Aside0.mk hsp
          have HHI := Aside0.mk hhi
          have HLO := Aside0.mk hlo
          clear hq hsp hhi hlo hnode
          cases ha : aheadB key seq y.row with
          | false =>
            have AF := Aside0.mk (ha ▸ ahead_f key seq y.row : skip_ahead.f y.row.f0 y.row.f1 y.row.f2 y.row.f3 key seq = some false)
            have HAh := Aside0.mk ha
            clear ha
            go_wp2_with fail
            refine (skip_ahead.calls y.row.f0 y.row.f1 y.row.f2 y.row.f3 key seq false _ AF.out).mono ?_
            rintro e w6 ⟨rfl, hb⟩
            have n0_ := Aside0.mk (blk_below BK.out hb)
            have n1_ := Aside0.mk (below_step HB.out hb)
            clear BK HB hcb hfb
            have BK := n0_
            have HB := n1_
            clear n0_ n1_ hb
            have hcb : w6.cell? ⟨gb, i, none⟩ = some ub := by rw [blk_cell BK.out, List.getElem?_toArray]; exact HU.out
            have hfb := blk_frozen BK.out i
            go_wp2
            obtain ⟨l1, l2⟩ := LV.out (fun z hz => ⟨R1, y, R3, HSP.out, HLO.out, HAh.out⟩)
            go_roundg i
            case measure => omega
            case rel => exact ⟨s2, P2, R2, bs.set i (.pointer (some ⟨endB g P2, 0, none⟩)), rfl, rfl, rfl, ⟨by omega⟩, HR, ⟨fun j hj => HH.out.mono (by omega)⟩, HA, ⟨l2⟩, ⟨by rw [List.length_set]; exact HL.out⟩, ⟨TB.out l1⟩, ⟨blk_put BK.out i _ (by simp)⟩, ⟨HB.out.setCell GE.out _⟩⟩
          | true =>
            have AF := Aside0.mk (ha ▸ ahead_f key seq y.row : skip_ahead.f y.row.f0 y.row.f1 y.row.f2 y.row.f3 key seq = some true)
            have HAh := Aside0.mk ha
            clear ha
            go_wp2_with fail
            refine (skip_ahead.calls y.row.f0 y.row.f1 y.row.f2 y.row.f3 key seq true _ AF.out).mono ?_
            rintro e w6 ⟨rfl, hb⟩
            have n0_ := Aside0.mk (blk_below BK.out hb)
            have n1_ := Aside0.mk (below_step HB.out hb)
            clear BK HB hcb hfb
            have BK := n0_
            have HB := n1_
            clear n0_ n1_ hb
            have hcb : w6.cell? ⟨gb, i, none⟩ = some ub := by rw [blk_cell BK.out, List.getElem?_toArray]; exact HU.out
            have hfb := blk_frozen BK.out i
            have hn6 : w6.cell? ⟨endB g P2, 4 + i, none⟩ = some (.pointer (some ⟨y.blk, 0, none⟩)) := by rw [(HS.out.below HB.out).next HR.out hi12 HH.out, HQ.out]; rfl
            go_wp2
            have hst : s2 + 1 + stepsN (i + 1) (hts key seq R3) = stepsN 12 (hts key seq rs) := by
              have h1 := HT.out
              have h2 : hts key seq R2 = R1.map (·.h) ++ y.h :: hts key seq R3 := by
                rw [HSP.out, hts, takeWhile_front (by rw [← HSP.out]; exact Front.right (P := P2) (by rw [← HR.out]; exact HF.out)) HAh.out, List.map_append, List.map_cons]
                rfl
              rw [h2, steps_go HHI.out (fun x hx => by obtain ⟨z, hz, rfl⟩ := List.mem_map.mp hx; exact HLO.out z hz)] at h1
              omega
            have hb1 : stepsN 12 (hts key seq rs) ≤ rs.length := Nat.le_trans (stepsN_le 12 _) (by rw [hts, List.length_map]; exact (List.takeWhile_prefix _).length_le)
            have ew : wrap64 ((s2 : Int) + 1) = ((s2 + 1 : Nat) : Int) := by have := HN.out; unfold wrap64; omega
            rw [ew]
            go_roundg R3.length
            case measure => have h1 := HG.out; rw [HSP.out, List.length_append, List.length_cons] at h1; omega
            case rel => exact ⟨s2 + 1, P2 ++ R1 ++ [y], R3, rfl, by rw [endB_snoc], ⟨rfl⟩, ⟨by rw [HR.out, HSP.out]; simp⟩, ⟨High_snoc HHI.out⟩, ⟨fun x hx => by
              rcases List.mem_append.mp hx with hx | hx
              · rcases List.mem_append.mp hx with hx | hx
                · exact HA.out x hx
                · have hfr : Front key seq (R1 ++ y :: R3) := by rw [← HSP.out]; exact Front.right (P := P2) (by rw [← HR.out]; exact HF.out)
                  exact (List.pairwise_append.mp hfr).2.2 x hx y List.mem_cons_self HAh.out
              · rw [List.mem_singleton] at hx; subst hx; exact HAh.out⟩, ⟨hst⟩, BK, HB⟩
end Go.Proofs.Ytfemebenkbobnaa.SM
