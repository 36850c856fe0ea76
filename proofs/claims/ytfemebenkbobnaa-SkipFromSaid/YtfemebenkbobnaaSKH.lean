import Derived.Test.YtfemebenkbobnaaSKG
/- The law SkipFrom, walked. Conditions: the rows' numbers are uint64s. -/
namespace Go.Proofs.Ytfemebenkbobnaa.SK
set_option linter.unusedVariables false
set_option linter.unusedSimpArgs false
open Go.RowKit Go.Shelf Go.Proofs.YtfemebenkbobnaaW.PrintWords Go.Proofs.YtfemebenkbobnaaW.PrintLast Go.Proofs.YtfemebenkbobnaaW.PrintMore Go.Proofs.Ytfemebenkbobnaa.PB06
theorem beh_rows (key : ByteArray) (seq : Int) (rs : List Nd) : (beh key seq rs).map (·.row) = behR key seq (rowsN rs) := by
  unfold beh behR rowsN
  rw [List.dropWhile_map]
  rfl
theorem seek_one {key : ByteArray} {seq : Int} {rs : List Nd} {x : S28} {R : List S28} (h : behR key seq (rowsN rs) = x :: R) : seekRow key seq rs = x ∧ seekOk key seq rs = true := by
  rw [← beh_rows] at h
  unfold seekRow seekOk
  cases hb : beh key seq rs with
  | nil => rw [hb] at h; cases h
  | cons y T => rw [hb] at h; simp at h; exact ⟨h.1, rfl⟩
theorem seek_none {key : ByteArray} {seq : Int} {rs : List Nd} (h : behR key seq (rowsN rs) = []) : seekRow key seq rs = zrow ∧ seekOk key seq rs = false := by
  rw [← beh_rows] at h
  unfold seekRow seekOk
  cases hb : beh key seq rs with
  | nil => exact ⟨rfl, rfl⟩
  | cons y T => rw [hb] at h; cases h
theorem ahd_behR (key : ByteArray) (seq : Int) (L : List S28) : ahdR key seq L ++ behR key seq L = L := List.takeWhile_append_dropWhile
theorem drop_ahd (key : ByteArray) (seq : Int) (L : List S28) : L.drop (ahdR key seq L).length = behR key seq L := by
  have h : ∀ A B : List S28, A ++ B = L → L.drop A.length = B := fun A B e => by rw [← e, List.drop_left]
  exact h _ _ (ahd_behR key seq L)
theorem len_ahd (key : ByteArray) (seq : Int) (L : List S28) : (ahdR key seq L).length + (behR key seq L).length = L.length := by
  rw [← List.length_append, ahd_behR]
theorem self_not (x : S28) : aheadB x.f0 x.f1 x = false := by
  rw [← Bool.not_eq_true, ahead_iff, less_irr]
  rintro (h | ⟨_, h⟩)
  · cases h
  · omega
theorem at_ahd {key : ByteArray} {seq : Int} {L : List S28} (hs : SortedR L) {i : Nat} (hi : i < L.length) : aheadB key seq (L.getD i z28) = decide (i < (ahdR key seq L).length) := by
  have e : L.getD i z28 = L[i] := by rw [List.getD_eq_getElem?_getD, List.getElem?_eq_getElem hi]; rfl
  rw [e]
  have hL := ahd_behR key seq L
  by_cases c : i < (ahdR key seq L).length
  · rw [decide_eq_true c]
    have : L[i] = (ahdR key seq L)[i] := by
      have h2 : (ahdR key seq L ++ behR key seq L)[i]'(by rw [hL]; exact hi) = (ahdR key seq L)[i] := List.getElem_append_left c
      simpa [hL] using h2
    rw [this]
    exact List.all_eq_true.mp (List.all_takeWhile (p := fun x => aheadB key seq x) (l := L)) _ (List.getElem_mem _)
  · rw [decide_eq_false c]
    have hlen := len_ahd key seq L
    have hd : behR key seq L = L.drop (ahdR key seq L).length := (drop_ahd key seq L).symm
    have hn : (ahdR key seq L).length < L.length := by omega
    have hh : aheadB key seq (L[(ahdR key seq L).length]) = false := by
      have h1 := List.head?_dropWhile_not (fun x : S28 => aheadB key seq x) L
      have h2 : (L.dropWhile fun x : S28 => aheadB key seq x).head? = some (L[(ahdR key seq L).length]) := by
        show (behR key seq L).head? = _
        rw [hd, List.head?_drop, List.getElem?_eq_getElem hn]
      rw [h2] at h1
      exact h1
    cases hq : aheadB key seq L[i] with
    | false => rfl
    | true =>
      by_cases hie : i = (ahdR key seq L).length
      · subst hie
        rw [hh] at hq; cases hq
      · have hb := List.pairwise_iff_getElem.mp hs (ahdR key seq L).length i hn hi (by omega)
        rw [bef_ahead hb hq] at hh
        cases hh
theorem own_place {L : List S28} (hs : SortedR L) {i : Nat} (hi : i < L.length) : behR (L.getD i z28).f0 (L.getD i z28).f1 L = L.getD i z28 :: L.drop (i + 1) := by
  have g : ∀ m (hm : m < L.length), L.getD m z28 = L[m] := fun m hm => by rw [List.getD_eq_getElem?_getD, List.getElem?_eq_getElem hm]; rfl
  have e := g i hi
  have h0 : ∀ m, m < i → aheadB (L.getD i z28).f0 (L.getD i z28).f1 (L.getD m z28) = true := fun m hm => by
    have h2 := List.pairwise_iff_getElem.mp hs m i (by omega) hi hm
    rw [← e, ← g m (by omega)] at h2
    exact h2
  have h1 := self_not (L.getD i z28)
  have hA : ∀ m (hm : m < L.length), aheadB (L.getD i z28).f0 (L.getD i z28).f1 (L.getD m z28) = decide (m < (ahdR (L.getD i z28).f0 (L.getD i z28).f1 L).length) := fun m hm => at_ahd hs hm
  have hd := drop_ahd (L.getD i z28).f0 (L.getD i z28).f1 L
  have hlen := len_ahd (L.getD i z28).f0 (L.getD i z28).f1 L
  have hn : (ahdR (L.getD i z28).f0 (L.getD i z28).f1 L).length = i := by
    generalize (ahdR (L.getD i z28).f0 (L.getD i z28).f1 L).length = n at *
    have h2 := hA i hi
    rw [h1] at h2
    have h3 := of_decide_eq_false h2.symm
    by_cases c : n < i
    · have h4 := hA n (by omega)
      rw [h0 n c] at h4
      have := of_decide_eq_true h4.symm
      omega
    · omega
  rw [← hd, hn, List.drop_eq_getElem_cons hi, e]
theorem take_all {L : List S28} (h : L.length ≤ 200) : takeM 200 L = L := by
  unfold takeM
  split
  · exact List.take_of_length_le (by omega)
  · rfl
theorem ahead_parts {key : ByteArray} {seq : Int} {x : S28} {b : Bool} (h : aheadB key seq x = b) :
    (b = true ∧ Op.bytesLess x.f0.toList key.toList = true) ∨ (b = true ∧ Op.bytesLess x.f0.toList key.toList = false ∧ (x.f0.toList == key.toList) = true ∧ decide (x.f1 > seq) = true ∧ decide (seq < x.f1) = true) ∨
    (b = false ∧ Op.bytesLess x.f0.toList key.toList = false ∧ (x.f0.toList == key.toList) = false) ∨ (b = false ∧ Op.bytesLess x.f0.toList key.toList = false ∧ (x.f0.toList == key.toList) = true ∧ decide (x.f1 > seq) = false ∧ decide (seq < x.f1) = false) := by
  subst h
  cases h1 : Op.bytesLess x.f0.toList key.toList with
  | true => exact .inl ⟨ahead_iff.mpr (.inl h1), rfl⟩
  | false =>
    cases h2 : (x.f0.toList == key.toList) with
    | false =>
      refine .inr (.inr (.inl ⟨?_, rfl, rfl⟩))
      rw [← Bool.not_eq_true, ahead_iff, h1]
      rintro (h | ⟨h, _⟩)
      · cases h
      · rw [beq_eq_false_iff_ne] at h2; exact h2 h
    | true =>
      have h3 := beq_iff_eq.mp h2
      by_cases c : x.f1 > seq
      · exact .inr (.inl ⟨ahead_iff.mpr (.inr ⟨h3, c⟩), rfl, rfl, decide_eq_true c, decide_eq_true c⟩)
      · refine .inr (.inr (.inr ⟨?_, rfl, rfl, decide_eq_false c, decide_eq_false c⟩))
        rw [← Bool.not_eq_true, ahead_iff, h1]
        rintro (h | ⟨_, h⟩)
        · cases h
        · exact c h
theorem putR_sub {r x : S28} {l : List S28} (h : x ∈ putR r l) : x ∈ l ∨ x = r := by
  cases ht : takenR r l with
  | true => rw [putR, if_pos ht] at h; exact .inl h
  | false => exact (putR_mem ht x).mp h
theorem put_sub {w w' : World} {g : Nat} {rs rs' : List Nd} {r : S28} {h : Nat} (hp : Put w w' g rs r h rs') {x : S28} (hx : x ∈ rowsN rs') : x ∈ rowsN rs ∨ x = r := by
  rw [hp.rows] at hx
  exact putR_sub hx
theorem put_len {w w' : World} {g : Nat} {rs rs' : List Nd} {r : S28} {h : Nat} (hp : Put w w' g rs r h rs') : rs'.length ≤ rs.length + 1 := by
  have h1 := putV_len r h (vals rs)
  rw [← hp.val, vals_len, vals_len] at h1
  exact h1
theorem sub_bound {rs : List Nd} {rows : List S28} (hsub : ∀ x, x ∈ rowsN rs → x ∈ rows) (hw : ∀ x, x ∈ rows → x.f1 ≤ 18446744073709551615) : ∀ x, x ∈ rs → x.row.f1 ≤ 18446744073709551615 := fun x hx =>
  hw _ (hsub _ (List.mem_map.mpr ⟨x, hx, rfl⟩))
section
variable {P : Program} {ops : Array Oper} {Q : Exit → Act → World → Prop}
/-- A whole row stored into its block, in a region that draws its order. -/
theorem store_ {oi : Oper} {a : Act} {w : World} {K : Act → World → Prop} (hw : Region.wanted oi (yielded ops a.tmps) = true) (hN : oi.dst = none) (ty : TypeId) (x y : Operand) (ho : oi.op = .store ty x y) (g t : Nat) (hx : a.eval x = .pointer (some ⟨g, 0, none⟩)) (cells : Array Value) (hy : a.eval y = .agg cells) (old : Array Value) (hg : w.heap[g]? = some (.cells old t (0, 0)))
    (hi : (P.info? ty).map (·.size) = some cells.size) (hs : old.size = cells.size) (h1 : cells.all (·.oneCell') = true)
    (h : ∀ w1 : World, w1.heap[g]? = some (.cells cells t (0, 0)) → (∀ B w0, Below B w0 w → B ≤ g → Below B w0 w1) → (∀ k, k ≠ g → w1.heap[k]? = w.heap[k]?) → w1.heap.size = w.heap.size → K a w1) : if Region.wanted oi (yielded ops a.tmps) = true then Oper.wp P oi a w K Q else K (a.put none undef) w := by
  refine skip_ hw hN ?_ (h _ (setRow_heap w g old cells t (0, 0) hg) (fun B w0 hb hle => below_setRow hb hle cells) (fun k hk => setRow_other w g k cells hk) (setRow_size w g cells))
  unfold execOp
  simp only [ho, hx, hy, Instr.storeAt, Instr.sureAddr, Sem.run_bind, Sem.run_pure, Result.andThen_ok, run_storeVar_row w g t ty old cells hg hi hs h1]
end
attribute [local go_sem high] eqA28
set_option maxHeartbeats 8000000 in
set_option maxRecDepth 100000 in
theorem skipFrom_calls (w : World) (A0 : Option Addr) (c0 : Nat) (rows : List S28) (A1 : Option Addr) (c1 : Nat) (hs : List Int) (key : ByteArray) (seq : Int) (hr0 : k28.C w A0 rows.length rows) (hc0 : rows.length ≤ c0) (hr1 : (Kd.int .i64).C w A1 hs.length hs) (hc1 : hs.length ≤ c1) (hwf : ∀ x, x ∈ rows → x.f1 ≤ 18446744073709551615) :
    Calls Try.prog 7 #[.slice A0 rows.length c0, .slice A1 hs.length c1, .string key, .int .u64 seq] w fun e w' => e = .returned (.bool true) ∧ Below w.heap.size w w' := by
  have HR0 := Aside0.mk hr0
  have HC0 := Aside0.mk hc0
  have HR1 := Aside0.mk hr1
  have HC1 := Aside0.mk hc1
  have HWF := Aside0.mk hwf
  clear hr0 hc0 hr1 hc1 hwf
  have HB := Aside0.mk (Below.refl w.heap.size w)
  by_cases c : (rows.length : Int) > 100
  · have cb : decide (100 < (rows.length : Int)) = true := decide_eq_true c
    have cb2 : decide (100 < rows.length) = true := decide_eq_true (by omega)
    clear c
    go_enter Try.func7, Try.ntmps7
    go_wp2_with fail
    refine (awake08_calls _).mono ?_
    rintro e w1 ⟨rfl, hb⟩
    have HB2 := Aside0.mk hb
    clear hb HB
    go_wp2_with fail
    go_ret
    exact ⟨rfl, HB2.out⟩
  · have CN := Aside0.mk (show rows.length ≤ 100 by omega)
    have cb : decide (100 < (rows.length : Int)) = false := decide_eq_false c
    have cb2 : decide (100 < rows.length) = false := decide_eq_false (by omega)
    clear c
    go_enter Try.func7, Try.ntmps7
    go_wp2_with (first | ((with_reducible refine gate_dst (N := 25) rfl ?_); refine box_event ?hg (N := 25) ?hd (cs := (cellsH 0 0 []).toArray) (t := 34) ?hr ?_; (case hd => rfl); (case hg => rfl); (case hr => first | (go_simp; done) | (go_simp; rfl)); intro ga hg w2 hbox hb; have n0_ := Aside0.mk (below_step HB.out hb); have n1_ := Aside0.mk (Sk.empty hbox); have GA := Aside0.mk (by rw [hg]; exact below_size HB.out : w.heap.size ≤ ga); clear HB; have HB := n0_; have SA := n1_; clear n0_ n1_; clear hb hbox hg) | fail)
    have LA := Aside0.mk (show ∀ k, k ∈ fp ga [] → w.heap.size ≤ k from fun k hk => by rw [fp_mem] at hk; simp at hk; rw [hk]; exact GA.out)
    go_loopg [10] rows.length (fun kq v10 w' => ∃ (i : Nat) (ra : List Nd), v10 = .int .i64 (i : Int) ∧ Aside0 (kq + i = rows.length) ∧ Aside0 (∀ x, x ∈ rowsN ra → x ∈ rows) ∧ Aside0 (ra.length ≤ i) ∧ Aside0 (Sk w' ga ra) ∧ Aside0 (∀ k, k ∈ fp ga ra → w.heap.size ≤ k) ∧ Aside0 (Below w.heap.size w w'))
    case atStart => exact ⟨0, [], rfl, ⟨by omega⟩, ⟨fun x hx => by simp [rowsN] at hx⟩, ⟨Nat.le_refl _⟩, SA, LA, HB⟩
    case round =>
      clear SA LA HB GA
      obtain ⟨i, ra, rfl, HK, HSU, LRA, SA, LA, HB⟩ := hrel
      cases gk with
      | zero =>
        have ei : i = rows.length := by have := HK.out; omega
        subst ei
        have d0 : decide ((rows.length : Int) < (rows.length : Int)) = false := by simp
        go_wp2_with fail
        refine (whole_calls wr ga ra SA.out (by have := LRA.out; have := CN.out; omega)).mono ?_
        rintro e w5 ⟨v, rfl, hR, hb⟩
        rw [whole_all (sub_bound HSU.out HWF.out)] at hR
        obtain ⟨L, hL⟩ : ∃ L, L = rowsN ra := ⟨_, rfl⟩
        have HLR := Aside0.mk hL
        have HS := Aside0.mk (show SortedR L by rw [hL]; exact SA.out.sorted)
        have HM := Aside0.mk (show L.length ≤ 100 by rw [hL, rowsN, List.length_map]; have := LRA.out; have := CN.out; omega)
        have HRA := Aside0.mk (show ra.length ≤ 1000000 by have := LRA.out; have := CN.out; omega)
        rw [← hL] at hR
        clear hL
        obtain ⟨Al, cl, hv⟩ := Kd.R_slice hR
        subst hv
        have HL := Aside0.mk (Kd.R_reads' hR).2.2
        have HLc := Aside0.mk (Kd.R_reads' hR).2.1
        have n0_ := Aside0.mk (below_step HB.out hb)
        have n1_ := Aside0.mk (SA.out.below hb)
        clear hR SA LA HB hb HSU LRA HK
        have HB := n0_
        have SA := n1_
        clear n0_ n1_
        go_wp2_with fail
        refine (all_calls w5 ga ra key seq 200 SA.out HRA.out).mono ?_
        rintro e w6 ⟨v, rfl, hR, hb⟩
        rw [beh_rows, ← HLR.out] at hR
        obtain ⟨B, hB⟩ : ∃ B, B = behR key seq L := ⟨_, rfl⟩
        obtain ⟨n, hn⟩ : ∃ n, n = (ahdR key seq L).length := ⟨_, rfl⟩
        have hnb : n + B.length = L.length := by rw [hn, hB]; exact len_ahd key seq L
        rw [← hB, take_all (by have := HM.out; omega)] at hR
        have HBe := Aside0.mk hB
        have HN := Aside0.mk hn
        have HNB := Aside0.mk hnb
        have HDR := Aside0.mk (show L.drop n = B by rw [hn, hB]; exact drop_ahd key seq L)
        clear hB hn
        obtain ⟨A2, c2, hv⟩ := Kd.R_slice hR
        subst hv
        have H2 := Aside0.mk (Kd.R_reads' hR).2.2
        have H2c := Aside0.mk (Kd.R_reads' hR).2.1
        have n0_ := Aside0.mk (below_step HB.out hb)
        have n1_ := Aside0.mk (SA.out.below hb)
        have n2_ := Aside0.mk (Kd.C_below HL.out hb)
        clear hR SA HB hb HL
        have HB := n0_
        have SA := n1_
        have HL := n2_
        clear n0_ n1_ n2_
        have e1_ : True → wrap64 ((L.length : Int) - (B.length : Int)) = (n : Int) := fun _ => by have := HM.out; unfold wrap64; omega
        have e2_ : True → (L.length : Int) - (B.length : Int) = (n : Int) := fun _ => by omega
        have e3_ : True → wrap64 (n : Int) = (n : Int) := fun _ => by have := HM.out; unfold wrap64; omega
        have e4_ : True → IntKind.i64.wrap (n : Int) = (n : Int) := fun _ => by have := HM.out; rw [IntKind.wrap_i64]; omega
        have k1_ : decide ((n : Int) < 0) = false := decide_eq_false (by omega)
        obtain ⟨i052, hi052, _, hsz52, _⟩ := info_parts info28
        have hcut52 := cut_from (P := Try.prog) 22 28 .i64 Try.underlying22 hi052 4 hsz52 Al L.length cl (n : Int) (by omega) (by omega)
        have hr52 := Kd.C_drop (m := n) (c := cl) HL.out (by omega) HLc.out
        rw [HDR.out] at hr52
        rw [Int.toNat_natCast, show L.length - n = B.length from by omega] at hcut52
        obtain ⟨A52, hA52⟩ : ∃ A1, A1 = (if cl = n then Al else (Al : Option Addr).map (·.add (n * 4))) := ⟨_, rfl⟩
        obtain ⟨c52, hc52⟩ : ∃ c1, c1 = cl - n := ⟨_, rfl⟩
        replace hr52 : Kd.C k28 _ A52 B.length B := (by rw [hA52]; exact hr52)
        rw [← hA52, ← hc52] at hcut52
        have HR52 := Aside0.mk hr52
        have HC52 := Aside0.mk (show B.length ≤ c52 from by have := HLc.out; omega)
        clear hr52 hi052 hsz52 hc52 hA52 hnb
        go_wp2_with fail
        refine (same_true w6 A52 c52 A2 c2 B HR52.out HC52.out H2.out H2c.out (by have := HM.out; have := HNB.out; omega)).mono ?_
        rintro e w7 ⟨rfl, hb⟩
        have n0_ := Aside0.mk (below_step HB.out hb)
        have n1_ := Aside0.mk (SA.out.below hb)
        have n2_ := Aside0.mk (Kd.C_below HL.out hb)
        have n3_ := Aside0.mk (Kd.C_below H2.out hb)
        clear SA HB hb HL H2 HR52 HC52 hcut52
        have HB := n0_
        have SA := n1_
        have HL := n2_
        have H2 := n3_
        clear n0_ n1_ n2_ n3_
        go_wp2_with fail
        try rw [e3_ trivial]
        go_loopg [15, 16, 17] L.length (fun kq v15 v16 v17 w' => ∃ (i : Nat), v15 = .int .i64 (i : Int) ∧ Aside0 (kq + i = L.length) ∧ Aside0 (Sk w' ga ra) ∧ Aside0 (Kd.C k28 w' Al L.length L) ∧ Aside0 (Kd.C k28 w' A2 B.length B) ∧ Aside0 (Below w.heap.size w w'))
        case atStart => exact ⟨0, rfl, ⟨by omega⟩, SA, HL, H2, HB⟩
        case round =>
          clear SA HB HL H2
          obtain ⟨i, rfl, HK, SA, HL, H2, HB⟩ := hrel
          cases gk with
          | zero =>
            have ei : i = L.length := by have := HK.out; omega
            subst ei
            have d0 : decide ((L.length : Int) < (L.length : Int)) = false := by simp
            by_cases hB0 : B.length = 0
            · have hBn : B = [] := List.eq_nil_of_length_eq_zero hB0
              have hsk := seek_none (key := key) (seq := seq) (rs := ra) (by rw [← HLR.out, ← HBe.out]; exact hBn)
              have g0 : decide ((B.length : Int) > 0) = false := decide_eq_false (by omega)
              have g1 : decide (0 < (B.length : Int)) = false := decide_eq_false (by omega)
              have g2 : decide (0 < B.length) = false := decide_eq_false (by omega)
              clear hBn
              go_wp2_with fail
              refine (seek_calls wr ga ra key seq SA.out (by have := HRA.out; omega)).mono ?_
              rw [hsk.1, hsk.2, show rowV zrow = .agg #[.string ⟨#[]⟩, .int .u64 0, .int .i64 0, .string ⟨#[]⟩] from rfl]
              rintro e w5' ⟨rfl, hb⟩
              have n0_ := Aside0.mk (below_step HB.out hb)
              clear HB SA HL H2 hb hsk
              have HB := n0_
              clear n0_
              go_wp2_with fail
              have n0_ := Aside0.mk (HB.out.alloc HB.out.size (.cells #[.string ⟨#[]⟩, .int .u64 0, .int .i64 0, .string ⟨#[]⟩] 28))
              clear HB
              have HB := n0_
              clear n0_
              generalize w5'.heap.size = gx at *
              generalize w5'.alloc (.cells #[.string ⟨#[]⟩, .int .u64 0, .int .i64 0, .string ⟨#[]⟩] 28) = w7 at *
              refine start_ (n := 20) (S := fun w' => Below w.heap.size w w') (ds := []) #[false, false, false, false, false, false, false, false, false, false, false, false, false, false, false, false, false, false, false, false] (by kernel_rfl) rfl rfl (pw_below_drewN HB.out 1) (fun hHeld => ?_)
              -- 0: Op.move t19
              refine pure_ (i := 0) (N := (some 135)) (v := ?_) (a' := ?_) #[true, false, false, false, false, false, false, false, false, false, false, false, false, false, false, false, false, false, false, false] rfl rfl (by kernel_rfl) (fun _ _ _ h => h) (Or.inl ⟨by rfl, ?_⟩) ?_ ?_
              rotate_left
              · intro w'
                go_simp
                with_reducible rfl
              rotate_left
              · simp only [Act.put, List.setIfInBounds_toArray, List.set_cons_zero, List.set_cons_succ, i64_w, i32_w]
                rfl
              -- 1: Op.move t13
              refine pure_ (i := 1) (N := (some 136)) (v := ?_) (a' := ?_) #[true, true, false, false, false, false, false, false, false, false, false, false, false, false, false, false, false, false, false, false] rfl rfl (by kernel_rfl) (fun _ _ _ h => h) (Or.inl ⟨by rfl, ?_⟩) ?_ ?_
              rotate_left
              · intro w'
                go_simp
                with_reducible rfl
              rotate_left
              · simp only [Act.put, List.setIfInBounds_toArray, List.set_cons_zero, List.set_cons_succ, i64_w, i32_w]
                rfl
              -- 2: Op.call { builtin len, args := #[t136], argTypes := #[22] }
              refine pure_ (i := 2) (N := (some 137)) (v := ?_) (a' := ?_) #[true, true, true, false, false, false, false, false, false, false, false, false, false, false, false, false, false, false, false, false] rfl rfl (by kernel_rfl) (fun _ _ _ h => h) (Or.inl ⟨by rfl, ?_⟩) ?_ ?_
              rotate_left
              · intro w'
                go_simp
                with_reducible rfl
              rotate_left
              · simp only [Act.put, List.setIfInBounds_toArray, List.set_cons_zero, List.set_cons_succ, i64_w, i32_w]
                rfl
              -- 3: Op.binOp BinOp.gtr 3 t137 (const (0:i64)) 3
              refine pure_ (i := 3) (N := (some 138)) (v := ?_) (a' := ?_) #[true, true, true, true, false, false, false, false, false, false, false, false, false, false, false, false, false, false, false, false] rfl rfl (by kernel_rfl) (fun _ _ _ h => h) (Or.inl ⟨by rfl, ?_⟩) ?_ ?_
              rotate_left
              · intro w'
                go_simp
                with_reducible rfl
              rotate_left
              · simp only [Act.put, List.setIfInBounds_toArray, List.set_cons_zero, List.set_cons_succ, i64_w, i32_w]
                rfl
              -- 4: Op.binOp BinOp.eql 4 t135 t138 4
              refine pure_ (i := 4) (N := (some 139)) (v := ?_) (a' := ?_) #[true, true, true, true, true, false, false, false, false, false, false, false, false, false, false, false, false, false, false, false] rfl rfl (by kernel_rfl) (fun _ _ _ h => h) (Or.inl ⟨by rfl, ?_⟩) ?_ ?_
              rotate_left
              · intro w'
                go_simp
                with_reducible rfl
              rotate_left
              · simp only [Act.put, List.setIfInBounds_toArray, List.set_cons_zero, List.set_cons_succ, i64_w, i32_w]
                rfl
              -- 5: Op.move t139
              refine pure_ (i := 5) (N := (some 140)) (v := ?_) (a' := ?_) #[true, true, true, true, true, true, false, false, false, false, false, false, false, false, false, false, false, false, false, false] rfl rfl (by kernel_rfl) (fun _ _ _ h => h) (Or.inl ⟨by rfl, ?_⟩) ?_ ?_
              rotate_left
              · intro w'
                go_simp
                with_reducible rfl
              rotate_left
              · simp only [Act.put, List.setIfInBounds_toArray, List.set_cons_zero, List.set_cons_succ, i64_w, i32_w]
                rfl
              -- 6: Op.move t19   [guarded: some (5, true)]
              refine pure_ (i := 6) (N := (some 141)) (v := ?_) (a' := ?_) #[true, true, true, true, true, true, true, false, false, false, false, false, false, false, false, false, false, false, false, false] rfl rfl (by kernel_rfl) (fun _ _ _ h => h) (Or.inl ⟨by rfl, ?_⟩) ?_ ?_
              rotate_left
              · intro w'
                go_simp
                with_reducible rfl
              rotate_left
              · simp only [Act.put, List.setIfInBounds_toArray, List.set_cons_zero, List.set_cons_succ, i64_w, i32_w]
                rfl
              -- 7: Op.unOp UnOp.not 4 t141   [guarded: some (5, true)]
              refine pure_ (i := 7) (N := (some 142)) (v := ?_) (a' := ?_) #[true, true, true, true, true, true, true, true, false, false, false, false, false, false, false, false, false, false, false, false] rfl rfl (by kernel_rfl) (fun _ _ _ h => h) (Or.inl ⟨by rfl, ?_⟩) ?_ ?_
              rotate_left
              · intro w'
                go_simp
                with_reducible rfl
              rotate_left
              · simp only [Act.put, List.setIfInBounds_toArray, List.set_cons_zero, List.set_cons_succ, i64_w, i32_w]
                rfl
              -- 8: Op.move t142   [guarded: some (5, true)]
              refine pure_ (i := 8) (N := (some 143)) (v := ?_) (a' := ?_) #[true, true, true, true, true, true, true, true, true, false, false, false, false, false, false, false, false, false, false, false] rfl rfl (by kernel_rfl) (fun _ _ _ h => h) (Or.inl ⟨by rfl, ?_⟩) ?_ ?_
              rotate_left
              · intro w'
                go_simp
                with_reducible rfl
              rotate_left
              · simp only [Act.put, List.setIfInBounds_toArray, List.set_cons_zero, List.set_cons_succ, i64_w, i32_w]
                rfl
              -- 9: Op.load 28 t18   [guarded: some (8, false)]
              refine take_ (i := 9) (N := (some 144)) (v := undef) (a' := ?_) #[true, true, true, true, true, true, true, true, true, true, false, false, false, false, false, false, false, false, false, false] rfl rfl (by kernel_rfl) (fun _ _ _ h => h) (Or.inr ⟨by rfl, rfl⟩) hHeld ?_ ?_
              rotate_left
              · simp only [Act.put, List.setIfInBounds_toArray, List.set_cons_zero, List.set_cons_succ, i64_w, i32_w]
                rfl
              -- 10: Op.move t13   [guarded: some (8, false)]
              refine pure_ (i := 10) (N := (some 145)) (v := undef) (a' := ?_) #[true, true, true, true, true, true, true, true, true, true, true, false, false, false, false, false, false, false, false, false] rfl rfl (by kernel_rfl) (fun _ _ _ h => h) (Or.inr ⟨by rfl, rfl⟩) ?_ ?_
              rotate_left
              · simp only [Act.put, List.setIfInBounds_toArray, List.set_cons_zero, List.set_cons_succ, i64_w, i32_w]
                rfl
              -- 11: Op.indexAddr 22 t145 (const (0:i64))   [guarded: some (8, false)]
              refine pure_ (i := 11) (N := (some 146)) (v := undef) (a' := ?_) #[true, true, true, true, true, true, true, true, true, true, true, true, false, false, false, false, false, false, false, false] rfl rfl (by kernel_rfl) (fun _ _ _ h => h) (Or.inr ⟨by rfl, rfl⟩) ?_ ?_
              rotate_left
              · simp only [Act.put, List.setIfInBounds_toArray, List.set_cons_zero, List.set_cons_succ, i64_w, i32_w]
                rfl
              -- 12: Op.load 28 t146   [guarded: some (8, false)]
              refine take_ (i := 12) (N := (some 147)) (v := undef) (a' := ?_) #[true, true, true, true, true, true, true, true, true, true, true, true, true, false, false, false, false, false, false, false] rfl rfl (by kernel_rfl) (fun _ _ _ h => h) (Or.inr ⟨by rfl, rfl⟩) hHeld ?_ ?_
              rotate_left
              · simp only [Act.put, List.setIfInBounds_toArray, List.set_cons_zero, List.set_cons_succ, i64_w, i32_w]
                rfl
              -- 13: Op.binOp BinOp.eql 28 t144 t147 28   [guarded: some (8, false)]
              refine pure_ (i := 13) (N := (some 148)) (v := undef) (a' := ?_) #[true, true, true, true, true, true, true, true, true, true, true, true, true, true, false, false, false, false, false, false] rfl rfl (by kernel_rfl) (fun _ _ _ h => h) (Or.inr ⟨by rfl, rfl⟩) ?_ ?_
              rotate_left
              · simp only [Act.put, List.setIfInBounds_toArray, List.set_cons_zero, List.set_cons_succ, i64_w, i32_w]
                rfl
              -- 14: Op.pick t143 (const (Value.bool true)) t148   [guarded: some (5, true)]
              refine pure_ (i := 14) (N := (some 149)) (v := ?_) (a' := ?_) #[true, true, true, true, true, true, true, true, true, true, true, true, true, true, true, false, false, false, false, false] rfl rfl (by kernel_rfl) (fun _ _ _ h => h) (Or.inl ⟨by rfl, ?_⟩) ?_ ?_
              rotate_left
              · intro w'
                go_simp
                with_reducible rfl
              rotate_left
              · simp only [Act.put, List.setIfInBounds_toArray, List.set_cons_zero, List.set_cons_succ, i64_w, i32_w]
                rfl
              -- 15: Op.pick t140 t149 (const (Value.bool false))
              refine pure_ (i := 15) (N := (some 150)) (v := ?_) (a' := ?_) #[true, true, true, true, true, true, true, true, true, true, true, true, true, true, true, true, false, false, false, false] rfl rfl (by kernel_rfl) (fun _ _ _ h => h) (Or.inl ⟨by rfl, ?_⟩) ?_ ?_
              rotate_left
              · intro w'
                go_simp
                with_reducible rfl
              rotate_left
              · simp only [Act.put, List.setIfInBounds_toArray, List.set_cons_zero, List.set_cons_succ, i64_w, i32_w]
                rfl
              -- 16: Op.move t150
              refine pure_ (i := 16) (N := (some 151)) (v := ?_) (a' := ?_) #[true, true, true, true, true, true, true, true, true, true, true, true, true, true, true, true, true, false, false, false] rfl rfl (by kernel_rfl) (fun _ _ _ h => h) (Or.inl ⟨by rfl, ?_⟩) ?_ ?_
              rotate_left
              · intro w'
                go_simp
                with_reducible rfl
              rotate_left
              · simp only [Act.put, List.setIfInBounds_toArray, List.set_cons_zero, List.set_cons_succ, i64_w, i32_w]
                rfl
              -- 17: Op.call { value (Operand.func 20), args := #[], argTypes := #[] }   [guarded: some (16, true)]
              refine one_ (i := 17) (N := (some 152)) #[true, true, true, true, true, true, true, true, true, true, true, true, true, true, true, true, true, true, false, false] rfl rfl (by kernel_rfl) (by decide) (fun K hK => ?_)
              refine goes_ Try.func20 (by kernel_rfl) rfl #[] (by rfl) rfl rfl (by (try simp only [List.map_toArray, List.map_cons, List.map_nil]); first | done | rfl) ?_
              with_reducible refine (awake08_calls _).mono ?_
              rintro e wc ⟨rfl, hb⟩
              refine ⟨_, rfl, ?_⟩
              have hOld := hHeld
              clear hHeld
              refine hK.out _ _ (below_step hOld hb) (fun hHeld => ?_)
              clear hOld hK K
              refine norm_ (a' := ?_) ?_ ?_
              rotate_left
              · show Act.put _ (some 152) _ = _
                simp only [Act.put, List.setIfInBounds_toArray, List.set_cons_zero, List.set_cons_succ, i64_w, i32_w]
                rfl
              -- 18: Op.pick t151 t152 (const (Value.bool false))
              refine pure_ (i := 18) (N := (some 153)) (v := ?_) (a' := ?_) #[true, true, true, true, true, true, true, true, true, true, true, true, true, true, true, true, true, true, true, false] rfl rfl (by kernel_rfl) (fun _ _ _ h => h) (Or.inl ⟨by rfl, ?_⟩) ?_ ?_
              rotate_left
              · intro w'
                go_simp
                with_reducible rfl
              rotate_left
              · simp only [Act.put, List.setIfInBounds_toArray, List.set_cons_zero, List.set_cons_succ, i64_w, i32_w]
                rfl
              -- 19: Op.assign t153
              refine pure_ (i := 19) (N := (some 8)) (v := ?_) (a' := ?_) #[true, true, true, true, true, true, true, true, true, true, true, true, true, true, true, true, true, true, true, true] rfl rfl (by kernel_rfl) (fun _ _ _ h => h) (Or.inl ⟨by rfl, ?_⟩) ?_ ?_
              rotate_left
              · intro w'
                go_simp
                with_reducible rfl
              rotate_left
              · simp only [Act.put, List.setIfInBounds_toArray, List.set_cons_zero, List.set_cons_succ, i64_w, i32_w]
                rfl
              refine done_ (by kernel_rfl) ?_
              go_wp2_with fail
              go_ret
              exact ⟨rfl, hHeld⟩
            · obtain ⟨b, BR, hBn⟩ : ∃ b BR, B = b :: BR := by
                cases B with
                | nil => exact absurd rfl hB0
                | cons b BR => exact ⟨b, BR, rfl⟩
              have hsk := seek_one (key := key) (seq := seq) (rs := ra) (x := b) (R := BR) (by rw [← HLR.out, ← HBe.out]; exact hBn)
              have hB1 : 0 < B.length := by omega
              have g0 : decide ((B.length : Int) > 0) = true := decide_eq_true (by omega)
              have g1 : decide (0 < (B.length : Int)) = true := decide_eq_true (by omega)
              have g2 : decide (0 < B.length) = true := decide_eq_true hB1
              have g3 : (0 : Int) < (B.length : Int) := by omega
              go_wp2_with fail
              refine (seek_calls wr ga ra key seq SA.out (by have := HRA.out; omega)).mono ?_
              rw [hsk.1, hsk.2, show rowV b = .agg #[.string b.f0, .int .u64 b.f1, .int .i64 b.f2, .string b.f3] from rfl]
              rintro e w5' ⟨rfl, hb⟩
              have n0_ := Aside0.mk (below_step HB.out hb)
              have n1_ := Aside0.mk (Kd.C_below H2.out hb)
              clear HB SA HL H2 hb hsk
              have HB := n0_
              have H2 := n1_
              clear n0_ n1_
              go_wp2_with fail
              have n0_ := Aside0.mk (HB.out.alloc HB.out.size (.cells #[.string b.f0, .int .u64 b.f1, .int .i64 b.f2, .string b.f3] 28))
              have n1_ := Aside0.mk (Kd.C_below H2.out ((Below.refl w5'.heap.size w5').alloc (Nat.le_refl _) (.cells #[.string b.f0, .int .u64 b.f1, .int .i64 b.f2, .string b.f3] 28)))
              have BX := Aside0.mk (blk_new w5' (.cells #[.string b.f0, .int .u64 b.f1, .int .i64 b.f2, .string b.f3] 28))
              clear HB H2
              have HB := n0_
              have H2 := n1_
              clear n0_ n1_
              generalize w5'.heap.size = gx at *
              generalize w5'.alloc (.cells #[.string b.f0, .int .u64 b.f1, .int .i64 b.f2, .string b.f3] 28) = w7 at *
              obtain ⟨ad2, y, ea2, hyy, y0, y1, y2, y3⟩ := at_row H2.out 0 hB1
              cases ea2
              obtain rfl : y = b := by rw [← hyy, hBn]; rfl
              rw [show ad2.add (0 * 4) = ad2 from rfl] at y0 y1 y2 y3
              have b0 : w7.cell? ⟨gx, 0, none⟩ = some (.string y.f0) := (blk_cell BX.out 0).trans rfl
              have b1 : w7.cell? ⟨gx, 1, none⟩ = some (.int .u64 y.f1) := (blk_cell BX.out 1).trans rfl
              have b2 : w7.cell? ⟨gx, 2, none⟩ = some (.int .i64 y.f2) := (blk_cell BX.out 2).trans rfl
              have b3 : w7.cell? ⟨gx, 3, none⟩ = some (.string y.f3) := (blk_cell BX.out 3).trans rfl
              refine start_ (n := 20) (S := fun w' => Below w.heap.size w w' ∧ w'.cell? ⟨gx, 0, none⟩ = some (.string y.f0) ∧ w'.cell? ⟨gx, 1, none⟩ = some (.int .u64 y.f1) ∧ w'.cell? ⟨gx, 2, none⟩ = some (.int .i64 y.f2) ∧ w'.cell? ⟨gx, 3, none⟩ = some (.string y.f3) ∧ w'.cell? ad2 = some (.string y.f0) ∧ w'.cell? ⟨ad2.block, ad2.off + 1, none⟩ = some (.int .u64 y.f1) ∧ w'.cell? ⟨ad2.block, ad2.off + 2, none⟩ = some (.int .i64 y.f2) ∧ w'.cell? ⟨ad2.block, ad2.off + 3, none⟩ = some (.string y.f3)) (ds := []) #[false, false, false, false, false, false, false, false, false, false, false, false, false, false, false, false, false, false, false, false] (by kernel_rfl) rfl rfl ⟨pw_below_drewN HB.out 1, b0, b1, b2, b3, y0, y1, y2, y3⟩ (fun hHeld => ?_)
              -- 0: Op.move t19
              refine pure_ (i := 0) (N := (some 135)) (v := ?_) (a' := ?_) #[true, false, false, false, false, false, false, false, false, false, false, false, false, false, false, false, false, false, false, false] rfl rfl (by kernel_rfl) (fun _ _ _ h => h) (Or.inl ⟨by rfl, ?_⟩) ?_ ?_
              rotate_left
              · intro w'
                go_simp
                with_reducible rfl
              rotate_left
              · simp only [Act.put, List.setIfInBounds_toArray, List.set_cons_zero, List.set_cons_succ, i64_w, i32_w]
                rfl
              -- 1: Op.move t13
              refine pure_ (i := 1) (N := (some 136)) (v := ?_) (a' := ?_) #[true, true, false, false, false, false, false, false, false, false, false, false, false, false, false, false, false, false, false, false] rfl rfl (by kernel_rfl) (fun _ _ _ h => h) (Or.inl ⟨by rfl, ?_⟩) ?_ ?_
              rotate_left
              · intro w'
                go_simp
                with_reducible rfl
              rotate_left
              · simp only [Act.put, List.setIfInBounds_toArray, List.set_cons_zero, List.set_cons_succ, i64_w, i32_w]
                rfl
              -- 2: Op.call { builtin len, args := #[t136], argTypes := #[22] }
              refine pure_ (i := 2) (N := (some 137)) (v := ?_) (a' := ?_) #[true, true, true, false, false, false, false, false, false, false, false, false, false, false, false, false, false, false, false, false] rfl rfl (by kernel_rfl) (fun _ _ _ h => h) (Or.inl ⟨by rfl, ?_⟩) ?_ ?_
              rotate_left
              · intro w'
                go_simp
                with_reducible rfl
              rotate_left
              · simp only [Act.put, List.setIfInBounds_toArray, List.set_cons_zero, List.set_cons_succ, i64_w, i32_w]
                rfl
              -- 3: Op.binOp BinOp.gtr 3 t137 (const (0:i64)) 3
              refine pure_ (i := 3) (N := (some 138)) (v := ?_) (a' := ?_) #[true, true, true, true, false, false, false, false, false, false, false, false, false, false, false, false, false, false, false, false] rfl rfl (by kernel_rfl) (fun _ _ _ h => h) (Or.inl ⟨by rfl, ?_⟩) ?_ ?_
              rotate_left
              · intro w'
                go_simp
                with_reducible rfl
              rotate_left
              · simp only [Act.put, List.setIfInBounds_toArray, List.set_cons_zero, List.set_cons_succ, i64_w, i32_w]
                rfl
              -- 4: Op.binOp BinOp.eql 4 t135 t138 4
              refine pure_ (i := 4) (N := (some 139)) (v := ?_) (a' := ?_) #[true, true, true, true, true, false, false, false, false, false, false, false, false, false, false, false, false, false, false, false] rfl rfl (by kernel_rfl) (fun _ _ _ h => h) (Or.inl ⟨by rfl, ?_⟩) ?_ ?_
              rotate_left
              · intro w'
                go_simp
                with_reducible rfl
              rotate_left
              · simp only [Act.put, List.setIfInBounds_toArray, List.set_cons_zero, List.set_cons_succ, i64_w, i32_w]
                rfl
              -- 5: Op.move t139
              refine pure_ (i := 5) (N := (some 140)) (v := ?_) (a' := ?_) #[true, true, true, true, true, true, false, false, false, false, false, false, false, false, false, false, false, false, false, false] rfl rfl (by kernel_rfl) (fun _ _ _ h => h) (Or.inl ⟨by rfl, ?_⟩) ?_ ?_
              rotate_left
              · intro w'
                go_simp
                with_reducible rfl
              rotate_left
              · simp only [Act.put, List.setIfInBounds_toArray, List.set_cons_zero, List.set_cons_succ, i64_w, i32_w]
                rfl
              -- 6: Op.move t19   [guarded: some (5, true)]
              refine pure_ (i := 6) (N := (some 141)) (v := ?_) (a' := ?_) #[true, true, true, true, true, true, true, false, false, false, false, false, false, false, false, false, false, false, false, false] rfl rfl (by kernel_rfl) (fun _ _ _ h => h) (Or.inl ⟨by rfl, ?_⟩) ?_ ?_
              rotate_left
              · intro w'
                go_simp
                with_reducible rfl
              rotate_left
              · simp only [Act.put, List.setIfInBounds_toArray, List.set_cons_zero, List.set_cons_succ, i64_w, i32_w]
                rfl
              -- 7: Op.unOp UnOp.not 4 t141   [guarded: some (5, true)]
              refine pure_ (i := 7) (N := (some 142)) (v := ?_) (a' := ?_) #[true, true, true, true, true, true, true, true, false, false, false, false, false, false, false, false, false, false, false, false] rfl rfl (by kernel_rfl) (fun _ _ _ h => h) (Or.inl ⟨by rfl, ?_⟩) ?_ ?_
              rotate_left
              · intro w'
                go_simp
                with_reducible rfl
              rotate_left
              · simp only [Act.put, List.setIfInBounds_toArray, List.set_cons_zero, List.set_cons_succ, i64_w, i32_w]
                rfl
              -- 8: Op.move t142   [guarded: some (5, true)]
              refine pure_ (i := 8) (N := (some 143)) (v := ?_) (a' := ?_) #[true, true, true, true, true, true, true, true, true, false, false, false, false, false, false, false, false, false, false, false] rfl rfl (by kernel_rfl) (fun _ _ _ h => h) (Or.inl ⟨by rfl, ?_⟩) ?_ ?_
              rotate_left
              · intro w'
                go_simp
                with_reducible rfl
              rotate_left
              · simp only [Act.put, List.setIfInBounds_toArray, List.set_cons_zero, List.set_cons_succ, i64_w, i32_w]
                rfl
              -- 9: Op.load 28 t18   [guarded: some (8, false)]
              refine take_ (i := 9) (N := (some 144)) (v := ?_) (a' := ?_) #[true, true, true, true, true, true, true, true, true, true, false, false, false, false, false, false, false, false, false, false] rfl rfl (by kernel_rfl) (fun _ _ _ h => h) (Or.inl ⟨by rfl, ?_⟩) hHeld ?_ ?_
              rotate_left
              · rintro w' ⟨s0, s1, s2, s3, s4, s5, s6, s7, s8⟩
                go_simp
                with_reducible rfl
              rotate_left
              · simp only [Act.put, List.setIfInBounds_toArray, List.set_cons_zero, List.set_cons_succ, i64_w, i32_w]
                rfl
              -- 10: Op.move t13   [guarded: some (8, false)]
              refine pure_ (i := 10) (N := (some 145)) (v := ?_) (a' := ?_) #[true, true, true, true, true, true, true, true, true, true, true, false, false, false, false, false, false, false, false, false] rfl rfl (by kernel_rfl) (fun _ _ _ h => h) (Or.inl ⟨by rfl, ?_⟩) ?_ ?_
              rotate_left
              · intro w'
                go_simp
                with_reducible rfl
              rotate_left
              · simp only [Act.put, List.setIfInBounds_toArray, List.set_cons_zero, List.set_cons_succ, i64_w, i32_w]
                rfl
              -- 11: Op.indexAddr 22 t145 (const (0:i64))   [guarded: some (8, false)]
              refine pure_ (i := 11) (N := (some 146)) (v := ?_) (a' := ?_) #[true, true, true, true, true, true, true, true, true, true, true, true, false, false, false, false, false, false, false, false] rfl rfl (by kernel_rfl) (fun _ _ _ h => h) (Or.inl ⟨by rfl, ?_⟩) ?_ ?_
              rotate_left
              · intro w'
                go_simp
                with_reducible rfl
              rotate_left
              · simp only [Act.put, List.setIfInBounds_toArray, List.set_cons_zero, List.set_cons_succ, i64_w, i32_w]
                rfl
              -- 12: Op.load 28 t146   [guarded: some (8, false)]
              refine take_ (i := 12) (N := (some 147)) (v := ?_) (a' := ?_) #[true, true, true, true, true, true, true, true, true, true, true, true, true, false, false, false, false, false, false, false] rfl rfl (by kernel_rfl) (fun _ _ _ h => h) (Or.inl ⟨by rfl, ?_⟩) hHeld ?_ ?_
              rotate_left
              · rintro w' ⟨s0, s1, s2, s3, s4, s5, s6, s7, s8⟩
                go_simp
                with_reducible rfl
              rotate_left
              · simp only [Act.put, List.setIfInBounds_toArray, List.set_cons_zero, List.set_cons_succ, i64_w, i32_w]
                rfl
              -- 13: Op.binOp BinOp.eql 28 t144 t147 28   [guarded: some (8, false)]
              refine pure_ (i := 13) (N := (some 148)) (v := ?_) (a' := ?_) #[true, true, true, true, true, true, true, true, true, true, true, true, true, true, false, false, false, false, false, false] rfl rfl (by kernel_rfl) (fun _ _ _ h => h) (Or.inl ⟨by rfl, ?_⟩) ?_ ?_
              rotate_left
              · intro w'
                go_simp
                with_reducible rfl
              rotate_left
              · simp only [Act.put, List.setIfInBounds_toArray, List.set_cons_zero, List.set_cons_succ, i64_w, i32_w]
                rfl
              -- 14: Op.pick t143 (const (Value.bool true)) t148   [guarded: some (5, true)]
              refine pure_ (i := 14) (N := (some 149)) (v := ?_) (a' := ?_) #[true, true, true, true, true, true, true, true, true, true, true, true, true, true, true, false, false, false, false, false] rfl rfl (by kernel_rfl) (fun _ _ _ h => h) (Or.inl ⟨by rfl, ?_⟩) ?_ ?_
              rotate_left
              · intro w'
                go_simp
                with_reducible rfl
              rotate_left
              · simp only [Act.put, List.setIfInBounds_toArray, List.set_cons_zero, List.set_cons_succ, i64_w, i32_w]
                rfl
              -- 15: Op.pick t140 t149 (const (Value.bool false))
              refine pure_ (i := 15) (N := (some 150)) (v := ?_) (a' := ?_) #[true, true, true, true, true, true, true, true, true, true, true, true, true, true, true, true, false, false, false, false] rfl rfl (by kernel_rfl) (fun _ _ _ h => h) (Or.inl ⟨by rfl, ?_⟩) ?_ ?_
              rotate_left
              · intro w'
                go_simp
                with_reducible rfl
              rotate_left
              · simp only [Act.put, List.setIfInBounds_toArray, List.set_cons_zero, List.set_cons_succ, i64_w, i32_w]
                rfl
              -- 16: Op.move t150
              refine pure_ (i := 16) (N := (some 151)) (v := ?_) (a' := ?_) #[true, true, true, true, true, true, true, true, true, true, true, true, true, true, true, true, true, false, false, false] rfl rfl (by kernel_rfl) (fun _ _ _ h => h) (Or.inl ⟨by rfl, ?_⟩) ?_ ?_
              rotate_left
              · intro w'
                go_simp
                with_reducible rfl
              rotate_left
              · simp only [Act.put, List.setIfInBounds_toArray, List.set_cons_zero, List.set_cons_succ, i64_w, i32_w]
                rfl
              -- 17: Op.call { value (Operand.func 20), args := #[], argTypes := #[] }   [guarded: some (16, true)]
              refine one_ (i := 17) (N := (some 152)) #[true, true, true, true, true, true, true, true, true, true, true, true, true, true, true, true, true, true, false, false] rfl rfl (by kernel_rfl) (by decide) (fun K hK => ?_)
              refine goes_ Try.func20 (by kernel_rfl) rfl #[] (by rfl) rfl rfl (by (try simp only [List.map_toArray, List.map_cons, List.map_nil]); first | done | rfl) ?_
              with_reducible refine (awake08_calls _).mono ?_
              rintro e wc ⟨rfl, hb⟩
              refine ⟨_, rfl, ?_⟩
              have hOld := hHeld
              clear hHeld
              refine hK.out _ _ (⟨below_step hOld.1 hb, (hb.cell (World.block_lt_of_cell? _ _ hOld.2.1)).trans hOld.2.1, (hb.cell (World.block_lt_of_cell? _ _ hOld.2.2.1)).trans hOld.2.2.1, (hb.cell (World.block_lt_of_cell? _ _ hOld.2.2.2.1)).trans hOld.2.2.2.1, (hb.cell (World.block_lt_of_cell? _ _ hOld.2.2.2.2.1)).trans hOld.2.2.2.2.1, (hb.cell (World.block_lt_of_cell? _ _ hOld.2.2.2.2.2.1)).trans hOld.2.2.2.2.2.1, (hb.cell (World.block_lt_of_cell? _ _ hOld.2.2.2.2.2.2.1)).trans hOld.2.2.2.2.2.2.1, (hb.cell (World.block_lt_of_cell? _ _ hOld.2.2.2.2.2.2.2.1)).trans hOld.2.2.2.2.2.2.2.1, (hb.cell (World.block_lt_of_cell? _ _ hOld.2.2.2.2.2.2.2.2)).trans hOld.2.2.2.2.2.2.2.2⟩) (fun hHeld => ?_)
              clear hOld hK K
              refine norm_ (a' := ?_) ?_ ?_
              rotate_left
              · show Act.put _ (some 152) _ = _
                simp only [Act.put, List.setIfInBounds_toArray, List.set_cons_zero, List.set_cons_succ, i64_w, i32_w]
                rfl
              -- 18: Op.pick t151 t152 (const (Value.bool false))
              refine pure_ (i := 18) (N := (some 153)) (v := ?_) (a' := ?_) #[true, true, true, true, true, true, true, true, true, true, true, true, true, true, true, true, true, true, true, false] rfl rfl (by kernel_rfl) (fun _ _ _ h => h) (Or.inl ⟨by rfl, ?_⟩) ?_ ?_
              rotate_left
              · intro w'
                go_simp
                with_reducible rfl
              rotate_left
              · simp only [Act.put, List.setIfInBounds_toArray, List.set_cons_zero, List.set_cons_succ, i64_w, i32_w]
                rfl
              -- 19: Op.assign t153
              refine pure_ (i := 19) (N := (some 8)) (v := ?_) (a' := ?_) #[true, true, true, true, true, true, true, true, true, true, true, true, true, true, true, true, true, true, true, true] rfl rfl (by kernel_rfl) (fun _ _ _ h => h) (Or.inl ⟨by rfl, ?_⟩) ?_ ?_
              rotate_left
              · intro w'
                go_simp
                with_reducible rfl
              rotate_left
              · simp only [Act.put, List.setIfInBounds_toArray, List.set_cons_zero, List.set_cons_succ, i64_w, i32_w]
                rfl
              refine done_ (by kernel_rfl) ?_
              go_wp2_with fail
              go_ret
              exact ⟨rfl, hHeld.1⟩
          | succ q =>
            have hi : i < L.length := by have := HK.out; omega
            have d0 : decide ((i : Int) < (L.length : Int)) = true := decide_eq_true (by omega)
            have d1 : decide (i < L.length) = true := decide_eq_true hi
            have p0 : 0 ≤ (i : Int) := Int.natCast_nonneg _
            have p1 : (i : Int) < (L.length : Int) := Int.ofNat_lt.mpr hi
            have wi2 : True → IntKind.i64.wrap (i : Int) = (i : Int) := fun _ => by have := HM.out; rw [IntKind.wrap_i64]; omega
            have hah := at_ahd (key := key) (seq := seq) HS.out hi
            rw [← HN.out] at hah
            have hop := own_place HS.out hi
            obtain ⟨ad, x, ea, hxx, hx0, hx1, hx2, hx3⟩ := at_row HL.out i hi
            cases ea
            rw [hxx] at hah hop
            have HOP := Aside0.mk hop
            have HXX := Aside0.mk hxx
            clear hop hxx
            have HX0 := Aside0.mk hx0
            have HX1 := Aside0.mk hx1
            have HX2 := Aside0.mk hx2
            have HX3 := Aside0.mk hx3
            rcases ahead_parts hah with ⟨qb, q1⟩ | ⟨qb, q1, q2, q3, q4⟩ | ⟨qb, q1, q2⟩ | ⟨qb, q1, q2, q3, q4⟩
            all_goals have hin := qb
            all_goals clear hah qb
            · have hin2 : decide ((i : Int) < (n : Int)) = true := decide_eq_true (by have := of_decide_eq_true hin; omega)
              go_wp2_with fail
              refine start_ (n := 18) (S := fun w' => w'.cell? (ad.add (i * 4)) = some (.string x.f0) ∧ w'.cell? ⟨(ad.add (i * 4)).block, (ad.add (i * 4)).off + 1, none⟩ = some (.int .u64 x.f1)) (ds := [16]) #[false, false, false, false, false, false, false, false, false, false, false, false, false, false, false, false, false, false] (by kernel_rfl) rfl rfl ⟨hx0, hx1⟩ (fun hHeld => ?_)
              have n0_ := Aside0.mk (below_step HB.out (pw_below_drewN (Below.refl _ _) 1))
              have n1_ := Aside0.mk (SA.out.below (pw_below_drewN (Below.refl _ _) 1))
              have n2_ := Aside0.mk (Kd.C_below HL.out (pw_below_drewN (Below.refl _ _) 1))
              have n3_ := Aside0.mk (Kd.C_below H2.out (pw_below_drewN (Below.refl _ _) 1))
              replace n0_ : Aside0 (Below w.heap.size w wr.drew) := n0_
              replace n1_ : Aside0 (Sk wr.drew ga ra) := n1_
              replace n2_ : Aside0 (Kd.C k28 wr.drew (some ad) L.length L) := n2_
              replace n3_ : Aside0 (Kd.C k28 wr.drew A2 B.length B) := n3_
              clear HB SA HL H2 hx0 hx1 hx2 hx3 HX0 HX1 HX2 HX3
              generalize wr.drew = wd at *
              have HB := n0_
              have SA := n1_
              have HL := n2_
              have H2 := n3_
              clear n0_ n1_ n2_ n3_
              -- 0: Op.move t9
              refine pure_ (i := 0) (N := (some 104)) (v := ?_) (a' := ?_) #[true, false, false, false, false, false, false, false, false, false, false, false, false, false, false, false, false, false] rfl rfl (by kernel_rfl) (fun _ _ _ h => h) (Or.inl ⟨by rfl, ?_⟩) ?_ ?_
              rotate_left
              · intro w'
                go_simp
                with_reducible rfl
              rotate_left
              · simp only [Act.put, List.setIfInBounds_toArray, List.set_cons_zero, List.set_cons_succ, i64_w, i32_w]
                rfl
              -- 1: Op.move t12
              refine pure_ (i := 1) (N := (some 105)) (v := ?_) (a' := ?_) #[true, true, false, false, false, false, false, false, false, false, false, false, false, false, false, false, false, false] rfl rfl (by kernel_rfl) (fun _ _ _ h => h) (Or.inl ⟨by rfl, ?_⟩) ?_ ?_
              rotate_left
              · intro w'
                go_simp
                with_reducible rfl
              rotate_left
              · simp only [Act.put, List.setIfInBounds_toArray, List.set_cons_zero, List.set_cons_succ, i64_w, i32_w]
                rfl
              -- 2: Op.move t15
              refine pure_ (i := 2) (N := (some 106)) (v := ?_) (a' := ?_) #[true, true, true, false, false, false, false, false, false, false, false, false, false, false, false, false, false, false] rfl rfl (by kernel_rfl) (fun _ _ _ h => h) (Or.inl ⟨by rfl, ?_⟩) ?_ ?_
              rotate_left
              · intro w'
                go_simp
                with_reducible rfl
              rotate_left
              · simp only [Act.put, List.setIfInBounds_toArray, List.set_cons_zero, List.set_cons_succ, i64_w, i32_w]
                rfl
              -- 3: Op.indexAddr 22 t105 t106
              refine pure_ (i := 3) (N := (some 107)) (v := ?_) (a' := ?_) #[true, true, true, true, false, false, false, false, false, false, false, false, false, false, false, false, false, false] rfl rfl (by kernel_rfl) (fun _ _ _ h => h) (Or.inl ⟨by rfl, ?_⟩) ?_ ?_
              rotate_left
              · intro w'
                go_simp
                with_reducible rfl
              rotate_left
              · simp only [Act.put, List.setIfInBounds_toArray, List.set_cons_zero, List.set_cons_succ, i64_w, i32_w]
                rfl
              -- 4: Op.fieldAddr 28 t107 0
              refine pure_ (i := 4) (N := (some 108)) (v := ?_) (a' := ?_) #[true, true, true, true, true, false, false, false, false, false, false, false, false, false, false, false, false, false] rfl rfl (by kernel_rfl) (fun _ _ _ h => h) (Or.inl ⟨by rfl, ?_⟩) ?_ ?_
              rotate_left
              · intro w'
                go_simp
                with_reducible rfl
              rotate_left
              · simp only [Act.put, List.setIfInBounds_toArray, List.set_cons_zero, List.set_cons_succ, i64_w, i32_w]
                rfl
              -- 5: Op.load 9 t108
              refine take_ (i := 5) (N := (some 109)) (v := ?_) (a' := ?_) #[true, true, true, true, true, true, false, false, false, false, false, false, false, false, false, false, false, false] rfl rfl (by kernel_rfl) (fun _ _ _ h => h) (Or.inl ⟨by rfl, ?_⟩) hHeld ?_ ?_
              rotate_left
              · rintro w' ⟨s0, s1⟩
                go_simp
                with_reducible rfl
              rotate_left
              · simp only [Act.put, List.setIfInBounds_toArray, List.set_cons_zero, List.set_cons_succ, i64_w, i32_w]
                rfl
              -- 6: Op.move t12
              refine pure_ (i := 6) (N := (some 110)) (v := ?_) (a' := ?_) #[true, true, true, true, true, true, true, false, false, false, false, false, false, false, false, false, false, false] rfl rfl (by kernel_rfl) (fun _ _ _ h => h) (Or.inl ⟨by rfl, ?_⟩) ?_ ?_
              rotate_left
              · intro w'
                go_simp
                with_reducible rfl
              rotate_left
              · simp only [Act.put, List.setIfInBounds_toArray, List.set_cons_zero, List.set_cons_succ, i64_w, i32_w]
                rfl
              -- 7: Op.move t15
              refine pure_ (i := 7) (N := (some 111)) (v := ?_) (a' := ?_) #[true, true, true, true, true, true, true, true, false, false, false, false, false, false, false, false, false, false] rfl rfl (by kernel_rfl) (fun _ _ _ h => h) (Or.inl ⟨by rfl, ?_⟩) ?_ ?_
              rotate_left
              · intro w'
                go_simp
                with_reducible rfl
              rotate_left
              · simp only [Act.put, List.setIfInBounds_toArray, List.set_cons_zero, List.set_cons_succ, i64_w, i32_w]
                rfl
              -- 8: Op.indexAddr 22 t110 t111
              refine pure_ (i := 8) (N := (some 112)) (v := ?_) (a' := ?_) #[true, true, true, true, true, true, true, true, true, false, false, false, false, false, false, false, false, false] rfl rfl (by kernel_rfl) (fun _ _ _ h => h) (Or.inl ⟨by rfl, ?_⟩) ?_ ?_
              rotate_left
              · intro w'
                go_simp
                with_reducible rfl
              rotate_left
              · simp only [Act.put, List.setIfInBounds_toArray, List.set_cons_zero, List.set_cons_succ, i64_w, i32_w]
                rfl
              -- 9: Op.fieldAddr 28 t112 1
              refine pure_ (i := 9) (N := (some 113)) (v := ?_) (a' := ?_) #[true, true, true, true, true, true, true, true, true, true, false, false, false, false, false, false, false, false] rfl rfl (by kernel_rfl) (fun _ _ _ h => h) (Or.inl ⟨by rfl, ?_⟩) ?_ ?_
              rotate_left
              · intro w'
                go_simp
                with_reducible rfl
              rotate_left
              · simp only [Act.put, List.setIfInBounds_toArray, List.set_cons_zero, List.set_cons_succ, i64_w, i32_w]
                rfl
              -- 10: Op.load 24 t113
              refine take_ (i := 10) (N := (some 114)) (v := ?_) (a' := ?_) #[true, true, true, true, true, true, true, true, true, true, true, false, false, false, false, false, false, false] rfl rfl (by kernel_rfl) (fun _ _ _ h => h) (Or.inl ⟨by rfl, ?_⟩) hHeld ?_ ?_
              rotate_left
              · rintro w' ⟨s0, s1⟩
                go_simp
                with_reducible rfl
              rotate_left
              · simp only [Act.put, List.setIfInBounds_toArray, List.set_cons_zero, List.set_cons_succ, i64_w, i32_w]
                rfl
              refine join_ (σ := Nat) 2 #[true, true, true, true, true, true, true, true, true, true, true, true, true, true, true, true, false, false] (fun gx : Nat => [(16, .pointer (some ⟨gx, 0, none⟩)), (115, .tuple #[rowV x, .bool true]), (103, .tuple #[rowV x, .bool true]), (116, rowV x), (117, .bool true)]) (fun gx w' => Below wd.heap.size wd w' ∧ w'.heap[gx]? = some (.cells #[.string ⟨#[]⟩, .int .u64 0, .int .i64 0, .string ⟨#[]⟩] 28 (0, 0)) ∧ wd.heap.size ≤ gx) ?_ (fun hcont => ?_)
              rotate_left
              · have hsk : seekRow x.f0 x.f1 ra = x ∧ seekOk x.f0 x.f1 ra = true := seek_one (by rw [← HLR.out]; exact HOP.out)
                refine two_ (i := 11) (j := 15) (Ni := (some 115)) (Nj := (some 16)) #[true, true, true, true, true, true, true, true, true, true, true, true, false, false, false, false, false, false] #[true, true, true, true, true, true, true, true, true, true, true, false, false, false, false, true, false, false] rfl rfl rfl rfl (by kernel_rfl) (by decide) (by decide) (fun K hK => ?_) (fun K hK => ?_)
                · refine goes_ Try.func27 (by kernel_rfl) rfl #[.pointer (some ⟨ga, 0, none⟩), .string x.f0, .int .u64 x.f1] (by rfl) rfl rfl (by (try simp only [List.map_toArray, List.map_cons, List.map_nil]); first | done | rfl) ?_
                  with_reducible refine (seek_calls wd ga ra x.f0 x.f1 SA.out (by have := HRA.out; omega)).mono ?_
                  rw [hsk.1, hsk.2]
                  rintro e wc ⟨rfl, hb⟩
                  refine ⟨_, rfl, ?_⟩
                  have hOld := hHeld
                  clear hHeld
                  refine hK.out _ _ (⟨(hb.cell (World.block_lt_of_cell? _ _ hOld.1)).trans hOld.1, (hb.cell (World.block_lt_of_cell? _ _ hOld.2)).trans hOld.2⟩) (fun hHeld => ?_)
                  clear hOld hK K
                  refine norm_ (a' := ?_) ?_ ?_
                  rotate_left
                  · show Act.put _ (some 115) _ = _
                    simp only [Act.put, List.setIfInBounds_toArray, List.set_cons_zero, List.set_cons_succ, i64_w, i32_w]
                    rfl
                  -- 12: Op.move t115
                  refine pure_ (i := 12) (N := (some 103)) (v := ?_) (a' := ?_) #[true, true, true, true, true, true, true, true, true, true, true, true, true, false, false, false, false, false] rfl rfl (by kernel_rfl) (fun _ _ _ h => h) (Or.inl ⟨by rfl, ?_⟩) ?_ ?_
                  rotate_left
                  · intro w'
                    go_simp
                    with_reducible rfl
                  rotate_left
                  · simp only [Act.put, List.setIfInBounds_toArray, List.set_cons_zero, List.set_cons_succ, i64_w, i32_w]
                    rfl
                  -- 13: Op.extract t103 0
                  refine pure_ (i := 13) (N := (some 116)) (v := ?_) (a' := ?_) #[true, true, true, true, true, true, true, true, true, true, true, true, true, true, false, false, false, false] rfl rfl (by kernel_rfl) (fun _ _ _ h => h) (Or.inl ⟨by rfl, ?_⟩) ?_ ?_
                  rotate_left
                  · intro w'
                    go_simp
                    with_reducible rfl
                  rotate_left
                  · simp only [Act.put, List.setIfInBounds_toArray, List.set_cons_zero, List.set_cons_succ, i64_w, i32_w]
                    rfl
                  -- 14: Op.extract t103 1
                  refine pure_ (i := 14) (N := (some 117)) (v := ?_) (a' := ?_) #[true, true, true, true, true, true, true, true, true, true, true, true, true, true, true, false, false, false] rfl rfl (by kernel_rfl) (fun _ _ _ h => h) (Or.inl ⟨by rfl, ?_⟩) ?_ ?_
                  rotate_left
                  · intro w'
                    go_simp
                    with_reducible rfl
                  rotate_left
                  · simp only [Act.put, List.setIfInBounds_toArray, List.set_cons_zero, List.set_cons_succ, i64_w, i32_w]
                    rfl
                  -- 15: Op.alloc 28
                  refine one_ (i := 15) (N := (some 16)) #[true, true, true, true, true, true, true, true, true, true, true, true, true, true, true, true, false, false] rfl rfl (by kernel_rfl) (by decide) (fun K hK => ?_)
                  refine value_ (w1 := wc.alloc (.cells #[.string ⟨#[]⟩, .int .u64 0, .int .i64 0, .string ⟨#[]⟩] 28)) (v := .pointer (some ⟨wc.heap.size, 0, none⟩)) (by rfl) rfl (by go_simp) ?_
                  have hb2 := (Below.refl wc.heap.size wc).alloc (Nat.le_refl _) (.cells #[.string ⟨#[]⟩, .int .u64 0, .int .i64 0, .string ⟨#[]⟩] 28)
                  have hOld := hHeld
                  clear hHeld
                  refine hK.out _ _ (⟨(hb2.cell (World.block_lt_of_cell? _ _ hOld.1)).trans hOld.1, (hb2.cell (World.block_lt_of_cell? _ _ hOld.2)).trans hOld.2⟩) (fun hHeld => ?_)
                  clear hOld hK K
                  refine norm_ (a' := ?_) ?_ ?_
                  rotate_left
                  · show Act.put _ (some 16) _ = _
                    simp only [Act.put, List.setIfInBounds_toArray, List.set_cons_zero, List.set_cons_succ, i64_w, i32_w]
                    rfl
                  exact hcont wc.heap.size _ ⟨below_step hb hb2, blk_new wc _, hb.size⟩
                · refine value_ (w1 := wd.alloc (.cells #[.string ⟨#[]⟩, .int .u64 0, .int .i64 0, .string ⟨#[]⟩] 28)) (v := .pointer (some ⟨wd.heap.size, 0, none⟩)) (by rfl) rfl (by go_simp) ?_
                  have hb2 := (Below.refl wd.heap.size wd).alloc (Nat.le_refl _) (.cells #[.string ⟨#[]⟩, .int .u64 0, .int .i64 0, .string ⟨#[]⟩] 28)
                  have hOld := hHeld
                  clear hHeld
                  refine hK.out _ _ (⟨(hb2.cell (World.block_lt_of_cell? _ _ hOld.1)).trans hOld.1, (hb2.cell (World.block_lt_of_cell? _ _ hOld.2)).trans hOld.2⟩) (fun hHeld => ?_)
                  clear hOld hK K
                  refine norm_ (a' := ?_) ?_ ?_
                  rotate_left
                  · show Act.put _ (some 16) _ = _
                    simp only [Act.put, List.setIfInBounds_toArray, List.set_cons_zero, List.set_cons_succ, i64_w, i32_w]
                    rfl
                  -- 11: Op.call { value (Operand.func 27), args := #[t104, t109, t114], argTypes := #[26, 9, 24] }
                  refine one_ (i := 11) (N := (some 115)) #[true, true, true, true, true, true, true, true, true, true, true, true, false, false, false, true, false, false] rfl rfl (by kernel_rfl) (by decide) (fun K hK => ?_)
                  refine goes_ Try.func27 (by kernel_rfl) rfl #[.pointer (some ⟨ga, 0, none⟩), .string x.f0, .int .u64 x.f1] (by rfl) rfl rfl (by (try simp only [List.map_toArray, List.map_cons, List.map_nil]); first | done | rfl) ?_
                  with_reducible refine (seek_calls _ ga ra x.f0 x.f1 (SA.out.below hb2) (by have := HRA.out; omega)).mono ?_
                  rw [hsk.1, hsk.2]
                  rintro e wc ⟨rfl, hb⟩
                  refine ⟨_, rfl, ?_⟩
                  have hOld := hHeld
                  clear hHeld
                  refine hK.out _ _ (⟨(hb.cell (World.block_lt_of_cell? _ _ hOld.1)).trans hOld.1, (hb.cell (World.block_lt_of_cell? _ _ hOld.2)).trans hOld.2⟩) (fun hHeld => ?_)
                  clear hOld hK K
                  refine norm_ (a' := ?_) ?_ ?_
                  rotate_left
                  · show Act.put _ (some 115) _ = _
                    simp only [Act.put, List.setIfInBounds_toArray, List.set_cons_zero, List.set_cons_succ, i64_w, i32_w]
                    rfl
                  -- 12: Op.move t115
                  refine pure_ (i := 12) (N := (some 103)) (v := ?_) (a' := ?_) #[true, true, true, true, true, true, true, true, true, true, true, true, true, false, false, true, false, false] rfl rfl (by kernel_rfl) (fun _ _ _ h => h) (Or.inl ⟨by rfl, ?_⟩) ?_ ?_
                  rotate_left
                  · intro w'
                    go_simp
                    with_reducible rfl
                  rotate_left
                  · simp only [Act.put, List.setIfInBounds_toArray, List.set_cons_zero, List.set_cons_succ, i64_w, i32_w]
                    rfl
                  -- 13: Op.extract t103 0
                  refine pure_ (i := 13) (N := (some 116)) (v := ?_) (a' := ?_) #[true, true, true, true, true, true, true, true, true, true, true, true, true, true, false, true, false, false] rfl rfl (by kernel_rfl) (fun _ _ _ h => h) (Or.inl ⟨by rfl, ?_⟩) ?_ ?_
                  rotate_left
                  · intro w'
                    go_simp
                    with_reducible rfl
                  rotate_left
                  · simp only [Act.put, List.setIfInBounds_toArray, List.set_cons_zero, List.set_cons_succ, i64_w, i32_w]
                    rfl
                  -- 14: Op.extract t103 1
                  refine pure_ (i := 14) (N := (some 117)) (v := ?_) (a' := ?_) #[true, true, true, true, true, true, true, true, true, true, true, true, true, true, true, true, false, false] rfl rfl (by kernel_rfl) (fun _ _ _ h => h) (Or.inl ⟨by rfl, ?_⟩) ?_ ?_
                  rotate_left
                  · intro w'
                    go_simp
                    with_reducible rfl
                  rotate_left
                  · simp only [Act.put, List.setIfInBounds_toArray, List.set_cons_zero, List.set_cons_succ, i64_w, i32_w]
                    rfl
                  exact hcont wd.heap.size _ ⟨below_step hb2 hb, blk_below (blk_new wd _) hb, Nat.le_refl _⟩
              intro gx wj hF
              obtain ⟨hbj, hbx, hgx⟩ := hF
              clear hHeld
              refine norm_ (a' := ?_) ?_ ?_
              rotate_left
              · show putAll _ [_, _, _, _, _] = _
                simp only [putAll, Act.put, List.setIfInBounds_toArray, List.set_cons_zero, List.set_cons_succ]
                rfl
              have hHeld := True.intro
              -- 16: Op.store 28 t16 t116
              refine last_ (i := 16) (N := none) #[true, true, true, true, true, true, true, true, true, true, true, true, true, true, true, true, true, false] rfl rfl (by kernel_rfl) (by decide) (fun K hK => ?_)
              refine store_ (by rfl) rfl 28 (.tmp 16) (.tmp 116) rfl gx 28 rfl #[.string x.f0, .int .u64 x.f1, .int .i64 x.f2, .string x.f3] rfl _ hbx size28 rfl (by first | rfl | kernel_rfl | decide) ?_
              intro w7 h7 h7b h7o h7s
              clear hHeld
              refine hK.out _ _ ?_
              clear hK K
              -- 17: Op.assign t117
              refine pure_ (i := 17) (N := (some 17)) (v := ?_) (a' := ?_) #[true, true, true, true, true, true, true, true, true, true, true, true, true, true, true, true, true, true] rfl rfl (by kernel_rfl) (fun _ _ _ h => h) (Or.inl ⟨by rfl, ?_⟩) ?_ ?_
              rotate_left
              · intro w'
                go_simp
                with_reducible rfl
              rotate_left
              · simp only [Act.put, List.setIfInBounds_toArray, List.set_cons_zero, List.set_cons_succ, i64_w, i32_w]
                rfl
              refine done_ (by kernel_rfl) ?_
              have n0_ := Aside0.mk (h7b w.heap.size w (below_step HB.out hbj) (Nat.le_trans (below_size HB.out) hgx))
              have n1_ := Aside0.mk (h7b wd.heap.size wd hbj hgx)
              have BX := Aside0.mk h7
              have SA7 := Aside0.mk (SA.out.below n1_.out)
              have HL7 := Aside0.mk (Kd.C_below HL.out n1_.out)
              have H27 := Aside0.mk (Kd.C_below H2.out n1_.out)
              clear hbj hbx hgx h7 h7b h7o h7s SA HL H2 HB n1_
              have SA := SA7
              have HL := HL7
              have H2 := H27
              have HB := n0_
              clear SA7 HL7 H27 n0_
              obtain ⟨ad', y, ea', hyy, hx0, hx1, hx2, hx3⟩ := at_row HL.out i hi
              cases ea'
              obtain rfl := hyy.symm.trans HXX.out
              clear hyy
              have b0 : w7.cell? ⟨gx, 0, none⟩ = some (.string y.f0) := (blk_cell BX.out 0).trans rfl
              have b1 : w7.cell? ⟨gx, 1, none⟩ = some (.int .u64 y.f1) := (blk_cell BX.out 1).trans rfl
              have b2 : w7.cell? ⟨gx, 2, none⟩ = some (.int .i64 y.f2) := (blk_cell BX.out 2).trans rfl
              have b3 : w7.cell? ⟨gx, 3, none⟩ = some (.string y.f3) := (blk_cell BX.out 3).trans rfl
              go_wp2_with fail
              go_quiet (fail)
              go_wp2_with fail
              have hi100 := HM.out
              have ew : wrap64 ((i : Int) + 1) = ((i + 1 : Nat) : Int) := by unfold wrap64; omega
              try rw [ew]
              go_roundg q
              case measure => omega
              case rel => exact ⟨i + 1, rfl, ⟨by have := HK.out; omega⟩, ⟨SA.out.below (pw_below_drewN (Below.refl _ _) nq)⟩, ⟨Kd.C_below HL.out (pw_below_drewN (Below.refl _ _) nq)⟩, ⟨Kd.C_below H2.out (pw_below_drewN (Below.refl _ _) nq)⟩, ⟨pw_below_drewN HB.out nq⟩⟩
            · have hin2 : decide ((i : Int) < (n : Int)) = true := decide_eq_true (by have := of_decide_eq_true hin; omega)
              go_wp2_with fail
              refine start_ (n := 18) (S := fun w' => w'.cell? (ad.add (i * 4)) = some (.string x.f0) ∧ w'.cell? ⟨(ad.add (i * 4)).block, (ad.add (i * 4)).off + 1, none⟩ = some (.int .u64 x.f1)) (ds := [16]) #[false, false, false, false, false, false, false, false, false, false, false, false, false, false, false, false, false, false] (by kernel_rfl) rfl rfl ⟨hx0, hx1⟩ (fun hHeld => ?_)
              have n0_ := Aside0.mk (below_step HB.out (pw_below_drewN (Below.refl _ _) 1))
              have n1_ := Aside0.mk (SA.out.below (pw_below_drewN (Below.refl _ _) 1))
              have n2_ := Aside0.mk (Kd.C_below HL.out (pw_below_drewN (Below.refl _ _) 1))
              have n3_ := Aside0.mk (Kd.C_below H2.out (pw_below_drewN (Below.refl _ _) 1))
              replace n0_ : Aside0 (Below w.heap.size w wr.drew) := n0_
              replace n1_ : Aside0 (Sk wr.drew ga ra) := n1_
              replace n2_ : Aside0 (Kd.C k28 wr.drew (some ad) L.length L) := n2_
              replace n3_ : Aside0 (Kd.C k28 wr.drew A2 B.length B) := n3_
              clear HB SA HL H2 hx0 hx1 hx2 hx3 HX0 HX1 HX2 HX3
              generalize wr.drew = wd at *
              have HB := n0_
              have SA := n1_
              have HL := n2_
              have H2 := n3_
              clear n0_ n1_ n2_ n3_
              -- 0: Op.move t9
              refine pure_ (i := 0) (N := (some 104)) (v := ?_) (a' := ?_) #[true, false, false, false, false, false, false, false, false, false, false, false, false, false, false, false, false, false] rfl rfl (by kernel_rfl) (fun _ _ _ h => h) (Or.inl ⟨by rfl, ?_⟩) ?_ ?_
              rotate_left
              · intro w'
                go_simp
                with_reducible rfl
              rotate_left
              · simp only [Act.put, List.setIfInBounds_toArray, List.set_cons_zero, List.set_cons_succ, i64_w, i32_w]
                rfl
              -- 1: Op.move t12
              refine pure_ (i := 1) (N := (some 105)) (v := ?_) (a' := ?_) #[true, true, false, false, false, false, false, false, false, false, false, false, false, false, false, false, false, false] rfl rfl (by kernel_rfl) (fun _ _ _ h => h) (Or.inl ⟨by rfl, ?_⟩) ?_ ?_
              rotate_left
              · intro w'
                go_simp
                with_reducible rfl
              rotate_left
              · simp only [Act.put, List.setIfInBounds_toArray, List.set_cons_zero, List.set_cons_succ, i64_w, i32_w]
                rfl
              -- 2: Op.move t15
              refine pure_ (i := 2) (N := (some 106)) (v := ?_) (a' := ?_) #[true, true, true, false, false, false, false, false, false, false, false, false, false, false, false, false, false, false] rfl rfl (by kernel_rfl) (fun _ _ _ h => h) (Or.inl ⟨by rfl, ?_⟩) ?_ ?_
              rotate_left
              · intro w'
                go_simp
                with_reducible rfl
              rotate_left
              · simp only [Act.put, List.setIfInBounds_toArray, List.set_cons_zero, List.set_cons_succ, i64_w, i32_w]
                rfl
              -- 3: Op.indexAddr 22 t105 t106
              refine pure_ (i := 3) (N := (some 107)) (v := ?_) (a' := ?_) #[true, true, true, true, false, false, false, false, false, false, false, false, false, false, false, false, false, false] rfl rfl (by kernel_rfl) (fun _ _ _ h => h) (Or.inl ⟨by rfl, ?_⟩) ?_ ?_
              rotate_left
              · intro w'
                go_simp
                with_reducible rfl
              rotate_left
              · simp only [Act.put, List.setIfInBounds_toArray, List.set_cons_zero, List.set_cons_succ, i64_w, i32_w]
                rfl
              -- 4: Op.fieldAddr 28 t107 0
              refine pure_ (i := 4) (N := (some 108)) (v := ?_) (a' := ?_) #[true, true, true, true, true, false, false, false, false, false, false, false, false, false, false, false, false, false] rfl rfl (by kernel_rfl) (fun _ _ _ h => h) (Or.inl ⟨by rfl, ?_⟩) ?_ ?_
              rotate_left
              · intro w'
                go_simp
                with_reducible rfl
              rotate_left
              · simp only [Act.put, List.setIfInBounds_toArray, List.set_cons_zero, List.set_cons_succ, i64_w, i32_w]
                rfl
              -- 5: Op.load 9 t108
              refine take_ (i := 5) (N := (some 109)) (v := ?_) (a' := ?_) #[true, true, true, true, true, true, false, false, false, false, false, false, false, false, false, false, false, false] rfl rfl (by kernel_rfl) (fun _ _ _ h => h) (Or.inl ⟨by rfl, ?_⟩) hHeld ?_ ?_
              rotate_left
              · rintro w' ⟨s0, s1⟩
                go_simp
                with_reducible rfl
              rotate_left
              · simp only [Act.put, List.setIfInBounds_toArray, List.set_cons_zero, List.set_cons_succ, i64_w, i32_w]
                rfl
              -- 6: Op.move t12
              refine pure_ (i := 6) (N := (some 110)) (v := ?_) (a' := ?_) #[true, true, true, true, true, true, true, false, false, false, false, false, false, false, false, false, false, false] rfl rfl (by kernel_rfl) (fun _ _ _ h => h) (Or.inl ⟨by rfl, ?_⟩) ?_ ?_
              rotate_left
              · intro w'
                go_simp
                with_reducible rfl
              rotate_left
              · simp only [Act.put, List.setIfInBounds_toArray, List.set_cons_zero, List.set_cons_succ, i64_w, i32_w]
                rfl
              -- 7: Op.move t15
              refine pure_ (i := 7) (N := (some 111)) (v := ?_) (a' := ?_) #[true, true, true, true, true, true, true, true, false, false, false, false, false, false, false, false, false, false] rfl rfl (by kernel_rfl) (fun _ _ _ h => h) (Or.inl ⟨by rfl, ?_⟩) ?_ ?_
              rotate_left
              · intro w'
                go_simp
                with_reducible rfl
              rotate_left
              · simp only [Act.put, List.setIfInBounds_toArray, List.set_cons_zero, List.set_cons_succ, i64_w, i32_w]
                rfl
              -- 8: Op.indexAddr 22 t110 t111
              refine pure_ (i := 8) (N := (some 112)) (v := ?_) (a' := ?_) #[true, true, true, true, true, true, true, true, true, false, false, false, false, false, false, false, false, false] rfl rfl (by kernel_rfl) (fun _ _ _ h => h) (Or.inl ⟨by rfl, ?_⟩) ?_ ?_
              rotate_left
              · intro w'
                go_simp
                with_reducible rfl
              rotate_left
              · simp only [Act.put, List.setIfInBounds_toArray, List.set_cons_zero, List.set_cons_succ, i64_w, i32_w]
                rfl
              -- 9: Op.fieldAddr 28 t112 1
              refine pure_ (i := 9) (N := (some 113)) (v := ?_) (a' := ?_) #[true, true, true, true, true, true, true, true, true, true, false, false, false, false, false, false, false, false] rfl rfl (by kernel_rfl) (fun _ _ _ h => h) (Or.inl ⟨by rfl, ?_⟩) ?_ ?_
              rotate_left
              · intro w'
                go_simp
                with_reducible rfl
              rotate_left
              · simp only [Act.put, List.setIfInBounds_toArray, List.set_cons_zero, List.set_cons_succ, i64_w, i32_w]
                rfl
              -- 10: Op.load 24 t113
              refine take_ (i := 10) (N := (some 114)) (v := ?_) (a' := ?_) #[true, true, true, true, true, true, true, true, true, true, true, false, false, false, false, false, false, false] rfl rfl (by kernel_rfl) (fun _ _ _ h => h) (Or.inl ⟨by rfl, ?_⟩) hHeld ?_ ?_
              rotate_left
              · rintro w' ⟨s0, s1⟩
                go_simp
                with_reducible rfl
              rotate_left
              · simp only [Act.put, List.setIfInBounds_toArray, List.set_cons_zero, List.set_cons_succ, i64_w, i32_w]
                rfl
              refine join_ (σ := Nat) 2 #[true, true, true, true, true, true, true, true, true, true, true, true, true, true, true, true, false, false] (fun gx : Nat => [(16, .pointer (some ⟨gx, 0, none⟩)), (115, .tuple #[rowV x, .bool true]), (103, .tuple #[rowV x, .bool true]), (116, rowV x), (117, .bool true)]) (fun gx w' => Below wd.heap.size wd w' ∧ w'.heap[gx]? = some (.cells #[.string ⟨#[]⟩, .int .u64 0, .int .i64 0, .string ⟨#[]⟩] 28 (0, 0)) ∧ wd.heap.size ≤ gx) ?_ (fun hcont => ?_)
              rotate_left
              · have hsk : seekRow x.f0 x.f1 ra = x ∧ seekOk x.f0 x.f1 ra = true := seek_one (by rw [← HLR.out]; exact HOP.out)
                refine two_ (i := 11) (j := 15) (Ni := (some 115)) (Nj := (some 16)) #[true, true, true, true, true, true, true, true, true, true, true, true, false, false, false, false, false, false] #[true, true, true, true, true, true, true, true, true, true, true, false, false, false, false, true, false, false] rfl rfl rfl rfl (by kernel_rfl) (by decide) (by decide) (fun K hK => ?_) (fun K hK => ?_)
                · refine goes_ Try.func27 (by kernel_rfl) rfl #[.pointer (some ⟨ga, 0, none⟩), .string x.f0, .int .u64 x.f1] (by rfl) rfl rfl (by (try simp only [List.map_toArray, List.map_cons, List.map_nil]); first | done | rfl) ?_
                  with_reducible refine (seek_calls wd ga ra x.f0 x.f1 SA.out (by have := HRA.out; omega)).mono ?_
                  rw [hsk.1, hsk.2]
                  rintro e wc ⟨rfl, hb⟩
                  refine ⟨_, rfl, ?_⟩
                  have hOld := hHeld
                  clear hHeld
                  refine hK.out _ _ (⟨(hb.cell (World.block_lt_of_cell? _ _ hOld.1)).trans hOld.1, (hb.cell (World.block_lt_of_cell? _ _ hOld.2)).trans hOld.2⟩) (fun hHeld => ?_)
                  clear hOld hK K
                  refine norm_ (a' := ?_) ?_ ?_
                  rotate_left
                  · show Act.put _ (some 115) _ = _
                    simp only [Act.put, List.setIfInBounds_toArray, List.set_cons_zero, List.set_cons_succ, i64_w, i32_w]
                    rfl
                  -- 12: Op.move t115
                  refine pure_ (i := 12) (N := (some 103)) (v := ?_) (a' := ?_) #[true, true, true, true, true, true, true, true, true, true, true, true, true, false, false, false, false, false] rfl rfl (by kernel_rfl) (fun _ _ _ h => h) (Or.inl ⟨by rfl, ?_⟩) ?_ ?_
                  rotate_left
                  · intro w'
                    go_simp
                    with_reducible rfl
                  rotate_left
                  · simp only [Act.put, List.setIfInBounds_toArray, List.set_cons_zero, List.set_cons_succ, i64_w, i32_w]
                    rfl
                  -- 13: Op.extract t103 0
                  refine pure_ (i := 13) (N := (some 116)) (v := ?_) (a' := ?_) #[true, true, true, true, true, true, true, true, true, true, true, true, true, true, false, false, false, false] rfl rfl (by kernel_rfl) (fun _ _ _ h => h) (Or.inl ⟨by rfl, ?_⟩) ?_ ?_
                  rotate_left
                  · intro w'
                    go_simp
                    with_reducible rfl
                  rotate_left
                  · simp only [Act.put, List.setIfInBounds_toArray, List.set_cons_zero, List.set_cons_succ, i64_w, i32_w]
                    rfl
                  -- 14: Op.extract t103 1
                  refine pure_ (i := 14) (N := (some 117)) (v := ?_) (a' := ?_) #[true, true, true, true, true, true, true, true, true, true, true, true, true, true, true, false, false, false] rfl rfl (by kernel_rfl) (fun _ _ _ h => h) (Or.inl ⟨by rfl, ?_⟩) ?_ ?_
                  rotate_left
                  · intro w'
                    go_simp
                    with_reducible rfl
                  rotate_left
                  · simp only [Act.put, List.setIfInBounds_toArray, List.set_cons_zero, List.set_cons_succ, i64_w, i32_w]
                    rfl
                  -- 15: Op.alloc 28
                  refine one_ (i := 15) (N := (some 16)) #[true, true, true, true, true, true, true, true, true, true, true, true, true, true, true, true, false, false] rfl rfl (by kernel_rfl) (by decide) (fun K hK => ?_)
                  refine value_ (w1 := wc.alloc (.cells #[.string ⟨#[]⟩, .int .u64 0, .int .i64 0, .string ⟨#[]⟩] 28)) (v := .pointer (some ⟨wc.heap.size, 0, none⟩)) (by rfl) rfl (by go_simp) ?_
                  have hb2 := (Below.refl wc.heap.size wc).alloc (Nat.le_refl _) (.cells #[.string ⟨#[]⟩, .int .u64 0, .int .i64 0, .string ⟨#[]⟩] 28)
                  have hOld := hHeld
                  clear hHeld
                  refine hK.out _ _ (⟨(hb2.cell (World.block_lt_of_cell? _ _ hOld.1)).trans hOld.1, (hb2.cell (World.block_lt_of_cell? _ _ hOld.2)).trans hOld.2⟩) (fun hHeld => ?_)
                  clear hOld hK K
                  refine norm_ (a' := ?_) ?_ ?_
                  rotate_left
                  · show Act.put _ (some 16) _ = _
                    simp only [Act.put, List.setIfInBounds_toArray, List.set_cons_zero, List.set_cons_succ, i64_w, i32_w]
                    rfl
                  exact hcont wc.heap.size _ ⟨below_step hb hb2, blk_new wc _, hb.size⟩
                · refine value_ (w1 := wd.alloc (.cells #[.string ⟨#[]⟩, .int .u64 0, .int .i64 0, .string ⟨#[]⟩] 28)) (v := .pointer (some ⟨wd.heap.size, 0, none⟩)) (by rfl) rfl (by go_simp) ?_
                  have hb2 := (Below.refl wd.heap.size wd).alloc (Nat.le_refl _) (.cells #[.string ⟨#[]⟩, .int .u64 0, .int .i64 0, .string ⟨#[]⟩] 28)
                  have hOld := hHeld
                  clear hHeld
                  refine hK.out _ _ (⟨(hb2.cell (World.block_lt_of_cell? _ _ hOld.1)).trans hOld.1, (hb2.cell (World.block_lt_of_cell? _ _ hOld.2)).trans hOld.2⟩) (fun hHeld => ?_)
                  clear hOld hK K
                  refine norm_ (a' := ?_) ?_ ?_
                  rotate_left
                  · show Act.put _ (some 16) _ = _
                    simp only [Act.put, List.setIfInBounds_toArray, List.set_cons_zero, List.set_cons_succ, i64_w, i32_w]
                    rfl
                  -- 11: Op.call { value (Operand.func 27), args := #[t104, t109, t114], argTypes := #[26, 9, 24] }
                  refine one_ (i := 11) (N := (some 115)) #[true, true, true, true, true, true, true, true, true, true, true, true, false, false, false, true, false, false] rfl rfl (by kernel_rfl) (by decide) (fun K hK => ?_)
                  refine goes_ Try.func27 (by kernel_rfl) rfl #[.pointer (some ⟨ga, 0, none⟩), .string x.f0, .int .u64 x.f1] (by rfl) rfl rfl (by (try simp only [List.map_toArray, List.map_cons, List.map_nil]); first | done | rfl) ?_
                  with_reducible refine (seek_calls _ ga ra x.f0 x.f1 (SA.out.below hb2) (by have := HRA.out; omega)).mono ?_
                  rw [hsk.1, hsk.2]
                  rintro e wc ⟨rfl, hb⟩
                  refine ⟨_, rfl, ?_⟩
                  have hOld := hHeld
                  clear hHeld
                  refine hK.out _ _ (⟨(hb.cell (World.block_lt_of_cell? _ _ hOld.1)).trans hOld.1, (hb.cell (World.block_lt_of_cell? _ _ hOld.2)).trans hOld.2⟩) (fun hHeld => ?_)
                  clear hOld hK K
                  refine norm_ (a' := ?_) ?_ ?_
                  rotate_left
                  · show Act.put _ (some 115) _ = _
                    simp only [Act.put, List.setIfInBounds_toArray, List.set_cons_zero, List.set_cons_succ, i64_w, i32_w]
                    rfl
                  -- 12: Op.move t115
                  refine pure_ (i := 12) (N := (some 103)) (v := ?_) (a' := ?_) #[true, true, true, true, true, true, true, true, true, true, true, true, true, false, false, true, false, false] rfl rfl (by kernel_rfl) (fun _ _ _ h => h) (Or.inl ⟨by rfl, ?_⟩) ?_ ?_
                  rotate_left
                  · intro w'
                    go_simp
                    with_reducible rfl
                  rotate_left
                  · simp only [Act.put, List.setIfInBounds_toArray, List.set_cons_zero, List.set_cons_succ, i64_w, i32_w]
                    rfl
                  -- 13: Op.extract t103 0
                  refine pure_ (i := 13) (N := (some 116)) (v := ?_) (a' := ?_) #[true, true, true, true, true, true, true, true, true, true, true, true, true, true, false, true, false, false] rfl rfl (by kernel_rfl) (fun _ _ _ h => h) (Or.inl ⟨by rfl, ?_⟩) ?_ ?_
                  rotate_left
                  · intro w'
                    go_simp
                    with_reducible rfl
                  rotate_left
                  · simp only [Act.put, List.setIfInBounds_toArray, List.set_cons_zero, List.set_cons_succ, i64_w, i32_w]
                    rfl
                  -- 14: Op.extract t103 1
                  refine pure_ (i := 14) (N := (some 117)) (v := ?_) (a' := ?_) #[true, true, true, true, true, true, true, true, true, true, true, true, true, true, true, true, false, false] rfl rfl (by kernel_rfl) (fun _ _ _ h => h) (Or.inl ⟨by rfl, ?_⟩) ?_ ?_
                  rotate_left
                  · intro w'
                    go_simp
                    with_reducible rfl
                  rotate_left
                  · simp only [Act.put, List.setIfInBounds_toArray, List.set_cons_zero, List.set_cons_succ, i64_w, i32_w]
                    rfl
                  exact hcont wd.heap.size _ ⟨below_step hb2 hb, blk_below (blk_new wd _) hb, Nat.le_refl _⟩
              intro gx wj hF
              obtain ⟨hbj, hbx, hgx⟩ := hF
              clear hHeld
              refine norm_ (a' := ?_) ?_ ?_
              rotate_left
              · show putAll _ [_, _, _, _, _] = _
                simp only [putAll, Act.put, List.setIfInBounds_toArray, List.set_cons_zero, List.set_cons_succ]
                rfl
              have hHeld := True.intro
              -- 16: Op.store 28 t16 t116
              refine last_ (i := 16) (N := none) #[true, true, true, true, true, true, true, true, true, true, true, true, true, true, true, true, true, false] rfl rfl (by kernel_rfl) (by decide) (fun K hK => ?_)
              refine store_ (by rfl) rfl 28 (.tmp 16) (.tmp 116) rfl gx 28 rfl #[.string x.f0, .int .u64 x.f1, .int .i64 x.f2, .string x.f3] rfl _ hbx size28 rfl (by first | rfl | kernel_rfl | decide) ?_
              intro w7 h7 h7b h7o h7s
              clear hHeld
              refine hK.out _ _ ?_
              clear hK K
              -- 17: Op.assign t117
              refine pure_ (i := 17) (N := (some 17)) (v := ?_) (a' := ?_) #[true, true, true, true, true, true, true, true, true, true, true, true, true, true, true, true, true, true] rfl rfl (by kernel_rfl) (fun _ _ _ h => h) (Or.inl ⟨by rfl, ?_⟩) ?_ ?_
              rotate_left
              · intro w'
                go_simp
                with_reducible rfl
              rotate_left
              · simp only [Act.put, List.setIfInBounds_toArray, List.set_cons_zero, List.set_cons_succ, i64_w, i32_w]
                rfl
              refine done_ (by kernel_rfl) ?_
              have n0_ := Aside0.mk (h7b w.heap.size w (below_step HB.out hbj) (Nat.le_trans (below_size HB.out) hgx))
              have n1_ := Aside0.mk (h7b wd.heap.size wd hbj hgx)
              have BX := Aside0.mk h7
              have SA7 := Aside0.mk (SA.out.below n1_.out)
              have HL7 := Aside0.mk (Kd.C_below HL.out n1_.out)
              have H27 := Aside0.mk (Kd.C_below H2.out n1_.out)
              clear hbj hbx hgx h7 h7b h7o h7s SA HL H2 HB n1_
              have SA := SA7
              have HL := HL7
              have H2 := H27
              have HB := n0_
              clear SA7 HL7 H27 n0_
              obtain ⟨ad', y, ea', hyy, hx0, hx1, hx2, hx3⟩ := at_row HL.out i hi
              cases ea'
              obtain rfl := hyy.symm.trans HXX.out
              clear hyy
              have b0 : w7.cell? ⟨gx, 0, none⟩ = some (.string y.f0) := (blk_cell BX.out 0).trans rfl
              have b1 : w7.cell? ⟨gx, 1, none⟩ = some (.int .u64 y.f1) := (blk_cell BX.out 1).trans rfl
              have b2 : w7.cell? ⟨gx, 2, none⟩ = some (.int .i64 y.f2) := (blk_cell BX.out 2).trans rfl
              have b3 : w7.cell? ⟨gx, 3, none⟩ = some (.string y.f3) := (blk_cell BX.out 3).trans rfl
              go_wp2_with fail
              go_quiet (fail)
              go_wp2_with fail
              have hi100 := HM.out
              have ew : wrap64 ((i : Int) + 1) = ((i + 1 : Nat) : Int) := by unfold wrap64; omega
              try rw [ew]
              go_roundg q
              case measure => omega
              case rel => exact ⟨i + 1, rfl, ⟨by have := HK.out; omega⟩, ⟨SA.out.below (pw_below_drewN (Below.refl _ _) nq)⟩, ⟨Kd.C_below HL.out (pw_below_drewN (Below.refl _ _) nq)⟩, ⟨Kd.C_below H2.out (pw_below_drewN (Below.refl _ _) nq)⟩, ⟨pw_below_drewN HB.out nq⟩⟩
            · have hin2 : decide ((i : Int) < (n : Int)) = false := decide_eq_false (by have := of_decide_eq_false hin; omega)
              go_wp2_with fail
              refine start_ (n := 18) (S := fun w' => w'.cell? (ad.add (i * 4)) = some (.string x.f0) ∧ w'.cell? ⟨(ad.add (i * 4)).block, (ad.add (i * 4)).off + 1, none⟩ = some (.int .u64 x.f1)) (ds := [16]) #[false, false, false, false, false, false, false, false, false, false, false, false, false, false, false, false, false, false] (by kernel_rfl) rfl rfl ⟨hx0, hx1⟩ (fun hHeld => ?_)
              have n0_ := Aside0.mk (below_step HB.out (pw_below_drewN (Below.refl _ _) 1))
              have n1_ := Aside0.mk (SA.out.below (pw_below_drewN (Below.refl _ _) 1))
              have n2_ := Aside0.mk (Kd.C_below HL.out (pw_below_drewN (Below.refl _ _) 1))
              have n3_ := Aside0.mk (Kd.C_below H2.out (pw_below_drewN (Below.refl _ _) 1))
              replace n0_ : Aside0 (Below w.heap.size w wr.drew) := n0_
              replace n1_ : Aside0 (Sk wr.drew ga ra) := n1_
              replace n2_ : Aside0 (Kd.C k28 wr.drew (some ad) L.length L) := n2_
              replace n3_ : Aside0 (Kd.C k28 wr.drew A2 B.length B) := n3_
              clear HB SA HL H2 hx0 hx1 hx2 hx3 HX0 HX1 HX2 HX3
              generalize wr.drew = wd at *
              have HB := n0_
              have SA := n1_
              have HL := n2_
              have H2 := n3_
              clear n0_ n1_ n2_ n3_
              -- 0: Op.move t9
              refine pure_ (i := 0) (N := (some 104)) (v := ?_) (a' := ?_) #[true, false, false, false, false, false, false, false, false, false, false, false, false, false, false, false, false, false] rfl rfl (by kernel_rfl) (fun _ _ _ h => h) (Or.inl ⟨by rfl, ?_⟩) ?_ ?_
              rotate_left
              · intro w'
                go_simp
                with_reducible rfl
              rotate_left
              · simp only [Act.put, List.setIfInBounds_toArray, List.set_cons_zero, List.set_cons_succ, i64_w, i32_w]
                rfl
              -- 1: Op.move t12
              refine pure_ (i := 1) (N := (some 105)) (v := ?_) (a' := ?_) #[true, true, false, false, false, false, false, false, false, false, false, false, false, false, false, false, false, false] rfl rfl (by kernel_rfl) (fun _ _ _ h => h) (Or.inl ⟨by rfl, ?_⟩) ?_ ?_
              rotate_left
              · intro w'
                go_simp
                with_reducible rfl
              rotate_left
              · simp only [Act.put, List.setIfInBounds_toArray, List.set_cons_zero, List.set_cons_succ, i64_w, i32_w]
                rfl
              -- 2: Op.move t15
              refine pure_ (i := 2) (N := (some 106)) (v := ?_) (a' := ?_) #[true, true, true, false, false, false, false, false, false, false, false, false, false, false, false, false, false, false] rfl rfl (by kernel_rfl) (fun _ _ _ h => h) (Or.inl ⟨by rfl, ?_⟩) ?_ ?_
              rotate_left
              · intro w'
                go_simp
                with_reducible rfl
              rotate_left
              · simp only [Act.put, List.setIfInBounds_toArray, List.set_cons_zero, List.set_cons_succ, i64_w, i32_w]
                rfl
              -- 3: Op.indexAddr 22 t105 t106
              refine pure_ (i := 3) (N := (some 107)) (v := ?_) (a' := ?_) #[true, true, true, true, false, false, false, false, false, false, false, false, false, false, false, false, false, false] rfl rfl (by kernel_rfl) (fun _ _ _ h => h) (Or.inl ⟨by rfl, ?_⟩) ?_ ?_
              rotate_left
              · intro w'
                go_simp
                with_reducible rfl
              rotate_left
              · simp only [Act.put, List.setIfInBounds_toArray, List.set_cons_zero, List.set_cons_succ, i64_w, i32_w]
                rfl
              -- 4: Op.fieldAddr 28 t107 0
              refine pure_ (i := 4) (N := (some 108)) (v := ?_) (a' := ?_) #[true, true, true, true, true, false, false, false, false, false, false, false, false, false, false, false, false, false] rfl rfl (by kernel_rfl) (fun _ _ _ h => h) (Or.inl ⟨by rfl, ?_⟩) ?_ ?_
              rotate_left
              · intro w'
                go_simp
                with_reducible rfl
              rotate_left
              · simp only [Act.put, List.setIfInBounds_toArray, List.set_cons_zero, List.set_cons_succ, i64_w, i32_w]
                rfl
              -- 5: Op.load 9 t108
              refine take_ (i := 5) (N := (some 109)) (v := ?_) (a' := ?_) #[true, true, true, true, true, true, false, false, false, false, false, false, false, false, false, false, false, false] rfl rfl (by kernel_rfl) (fun _ _ _ h => h) (Or.inl ⟨by rfl, ?_⟩) hHeld ?_ ?_
              rotate_left
              · rintro w' ⟨s0, s1⟩
                go_simp
                with_reducible rfl
              rotate_left
              · simp only [Act.put, List.setIfInBounds_toArray, List.set_cons_zero, List.set_cons_succ, i64_w, i32_w]
                rfl
              -- 6: Op.move t12
              refine pure_ (i := 6) (N := (some 110)) (v := ?_) (a' := ?_) #[true, true, true, true, true, true, true, false, false, false, false, false, false, false, false, false, false, false] rfl rfl (by kernel_rfl) (fun _ _ _ h => h) (Or.inl ⟨by rfl, ?_⟩) ?_ ?_
              rotate_left
              · intro w'
                go_simp
                with_reducible rfl
              rotate_left
              · simp only [Act.put, List.setIfInBounds_toArray, List.set_cons_zero, List.set_cons_succ, i64_w, i32_w]
                rfl
              -- 7: Op.move t15
              refine pure_ (i := 7) (N := (some 111)) (v := ?_) (a' := ?_) #[true, true, true, true, true, true, true, true, false, false, false, false, false, false, false, false, false, false] rfl rfl (by kernel_rfl) (fun _ _ _ h => h) (Or.inl ⟨by rfl, ?_⟩) ?_ ?_
              rotate_left
              · intro w'
                go_simp
                with_reducible rfl
              rotate_left
              · simp only [Act.put, List.setIfInBounds_toArray, List.set_cons_zero, List.set_cons_succ, i64_w, i32_w]
                rfl
              -- 8: Op.indexAddr 22 t110 t111
              refine pure_ (i := 8) (N := (some 112)) (v := ?_) (a' := ?_) #[true, true, true, true, true, true, true, true, true, false, false, false, false, false, false, false, false, false] rfl rfl (by kernel_rfl) (fun _ _ _ h => h) (Or.inl ⟨by rfl, ?_⟩) ?_ ?_
              rotate_left
              · intro w'
                go_simp
                with_reducible rfl
              rotate_left
              · simp only [Act.put, List.setIfInBounds_toArray, List.set_cons_zero, List.set_cons_succ, i64_w, i32_w]
                rfl
              -- 9: Op.fieldAddr 28 t112 1
              refine pure_ (i := 9) (N := (some 113)) (v := ?_) (a' := ?_) #[true, true, true, true, true, true, true, true, true, true, false, false, false, false, false, false, false, false] rfl rfl (by kernel_rfl) (fun _ _ _ h => h) (Or.inl ⟨by rfl, ?_⟩) ?_ ?_
              rotate_left
              · intro w'
                go_simp
                with_reducible rfl
              rotate_left
              · simp only [Act.put, List.setIfInBounds_toArray, List.set_cons_zero, List.set_cons_succ, i64_w, i32_w]
                rfl
              -- 10: Op.load 24 t113
              refine take_ (i := 10) (N := (some 114)) (v := ?_) (a' := ?_) #[true, true, true, true, true, true, true, true, true, true, true, false, false, false, false, false, false, false] rfl rfl (by kernel_rfl) (fun _ _ _ h => h) (Or.inl ⟨by rfl, ?_⟩) hHeld ?_ ?_
              rotate_left
              · rintro w' ⟨s0, s1⟩
                go_simp
                with_reducible rfl
              rotate_left
              · simp only [Act.put, List.setIfInBounds_toArray, List.set_cons_zero, List.set_cons_succ, i64_w, i32_w]
                rfl
              refine join_ (σ := Nat) 2 #[true, true, true, true, true, true, true, true, true, true, true, true, true, true, true, true, false, false] (fun gx : Nat => [(16, .pointer (some ⟨gx, 0, none⟩)), (115, .tuple #[rowV x, .bool true]), (103, .tuple #[rowV x, .bool true]), (116, rowV x), (117, .bool true)]) (fun gx w' => Below wd.heap.size wd w' ∧ w'.heap[gx]? = some (.cells #[.string ⟨#[]⟩, .int .u64 0, .int .i64 0, .string ⟨#[]⟩] 28 (0, 0)) ∧ wd.heap.size ≤ gx) ?_ (fun hcont => ?_)
              rotate_left
              · have hsk : seekRow x.f0 x.f1 ra = x ∧ seekOk x.f0 x.f1 ra = true := seek_one (by rw [← HLR.out]; exact HOP.out)
                refine two_ (i := 11) (j := 15) (Ni := (some 115)) (Nj := (some 16)) #[true, true, true, true, true, true, true, true, true, true, true, true, false, false, false, false, false, false] #[true, true, true, true, true, true, true, true, true, true, true, false, false, false, false, true, false, false] rfl rfl rfl rfl (by kernel_rfl) (by decide) (by decide) (fun K hK => ?_) (fun K hK => ?_)
                · refine goes_ Try.func27 (by kernel_rfl) rfl #[.pointer (some ⟨ga, 0, none⟩), .string x.f0, .int .u64 x.f1] (by rfl) rfl rfl (by (try simp only [List.map_toArray, List.map_cons, List.map_nil]); first | done | rfl) ?_
                  with_reducible refine (seek_calls wd ga ra x.f0 x.f1 SA.out (by have := HRA.out; omega)).mono ?_
                  rw [hsk.1, hsk.2]
                  rintro e wc ⟨rfl, hb⟩
                  refine ⟨_, rfl, ?_⟩
                  have hOld := hHeld
                  clear hHeld
                  refine hK.out _ _ (⟨(hb.cell (World.block_lt_of_cell? _ _ hOld.1)).trans hOld.1, (hb.cell (World.block_lt_of_cell? _ _ hOld.2)).trans hOld.2⟩) (fun hHeld => ?_)
                  clear hOld hK K
                  refine norm_ (a' := ?_) ?_ ?_
                  rotate_left
                  · show Act.put _ (some 115) _ = _
                    simp only [Act.put, List.setIfInBounds_toArray, List.set_cons_zero, List.set_cons_succ, i64_w, i32_w]
                    rfl
                  -- 12: Op.move t115
                  refine pure_ (i := 12) (N := (some 103)) (v := ?_) (a' := ?_) #[true, true, true, true, true, true, true, true, true, true, true, true, true, false, false, false, false, false] rfl rfl (by kernel_rfl) (fun _ _ _ h => h) (Or.inl ⟨by rfl, ?_⟩) ?_ ?_
                  rotate_left
                  · intro w'
                    go_simp
                    with_reducible rfl
                  rotate_left
                  · simp only [Act.put, List.setIfInBounds_toArray, List.set_cons_zero, List.set_cons_succ, i64_w, i32_w]
                    rfl
                  -- 13: Op.extract t103 0
                  refine pure_ (i := 13) (N := (some 116)) (v := ?_) (a' := ?_) #[true, true, true, true, true, true, true, true, true, true, true, true, true, true, false, false, false, false] rfl rfl (by kernel_rfl) (fun _ _ _ h => h) (Or.inl ⟨by rfl, ?_⟩) ?_ ?_
                  rotate_left
                  · intro w'
                    go_simp
                    with_reducible rfl
                  rotate_left
                  · simp only [Act.put, List.setIfInBounds_toArray, List.set_cons_zero, List.set_cons_succ, i64_w, i32_w]
                    rfl
                  -- 14: Op.extract t103 1
                  refine pure_ (i := 14) (N := (some 117)) (v := ?_) (a' := ?_) #[true, true, true, true, true, true, true, true, true, true, true, true, true, true, true, false, false, false] rfl rfl (by kernel_rfl) (fun _ _ _ h => h) (Or.inl ⟨by rfl, ?_⟩) ?_ ?_
                  rotate_left
                  · intro w'
                    go_simp
                    with_reducible rfl
                  rotate_left
                  · simp only [Act.put, List.setIfInBounds_toArray, List.set_cons_zero, List.set_cons_succ, i64_w, i32_w]
                    rfl
                  -- 15: Op.alloc 28
                  refine one_ (i := 15) (N := (some 16)) #[true, true, true, true, true, true, true, true, true, true, true, true, true, true, true, true, false, false] rfl rfl (by kernel_rfl) (by decide) (fun K hK => ?_)
                  refine value_ (w1 := wc.alloc (.cells #[.string ⟨#[]⟩, .int .u64 0, .int .i64 0, .string ⟨#[]⟩] 28)) (v := .pointer (some ⟨wc.heap.size, 0, none⟩)) (by rfl) rfl (by go_simp) ?_
                  have hb2 := (Below.refl wc.heap.size wc).alloc (Nat.le_refl _) (.cells #[.string ⟨#[]⟩, .int .u64 0, .int .i64 0, .string ⟨#[]⟩] 28)
                  have hOld := hHeld
                  clear hHeld
                  refine hK.out _ _ (⟨(hb2.cell (World.block_lt_of_cell? _ _ hOld.1)).trans hOld.1, (hb2.cell (World.block_lt_of_cell? _ _ hOld.2)).trans hOld.2⟩) (fun hHeld => ?_)
                  clear hOld hK K
                  refine norm_ (a' := ?_) ?_ ?_
                  rotate_left
                  · show Act.put _ (some 16) _ = _
                    simp only [Act.put, List.setIfInBounds_toArray, List.set_cons_zero, List.set_cons_succ, i64_w, i32_w]
                    rfl
                  exact hcont wc.heap.size _ ⟨below_step hb hb2, blk_new wc _, hb.size⟩
                · refine value_ (w1 := wd.alloc (.cells #[.string ⟨#[]⟩, .int .u64 0, .int .i64 0, .string ⟨#[]⟩] 28)) (v := .pointer (some ⟨wd.heap.size, 0, none⟩)) (by rfl) rfl (by go_simp) ?_
                  have hb2 := (Below.refl wd.heap.size wd).alloc (Nat.le_refl _) (.cells #[.string ⟨#[]⟩, .int .u64 0, .int .i64 0, .string ⟨#[]⟩] 28)
                  have hOld := hHeld
                  clear hHeld
                  refine hK.out _ _ (⟨(hb2.cell (World.block_lt_of_cell? _ _ hOld.1)).trans hOld.1, (hb2.cell (World.block_lt_of_cell? _ _ hOld.2)).trans hOld.2⟩) (fun hHeld => ?_)
                  clear hOld hK K
                  refine norm_ (a' := ?_) ?_ ?_
                  rotate_left
                  · show Act.put _ (some 16) _ = _
                    simp only [Act.put, List.setIfInBounds_toArray, List.set_cons_zero, List.set_cons_succ, i64_w, i32_w]
                    rfl
                  -- 11: Op.call { value (Operand.func 27), args := #[t104, t109, t114], argTypes := #[26, 9, 24] }
                  refine one_ (i := 11) (N := (some 115)) #[true, true, true, true, true, true, true, true, true, true, true, true, false, false, false, true, false, false] rfl rfl (by kernel_rfl) (by decide) (fun K hK => ?_)
                  refine goes_ Try.func27 (by kernel_rfl) rfl #[.pointer (some ⟨ga, 0, none⟩), .string x.f0, .int .u64 x.f1] (by rfl) rfl rfl (by (try simp only [List.map_toArray, List.map_cons, List.map_nil]); first | done | rfl) ?_
                  with_reducible refine (seek_calls _ ga ra x.f0 x.f1 (SA.out.below hb2) (by have := HRA.out; omega)).mono ?_
                  rw [hsk.1, hsk.2]
                  rintro e wc ⟨rfl, hb⟩
                  refine ⟨_, rfl, ?_⟩
                  have hOld := hHeld
                  clear hHeld
                  refine hK.out _ _ (⟨(hb.cell (World.block_lt_of_cell? _ _ hOld.1)).trans hOld.1, (hb.cell (World.block_lt_of_cell? _ _ hOld.2)).trans hOld.2⟩) (fun hHeld => ?_)
                  clear hOld hK K
                  refine norm_ (a' := ?_) ?_ ?_
                  rotate_left
                  · show Act.put _ (some 115) _ = _
                    simp only [Act.put, List.setIfInBounds_toArray, List.set_cons_zero, List.set_cons_succ, i64_w, i32_w]
                    rfl
                  -- 12: Op.move t115
                  refine pure_ (i := 12) (N := (some 103)) (v := ?_) (a' := ?_) #[true, true, true, true, true, true, true, true, true, true, true, true, true, false, false, true, false, false] rfl rfl (by kernel_rfl) (fun _ _ _ h => h) (Or.inl ⟨by rfl, ?_⟩) ?_ ?_
                  rotate_left
                  · intro w'
                    go_simp
                    with_reducible rfl
                  rotate_left
                  · simp only [Act.put, List.setIfInBounds_toArray, List.set_cons_zero, List.set_cons_succ, i64_w, i32_w]
                    rfl
                  -- 13: Op.extract t103 0
                  refine pure_ (i := 13) (N := (some 116)) (v := ?_) (a' := ?_) #[true, true, true, true, true, true, true, true, true, true, true, true, true, true, false, true, false, false] rfl rfl (by kernel_rfl) (fun _ _ _ h => h) (Or.inl ⟨by rfl, ?_⟩) ?_ ?_
                  rotate_left
                  · intro w'
                    go_simp
                    with_reducible rfl
                  rotate_left
                  · simp only [Act.put, List.setIfInBounds_toArray, List.set_cons_zero, List.set_cons_succ, i64_w, i32_w]
                    rfl
                  -- 14: Op.extract t103 1
                  refine pure_ (i := 14) (N := (some 117)) (v := ?_) (a' := ?_) #[true, true, true, true, true, true, true, true, true, true, true, true, true, true, true, true, false, false] rfl rfl (by kernel_rfl) (fun _ _ _ h => h) (Or.inl ⟨by rfl, ?_⟩) ?_ ?_
                  rotate_left
                  · intro w'
                    go_simp
                    with_reducible rfl
                  rotate_left
                  · simp only [Act.put, List.setIfInBounds_toArray, List.set_cons_zero, List.set_cons_succ, i64_w, i32_w]
                    rfl
                  exact hcont wd.heap.size _ ⟨below_step hb2 hb, blk_below (blk_new wd _) hb, Nat.le_refl _⟩
              intro gx wj hF
              obtain ⟨hbj, hbx, hgx⟩ := hF
              clear hHeld
              refine norm_ (a' := ?_) ?_ ?_
              rotate_left
              · show putAll _ [_, _, _, _, _] = _
                simp only [putAll, Act.put, List.setIfInBounds_toArray, List.set_cons_zero, List.set_cons_succ]
                rfl
              have hHeld := True.intro
              -- 16: Op.store 28 t16 t116
              refine last_ (i := 16) (N := none) #[true, true, true, true, true, true, true, true, true, true, true, true, true, true, true, true, true, false] rfl rfl (by kernel_rfl) (by decide) (fun K hK => ?_)
              refine store_ (by rfl) rfl 28 (.tmp 16) (.tmp 116) rfl gx 28 rfl #[.string x.f0, .int .u64 x.f1, .int .i64 x.f2, .string x.f3] rfl _ hbx size28 rfl (by first | rfl | kernel_rfl | decide) ?_
              intro w7 h7 h7b h7o h7s
              clear hHeld
              refine hK.out _ _ ?_
              clear hK K
              -- 17: Op.assign t117
              refine pure_ (i := 17) (N := (some 17)) (v := ?_) (a' := ?_) #[true, true, true, true, true, true, true, true, true, true, true, true, true, true, true, true, true, true] rfl rfl (by kernel_rfl) (fun _ _ _ h => h) (Or.inl ⟨by rfl, ?_⟩) ?_ ?_
              rotate_left
              · intro w'
                go_simp
                with_reducible rfl
              rotate_left
              · simp only [Act.put, List.setIfInBounds_toArray, List.set_cons_zero, List.set_cons_succ, i64_w, i32_w]
                rfl
              refine done_ (by kernel_rfl) ?_
              have n0_ := Aside0.mk (h7b w.heap.size w (below_step HB.out hbj) (Nat.le_trans (below_size HB.out) hgx))
              have n1_ := Aside0.mk (h7b wd.heap.size wd hbj hgx)
              have BX := Aside0.mk h7
              have SA7 := Aside0.mk (SA.out.below n1_.out)
              have HL7 := Aside0.mk (Kd.C_below HL.out n1_.out)
              have H27 := Aside0.mk (Kd.C_below H2.out n1_.out)
              clear hbj hbx hgx h7 h7b h7o h7s SA HL H2 HB n1_
              have SA := SA7
              have HL := HL7
              have H2 := H27
              have HB := n0_
              clear SA7 HL7 H27 n0_
              obtain ⟨ad', y, ea', hyy, hx0, hx1, hx2, hx3⟩ := at_row HL.out i hi
              cases ea'
              obtain rfl := hyy.symm.trans HXX.out
              clear hyy
              have b0 : w7.cell? ⟨gx, 0, none⟩ = some (.string y.f0) := (blk_cell BX.out 0).trans rfl
              have b1 : w7.cell? ⟨gx, 1, none⟩ = some (.int .u64 y.f1) := (blk_cell BX.out 1).trans rfl
              have b2 : w7.cell? ⟨gx, 2, none⟩ = some (.int .i64 y.f2) := (blk_cell BX.out 2).trans rfl
              have b3 : w7.cell? ⟨gx, 3, none⟩ = some (.string y.f3) := (blk_cell BX.out 3).trans rfl
              go_wp2_with fail
              go_quiet (fail)
              go_wp2_with fail
              have hi100 := HM.out
              have ew : wrap64 ((i : Int) + 1) = ((i + 1 : Nat) : Int) := by unfold wrap64; omega
              try rw [ew]
              go_roundg q
              case measure => omega
              case rel => exact ⟨i + 1, rfl, ⟨by have := HK.out; omega⟩, ⟨SA.out.below (pw_below_drewN (Below.refl _ _) nq)⟩, ⟨Kd.C_below HL.out (pw_below_drewN (Below.refl _ _) nq)⟩, ⟨Kd.C_below H2.out (pw_below_drewN (Below.refl _ _) nq)⟩, ⟨pw_below_drewN HB.out nq⟩⟩
            · have hin2 : decide ((i : Int) < (n : Int)) = false := decide_eq_false (by have := of_decide_eq_false hin; omega)
              go_wp2_with fail
              refine start_ (n := 18) (S := fun w' => w'.cell? (ad.add (i * 4)) = some (.string x.f0) ∧ w'.cell? ⟨(ad.add (i * 4)).block, (ad.add (i * 4)).off + 1, none⟩ = some (.int .u64 x.f1)) (ds := [16]) #[false, false, false, false, false, false, false, false, false, false, false, false, false, false, false, false, false, false] (by kernel_rfl) rfl rfl ⟨hx0, hx1⟩ (fun hHeld => ?_)
              have n0_ := Aside0.mk (below_step HB.out (pw_below_drewN (Below.refl _ _) 1))
              have n1_ := Aside0.mk (SA.out.below (pw_below_drewN (Below.refl _ _) 1))
              have n2_ := Aside0.mk (Kd.C_below HL.out (pw_below_drewN (Below.refl _ _) 1))
              have n3_ := Aside0.mk (Kd.C_below H2.out (pw_below_drewN (Below.refl _ _) 1))
              replace n0_ : Aside0 (Below w.heap.size w wr.drew) := n0_
              replace n1_ : Aside0 (Sk wr.drew ga ra) := n1_
              replace n2_ : Aside0 (Kd.C k28 wr.drew (some ad) L.length L) := n2_
              replace n3_ : Aside0 (Kd.C k28 wr.drew A2 B.length B) := n3_
              clear HB SA HL H2 hx0 hx1 hx2 hx3 HX0 HX1 HX2 HX3
              generalize wr.drew = wd at *
              have HB := n0_
              have SA := n1_
              have HL := n2_
              have H2 := n3_
              clear n0_ n1_ n2_ n3_
              -- 0: Op.move t9
              refine pure_ (i := 0) (N := (some 104)) (v := ?_) (a' := ?_) #[true, false, false, false, false, false, false, false, false, false, false, false, false, false, false, false, false, false] rfl rfl (by kernel_rfl) (fun _ _ _ h => h) (Or.inl ⟨by rfl, ?_⟩) ?_ ?_
              rotate_left
              · intro w'
                go_simp
                with_reducible rfl
              rotate_left
              · simp only [Act.put, List.setIfInBounds_toArray, List.set_cons_zero, List.set_cons_succ, i64_w, i32_w]
                rfl
              -- 1: Op.move t12
              refine pure_ (i := 1) (N := (some 105)) (v := ?_) (a' := ?_) #[true, true, false, false, false, false, false, false, false, false, false, false, false, false, false, false, false, false] rfl rfl (by kernel_rfl) (fun _ _ _ h => h) (Or.inl ⟨by rfl, ?_⟩) ?_ ?_
              rotate_left
              · intro w'
                go_simp
                with_reducible rfl
              rotate_left
              · simp only [Act.put, List.setIfInBounds_toArray, List.set_cons_zero, List.set_cons_succ, i64_w, i32_w]
                rfl
              -- 2: Op.move t15
              refine pure_ (i := 2) (N := (some 106)) (v := ?_) (a' := ?_) #[true, true, true, false, false, false, false, false, false, false, false, false, false, false, false, false, false, false] rfl rfl (by kernel_rfl) (fun _ _ _ h => h) (Or.inl ⟨by rfl, ?_⟩) ?_ ?_
              rotate_left
              · intro w'
                go_simp
                with_reducible rfl
              rotate_left
              · simp only [Act.put, List.setIfInBounds_toArray, List.set_cons_zero, List.set_cons_succ, i64_w, i32_w]
                rfl
              -- 3: Op.indexAddr 22 t105 t106
              refine pure_ (i := 3) (N := (some 107)) (v := ?_) (a' := ?_) #[true, true, true, true, false, false, false, false, false, false, false, false, false, false, false, false, false, false] rfl rfl (by kernel_rfl) (fun _ _ _ h => h) (Or.inl ⟨by rfl, ?_⟩) ?_ ?_
              rotate_left
              · intro w'
                go_simp
                with_reducible rfl
              rotate_left
              · simp only [Act.put, List.setIfInBounds_toArray, List.set_cons_zero, List.set_cons_succ, i64_w, i32_w]
                rfl
              -- 4: Op.fieldAddr 28 t107 0
              refine pure_ (i := 4) (N := (some 108)) (v := ?_) (a' := ?_) #[true, true, true, true, true, false, false, false, false, false, false, false, false, false, false, false, false, false] rfl rfl (by kernel_rfl) (fun _ _ _ h => h) (Or.inl ⟨by rfl, ?_⟩) ?_ ?_
              rotate_left
              · intro w'
                go_simp
                with_reducible rfl
              rotate_left
              · simp only [Act.put, List.setIfInBounds_toArray, List.set_cons_zero, List.set_cons_succ, i64_w, i32_w]
                rfl
              -- 5: Op.load 9 t108
              refine take_ (i := 5) (N := (some 109)) (v := ?_) (a' := ?_) #[true, true, true, true, true, true, false, false, false, false, false, false, false, false, false, false, false, false] rfl rfl (by kernel_rfl) (fun _ _ _ h => h) (Or.inl ⟨by rfl, ?_⟩) hHeld ?_ ?_
              rotate_left
              · rintro w' ⟨s0, s1⟩
                go_simp
                with_reducible rfl
              rotate_left
              · simp only [Act.put, List.setIfInBounds_toArray, List.set_cons_zero, List.set_cons_succ, i64_w, i32_w]
                rfl
              -- 6: Op.move t12
              refine pure_ (i := 6) (N := (some 110)) (v := ?_) (a' := ?_) #[true, true, true, true, true, true, true, false, false, false, false, false, false, false, false, false, false, false] rfl rfl (by kernel_rfl) (fun _ _ _ h => h) (Or.inl ⟨by rfl, ?_⟩) ?_ ?_
              rotate_left
              · intro w'
                go_simp
                with_reducible rfl
              rotate_left
              · simp only [Act.put, List.setIfInBounds_toArray, List.set_cons_zero, List.set_cons_succ, i64_w, i32_w]
                rfl
              -- 7: Op.move t15
              refine pure_ (i := 7) (N := (some 111)) (v := ?_) (a' := ?_) #[true, true, true, true, true, true, true, true, false, false, false, false, false, false, false, false, false, false] rfl rfl (by kernel_rfl) (fun _ _ _ h => h) (Or.inl ⟨by rfl, ?_⟩) ?_ ?_
              rotate_left
              · intro w'
                go_simp
                with_reducible rfl
              rotate_left
              · simp only [Act.put, List.setIfInBounds_toArray, List.set_cons_zero, List.set_cons_succ, i64_w, i32_w]
                rfl
              -- 8: Op.indexAddr 22 t110 t111
              refine pure_ (i := 8) (N := (some 112)) (v := ?_) (a' := ?_) #[true, true, true, true, true, true, true, true, true, false, false, false, false, false, false, false, false, false] rfl rfl (by kernel_rfl) (fun _ _ _ h => h) (Or.inl ⟨by rfl, ?_⟩) ?_ ?_
              rotate_left
              · intro w'
                go_simp
                with_reducible rfl
              rotate_left
              · simp only [Act.put, List.setIfInBounds_toArray, List.set_cons_zero, List.set_cons_succ, i64_w, i32_w]
                rfl
              -- 9: Op.fieldAddr 28 t112 1
              refine pure_ (i := 9) (N := (some 113)) (v := ?_) (a' := ?_) #[true, true, true, true, true, true, true, true, true, true, false, false, false, false, false, false, false, false] rfl rfl (by kernel_rfl) (fun _ _ _ h => h) (Or.inl ⟨by rfl, ?_⟩) ?_ ?_
              rotate_left
              · intro w'
                go_simp
                with_reducible rfl
              rotate_left
              · simp only [Act.put, List.setIfInBounds_toArray, List.set_cons_zero, List.set_cons_succ, i64_w, i32_w]
                rfl
              -- 10: Op.load 24 t113
              refine take_ (i := 10) (N := (some 114)) (v := ?_) (a' := ?_) #[true, true, true, true, true, true, true, true, true, true, true, false, false, false, false, false, false, false] rfl rfl (by kernel_rfl) (fun _ _ _ h => h) (Or.inl ⟨by rfl, ?_⟩) hHeld ?_ ?_
              rotate_left
              · rintro w' ⟨s0, s1⟩
                go_simp
                with_reducible rfl
              rotate_left
              · simp only [Act.put, List.setIfInBounds_toArray, List.set_cons_zero, List.set_cons_succ, i64_w, i32_w]
                rfl
              refine join_ (σ := Nat) 2 #[true, true, true, true, true, true, true, true, true, true, true, true, true, true, true, true, false, false] (fun gx : Nat => [(16, .pointer (some ⟨gx, 0, none⟩)), (115, .tuple #[rowV x, .bool true]), (103, .tuple #[rowV x, .bool true]), (116, rowV x), (117, .bool true)]) (fun gx w' => Below wd.heap.size wd w' ∧ w'.heap[gx]? = some (.cells #[.string ⟨#[]⟩, .int .u64 0, .int .i64 0, .string ⟨#[]⟩] 28 (0, 0)) ∧ wd.heap.size ≤ gx) ?_ (fun hcont => ?_)
              rotate_left
              · have hsk : seekRow x.f0 x.f1 ra = x ∧ seekOk x.f0 x.f1 ra = true := seek_one (by rw [← HLR.out]; exact HOP.out)
                refine two_ (i := 11) (j := 15) (Ni := (some 115)) (Nj := (some 16)) #[true, true, true, true, true, true, true, true, true, true, true, true, false, false, false, false, false, false] #[true, true, true, true, true, true, true, true, true, true, true, false, false, false, false, true, false, false] rfl rfl rfl rfl (by kernel_rfl) (by decide) (by decide) (fun K hK => ?_) (fun K hK => ?_)
                · refine goes_ Try.func27 (by kernel_rfl) rfl #[.pointer (some ⟨ga, 0, none⟩), .string x.f0, .int .u64 x.f1] (by rfl) rfl rfl (by (try simp only [List.map_toArray, List.map_cons, List.map_nil]); first | done | rfl) ?_
                  with_reducible refine (seek_calls wd ga ra x.f0 x.f1 SA.out (by have := HRA.out; omega)).mono ?_
                  rw [hsk.1, hsk.2]
                  rintro e wc ⟨rfl, hb⟩
                  refine ⟨_, rfl, ?_⟩
                  have hOld := hHeld
                  clear hHeld
                  refine hK.out _ _ (⟨(hb.cell (World.block_lt_of_cell? _ _ hOld.1)).trans hOld.1, (hb.cell (World.block_lt_of_cell? _ _ hOld.2)).trans hOld.2⟩) (fun hHeld => ?_)
                  clear hOld hK K
                  refine norm_ (a' := ?_) ?_ ?_
                  rotate_left
                  · show Act.put _ (some 115) _ = _
                    simp only [Act.put, List.setIfInBounds_toArray, List.set_cons_zero, List.set_cons_succ, i64_w, i32_w]
                    rfl
                  -- 12: Op.move t115
                  refine pure_ (i := 12) (N := (some 103)) (v := ?_) (a' := ?_) #[true, true, true, true, true, true, true, true, true, true, true, true, true, false, false, false, false, false] rfl rfl (by kernel_rfl) (fun _ _ _ h => h) (Or.inl ⟨by rfl, ?_⟩) ?_ ?_
                  rotate_left
                  · intro w'
                    go_simp
                    with_reducible rfl
                  rotate_left
                  · simp only [Act.put, List.setIfInBounds_toArray, List.set_cons_zero, List.set_cons_succ, i64_w, i32_w]
                    rfl
                  -- 13: Op.extract t103 0
                  refine pure_ (i := 13) (N := (some 116)) (v := ?_) (a' := ?_) #[true, true, true, true, true, true, true, true, true, true, true, true, true, true, false, false, false, false] rfl rfl (by kernel_rfl) (fun _ _ _ h => h) (Or.inl ⟨by rfl, ?_⟩) ?_ ?_
                  rotate_left
                  · intro w'
                    go_simp
                    with_reducible rfl
                  rotate_left
                  · simp only [Act.put, List.setIfInBounds_toArray, List.set_cons_zero, List.set_cons_succ, i64_w, i32_w]
                    rfl
                  -- 14: Op.extract t103 1
                  refine pure_ (i := 14) (N := (some 117)) (v := ?_) (a' := ?_) #[true, true, true, true, true, true, true, true, true, true, true, true, true, true, true, false, false, false] rfl rfl (by kernel_rfl) (fun _ _ _ h => h) (Or.inl ⟨by rfl, ?_⟩) ?_ ?_
                  rotate_left
                  · intro w'
                    go_simp
                    with_reducible rfl
                  rotate_left
                  · simp only [Act.put, List.setIfInBounds_toArray, List.set_cons_zero, List.set_cons_succ, i64_w, i32_w]
                    rfl
                  -- 15: Op.alloc 28
                  refine one_ (i := 15) (N := (some 16)) #[true, true, true, true, true, true, true, true, true, true, true, true, true, true, true, true, false, false] rfl rfl (by kernel_rfl) (by decide) (fun K hK => ?_)
                  refine value_ (w1 := wc.alloc (.cells #[.string ⟨#[]⟩, .int .u64 0, .int .i64 0, .string ⟨#[]⟩] 28)) (v := .pointer (some ⟨wc.heap.size, 0, none⟩)) (by rfl) rfl (by go_simp) ?_
                  have hb2 := (Below.refl wc.heap.size wc).alloc (Nat.le_refl _) (.cells #[.string ⟨#[]⟩, .int .u64 0, .int .i64 0, .string ⟨#[]⟩] 28)
                  have hOld := hHeld
                  clear hHeld
                  refine hK.out _ _ (⟨(hb2.cell (World.block_lt_of_cell? _ _ hOld.1)).trans hOld.1, (hb2.cell (World.block_lt_of_cell? _ _ hOld.2)).trans hOld.2⟩) (fun hHeld => ?_)
                  clear hOld hK K
                  refine norm_ (a' := ?_) ?_ ?_
                  rotate_left
                  · show Act.put _ (some 16) _ = _
                    simp only [Act.put, List.setIfInBounds_toArray, List.set_cons_zero, List.set_cons_succ, i64_w, i32_w]
                    rfl
                  exact hcont wc.heap.size _ ⟨below_step hb hb2, blk_new wc _, hb.size⟩
                · refine value_ (w1 := wd.alloc (.cells #[.string ⟨#[]⟩, .int .u64 0, .int .i64 0, .string ⟨#[]⟩] 28)) (v := .pointer (some ⟨wd.heap.size, 0, none⟩)) (by rfl) rfl (by go_simp) ?_
                  have hb2 := (Below.refl wd.heap.size wd).alloc (Nat.le_refl _) (.cells #[.string ⟨#[]⟩, .int .u64 0, .int .i64 0, .string ⟨#[]⟩] 28)
                  have hOld := hHeld
                  clear hHeld
                  refine hK.out _ _ (⟨(hb2.cell (World.block_lt_of_cell? _ _ hOld.1)).trans hOld.1, (hb2.cell (World.block_lt_of_cell? _ _ hOld.2)).trans hOld.2⟩) (fun hHeld => ?_)
                  clear hOld hK K
                  refine norm_ (a' := ?_) ?_ ?_
                  rotate_left
                  · show Act.put _ (some 16) _ = _
                    simp only [Act.put, List.setIfInBounds_toArray, List.set_cons_zero, List.set_cons_succ, i64_w, i32_w]
                    rfl
                  -- 11: Op.call { value (Operand.func 27), args := #[t104, t109, t114], argTypes := #[26, 9, 24] }
                  refine one_ (i := 11) (N := (some 115)) #[true, true, true, true, true, true, true, true, true, true, true, true, false, false, false, true, false, false] rfl rfl (by kernel_rfl) (by decide) (fun K hK => ?_)
                  refine goes_ Try.func27 (by kernel_rfl) rfl #[.pointer (some ⟨ga, 0, none⟩), .string x.f0, .int .u64 x.f1] (by rfl) rfl rfl (by (try simp only [List.map_toArray, List.map_cons, List.map_nil]); first | done | rfl) ?_
                  with_reducible refine (seek_calls _ ga ra x.f0 x.f1 (SA.out.below hb2) (by have := HRA.out; omega)).mono ?_
                  rw [hsk.1, hsk.2]
                  rintro e wc ⟨rfl, hb⟩
                  refine ⟨_, rfl, ?_⟩
                  have hOld := hHeld
                  clear hHeld
                  refine hK.out _ _ (⟨(hb.cell (World.block_lt_of_cell? _ _ hOld.1)).trans hOld.1, (hb.cell (World.block_lt_of_cell? _ _ hOld.2)).trans hOld.2⟩) (fun hHeld => ?_)
                  clear hOld hK K
                  refine norm_ (a' := ?_) ?_ ?_
                  rotate_left
                  · show Act.put _ (some 115) _ = _
                    simp only [Act.put, List.setIfInBounds_toArray, List.set_cons_zero, List.set_cons_succ, i64_w, i32_w]
                    rfl
                  -- 12: Op.move t115
                  refine pure_ (i := 12) (N := (some 103)) (v := ?_) (a' := ?_) #[true, true, true, true, true, true, true, true, true, true, true, true, true, false, false, true, false, false] rfl rfl (by kernel_rfl) (fun _ _ _ h => h) (Or.inl ⟨by rfl, ?_⟩) ?_ ?_
                  rotate_left
                  · intro w'
                    go_simp
                    with_reducible rfl
                  rotate_left
                  · simp only [Act.put, List.setIfInBounds_toArray, List.set_cons_zero, List.set_cons_succ, i64_w, i32_w]
                    rfl
                  -- 13: Op.extract t103 0
                  refine pure_ (i := 13) (N := (some 116)) (v := ?_) (a' := ?_) #[true, true, true, true, true, true, true, true, true, true, true, true, true, true, false, true, false, false] rfl rfl (by kernel_rfl) (fun _ _ _ h => h) (Or.inl ⟨by rfl, ?_⟩) ?_ ?_
                  rotate_left
                  · intro w'
                    go_simp
                    with_reducible rfl
                  rotate_left
                  · simp only [Act.put, List.setIfInBounds_toArray, List.set_cons_zero, List.set_cons_succ, i64_w, i32_w]
                    rfl
                  -- 14: Op.extract t103 1
                  refine pure_ (i := 14) (N := (some 117)) (v := ?_) (a' := ?_) #[true, true, true, true, true, true, true, true, true, true, true, true, true, true, true, true, false, false] rfl rfl (by kernel_rfl) (fun _ _ _ h => h) (Or.inl ⟨by rfl, ?_⟩) ?_ ?_
                  rotate_left
                  · intro w'
                    go_simp
                    with_reducible rfl
                  rotate_left
                  · simp only [Act.put, List.setIfInBounds_toArray, List.set_cons_zero, List.set_cons_succ, i64_w, i32_w]
                    rfl
                  exact hcont wd.heap.size _ ⟨below_step hb2 hb, blk_below (blk_new wd _) hb, Nat.le_refl _⟩
              intro gx wj hF
              obtain ⟨hbj, hbx, hgx⟩ := hF
              clear hHeld
              refine norm_ (a' := ?_) ?_ ?_
              rotate_left
              · show putAll _ [_, _, _, _, _] = _
                simp only [putAll, Act.put, List.setIfInBounds_toArray, List.set_cons_zero, List.set_cons_succ]
                rfl
              have hHeld := True.intro
              -- 16: Op.store 28 t16 t116
              refine last_ (i := 16) (N := none) #[true, true, true, true, true, true, true, true, true, true, true, true, true, true, true, true, true, false] rfl rfl (by kernel_rfl) (by decide) (fun K hK => ?_)
              refine store_ (by rfl) rfl 28 (.tmp 16) (.tmp 116) rfl gx 28 rfl #[.string x.f0, .int .u64 x.f1, .int .i64 x.f2, .string x.f3] rfl _ hbx size28 rfl (by first | rfl | kernel_rfl | decide) ?_
              intro w7 h7 h7b h7o h7s
              clear hHeld
              refine hK.out _ _ ?_
              clear hK K
              -- 17: Op.assign t117
              refine pure_ (i := 17) (N := (some 17)) (v := ?_) (a' := ?_) #[true, true, true, true, true, true, true, true, true, true, true, true, true, true, true, true, true, true] rfl rfl (by kernel_rfl) (fun _ _ _ h => h) (Or.inl ⟨by rfl, ?_⟩) ?_ ?_
              rotate_left
              · intro w'
                go_simp
                with_reducible rfl
              rotate_left
              · simp only [Act.put, List.setIfInBounds_toArray, List.set_cons_zero, List.set_cons_succ, i64_w, i32_w]
                rfl
              refine done_ (by kernel_rfl) ?_
              have n0_ := Aside0.mk (h7b w.heap.size w (below_step HB.out hbj) (Nat.le_trans (below_size HB.out) hgx))
              have n1_ := Aside0.mk (h7b wd.heap.size wd hbj hgx)
              have BX := Aside0.mk h7
              have SA7 := Aside0.mk (SA.out.below n1_.out)
              have HL7 := Aside0.mk (Kd.C_below HL.out n1_.out)
              have H27 := Aside0.mk (Kd.C_below H2.out n1_.out)
              clear hbj hbx hgx h7 h7b h7o h7s SA HL H2 HB n1_
              have SA := SA7
              have HL := HL7
              have H2 := H27
              have HB := n0_
              clear SA7 HL7 H27 n0_
              obtain ⟨ad', y, ea', hyy, hx0, hx1, hx2, hx3⟩ := at_row HL.out i hi
              cases ea'
              obtain rfl := hyy.symm.trans HXX.out
              clear hyy
              have b0 : w7.cell? ⟨gx, 0, none⟩ = some (.string y.f0) := (blk_cell BX.out 0).trans rfl
              have b1 : w7.cell? ⟨gx, 1, none⟩ = some (.int .u64 y.f1) := (blk_cell BX.out 1).trans rfl
              have b2 : w7.cell? ⟨gx, 2, none⟩ = some (.int .i64 y.f2) := (blk_cell BX.out 2).trans rfl
              have b3 : w7.cell? ⟨gx, 3, none⟩ = some (.string y.f3) := (blk_cell BX.out 3).trans rfl
              go_wp2_with fail
              go_quiet (fail)
              go_wp2_with fail
              have hi100 := HM.out
              have ew : wrap64 ((i : Int) + 1) = ((i + 1 : Nat) : Int) := by unfold wrap64; omega
              try rw [ew]
              go_roundg q
              case measure => omega
              case rel => exact ⟨i + 1, rfl, ⟨by have := HK.out; omega⟩, ⟨SA.out.below (pw_below_drewN (Below.refl _ _) nq)⟩, ⟨Kd.C_below HL.out (pw_below_drewN (Below.refl _ _) nq)⟩, ⟨Kd.C_below H2.out (pw_below_drewN (Below.refl _ _) nq)⟩, ⟨pw_below_drewN HB.out nq⟩⟩
      | succ q =>
        have hi : i < rows.length := by have := HK.out; omega
        have d0 : decide ((i : Int) < (rows.length : Int)) = true := decide_eq_true (by omega)
        have d1 : decide (i < rows.length) = true := decide_eq_true hi
        have p0 : 0 ≤ (i : Int) := by omega
        have p1 : (i : Int) < (rows.length : Int) := by omega
        obtain ⟨ad, r, ea, hrr, hx0, hx1, hx2, hx3⟩ := at_row HR0.out i hi
        cases ea
        have hx0' := (HB.out.cell (World.block_lt_of_cell? w _ hx0)).trans hx0
        have hx1' := (HB.out.cell (World.block_lt_of_cell? w _ hx1)).trans hx1
        have hx2' := (HB.out.cell (World.block_lt_of_cell? w _ hx2)).trans hx2
        have hx3' := (HB.out.cell (World.block_lt_of_cell? w _ hx3)).trans hx3
        have RM := Aside0.mk (show r ∈ rows by rw [← hrr, List.getD_eq_getElem?_getD, List.getElem?_eq_getElem hi]; exact List.getElem_mem _)
        clear hx0 hx1 hx2 hx3 hrr
        by_cases ch : i < hs.length
        · have d2 : decide ((i : Int) < (hs.length : Int)) = true := decide_eq_true (by omega)
          have d3 : decide (i < hs.length) = true := decide_eq_true ch
          have p2 : (i : Int) < (hs.length : Int) := by omega
          obtain ⟨ad1, ea1, hy⟩ := at_int HR1.out i ch
          cases ea1
          have hy' := (HB.out.cell (World.block_lt_of_cell? w _ hy)).trans hy
          clear hy
          go_wp2_with fail
          refine (put_val wr ga ra r (hAt hs i) SA.out (by have := LRA.out; have := CN.out; omega)).mono ?_
          rintro e w1 ⟨rfl, ra', hp⟩
          have n0_ := Aside0.mk (hp.low HB.out HB.out.size LA.out)
          have n3_ := Aside0.mk hp.sk
          have n4_ := Aside0.mk (show ∀ x, x ∈ rowsN ra' → x ∈ rows from fun x hx => (put_sub hp hx).elim (HSU.out x) (fun h => by rw [h]; exact RM.out))
          have n5_ := Aside0.mk (show ra'.length ≤ i + 1 by have := put_len hp; have := LRA.out; omega)
          clear SA LA HB hp hx0' hx1' hx2' hx3' HSU LRA
          have SA := n3_
          have LA := Aside0.mk n0_.out.2
          have HB := Aside0.mk n0_.out.1
          have HSU := n4_
          have LRA := n5_
          clear n0_ n3_ n4_ n5_
          go_wp2_with fail
          have hi100 := CN.out
          have ew : wrap64 ((i : Int) + 1) = ((i + 1 : Nat) : Int) := by unfold wrap64; omega
          try rw [ew]
          go_roundg q
          case measure => omega
          case rel => exact ⟨i + 1, ra', rfl, ⟨by have := HK.out; omega⟩, HSU, LRA, SA, LA, HB⟩
        · have d2 : decide ((i : Int) < (hs.length : Int)) = false := decide_eq_false (by omega)
          have d3 : decide (i < hs.length) = false := decide_eq_false ch
          go_wp2_with fail
          refine (put_val wr ga ra r (1) SA.out (by have := LRA.out; have := CN.out; omega)).mono ?_
          rintro e w1 ⟨rfl, ra', hp⟩
          have n0_ := Aside0.mk (hp.low HB.out HB.out.size LA.out)
          have n3_ := Aside0.mk hp.sk
          have n4_ := Aside0.mk (show ∀ x, x ∈ rowsN ra' → x ∈ rows from fun x hx => (put_sub hp hx).elim (HSU.out x) (fun h => by rw [h]; exact RM.out))
          have n5_ := Aside0.mk (show ra'.length ≤ i + 1 by have := put_len hp; have := LRA.out; omega)
          clear SA LA HB hp hx0' hx1' hx2' hx3' HSU LRA
          have SA := n3_
          have LA := Aside0.mk n0_.out.2
          have HB := Aside0.mk n0_.out.1
          have HSU := n4_
          have LRA := n5_
          clear n0_ n3_ n4_ n5_
          go_wp2_with fail
          have hi100 := CN.out
          have ew : wrap64 ((i : Int) + 1) = ((i + 1 : Nat) : Int) := by unfold wrap64; omega
          try rw [ew]
          go_roundg q
          case measure => omega
          case rel => exact ⟨i + 1, ra', rfl, ⟨by have := HK.out; omega⟩, HSU, LRA, SA, LA, HB⟩
end Go.Proofs.Ytfemebenkbobnaa.SK
