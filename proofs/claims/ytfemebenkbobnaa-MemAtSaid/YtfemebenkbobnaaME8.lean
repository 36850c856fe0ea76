import Derived.Test.YtfemebenkbobnaaME7
/- The law MemParts in the plain: the room is that of all rows, a range is told in two parts. Conditions: none. -/
namespace Go.Proofs.Ytfemebenkbobnaa.SM
set_option linter.unusedVariables false
set_option linter.unusedSimpArgs false
open Go.RowKit Go.Shelf Go.Proofs.YtfemebenkbobnaaW.PrintWords Go.Proofs.YtfemebenkbobnaaW.PrintLast Go.Proofs.YtfemebenkbobnaaW.PrintMore Go.Proofs.Ytfemebenkbobnaa.PB06
theorem sorted_put {r : S28} {l : List S28} (h : SortedR l) (ht : takenR r l = false) : SortedR (putR r l) := by
  have e := ahdR_beh r.f0 r.f1 l
  have ho : (ahdR r.f0 r.f1 l ++ behR r.f0 r.f1 l).Pairwise bef := by rw [e]; exact h
  rw [List.pairwise_append] at ho
  obtain ⟨o1, o2, o3⟩ := ho
  have hn : ∀ y, y ∈ behR r.f0 r.f1 l → bef r y := by
    intro y hy
    have hh := behR_head (key := r.f0) (seq := r.f1) (l := l)
    unfold takenR at ht
    cases hq : behR r.f0 r.f1 l with
    | nil => rw [hq] at hy; simp at hy
    | cons z R =>
      rw [hq] at hy ht hh o2
      have hz : bef r z := bef_other (hh z rfl) (fun hc => by simp [hc.1, hc.2] at ht)
      rcases List.mem_cons.mp hy with rfl | hy
      · exact hz
      · exact bef_trans hz ((List.pairwise_cons.mp o2).1 y hy)
  unfold putR
  rw [if_neg (by rw [ht]; decide)]
  show (_ ++ _ :: _).Pairwise bef
  rw [List.pairwise_append]
  refine ⟨o1, List.pairwise_cons.mpr ⟨hn, o2⟩, fun x hx y hy => ?_⟩
  rcases List.mem_cons.mp hy with rfl | hy
  · exact ahdR_all x hx
  · exact o3 x hx y hy
def roomS : List S28 → Nat
  | [] => 0
  | x :: r => (x.f0.size + x.f3.size + 16) + roomS r
theorem roomS_app : ∀ a b : List S28, roomS (a ++ b) = roomS a + roomS b
  | [], b => by simp [roomS]
  | x :: a, b => by rw [List.cons_append, roomS, roomS, roomS_app a b]; omega
theorem roomS_put {r : S28} {l : List S28} (ht : takenR r l = false) : roomS (putR r l) = roomS l + (r.f0.size + r.f3.size + 16) := by
  have e := congrArg roomS (ahdR_beh r.f0 r.f1 l)
  rw [roomS_app] at e
  unfold putR
  rw [if_neg (by rw [ht]; decide), roomS_app, roomS]
  omega
/-- A table's rows in order, its room that of its rows. -/
structure Good (t : Ts) : Prop where
  sorted : SortedR (t.l.map (·.1))
  room : t.room = (roomS (t.l.map (·.1)) : Int)
theorem runT_good {n : Int} {l : List S72} {hs : List Int} {t : Ts} (h : Good t) (hn : ∀ r, r ∈ rowsL n 0 l → takenV r t.l = false) : ∀ i, i ≤ (rowsL n 0 l).length → Good (runT (rowsL n 0 l) hs t i) ∧ ∀ y, y ∈ (runT (rowsL n 0 l) hs t i).l.map (·.1) → y ∈ t.l.map (·.1) ∨ ∃ j, j < i ∧ y = (rowsL n 0 l).getD j z28
  | 0, _ => ⟨h, fun y hy => .inl hy⟩
  | i + 1, hi => by
    obtain ⟨ih, im⟩ := runT_good (hs := hs) h hn i (by omega)
    have hlen : (rowsL n 0 l).length = l.length := rowsL_len n 0 l
    have g : ∀ j (hj : j < l.length), (rowsL n 0 l).getD j z28 = row1 n j l[j] := fun j hj => by
      rw [List.getD_eq_getElem?_getD, rowsL_get n 0 j l hj, Nat.zero_add]; rfl
    have hm : (rowsL n 0 l).getD i z28 ∈ rowsL n 0 l := by
      rw [List.getD_eq_getElem?_getD, List.getElem?_eq_getElem (by omega)]
      exact List.getElem_mem _
    have hfree : takenR ((rowsL n 0 l).getD i z28) ((runT (rowsL n 0 l) hs t i).l.map (·.1)) = false := by
      refine not_taken fun y hy hsame => ?_
      rcases im y hy with hy | ⟨j, hj, rfl⟩
      · exact free_all h.sorted (by rw [← rows_taken]; exact hn _ hm) y hy hsame
      · have h2 := hsame.2
        rw [g j (by omega), g i (by omega)] at h2
        have h3 : n + (j : Int) = n + (i : Int) := h2
        omega
    rw [runT, stepT]
    refine ⟨⟨?_, ?_⟩, fun y hy => ?_⟩
    · show SortedR ((putV _ _ _).map _)
      rw [rows_put]
      exact sorted_put ih.sorted hfree
    · show (runT (rowsL n 0 l) hs t i).room + _ = (roomS ((putV _ _ _).map _) : Int)
      rw [rows_put, roomS_put hfree, ih.room]
      omega
    · replace hy : y ∈ (putV _ _ _).map _ := hy
      rw [rows_put, putR_mem hfree] at hy
      rcases hy with hy | rfl
      · rcases im y hy with hy | ⟨j, hj, e⟩
        · exact .inl hy
        · exact .inr ⟨j, by omega, e⟩
      · exact .inr ⟨i, by omega, rfl⟩
theorem addT_good {hs : List Int} {n : Int} {l : List S72} {t : Ts} (h : Good t) : Good (addT hs n l t) := by
  unfold addT
  split
  · rename_i hc
    exact (runT_good h hc.2 _ (Nat.le_refl _)).1
  · exact h
theorem laid_good (L : List S58) (hs : List Int) : ∀ i, Good (laidT L hs i)
  | 0 => ⟨List.Pairwise.nil, rfl⟩
  | i + 1 => addT_good (laid_good L hs i)
/-! ### A range in two parts -/
theorem less_of {a b c : List UInt8} (h1 : Op.bytesLess a b = true) (h2 : Op.bytesLess c b = false) : Op.bytesLess a c = true := by
  by_cases e : c = b
  · rw [e]; exact h1
  · exact less_trans h1 (less_total h2 e)
theorem drop_drop {α : Type} {p q : α → Bool} (h : ∀ x, p x = true → q x = true) : ∀ l : List α, (l.dropWhile p).dropWhile q = l.dropWhile q
  | [] => rfl
  | x :: r => by
    by_cases c : p x = true
    · rw [List.dropWhile_cons_of_pos c, drop_drop h r, List.dropWhile_cons_of_pos (h x c)]
    · rw [List.dropWhile_cons_of_neg c]
theorem take_two {α : Type} {p q : α → Bool} (h : ∀ x, q x = true → p x = true) : ∀ l : List α, l.takeWhile q ++ (l.dropWhile q).takeWhile p = l.takeWhile p
  | [] => rfl
  | x :: r => by
    by_cases c : q x = true
    · rw [List.takeWhile_cons_of_pos c, List.dropWhile_cons_of_pos c, List.takeWhile_cons_of_pos (h x c), List.cons_append, take_two h r]
    · rw [List.takeWhile_cons_of_neg c, List.dropWhile_cons_of_neg c, List.nil_append]
theorem behR_max {key : ByteArray} : ∀ {L : List S28}, (∀ x, x ∈ L → x.f1 ≤ 18446744073709551615) → behR key 18446744073709551615 L = L.dropWhile fun x => Op.bytesLess x.f0.toList key.toList
  | [], _ => rfl
  | x :: r, hu => by
    have e : aheadB key 18446744073709551615 x = Op.bytesLess x.f0.toList key.toList := by
      have h1 := hu x List.mem_cons_self
      unfold aheadB
      rw [show decide (x.f1 > 18446744073709551615) = false from decide_eq_false (by omega), Bool.and_false, Bool.or_false]
    have ih := behR_max (key := key) (L := r) (fun y hy => hu y (List.mem_cons_of_mem _ hy))
    unfold behR at ih ⊢
    by_cases c : Op.bytesLess x.f0.toList key.toList = true
    · rw [List.dropWhile_cons_of_pos (by rw [e]; exact c), List.dropWhile_cons_of_pos (p := fun x : S28 => Op.bytesLess x.f0.toList key.toList) c, ih]
    · rw [List.dropWhile_cons_of_neg (by rw [e]; exact c), List.dropWhile_cons_of_neg (p := fun x : S28 => Op.bytesLess x.f0.toList key.toList) c]
theorem parts {from_ cut to_ : ByteArray} {L : List S28} (hu : ∀ x, x ∈ L → x.f1 ≤ 18446744073709551615) (h1 : Op.bytesLess cut.toList from_.toList = false) (h2 : cut.toList.isEmpty = false) (h3 : to_.toList.isEmpty = true ∨ Op.bytesLess to_.toList cut.toList = false) :
    rangeR cut (behR from_ 18446744073709551615 L) ++ rangeR to_ (behR cut 18446744073709551615 L) = rangeR to_ (behR from_ 18446744073709551615 L) := by
  have hw : ∀ x, within cut x = Op.bytesLess x.f0.toList cut.toList := fun x => by unfold within; rw [h2, Bool.false_or]
  have e1 : (fun x => within cut x) = fun x : S28 => Op.bytesLess x.f0.toList cut.toList := funext hw
  rw [behR_max hu, behR_max hu]
  unfold rangeR
  rw [e1, ← drop_drop (p := fun x : S28 => Op.bytesLess x.f0.toList from_.toList) (q := fun x : S28 => Op.bytesLess x.f0.toList cut.toList) (fun x hx => less_of hx h1) L]
  refine take_two (fun x hx => ?_) _
  unfold within
  rcases h3 with h3 | h3
  · rw [h3]; rfl
  · rw [less_of hx h3, Bool.or_true]
theorem roomS_take {L : List S28} {i : Nat} (h : i < L.length) : roomS (L.take (i + 1)) = roomS (L.take i) + ((L.getD i z28).f0.size + (L.getD i z28).f3.size + 16) := by
  rw [List.take_add_one, List.getElem?_eq_getElem h, roomS_app, List.getD_eq_getElem?_getD, List.getElem?_eq_getElem h]
  simp [roomS]
theorem roomS_le (L : List S28) (i : Nat) : roomS (L.take i) ≤ roomS L := by
  have h := congrArg roomS (List.take_append_drop i L)
  rw [roomS_app] at h
  omega
set_option maxHeartbeats 8000000 in
set_option maxRecDepth 100000 in
theorem memParts_calls (w : World) (A0 : Option Addr) (c0 : Nat) (L : List S58) (hr0 : k58.C w A0 L.length L) (hc0 : L.length ≤ c0) (from_ cut to_ : ByteArray) :
    Calls Try.prog 19 #[.slice A0 L.length c0, .string from_, .string cut, .string to_] w fun e w' => e = .returned (.bool true) ∧ Below w.heap.size w w' := by
  have HR0 := Aside0.mk hr0
  have HC0 := Aside0.mk hc0
  clear hr0 hc0
  go_enter Try.func19, Try.ntmps19
  go_wp2_with fail
  have hla := laid_calls w A0 c0 L HR0.out HC0.out none 0 [] (Kd.C_nil _ _)
  by_cases hok : L.length ≤ 30 ∧ ∀ b, b ∈ L → b.f1.length ≤ 70
  · have OK := Aside0.mk hok
    rw [decide_eq_true hok] at hla
    clear hok
    refine hla.mono ?_
    clear hla
    rintro e w1 ⟨g, rs, rfl, hb, hA⟩
    obtain ⟨hsa, hva, hma⟩ := hA OK.out
    have HA := Aside0.mk hsa
    have VA := Aside0.mk hva
    have MA := Aside0.mk hma
    have HB := Aside0.mk hb
    have GA := Aside0.mk (laid_good L [] L.length)
    have LA := Aside0.mk (show rs.length ≤ 2100 by have h1 := hma.len; have h2 := congrArg List.length hva; rw [vals_len] at h2; have h3 := OK.out.1; omega)
    have UA := Aside0.mk (show ∀ x, x ∈ rs → x.row.f1 ≤ 18446744073709551615 from fun x hx => hma.u64 (x.row, x.h) (by rw [← hva]; exact List.mem_map.mpr ⟨x, hx, rfl⟩))
    clear hsa hva hma hA hb
    generalize laidT L [] L.length = t at *
    cases q1 : Op.bytesLess cut.toList from_.toList with
    | true =>
      have hor : ¬ (Op.bytesLess from_.toList cut.toList = true ∨ from_.toList = cut.toList) := fun h => by
        rcases h with h | h
        · have h2 := less_trans h q1
          rw [less_irr] at h2
          cases h2
        · rw [h, less_irr] at q1
          cases q1
      have hor1 : Op.bytesLess from_.toList cut.toList = false := by
        cases hq : Op.bytesLess from_.toList cut.toList with
        | false => rfl
        | true => exact absurd (.inl hq) hor
      have hor2 : ¬ from_.toList = cut.toList := fun h => hor (.inr h)
      have hor3 : (from_.toList == cut.toList) = false := beq_eq_false_iff_ne.mpr hor2
      clear hor
      go_wp2_with fail
      refine (awake09_calls _).mono ?_
      rintro e w3 ⟨rfl, hb⟩
      have HB2 := Aside0.mk (below_step HB.out hb)
      clear hb HB
      go_wp2_with fail
      go_ret
      exact ⟨rfl, HB2.out⟩
    | false =>
      have P1 := Aside0.mk q1
      have hor : Op.bytesLess from_.toList cut.toList = true ∨ from_.toList = cut.toList := by
        by_cases e : from_.toList = cut.toList
        · exact .inr e
        · exact .inl (less_total q1 (fun e2 => e e2.symm))
      have hob : (!Op.bytesLess from_.toList cut.toList && !(from_.toList == cut.toList)) = false := by
        rcases hor with h | h
        · rw [h]; rfl
        · rw [h, beq_self_eq_true]; simp
      clear q1
      cases q2 : cut.toList.isEmpty with
      | true =>
        have k1 : cut.toList = [] := List.isEmpty_iff.mp q2
        have k2 : (cut.toList == []) = true := by rw [k1]; rfl
        have k3 : decide (cut.toList = []) = true := decide_eq_true k1
        clear k1
        go_wp2_with fail
        refine (awake09_calls _).mono ?_
        rintro e w3 ⟨rfl, hb⟩
        have HB2 := Aside0.mk (below_step HB.out hb)
        clear hb HB
        go_wp2_with fail
        go_ret
        exact ⟨rfl, HB2.out⟩
      | false =>
        have P2 := Aside0.mk q2
        have k1 : ¬ cut.toList = [] := fun e => by rw [e] at q2; cases q2
        have k2 : (cut.toList == []) = false := beq_eq_false_iff_ne.mpr k1
        have k3 : decide (cut.toList = []) = false := decide_eq_false k1
        cases q3 : to_.toList.isEmpty with
        | true =>
          have P3 := Aside0.mk (show to_.toList.isEmpty = true ∨ Op.bytesLess to_.toList cut.toList = false from .inl q3)
          have k4 : to_.toList = [] := List.isEmpty_iff.mp q3
          have k5 : (to_.toList != []) = false := by rw [k4]; rfl
          have k6 : (to_.toList == []) = true := by rw [k4]; rfl
          go_wp2_with fail
          refine (rows_tab HA.out (by have := LA.out; omega) UA.out).mono ?_
          rintro e w3 ⟨v, rfl, hR, hb⟩
          obtain ⟨Lr, hLr⟩ : ∃ Lr, Lr = rowsN rs := ⟨_, rfl⟩
          rw [← hLr] at hR
          have HLR := Aside0.mk hLr
          have LL := Aside0.mk (show Lr.length = rs.length by rw [hLr, rowsN, List.length_map])
          have UL := Aside0.mk (show ∀ x, x ∈ Lr → x.f1 ≤ 18446744073709551615 from fun x hx => by rw [hLr] at hx; obtain ⟨z, hz, rfl⟩ := List.mem_map.mp hx; exact UA.out z hz)
          have RM := Aside0.mk (show t.room = (roomS Lr : Int) by rw [hLr, rowsN_vals, VA.out]; exact GA.out.room)
          have RB := Aside0.mk (show roomS Lr ≤ 4200033600 by have h1 := RM.out; have h2 := MA.out.hi; have h3 := OK.out.1; rw [h1] at h2; omega)
          clear hLr
          obtain ⟨AR, cR, hv⟩ := Kd.R_slice hR
          subst hv
          have CR := Aside0.mk (Kd.R_reads' hR).2.2
          have n0_ := Aside0.mk (HA.out.below hb)
          have n1_ := Aside0.mk (below_step HB.out hb)
          clear hR HA HB hb
          have HA := n0_
          have HB := n1_
          clear n0_ n1_
          go_wp2_with fail
          go_loopg [11, 13] Lr.length (fun kq v11 v13 w' => ∃ (i m : Nat), v11 = .int .i64 ((roomS (Lr.take i) : Nat) : Int) ∧ v13 = .int .i64 (i : Int) ∧ Aside0 (kq + i = Lr.length) ∧ w' = w3.drewN m)
          case atStart => exact ⟨0, 0, rfl, rfl, ⟨by omega⟩, rfl⟩
          case round =>
            obtain ⟨i, m, rfl, rfl, HK, rfl⟩ := hrel
            cases gk with
            | zero =>
              have ei : i = Lr.length := by have := HK.out; omega
              subst ei
              have d0 : decide ((Lr.length : Int) < (Lr.length : Int)) = false := by simp
              rw [List.take_length]
              have n0_ := Aside0.mk (HA.out.below (pw_below_drewN (Below.refl _ _) m))
              have n1_ := Aside0.mk (below_step HB.out (pw_below_drewN (Below.refl _ _) m))
              clear HA HB CR HK
              generalize w3.drewN m = w4 at *
              have HA := n0_
              have HB := n1_
              clear n0_ n1_
              go_wp2_with fail
              refine (range_tab HA.out (by have := LA.out; omega) from_ cut).mono ?_
              rw [beh_rows, ← HLR.out]
              rintro e w5 ⟨v, rfl, hR, hb⟩
              obtain ⟨Ra, hRa⟩ : ∃ Ra, Ra = rangeR cut (behR from_ 18446744073709551615 Lr) := ⟨_, rfl⟩
              rw [← hRa] at hR
              have ERa := Aside0.mk hRa
              have LRa := Aside0.mk (show Ra.length ≤ 2100 by rw [hRa]; have h1 := (List.takeWhile_prefix (fun x => within cut x) (l := behR from_ 18446744073709551615 Lr)).length_le; have h2 := (List.dropWhile_suffix (fun x : S28 => aheadB from_ 18446744073709551615 x) (l := Lr)).length_le; have h3 := LL.out; have h4 := LA.out; unfold rangeR; unfold behR at *; omega)
              obtain ⟨Aa, ca, hv⟩ := Kd.R_slice hR
              subst hv
              have CA := Aside0.mk (Kd.R_reads' hR).2.2
              have n0_ := Aside0.mk (HA.out.below hb)
              have n1_ := Aside0.mk (below_step HB.out hb)
              clear hR HA HB hb hRa
              have HA := n0_
              have HB := n1_
              clear n0_ n1_
              go_wp2_with fail
              refine (range_tab HA.out (by have := LA.out; omega) cut to_).mono ?_
              rw [beh_rows, ← HLR.out]
              rintro e w6 ⟨v, rfl, hR, hb⟩
              obtain ⟨Rb, hRb⟩ : ∃ Rb, Rb = rangeR to_ (behR cut 18446744073709551615 Lr) := ⟨_, rfl⟩
              rw [← hRb] at hR
              have ERb := Aside0.mk hRb
              have LRb := Aside0.mk (show Rb.length ≤ 2100 by rw [hRb]; have h1 := (List.takeWhile_prefix (fun x => within to_ x) (l := behR cut 18446744073709551615 Lr)).length_le; have h2 := (List.dropWhile_suffix (fun x : S28 => aheadB cut 18446744073709551615 x) (l := Lr)).length_le; have h3 := LL.out; have h4 := LA.out; unfold rangeR; unfold behR at *; omega)
              obtain ⟨Ab, cb, hv⟩ := Kd.R_slice hR
              subst hv
              have CB := Aside0.mk (Kd.R_reads' hR).2.2
              have n0_ := Aside0.mk (HA.out.below hb)
              have n1_ := Aside0.mk (below_step HB.out hb)
              have n2_ := Aside0.mk (Kd.C_below CA.out hb)
              clear hR HA HB CA hb hRb
              have HA := n0_
              have HB := n1_
              have CA := n2_
              clear n0_ n1_ n2_
              go_wp2_with (first | ((with_reducible refine gate_dst (N := 74) rfl ?_); refine Kd.R_lit k28 (w0 := w6) w6.heap.size 28 ?hgd (N := 74) ?hd (xs := ([] : List S28)) (inner := []) (ok := fun _ => True) (okp := fun _ => True) ?hr ?hp (fun _ hk => hk) trivial (Below.refl _ _) (Nat.le_refl _) (by simp) ?_; (case hd => rfl); (case hgd => rfl); (case hr => first | (go_simp; done) | (go_simp; rfl)); (case hp => exact (Reps.none _ _)); intro v74 w7 ho hb hg_ hnew_; have HO := Aside0.mk ho; have HBL := Aside0.mk hb; clear ho hb hg_ hnew_) | ((with_reducible refine gate_builtin (b := .append) (xs := #[.tmp 74, .tmp 75]) rfl ?_); at_builtin; refine Kd.R_append_rows k28 (w0 := w6) w6.heap.size rfl (.tmp 74) (.tmp 75) 22 28 (.agg #[(.string ⟨#[]⟩), (.int .u64 0), (.int .i64 0), (.string ⟨#[]⟩)]) 48 rfl Try.underlying22 info28 rfl (by decide) (by omega) v74 ([]) Ra _ _ _ (fun _ => True) (fun _ => False) rfl rfl ?aO ?aR (fun _ _ h => h) (fun _ h => h.elim) ?aF ?aB ?aS ?aL ?_; (case aR => exact (Kd.C_below CA.out HBL.out)); (case aB => exact HBL.out); (case aF => exact (fun _ _ => trivial)); (case aO => exact HO.out); (case aS => exact HBL.out.size); (case aL => (have h1 := LRa.out; have h2 := LRb.out; simp; omega)); intro v76 w8 ho hb hg hat; clear HO HBL hg hat; have HO := Aside0.mk ho; have HBL := Aside0.mk hb; clear ho hb) | ((with_reducible refine gate_builtin (b := .append) (xs := #[.tmp 76, .tmp 77]) rfl ?_); at_builtin; refine Kd.R_append_rows k28 (w0 := w6) w6.heap.size rfl (.tmp 76) (.tmp 77) 22 28 (.agg #[(.string ⟨#[]⟩), (.int .u64 0), (.int .i64 0), (.string ⟨#[]⟩)]) 48 rfl Try.underlying22 info28 rfl (by decide) (by omega) v76 ([] ++ Ra) Rb _ _ _ (fun _ => True) (fun _ => False) rfl rfl ?aO ?aR (fun _ _ h => h) (fun _ h => h.elim) ?aF ?aB ?aS ?aL ?_; (case aR => exact (Kd.C_below CB.out HBL.out)); (case aB => exact HBL.out); (case aF => exact (fun _ _ => trivial)); (case aO => exact HO.out); (case aS => exact HBL.out.size); (case aL => (have h1 := LRa.out; have h2 := LRb.out; simp; omega)); intro v78 w9 ho hb hg hat; clear HO HBL hg hat; have HO := Aside0.mk ho; have HBL := Aside0.mk hb; clear ho hb; obtain ⟨A78, c78, hv⟩ := Kd.R_slice HO.out; subst hv) | fail)
              refine (range_tab (HA.out.below HBL.out) (by have := LA.out; omega) from_ to_).mono ?_
              rw [beh_rows, ← HLR.out]
              rintro e w10 ⟨v, rfl, hR, hb⟩
              rw [← parts UL.out P1.out P2.out P3.out, ← ERa.out, ← ERb.out] at hR
              have CO := Aside0.mk (Kd.R_reads' HO.out).2.2
              have COc := Aside0.mk (Kd.R_reads' HO.out).2.1
              obtain ⟨Ac, cc, hv⟩ := Kd.R_slice hR
              subst hv
              have CC := Aside0.mk (Kd.R_reads' hR).2.2
              have CCc := Aside0.mk (Kd.R_reads' hR).2.1
              have n0_ := Aside0.mk ((HA.out.below HBL.out).below hb)
              have n1_ := Aside0.mk (below_step (below_step HB.out HBL.out) hb)
              have n2_ := Aside0.mk (Kd.C_below CO.out hb)
              clear hR HA HB CA CB CO HO HBL hb
              have HA := n0_
              have HB := n1_
              have CO := n2_
              clear n0_ n1_ n2_
              rw [List.nil_append] at CO COc
              try rw [List.nil_append]
              obtain ⟨Rab, hRab⟩ : ∃ Rab, Rab = Ra ++ Rb := ⟨_, rfl⟩
              have LAB := Aside0.mk (show Rab.length ≤ 4200 by rw [hRab, List.length_append]; have := LRa.out; have := LRb.out; omega)
              have HRL := Aside0.mk (show Ra.length + Rb.length = Rab.length by rw [hRab, List.length_append])
              rw [← hRab] at CO COc CC CCc
              rw [← hRab]
              clear hRab
              go_wp2_with fail
              rw [HRL.out]
              refine (same_true w10 A78 c78 Ac cc Rab CO.out COc.out CC.out CCc.out (by have := LAB.out; omega)).mono ?_
              rintro e w11 ⟨rfl, hb⟩
              have n0_ := Aside0.mk (HA.out.below hb)
              have n1_ := Aside0.mk (below_step HB.out hb)
              clear HA HB CO CC hb
              go_wp2_with fail
              have h60 := room_tab n0_.out
              rw [RM.out] at h60
              refine h60.mono ?_
              clear h60
              rintro e w12 ⟨rfl, hb⟩
              have HA := Aside0.mk (n0_.out.below hb)
              have HB := Aside0.mk (below_step n1_.out hb)
              clear n0_ n1_ hb
              go_wp2_with fail
              have h61 := tlen_tab HA.out
              rw [← LL.out] at h61
              refine h61.mono ?_
              clear h61
              rintro e w13 ⟨rfl, hb⟩
              have n1_ := Aside0.mk (below_step HB.out hb)
              clear HA HB hb
              go_wp2_with fail
              refine (awake09_calls _).mono ?_
              rintro e w14 ⟨rfl, hb⟩
              have HB2 := Aside0.mk (below_step n1_.out hb)
              clear hb n1_
              go_wp2_with fail
              go_ret
              exact ⟨rfl, HB2.out⟩
            | succ q =>
              have hi : i < Lr.length := by have := HK.out; omega
              have d0 : decide ((i : Int) < (Lr.length : Int)) = true := decide_eq_true (by omega)
              have d1 : decide (i < Lr.length) = true := decide_eq_true hi
              have p0 : 0 ≤ (i : Int) := Int.natCast_nonneg _
              have p1 : (i : Int) < (Lr.length : Int) := Int.ofNat_lt.mpr hi
              have wi2 : True → IntKind.i64.wrap (i : Int) = (i : Int) := fun _ => by have h1 := LL.out; have h2 := LA.out; rw [IntKind.wrap_i64]; omega
              obtain ⟨ad, x, ea, hxx, hx0, hx1, hx2, hx3⟩ := at_row CR.out i hi
              cases ea
              obtain ⟨b0, hb0⟩ : ∃ v, v = roomS (Lr.take i) := ⟨_, rfl⟩
              obtain ⟨b1, hb1⟩ : ∃ v, v = b0 + x.f0.size := ⟨_, rfl⟩
              obtain ⟨b2, hb2⟩ : ∃ v, v = b1 + x.f3.size := ⟨_, rfl⟩
              obtain ⟨b3, hb3⟩ : ∃ v, v = b2 + 16 := ⟨_, rfl⟩
              have B3 := Aside0.mk (show roomS (Lr.take (i + 1)) = b3 by rw [roomS_take hi, hxx, ← hb0, hb3, hb2, hb1]; omega)
              have hle : b3 ≤ 4200033600 := by rw [← B3.out]; exact Nat.le_trans (roomS_le _ _) RB.out
              rw [← hb0]
              have e1 : True → (b0 : Int) + (x.f0.size : Int) = (b1 : Int) := fun _ => by omega
              have e2 : True → (b1 : Int) + (x.f3.size : Int) = (b2 : Int) := fun _ => by omega
              have e3 : True → (b2 : Int) + 16 = (b3 : Int) := fun _ => by omega
              have w1_ : True → IntKind.i64.wrap (b1 : Int) = (b1 : Int) := fun _ => by rw [IntKind.wrap_i64]; omega
              have w2_ : True → IntKind.i64.wrap (b2 : Int) = (b2 : Int) := fun _ => by rw [IntKind.wrap_i64]; omega
              have w3_ : True → IntKind.i64.wrap (b3 : Int) = (b3 : Int) := fun _ => by rw [IntKind.wrap_i64]; omega
              have v1_ : True → wrap64 (b1 : Int) = (b1 : Int) := fun _ => by unfold wrap64; omega
              have v2_ : True → wrap64 (b2 : Int) = (b2 : Int) := fun _ => by unfold wrap64; omega
              have v3_ : True → wrap64 (b3 : Int) = (b3 : Int) := fun _ => by unfold wrap64; omega
              clear hxx hx1 hx2 hb0 hb1 hb2 hb3 hle
              go_wp2_with fail
              go_quiet (fail)
              go_wp2_with fail
              have ew : wrap64 ((i : Int) + 1) = ((i + 1 : Nat) : Int) := by have h1 := LL.out; have h2 := LA.out; unfold wrap64; omega
              try rw [ew]
              go_roundg q
              case measure => omega
              case rel => exact ⟨i + 1, m + nq, by rw [B3.out], rfl, ⟨by have := HK.out; omega⟩, rfl⟩
        | false =>
          have k4 : ¬ to_.toList = [] := fun e => by rw [e] at q3; cases q3
          have k5 : (to_.toList != []) = true := bne_iff_ne.mpr k4
          have k6 : (to_.toList == []) = false := beq_eq_false_iff_ne.mpr k4
          cases q4 : Op.bytesLess to_.toList cut.toList with
          | true =>
            have hos1 : Op.bytesLess cut.toList to_.toList = false := by
              cases hq : Op.bytesLess cut.toList to_.toList with
              | false => rfl
              | true =>
                have h2 := less_trans hq q4
                rw [less_irr] at h2
                cases h2
            have hos2 : ¬ cut.toList = to_.toList := fun h => by rw [h, less_irr] at q4; cases q4
            have hos3 : (cut.toList == to_.toList) = false := beq_eq_false_iff_ne.mpr hos2
            go_wp2_with fail
            refine (awake09_calls _).mono ?_
            rintro e w3 ⟨rfl, hb⟩
            have HB2 := Aside0.mk (below_step HB.out hb)
            clear hb HB
            go_wp2_with fail
            go_ret
            exact ⟨rfl, HB2.out⟩
          | false =>
            have P3 := Aside0.mk (show to_.toList.isEmpty = true ∨ Op.bytesLess to_.toList cut.toList = false from .inr q4)
            have hos : Op.bytesLess cut.toList to_.toList = true ∨ cut.toList = to_.toList := by
              by_cases e : cut.toList = to_.toList
              · exact .inr e
              · exact .inl (less_total q4 (fun e2 => e e2.symm))
            have hoc : (!Op.bytesLess cut.toList to_.toList && !(cut.toList == to_.toList)) = false := by
              rcases hos with h | h
              · rw [h]; rfl
              · rw [h, beq_self_eq_true]; simp
            clear q4
            go_wp2_with fail
            refine (rows_tab HA.out (by have := LA.out; omega) UA.out).mono ?_
            rintro e w3 ⟨v, rfl, hR, hb⟩
            obtain ⟨Lr, hLr⟩ : ∃ Lr, Lr = rowsN rs := ⟨_, rfl⟩
            rw [← hLr] at hR
            have HLR := Aside0.mk hLr
            have LL := Aside0.mk (show Lr.length = rs.length by rw [hLr, rowsN, List.length_map])
            have UL := Aside0.mk (show ∀ x, x ∈ Lr → x.f1 ≤ 18446744073709551615 from fun x hx => by rw [hLr] at hx; obtain ⟨z, hz, rfl⟩ := List.mem_map.mp hx; exact UA.out z hz)
            have RM := Aside0.mk (show t.room = (roomS Lr : Int) by rw [hLr, rowsN_vals, VA.out]; exact GA.out.room)
            have RB := Aside0.mk (show roomS Lr ≤ 4200033600 by have h1 := RM.out; have h2 := MA.out.hi; have h3 := OK.out.1; rw [h1] at h2; omega)
            clear hLr
            obtain ⟨AR, cR, hv⟩ := Kd.R_slice hR
            subst hv
            have CR := Aside0.mk (Kd.R_reads' hR).2.2
            have n0_ := Aside0.mk (HA.out.below hb)
            have n1_ := Aside0.mk (below_step HB.out hb)
            clear hR HA HB hb
            have HA := n0_
            have HB := n1_
            clear n0_ n1_
            go_wp2_with fail
            go_loopg [11, 13] Lr.length (fun kq v11 v13 w' => ∃ (i m : Nat), v11 = .int .i64 ((roomS (Lr.take i) : Nat) : Int) ∧ v13 = .int .i64 (i : Int) ∧ Aside0 (kq + i = Lr.length) ∧ w' = w3.drewN m)
            case atStart => exact ⟨0, 0, rfl, rfl, ⟨by omega⟩, rfl⟩
            case round =>
              obtain ⟨i, m, rfl, rfl, HK, rfl⟩ := hrel
              cases gk with
              | zero =>
                have ei : i = Lr.length := by have := HK.out; omega
                subst ei
                have d0 : decide ((Lr.length : Int) < (Lr.length : Int)) = false := by simp
                rw [List.take_length]
                have n0_ := Aside0.mk (HA.out.below (pw_below_drewN (Below.refl _ _) m))
                have n1_ := Aside0.mk (below_step HB.out (pw_below_drewN (Below.refl _ _) m))
                clear HA HB CR HK
                generalize w3.drewN m = w4 at *
                have HA := n0_
                have HB := n1_
                clear n0_ n1_
                go_wp2_with fail
                refine (range_tab HA.out (by have := LA.out; omega) from_ cut).mono ?_
                rw [beh_rows, ← HLR.out]
                rintro e w5 ⟨v, rfl, hR, hb⟩
                obtain ⟨Ra, hRa⟩ : ∃ Ra, Ra = rangeR cut (behR from_ 18446744073709551615 Lr) := ⟨_, rfl⟩
                rw [← hRa] at hR
                have ERa := Aside0.mk hRa
                have LRa := Aside0.mk (show Ra.length ≤ 2100 by rw [hRa]; have h1 := (List.takeWhile_prefix (fun x => within cut x) (l := behR from_ 18446744073709551615 Lr)).length_le; have h2 := (List.dropWhile_suffix (fun x : S28 => aheadB from_ 18446744073709551615 x) (l := Lr)).length_le; have h3 := LL.out; have h4 := LA.out; unfold rangeR; unfold behR at *; omega)
                obtain ⟨Aa, ca, hv⟩ := Kd.R_slice hR
                subst hv
                have CA := Aside0.mk (Kd.R_reads' hR).2.2
                have n0_ := Aside0.mk (HA.out.below hb)
                have n1_ := Aside0.mk (below_step HB.out hb)
                clear hR HA HB hb hRa
                have HA := n0_
                have HB := n1_
                clear n0_ n1_
                go_wp2_with fail
                refine (range_tab HA.out (by have := LA.out; omega) cut to_).mono ?_
                rw [beh_rows, ← HLR.out]
                rintro e w6 ⟨v, rfl, hR, hb⟩
                obtain ⟨Rb, hRb⟩ : ∃ Rb, Rb = rangeR to_ (behR cut 18446744073709551615 Lr) := ⟨_, rfl⟩
                rw [← hRb] at hR
                have ERb := Aside0.mk hRb
                have LRb := Aside0.mk (show Rb.length ≤ 2100 by rw [hRb]; have h1 := (List.takeWhile_prefix (fun x => within to_ x) (l := behR cut 18446744073709551615 Lr)).length_le; have h2 := (List.dropWhile_suffix (fun x : S28 => aheadB cut 18446744073709551615 x) (l := Lr)).length_le; have h3 := LL.out; have h4 := LA.out; unfold rangeR; unfold behR at *; omega)
                obtain ⟨Ab, cb, hv⟩ := Kd.R_slice hR
                subst hv
                have CB := Aside0.mk (Kd.R_reads' hR).2.2
                have n0_ := Aside0.mk (HA.out.below hb)
                have n1_ := Aside0.mk (below_step HB.out hb)
                have n2_ := Aside0.mk (Kd.C_below CA.out hb)
                clear hR HA HB CA hb hRb
                have HA := n0_
                have HB := n1_
                have CA := n2_
                clear n0_ n1_ n2_
                go_wp2_with (first | ((with_reducible refine gate_dst (N := 74) rfl ?_); refine Kd.R_lit k28 (w0 := w6) w6.heap.size 28 ?hgd (N := 74) ?hd (xs := ([] : List S28)) (inner := []) (ok := fun _ => True) (okp := fun _ => True) ?hr ?hp (fun _ hk => hk) trivial (Below.refl _ _) (Nat.le_refl _) (by simp) ?_; (case hd => rfl); (case hgd => rfl); (case hr => first | (go_simp; done) | (go_simp; rfl)); (case hp => exact (Reps.none _ _)); intro v74 w7 ho hb hg_ hnew_; have HO := Aside0.mk ho; have HBL := Aside0.mk hb; clear ho hb hg_ hnew_) | ((with_reducible refine gate_builtin (b := .append) (xs := #[.tmp 74, .tmp 75]) rfl ?_); at_builtin; refine Kd.R_append_rows k28 (w0 := w6) w6.heap.size rfl (.tmp 74) (.tmp 75) 22 28 (.agg #[(.string ⟨#[]⟩), (.int .u64 0), (.int .i64 0), (.string ⟨#[]⟩)]) 48 rfl Try.underlying22 info28 rfl (by decide) (by omega) v74 ([]) Ra _ _ _ (fun _ => True) (fun _ => False) rfl rfl ?aO ?aR (fun _ _ h => h) (fun _ h => h.elim) ?aF ?aB ?aS ?aL ?_; (case aR => exact (Kd.C_below CA.out HBL.out)); (case aB => exact HBL.out); (case aF => exact (fun _ _ => trivial)); (case aO => exact HO.out); (case aS => exact HBL.out.size); (case aL => (have h1 := LRa.out; have h2 := LRb.out; simp; omega)); intro v76 w8 ho hb hg hat; clear HO HBL hg hat; have HO := Aside0.mk ho; have HBL := Aside0.mk hb; clear ho hb) | ((with_reducible refine gate_builtin (b := .append) (xs := #[.tmp 76, .tmp 77]) rfl ?_); at_builtin; refine Kd.R_append_rows k28 (w0 := w6) w6.heap.size rfl (.tmp 76) (.tmp 77) 22 28 (.agg #[(.string ⟨#[]⟩), (.int .u64 0), (.int .i64 0), (.string ⟨#[]⟩)]) 48 rfl Try.underlying22 info28 rfl (by decide) (by omega) v76 ([] ++ Ra) Rb _ _ _ (fun _ => True) (fun _ => False) rfl rfl ?aO ?aR (fun _ _ h => h) (fun _ h => h.elim) ?aF ?aB ?aS ?aL ?_; (case aR => exact (Kd.C_below CB.out HBL.out)); (case aB => exact HBL.out); (case aF => exact (fun _ _ => trivial)); (case aO => exact HO.out); (case aS => exact HBL.out.size); (case aL => (have h1 := LRa.out; have h2 := LRb.out; simp; omega)); intro v78 w9 ho hb hg hat; clear HO HBL hg hat; have HO := Aside0.mk ho; have HBL := Aside0.mk hb; clear ho hb; obtain ⟨A78, c78, hv⟩ := Kd.R_slice HO.out; subst hv) | fail)
                refine (range_tab (HA.out.below HBL.out) (by have := LA.out; omega) from_ to_).mono ?_
                rw [beh_rows, ← HLR.out]
                rintro e w10 ⟨v, rfl, hR, hb⟩
                rw [← parts UL.out P1.out P2.out P3.out, ← ERa.out, ← ERb.out] at hR
                have CO := Aside0.mk (Kd.R_reads' HO.out).2.2
                have COc := Aside0.mk (Kd.R_reads' HO.out).2.1
                obtain ⟨Ac, cc, hv⟩ := Kd.R_slice hR
                subst hv
                have CC := Aside0.mk (Kd.R_reads' hR).2.2
                have CCc := Aside0.mk (Kd.R_reads' hR).2.1
                have n0_ := Aside0.mk ((HA.out.below HBL.out).below hb)
                have n1_ := Aside0.mk (below_step (below_step HB.out HBL.out) hb)
                have n2_ := Aside0.mk (Kd.C_below CO.out hb)
                clear hR HA HB CA CB CO HO HBL hb
                have HA := n0_
                have HB := n1_
                have CO := n2_
                clear n0_ n1_ n2_
                rw [List.nil_append] at CO COc
                try rw [List.nil_append]
                obtain ⟨Rab, hRab⟩ : ∃ Rab, Rab = Ra ++ Rb := ⟨_, rfl⟩
                have LAB := Aside0.mk (show Rab.length ≤ 4200 by rw [hRab, List.length_append]; have := LRa.out; have := LRb.out; omega)
                have HRL := Aside0.mk (show Ra.length + Rb.length = Rab.length by rw [hRab, List.length_append])
                rw [← hRab] at CO COc CC CCc
                rw [← hRab]
                clear hRab
                go_wp2_with fail
                rw [HRL.out]
                refine (same_true w10 A78 c78 Ac cc Rab CO.out COc.out CC.out CCc.out (by have := LAB.out; omega)).mono ?_
                rintro e w11 ⟨rfl, hb⟩
                have n0_ := Aside0.mk (HA.out.below hb)
                have n1_ := Aside0.mk (below_step HB.out hb)
                clear HA HB CO CC hb
                go_wp2_with fail
                have h60 := room_tab n0_.out
                rw [RM.out] at h60
                refine h60.mono ?_
                clear h60
                rintro e w12 ⟨rfl, hb⟩
                have HA := Aside0.mk (n0_.out.below hb)
                have HB := Aside0.mk (below_step n1_.out hb)
                clear n0_ n1_ hb
                go_wp2_with fail
                have h61 := tlen_tab HA.out
                rw [← LL.out] at h61
                refine h61.mono ?_
                clear h61
                rintro e w13 ⟨rfl, hb⟩
                have n1_ := Aside0.mk (below_step HB.out hb)
                clear HA HB hb
                go_wp2_with fail
                refine (awake09_calls _).mono ?_
                rintro e w14 ⟨rfl, hb⟩
                have HB2 := Aside0.mk (below_step n1_.out hb)
                clear hb n1_
                go_wp2_with fail
                go_ret
                exact ⟨rfl, HB2.out⟩
              | succ q =>
                have hi : i < Lr.length := by have := HK.out; omega
                have d0 : decide ((i : Int) < (Lr.length : Int)) = true := decide_eq_true (by omega)
                have d1 : decide (i < Lr.length) = true := decide_eq_true hi
                have p0 : 0 ≤ (i : Int) := Int.natCast_nonneg _
                have p1 : (i : Int) < (Lr.length : Int) := Int.ofNat_lt.mpr hi
                have wi2 : True → IntKind.i64.wrap (i : Int) = (i : Int) := fun _ => by have h1 := LL.out; have h2 := LA.out; rw [IntKind.wrap_i64]; omega
                obtain ⟨ad, x, ea, hxx, hx0, hx1, hx2, hx3⟩ := at_row CR.out i hi
                cases ea
                obtain ⟨b0, hb0⟩ : ∃ v, v = roomS (Lr.take i) := ⟨_, rfl⟩
                obtain ⟨b1, hb1⟩ : ∃ v, v = b0 + x.f0.size := ⟨_, rfl⟩
                obtain ⟨b2, hb2⟩ : ∃ v, v = b1 + x.f3.size := ⟨_, rfl⟩
                obtain ⟨b3, hb3⟩ : ∃ v, v = b2 + 16 := ⟨_, rfl⟩
                have B3 := Aside0.mk (show roomS (Lr.take (i + 1)) = b3 by rw [roomS_take hi, hxx, ← hb0, hb3, hb2, hb1]; omega)
                have hle : b3 ≤ 4200033600 := by rw [← B3.out]; exact Nat.le_trans (roomS_le _ _) RB.out
                rw [← hb0]
                have e1 : True → (b0 : Int) + (x.f0.size : Int) = (b1 : Int) := fun _ => by omega
                have e2 : True → (b1 : Int) + (x.f3.size : Int) = (b2 : Int) := fun _ => by omega
                have e3 : True → (b2 : Int) + 16 = (b3 : Int) := fun _ => by omega
                have w1_ : True → IntKind.i64.wrap (b1 : Int) = (b1 : Int) := fun _ => by rw [IntKind.wrap_i64]; omega
                have w2_ : True → IntKind.i64.wrap (b2 : Int) = (b2 : Int) := fun _ => by rw [IntKind.wrap_i64]; omega
                have w3_ : True → IntKind.i64.wrap (b3 : Int) = (b3 : Int) := fun _ => by rw [IntKind.wrap_i64]; omega
                have v1_ : True → wrap64 (b1 : Int) = (b1 : Int) := fun _ => by unfold wrap64; omega
                have v2_ : True → wrap64 (b2 : Int) = (b2 : Int) := fun _ => by unfold wrap64; omega
                have v3_ : True → wrap64 (b3 : Int) = (b3 : Int) := fun _ => by unfold wrap64; omega
                clear hxx hx1 hx2 hb0 hb1 hb2 hb3 hle
                go_wp2_with fail
                go_quiet (fail)
                go_wp2_with fail
                have ew : wrap64 ((i : Int) + 1) = ((i + 1 : Nat) : Int) := by have h1 := LL.out; have h2 := LA.out; unfold wrap64; omega
                try rw [ew]
                go_roundg q
                case measure => omega
                case rel => exact ⟨i + 1, m + nq, by rw [B3.out], rfl, ⟨by have := HK.out; omega⟩, rfl⟩
  · rw [decide_eq_false hok] at hla
    clear hok
    refine hla.mono ?_
    clear hla
    rintro e w1 ⟨g, rs, rfl, hb, _⟩
    have HB := Aside0.mk hb
    clear hb
    go_wp2_with fail
    refine (awake09_calls _).mono ?_
    rintro e w3 ⟨rfl, hb⟩
    have HB2 := Aside0.mk (below_step HB.out hb)
    clear hb HB
    go_wp2_with fail
    go_ret
    exact ⟨rfl, HB2.out⟩
end Go.Proofs.Ytfemebenkbobnaa.SM
