import Derived.Test.YtkjepfofiegcdaaVR0Y
/- The reader of edit.Decode (122, 123) and the reference's (124, 125), walked. Conditions: the bytes are within reach. -/
namespace Go.Proofs.Ytkjepfofiegcdaa.V
set_option linter.unusedVariables false
set_option linter.unusedSimpArgs false
open Go.RowKit Go.Proofs.YtkjepfofiegcdaaW.PrintWords Go.Proofs.YtkjepfofiegcdaaW.PrintLast Go.Proofs.YtkjepfofiegcdaaW.PrintMore Go.Proofs.Ytkjepfofiegcdaa.PB14
open H (uintS putL)
/-- What is left to be read; none: something was wrong. -/
def numO (st : Option ByteArray) (most : Int) : Int × Option ByteArray := match st with
  | none => (0, none)
  | some s => if (uintS s).2.2 = 0 ∧ (uintS s).1 ≤ most then ((uintS s).1, some (s.extract (uintS s).2.1.toNat s.size)) else (0, none)
def texO (st : Option ByteArray) : ByteArray × Option ByteArray := match st with
  | none => (⟨#[]⟩, none)
  | some s => if (fieldS s 520).2.2 = 0 then ((fieldS s 520).1, some (s.extract (fieldS s 520).2.1.toNat s.size)) else (⟨#[]⟩, none)
def RD (w : World) (gr : Nat) (st : Option ByteArray) : Prop := ∃ (s : ByteArray) (b : Bool), w.heap[gr]? = some (.cells #[.string s, .bool b] 148 (0, 0)) ∧ s.size ≤ 4611686018427387904 ∧ ((st = none ∧ b = true) ∨ (st = some s ∧ b = false))
/-- All blocks but one are as they were. -/
def KB (gr : Nat) (w w' : World) : Prop := (∀ k, k < w.heap.size → k ≠ gr → w'.heap[k]? = w.heap[k]?) ∧ Below gr w w'
theorem KB.of {gr : Nat} {w w' : World} (h : Below w.heap.size w w') (hg : gr ≤ w.heap.size) : KB gr w w' := ⟨fun k hk _ => h.block k hk, h.mono hg⟩
theorem KB.trans {gr : Nat} {w w1 w2 : World} (h : KB gr w w1) (h2 : KB gr w1 w2) : KB gr w w2 := ⟨fun k hk hn => (h2.1 k (Nat.lt_of_lt_of_le hk h.2.size) hn).trans (h.1 k hk hn), h.2.trans h2.2⟩
theorem KB.set {gr j : Nat} {w w' : World} (h : KB gr w w') (v : Value) : KB gr w (w'.setCell ⟨gr, j, none⟩ v) := ⟨fun k hk hn => (Below.heap_setCell w' ⟨gr, j, none⟩ v k hn).trans (h.1 k hk hn), h.2.setCell (Nat.le_refl _) v⟩
theorem KB.blk {gr g t : Nat} {w w' : World} {cs : Array Value} {fz : Nat × Nat} (h : KB gr w w') (hn : g ≠ gr) (hx : w.heap[g]? = some (.cells cs t fz)) : w'.heap[g]? = some (.cells cs t fz) := (h.1 g (blk_lt hx) hn).trans hx
theorem RD.lt {w : World} {gr : Nat} {st : Option ByteArray} (h : RD w gr st) : gr < w.heap.size := by
  obtain ⟨s, b, hx, _⟩ := h
  exact blk_lt hx
theorem RD.below {w w' : World} {gr : Nat} {st : Option ByteArray} (h : RD w gr st) (hb : Below w.heap.size w w') : RD w' gr st := by
  obtain ⟨s, b, hx, hs⟩ := h
  exact ⟨s, b, blk_below hx hb, hs⟩
theorem ext_size (s : ByteArray) (p : Nat) : (s.extract p s.size).size ≤ s.size := by rw [ByteArray.size_extract]; omega
theorem five_set0 {w : World} {g t j : Nat} {cs cs' : Array Value} (h : w.heap[g]? = some (.cells cs t (0, 0))) (u : Value) (hc : cs.setIfInBounds j u = cs') : (w.setCell ⟨g, j, none⟩ u).heap[g]? = some (.cells cs' t (0, 0)) := by
  rw [← hc]
  exact blk_set h j u
theorem numO_bad {s : ByteArray} {most : Int} (h : ¬ ((uintS s).2.2 = 0 ∧ (uintS s).1 ≤ most)) : numO (some s) most = (0, none) := by unfold numO; exact if_neg h
theorem numO_good {s : ByteArray} {most : Int} (h : (uintS s).2.2 = 0 ∧ (uintS s).1 ≤ most) : numO (some s) most = ((uintS s).1, some (s.extract (uintS s).2.1.toNat s.size)) := by unfold numO; exact if_pos h
theorem texO_bad {s : ByteArray} (h : ¬ (fieldS s 520).2.2 = 0) : texO (some s) = (⟨#[]⟩, none) := by unfold texO; exact if_neg h
theorem texO_good {s : ByteArray} (h : (fieldS s 520).2.2 = 0) : texO (some s) = ((fieldS s 520).1, some (s.extract (fieldS s 520).2.1.toNat s.size)) := by unfold texO; exact if_pos h
theorem ret_u {a b : Int} (h : a = b) : Ending.returned (.int .u64 a) = .returned (.int .u64 b) := by rw [h]
theorem ret_str {a b : ByteArray} (h : a = b) : Ending.returned (.string a) = .returned (.string b) := by rw [h]
set_option maxHeartbeats 8000000 in
set_option maxRecDepth 100000 in
theorem number_calls (w : World) (gr : Nat) (st : Option ByteArray) (most : Int) (h : RD w gr st) : Calls Try.prog 122 #[.pointer (some ⟨gr, 0, none⟩), .int .u64 most] w fun e w' => e = .returned (.int .u64 (numO st most).1) ∧ RD w' gr (numO st most).2 ∧ KB gr w w' := by
  obtain ⟨s, b, hx, hs, hst⟩ := h
  have HX := Aside0.mk hx
  have HS := Aside0.mk hs
  have y0 : w.cell? ⟨gr, 0, none⟩ = some (.string s) := (blk_cell hx 0).trans rfl
  clear hx hs
  obtain ⟨n0, r0, hno⟩ : ∃ n0 r0, numO st most = (n0, r0) := ⟨_, _, rfl⟩
  rw [hno]
  have NO := Aside0.mk hno
  have ST := Aside0.mk hst
  clear hst hno
  have U := uint_calls w s
  have UO := Aside0.mk (fun h => uint_ok (s := s) (v := (uintS s).1) (m := (uintS s).2.1) h)
  obtain ⟨v, m, er, hu⟩ : ∃ v m er, uintS s = (v, m, er) := ⟨_, _, _, rfl⟩
  have HU := Aside0.mk hu
  rw [hu] at U
  clear hu
  go_enter Try.func122, Try.ntmps122
  go_wp2_with fail
  refine U.mono ?_
  rintro x w2 ⟨rfl, hb⟩
  have HB2 := Aside0.mk hb
  have X2 := blk_below HX.out hb
  clear hb y0
  have y0 : w2.cell? ⟨gr, 0, none⟩ = some (.string s) := (blk_cell X2 0).trans rfl
  have y1 : w2.cell? ⟨gr, 1, none⟩ = some (.bool b) := (blk_cell X2 1).trans rfl
  have ff := blk_frozen X2 1
  clear X2
  cases b with
  | true =>
    have hst : st = none := by rcases ST.out with h | h; exact h.1; cases h.2
    have EV := Aside0.mk (show (n0, r0) = ((0 : Int), (none : Option ByteArray)) by rw [← NO.out, hst]; rfl)
    clear hst
    have X3 := Aside0.mk (five_set0 (blk_below HX.out HB2.out) (j := 1) (.bool true) (cs' := #[.string s, .bool true]) rfl)
    have K3 := Aside0.mk ((KB.of HB2.out (Nat.le_of_lt (blk_lt HX.out))).set (j := 1) (.bool true))
    go_upto_region 3 with (fail)
    generalize w2.setCell ⟨gr, 1, none⟩ (.bool true) = w3 at *
    clear y0 y1 ff
    have y1 : w3.cell? ⟨gr, 1, none⟩ = some (.bool true) := (blk_cell X3.out 1).trans rfl
    go_wp2_with fail
    go_ret
    exact ⟨ret_u (congrArg Prod.fst EV.out).symm, ⟨s, true, X3.out, HS.out, .inl ⟨congrArg Prod.snd EV.out, rfl⟩⟩, K3.out⟩
  | false =>
    have hst : st = some s := by rcases ST.out with h | h; cases h.2; exact h.1
    have NO2 := Aside0.mk (show numO (some s) most = (n0, r0) by rw [← hst]; exact NO.out)
    clear hst
    by_cases he : er = 0
    · subst he
      by_cases hm : v ≤ most
      · have OK := UO.out (by rw [HU.out])
        rw [HU.out] at OK
        dsimp only at OK
        have EV := Aside0.mk (show (n0, r0) = (v, some (s.extract m.toNat s.size)) by rw [← NO2.out, numO_good (by rw [HU.out]; exact ⟨rfl, hm⟩), HU.out])
        have d0 : ((0 : Int) != 0) = false := rfl
        have d1 : decide (most < v) = false := decide_eq_false (by omega)
        have m0 : 0 ≤ m := by have := OK.2.2.1; omega
        have m1 : m ≤ (s.size : Int) := OK.2.2.2.1
        clear hm OK UO
        have X3 := Aside0.mk (five_set0 (blk_below HX.out HB2.out) (j := 1) (.bool false) (cs' := #[.string s, .bool false]) rfl)
        have K3 := Aside0.mk ((KB.of HB2.out (Nat.le_of_lt (blk_lt HX.out))).set (j := 1) (.bool false))
        go_upto_region 3 with (fail)
        generalize w2.setCell ⟨gr, 1, none⟩ (.bool false) = w3 at *
        clear y0 y1 ff
        have y0 : w3.cell? ⟨gr, 0, none⟩ = some (.string s) := (blk_cell X3.out 0).trans rfl
        have y1 : w3.cell? ⟨gr, 1, none⟩ = some (.bool false) := (blk_cell X3.out 1).trans rfl
        have ff := blk_frozen X3.out 0
        have X4 := Aside0.mk (five_set0 X3.out (j := 0) (.string (s.extract m.toNat s.size)) (cs' := #[.string (s.extract m.toNat s.size), .bool false]) rfl)
        have K4 := Aside0.mk (K3.out.set (j := 0) (.string (s.extract m.toNat s.size)))
        go_wp2_with fail
        go_ret
        exact ⟨ret_u (congrArg Prod.fst EV.out).symm, ⟨s.extract m.toNat s.size, false, X4.out, Nat.le_trans (ext_size s _) HS.out, .inr ⟨congrArg Prod.snd EV.out, rfl⟩⟩, K4.out⟩
      · have EV := Aside0.mk (show (n0, r0) = ((0 : Int), (none : Option ByteArray)) by rw [← NO2.out, numO_bad (by rw [HU.out]; exact fun h => hm h.2)])
        have d0 : ((0 : Int) != 0) = false := rfl
        have d1 : decide (most < v) = true := decide_eq_true (by omega)
        clear hm UO
        have X3 := Aside0.mk (five_set0 (blk_below HX.out HB2.out) (j := 1) (.bool true) (cs' := #[.string s, .bool true]) rfl)
        have K3 := Aside0.mk ((KB.of HB2.out (Nat.le_of_lt (blk_lt HX.out))).set (j := 1) (.bool true))
        go_upto_region 3 with (fail)
        generalize w2.setCell ⟨gr, 1, none⟩ (.bool true) = w3 at *
        clear y0 y1 ff
        have y1 : w3.cell? ⟨gr, 1, none⟩ = some (.bool true) := (blk_cell X3.out 1).trans rfl
        go_wp2_with fail
        go_ret
        exact ⟨ret_u (congrArg Prod.fst EV.out).symm, ⟨s, true, X3.out, HS.out, .inl ⟨congrArg Prod.snd EV.out, rfl⟩⟩, K3.out⟩
    · have EV := Aside0.mk (show (n0, r0) = ((0 : Int), (none : Option ByteArray)) by rw [← NO2.out, numO_bad (by rw [HU.out]; exact fun h => he h.1)])
      have d0 : (er != 0) = true := by simp [he]
      have d2 : (er == 0) = false := by simp [he]
      clear he UO
      have X3 := Aside0.mk (five_set0 (blk_below HX.out HB2.out) (j := 1) (.bool true) (cs' := #[.string s, .bool true]) rfl)
      have K3 := Aside0.mk ((KB.of HB2.out (Nat.le_of_lt (blk_lt HX.out))).set (j := 1) (.bool true))
      go_upto_region 3 with (fail)
      generalize w2.setCell ⟨gr, 1, none⟩ (.bool true) = w3 at *
      clear y0 y1 ff
      have y1 : w3.cell? ⟨gr, 1, none⟩ = some (.bool true) := (blk_cell X3.out 1).trans rfl
      go_wp2_with fail
      go_ret
      exact ⟨ret_u (congrArg Prod.fst EV.out).symm, ⟨s, true, X3.out, HS.out, .inl ⟨congrArg Prod.snd EV.out, rfl⟩⟩, K3.out⟩
set_option maxHeartbeats 8000000 in
set_option maxRecDepth 100000 in
theorem text_calls (w : World) (gr : Nat) (st : Option ByteArray) (h : RD w gr st) : Calls Try.prog 123 #[.pointer (some ⟨gr, 0, none⟩)] w fun e w' => e = .returned (.string (texO st).1) ∧ RD w' gr (texO st).2 ∧ KB gr w w' := by
  obtain ⟨s, b, hx, hs, hst⟩ := h
  have HX := Aside0.mk hx
  have HS := Aside0.mk hs
  have y0 : w.cell? ⟨gr, 0, none⟩ = some (.string s) := (blk_cell hx 0).trans rfl
  clear hx hs
  obtain ⟨n0, r0, hno⟩ : ∃ n0 r0, texO st = (n0, r0) := ⟨_, _, rfl⟩
  rw [hno]
  have NO := Aside0.mk hno
  have ST := Aside0.mk hst
  clear hst hno
  have U := field_calls w s HS.out
  have UO := Aside0.mk (fun h => field_ok s 520 h)
  obtain ⟨v, m, er, hu⟩ : ∃ v m er, fieldS s 520 = (v, m, er) := ⟨_, _, _, rfl⟩
  have HU := Aside0.mk hu
  rw [hu] at U
  clear hu
  go_enter Try.func123, Try.ntmps123
  go_wp2_with fail
  refine U.mono ?_
  rintro x w2 ⟨rfl, hb⟩
  have HB2 := Aside0.mk hb
  have X2 := blk_below HX.out hb
  clear hb y0
  have y0 : w2.cell? ⟨gr, 0, none⟩ = some (.string s) := (blk_cell X2 0).trans rfl
  have y1 : w2.cell? ⟨gr, 1, none⟩ = some (.bool b) := (blk_cell X2 1).trans rfl
  have ff := blk_frozen X2 1
  clear X2
  cases b with
  | true =>
    have hst : st = none := by rcases ST.out with h | h; exact h.1; cases h.2
    have EV := Aside0.mk (show (n0, r0) = ((⟨#[]⟩ : ByteArray), (none : Option ByteArray)) by rw [← NO.out, hst]; rfl)
    clear hst
    have X3 := Aside0.mk (five_set0 (blk_below HX.out HB2.out) (j := 1) (.bool true) (cs' := #[.string s, .bool true]) rfl)
    have K3 := Aside0.mk ((KB.of HB2.out (Nat.le_of_lt (blk_lt HX.out))).set (j := 1) (.bool true))
    go_upto_region 3 with (fail)
    generalize w2.setCell ⟨gr, 1, none⟩ (.bool true) = w3 at *
    clear y0 y1 ff
    have y1 : w3.cell? ⟨gr, 1, none⟩ = some (.bool true) := (blk_cell X3.out 1).trans rfl
    go_wp2_with fail
    go_ret
    exact ⟨ret_str (congrArg Prod.fst EV.out).symm, ⟨s, true, X3.out, HS.out, .inl ⟨congrArg Prod.snd EV.out, rfl⟩⟩, K3.out⟩
  | false =>
    have hst : st = some s := by rcases ST.out with h | h; cases h.2; exact h.1
    have NO2 := Aside0.mk (show texO (some s) = (n0, r0) by rw [← hst]; exact NO.out)
    clear hst
    by_cases he : er = 0
    · subst he
      have OK := UO.out (by rw [HU.out])
      rw [HU.out] at OK
      dsimp only at OK
      have EV := Aside0.mk (show (n0, r0) = (v, some (s.extract m.toNat s.size)) by rw [← NO2.out, texO_good (by rw [HU.out]), HU.out])
      have d0 : ((0 : Int) != 0) = false := rfl
      have m0 : 0 ≤ m := by have := OK.1; omega
      have m1 : m ≤ (s.size : Int) := OK.2.1
      clear OK UO
      have X3 := Aside0.mk (five_set0 (blk_below HX.out HB2.out) (j := 1) (.bool false) (cs' := #[.string s, .bool false]) rfl)
      have K3 := Aside0.mk ((KB.of HB2.out (Nat.le_of_lt (blk_lt HX.out))).set (j := 1) (.bool false))
      go_upto_region 3 with (fail)
      generalize w2.setCell ⟨gr, 1, none⟩ (.bool false) = w3 at *
      clear y0 y1 ff
      have y0 : w3.cell? ⟨gr, 0, none⟩ = some (.string s) := (blk_cell X3.out 0).trans rfl
      have y1 : w3.cell? ⟨gr, 1, none⟩ = some (.bool false) := (blk_cell X3.out 1).trans rfl
      have ff := blk_frozen X3.out 0
      have X4 := Aside0.mk (five_set0 X3.out (j := 0) (.string (s.extract m.toNat s.size)) (cs' := #[.string (s.extract m.toNat s.size), .bool false]) rfl)
      have K4 := Aside0.mk (K3.out.set (j := 0) (.string (s.extract m.toNat s.size)))
      go_wp2_with fail
      go_ret
      exact ⟨ret_str (congrArg Prod.fst EV.out).symm, ⟨s.extract m.toNat s.size, false, X4.out, Nat.le_trans (ext_size s _) HS.out, .inr ⟨congrArg Prod.snd EV.out, rfl⟩⟩, K4.out⟩
    · have EV := Aside0.mk (show (n0, r0) = ((⟨#[]⟩ : ByteArray), (none : Option ByteArray)) by rw [← NO2.out, texO_bad (by rw [HU.out]; exact he)])
      have d0 : (er != 0) = true := by simp [he]
      have d2 : (er == 0) = false := by simp [he]
      clear he UO
      have X3 := Aside0.mk (five_set0 (blk_below HX.out HB2.out) (j := 1) (.bool true) (cs' := #[.string s, .bool true]) rfl)
      have K3 := Aside0.mk ((KB.of HB2.out (Nat.le_of_lt (blk_lt HX.out))).set (j := 1) (.bool true))
      go_upto_region 3 with (fail)
      generalize w2.setCell ⟨gr, 1, none⟩ (.bool true) = w3 at *
      clear y0 y1 ff
      have y1 : w3.cell? ⟨gr, 1, none⟩ = some (.bool true) := (blk_cell X3.out 1).trans rfl
      go_wp2_with fail
      go_ret
      exact ⟨ret_str (congrArg Prod.fst EV.out).symm, ⟨s, true, X3.out, HS.out, .inl ⟨congrArg Prod.snd EV.out, rfl⟩⟩, K3.out⟩
end Go.Proofs.Ytkjepfofiegcdaa.V
