-- printed by wip/mkprint.py, a program of this session, over the kit's print program: functions proved by hand are taken in
import Derived.Test.YtfemebenkbobnaaPB060
import Derived.Test.YtfemebenkbobnaaPB063
namespace Go.Proofs.Ytfemebenkbobnaa.PB06
open Go.RowKit Go.Proofs.YtfemebenkbobnaaW.PrintWords Go.Proofs.YtfemebenkbobnaaW.PrintLast Go.Proofs.YtfemebenkbobnaaW.PrintMore
attribute [local go_sem] max2_int min2_int max_two min_two max_three min_three max_four min_four   -- for this text's walks alone
set_option linter.unusedVariables false
set_option linter.unusedSimpArgs false

/-! ### batch_Encode: function 35 -/
-- ASSUME batch_Encode rounds=1 making=1 imports=Derived.Test.YtfemebenkbobnaaHBytes+Derived.Test.YtfemebenkbobnaaHUint+Derived.Laws.IdiomStrings+Derived.Laws.EntriesVeiled
theorem kinds_calls (w : World) : Calls Try.prog 69 #[] w fun e w' => e = .returned (.agg #[.nilFunc, .nilFunc, .func (.func 85) #[] #[], .func (.func 86) #[] #[], .func (.func 87) #[] #[], .func (.func 88) #[] #[]]) ∧ Below w.heap.size w w' := by
  go_enter Try.func69, Try.ntmps69
  go_wp2
  exact bodyPost_ret (v := .agg #[.nilFunc, .nilFunc, .func (.func 85) #[] #[], .func (.func 86) #[] #[], .func (.func 87) #[] #[], .func (.func 88) #[] #[]]) (by simp [results, Try.results69, go_sem]) rfl ⟨rfl, (Below.refl _ _).alloc (Nat.le_refl _) _⟩
theorem kd_calls (c : Value) (k v : ByteArray) (w : World) : Calls Try.prog 87 #[.agg #[c, .string k, .string v]] w fun e w' => e = .returned (.string ⟨#[]⟩) ∧ Below w.heap.size w w' := by
  go_enter Try.func87, Try.ntmps87
  go_wp2
  go_ret
  exact ⟨rfl, (Below.refl _ _).alloc (Nat.le_refl _) _⟩
theorem kp_calls (n : Nat) (c : Int) (k v r : ByteArray) (h : code_PutField.f n v = some r) (w : World) : Calls Try.prog 85 #[.agg #[.int .i64 c, .string k, .string v]] w fun e w' => e = .returned (.string r) ∧ Below w.heap.size w w' := by
  have H := Aside0.mk h
  clear h
  go_enter Try.func85, Try.ntmps85
  go_wp2_with (go_at_call 71; refine (code_PutField.calls n v r _ H.out).mono ?_; rintro e w1 ⟨rfl, hb⟩; have HB := Aside0.mk hb; clear hb)
  go_ret
  exact ⟨rfl, below_step ((Below.refl _ _).alloc (Nat.le_refl _) _) HB.out⟩
def batch_putOf (k : Nat) (x : S72) : Option ByteArray := if x.f0 = 1 then code_PutField.f k x.f2 else if x.f0 = 2 then some ⟨#[]⟩ else none
def batch_Encode.l0 (k : Nat) : List S72 → List Int → Option ByteArray
  | [], out => some (strOfNums out)
  | x :: r, out => (code_PutField.f k x.f1).bind fun a => (batch_putOf k x).bind fun b =>
      if a.size + b.size ≤ 1000000 ∧ out.length ≤ 1000000000 then batch_Encode.l0 k r ((out ++ [x.f0 % 256]) ++ bytesOf (a ++ b)) else none
def batch_Encode.f (k : Nat) (a0_0 : Int) (l0_1 : List S72) : Option (ByteArray × Int) :=
  (batch_Check.f k a0_0 l0_1).bind fun e => if e = 0 then ((code_PutUint.f k a0_0).bind fun s1 => (code_PutUint.f k (IntKind.u64.wrap (l0_1.length : Int))).bind fun s2 => if s1.size + s2.size ≤ 1000000 then (batch_Encode.l0 k l0_1 (bytesOf (s1 ++ s2))).bind fun s => some (s, 0) else none) else some (⟨#[]⟩, e)
theorem batch_Encode.mono_l (k : Nat) : ∀ l out, LeO (batch_Encode.l0 k l out) (batch_Encode.l0 (k + 1) l out)
  | [], out => LeO.refl _
  | x :: r, out => by
    unfold batch_Encode.l0
    refine LeO.bind (code_PutField.mono _ _) (fun _ => LeO.bind ?_ (fun _ => LeO.ite (batch_Encode.mono_l k r _) (LeO.refl _)))
    unfold batch_putOf
    exact LeO.ite (code_PutField.mono _ _) (LeO.refl _)
theorem batch_Encode.mono : ∀ a0 a1 k, LeO (batch_Encode.f k a0 a1) (batch_Encode.f (k + 1) a0 a1) := by
  intro a0 a1 k
  unfold batch_Encode.f
  refine LeO.bind (batch_Check.mono _ _ _) (fun _ => LeO.ite (LeO.bind (code_PutUint.mono _ _) (fun _ => LeO.bind (code_PutUint.mono _ _) (fun _ => LeO.ite (LeO.bind (batch_Encode.mono_l _ _ _) (fun _ => LeO.refl _)) (LeO.refl _)))) (LeO.refl _))
set_option maxRecDepth 100000 in
set_option maxHeartbeats 1000000 in
theorem encode_ok (k : Nat) (a0 : Int) (A : Option Addr) (c : Nat) (l : List S72) (s1 s2 r : ByteArray) (w : World) (hr : Kd.C k72 w A l.length l) (hc : l.length ≤ c)
    (h0 : batch_Check.f k a0 l = some 0) (h1 : code_PutUint.f k a0 = some s1) (h2 : code_PutUint.f k (IntKind.u64.wrap (l.length : Int)) = some s2) (h3 : s1.size + s2.size ≤ 1000000) (h4 : batch_Encode.l0 k l (bytesOf (s1 ++ s2)) = some r) :
    Calls Try.prog 35 #[.agg #[.int .u64 a0, .slice A l.length c]] w fun e w' => e = .returned (.tuple #[.string r, .int .i64 0]) ∧ Below w.heap.size w w' := by
  have hu58 := Try.underlying58
  have hu72 := Try.underlying72
  have HR := Aside0.mk hr
  have HC := Aside0.mk hc
  have H0 := Aside0.mk h0
  have H1 := Aside0.mk h1
  have H2 := Aside0.mk h2
  have H3 := Aside0.mk h3
  have H4 := Aside0.mk h4
  clear hr hc h0 h1 h2 h3 h4
  go_enter Try.func35, Try.ntmps35
  go_wp2_with (first
    | (go_at_call 37; refine (batch_Check.calls k a0 A c l 0 _ (Kd.C_below HR.out ((Below.refl _ _).alloc (Nat.le_refl _) _)) HC.out H0.out).mono ?_; rintro e w1 ⟨rfl, hb⟩; have HB1 := Aside0.mk hb; clear hb)
    | (go_at_call 69; refine (kinds_calls _).mono ?_; rintro e w2 ⟨rfl, hb⟩; have HB2 := Aside0.mk hb; clear hb))
  have BK := Aside0.mk (blk_drew (blk_alloc (blk_below (blk_below (blk_new w (.cells #[.int .u64 a0, .slice A l.length c] 58)) HB1.out) HB2.out) (.cells #[.nilFunc, .nilFunc, .func (.func 85) #[] #[], .func (.func 86) #[] #[], .func (.func 87) #[] #[], .func (.func 88) #[] #[]] 113)))
  have KK := Aside0.mk (blk_drew (blk_new w2 (.cells #[.nilFunc, .nilFunc, .func (.func 85) #[] #[], .func (.func 86) #[] #[], .func (.func 87) #[] #[], .func (.func 88) #[] #[]] 113)))
  have HB := Aside0.mk (below_drew (below_alloc (below_step (below_step (below_alloc (Below.refl _ w) (.cells #[.int .u64 a0, .slice A l.length c] 58)) HB1.out) HB2.out) (.cells #[.nilFunc, .nilFunc, .func (.func 85) #[] #[], .func (.func 86) #[] #[], .func (.func 87) #[] #[], .func (.func 88) #[] #[]] 113)))
  have HG := Aside0.mk (below_size (below_step (below_step (below_alloc (Below.refl _ w) (.cells #[.int .u64 a0, .slice A l.length c] 58)) HB1.out) HB2.out))
  clear HB1 HB2
  generalize w2.heap.size = gk at *
  have z4 : (9223372036854775807 < s1.size + s2.size) = False := eq_false (by have := H3.out; omega)
  refine start_ (n := 11) (S := (fun w' => w'.cell? ⟨w.heap.size, 0, none⟩ = some (.int .u64 a0) ∧ w'.cell? ⟨w.heap.size, 1, none⟩ = some (.slice A l.length c))) (ds := []) #[false, false, false, false, false, false, false, false, false, false, false] (by kernel_rfl) rfl rfl ⟨(blk_cell BK.out 0).trans rfl, (blk_cell BK.out 1).trans rfl⟩ (fun hHeld => ?_)
  -- 0: Op.fieldAddr 58 t1 0
  refine pure_ (i := 0) (N := (some 15)) (v := ?_) (a' := ?_) #[true, false, false, false, false, false, false, false, false, false, false] rfl rfl (by kernel_rfl) (fun _ _ _ h => h) (Or.inl ⟨by rfl, ?_⟩) ?_ ?_
  rotate_left
  · intro w'
    go_simp
    with_reducible rfl
  rotate_left
  · simp only [Act.put, List.setIfInBounds_toArray, List.set_cons_zero, List.set_cons_succ, i64_w, i32_w]
    rfl
  -- 3: Op.fieldAddr 58 t1 1
  refine pure_ (i := 3) (N := (some 18)) (v := ?_) (a' := ?_) #[true, false, false, true, false, false, false, false, false, false, false] rfl rfl (by kernel_rfl) (fun _ _ _ h => h) (Or.inl ⟨by rfl, ?_⟩) ?_ ?_
  rotate_left
  · intro w'
    go_simp
    with_reducible rfl
  rotate_left
  · simp only [Act.put, List.setIfInBounds_toArray, List.set_cons_zero, List.set_cons_succ, i64_w, i32_w]
    rfl
  -- 1: Op.load 24 t15
  refine take_ (i := 1) (N := (some 16)) (v := ?_) (a' := ?_) #[true, true, false, true, false, false, false, false, false, false, false] rfl rfl (by kernel_rfl) (fun _ _ _ h => h) (Or.inl ⟨by rfl, ?_⟩) hHeld ?_ ?_
  rotate_left
  · rintro w' ⟨s0, s1⟩
    go_simp
    with_reducible rfl
  rotate_left
  · simp only [Act.put, List.setIfInBounds_toArray, List.set_cons_zero, List.set_cons_succ, i64_w, i32_w]
    rfl
  -- 4: Op.load 56 t18
  refine take_ (i := 4) (N := (some 19)) (v := ?_) (a' := ?_) #[true, true, false, true, true, false, false, false, false, false, false] rfl rfl (by kernel_rfl) (fun _ _ _ h => h) (Or.inl ⟨by rfl, ?_⟩) hHeld ?_ ?_
  rotate_left
  · rintro w' ⟨s0, s1⟩
    go_simp
    with_reducible rfl
  rotate_left
  · simp only [Act.put, List.setIfInBounds_toArray, List.set_cons_zero, List.set_cons_succ, i64_w, i32_w]
    rfl
  -- 5: Op.call { builtin len, args := #[t19], argTypes := #[56] }
  refine pure_ (i := 5) (N := (some 20)) (v := ?_) (a' := ?_) #[true, true, false, true, true, true, false, false, false, false, false] rfl rfl (by kernel_rfl) (fun _ _ _ h => h) (Or.inl ⟨by rfl, ?_⟩) ?_ ?_
  rotate_left
  · intro w'
    go_simp
    with_reducible rfl
  rotate_left
  · simp only [Act.put, List.setIfInBounds_toArray, List.set_cons_zero, List.set_cons_succ, i64_w, i32_w]
    rfl
  -- 6: Op.convert 3 24 t20
  refine pure_ (i := 6) (N := (some 21)) (v := ?_) (a' := ?_) #[true, true, false, true, true, true, true, false, false, false, false] rfl rfl (by kernel_rfl) (fun _ _ _ h => h) (Or.inl ⟨by rfl, ?_⟩) ?_ ?_
  rotate_left
  · intro w'
    go_simp
    with_reducible rfl
  rotate_left
  · simp only [Act.put, List.setIfInBounds_toArray, List.set_cons_zero, List.set_cons_succ, i64_w, i32_w]
    rfl
  -- 2: Op.call { value (Operand.func 70), args := #[t16], argTypes := #[24] }
  refine one_ (i := 2) (N := (some 17)) #[true, true, true, true, true, true, true, false, false, false, false] rfl rfl (by kernel_rfl) (by decide) (fun K hK => ?_)
  refine goes_ Try.func70 (by kernel_rfl) rfl #[.int .u64 a0] (by rfl) rfl rfl (by (try simp only [List.map_toArray, List.map_cons, List.map_nil]); first | done | rfl) ?_
  (with_reducible refine (code_PutUint.calls k a0 s1 _ H1.out).mono ?_)
  rintro e w1 ⟨rfl, hb⟩
  refine ⟨_, rfl, ?_⟩
  have BK1 := Aside0.mk (blk_below BK.out hb)
  have KK1 := Aside0.mk (blk_below KK.out hb)
  have HB1 := Aside0.mk (below_step HB.out hb)
  clear BK KK HB hb
  have BK := BK1; have KK := KK1; have HB := HB1; clear BK1 KK1 HB1
  clear hHeld
  refine hK.out _ _ ⟨(blk_cell BK.out 0).trans rfl, (blk_cell BK.out 1).trans rfl⟩ (fun hHeld => ?_)
  clear hK K
  refine norm_ (a' := ?_) ?_ ?_
  rotate_left
  · show Act.put _ (some 17) _ = _
    simp only [Act.put, List.setIfInBounds_toArray, List.set_cons_zero, List.set_cons_succ, i64_w, i32_w]
    rfl
  -- 7: Op.call { value (Operand.func 70), args := #[t21], argTypes := #[24] }
  refine one_ (i := 7) (N := (some 22)) #[true, true, true, true, true, true, true, true, false, false, false] rfl rfl (by kernel_rfl) (by decide) (fun K hK => ?_)
  refine goes_ Try.func70 (by kernel_rfl) rfl #[.int .u64 (IntKind.u64.wrap (l.length : Int))] (by rfl) rfl rfl (by (try simp only [List.map_toArray, List.map_cons, List.map_nil]); first | done | rfl) ?_
  (with_reducible refine (code_PutUint.calls k _ s2 _ H2.out).mono ?_)
  rintro e w2 ⟨rfl, hb⟩
  refine ⟨_, rfl, ?_⟩
  have BK2 := Aside0.mk (blk_below BK.out hb)
  have KK2 := Aside0.mk (blk_below KK.out hb)
  have HB2 := Aside0.mk (below_step HB.out hb)
  clear BK KK HB hb
  have BK := BK2; have KK := KK2; have HB := HB2; clear BK2 KK2 HB2
  clear hHeld
  refine hK.out _ _ ⟨(blk_cell BK.out 0).trans rfl, (blk_cell BK.out 1).trans rfl⟩ (fun hHeld => ?_)
  clear hK K
  refine norm_ (a' := ?_) ?_ ?_
  rotate_left
  · show Act.put _ (some 22) _ = _
    simp only [Act.put, List.setIfInBounds_toArray, List.set_cons_zero, List.set_cons_succ, i64_w, i32_w]
    rfl
  -- 8: Op.binOp BinOp.add 9 t17 t22 9
  refine pure_ (i := 8) (N := (some 23)) (v := ?_) (a' := ?_) #[true, true, true, true, true, true, true, true, true, false, false] rfl rfl (by kernel_rfl) (fun _ _ _ h => h) (Or.inl ⟨by rfl, ?_⟩) ?_ ?_
  rotate_left
  · intro w'
    go_simp
    with_reducible rfl
  rotate_left
  · simp only [Act.put, List.setIfInBounds_toArray, List.set_cons_zero, List.set_cons_succ, i64_w, i32_w]
    rfl
  -- 9: Op.convert 9 115 t23
  refine one_ (i := 9) (N := (some 24)) #[true, true, true, true, true, true, true, true, true, true, false] rfl rfl (by kernel_rfl) (by decide) (fun K hK => ?_)
  refine value_ (by rfl) rfl (H.run_as_value (run_bytes_of_string _ 9 115 5 (s1 ++ s2) Try.underlying9 Try.underlying115 Try.underlying5) (by rfl)) ?_
  have HV := Aside0.mk (H.BRow.new_bytes (base := w.heap.size) (e := 5) w2 (s1 ++ s2) (by have := H3.out; rw [ByteArray.size_append]; simp only [maxLen]; omega) (below_size HB.out))
  have BK3 := Aside0.mk (blk_alloc (blk_drew BK.out) (.cells (bytesRow (s1 ++ s2) (grownCap w2 (s1 ++ s2).size 0 5)) 5 ((bytesRow (s1 ++ s2) (grownCap w2 (s1 ++ s2).size 0 5)).size, (bytesRow (s1 ++ s2) (grownCap w2 (s1 ++ s2).size 0 5)).size + 1)))
  have KK3 := Aside0.mk (blk_alloc (blk_drew KK.out) (.cells (bytesRow (s1 ++ s2) (grownCap w2 (s1 ++ s2).size 0 5)) 5 ((bytesRow (s1 ++ s2) (grownCap w2 (s1 ++ s2).size 0 5)).size, (bytesRow (s1 ++ s2) (grownCap w2 (s1 ++ s2).size 0 5)).size + 1)))
  have HB3 := Aside0.mk (below_alloc (below_drew HB.out) (.cells (bytesRow (s1 ++ s2) (grownCap w2 (s1 ++ s2).size 0 5)) 5 ((bytesRow (s1 ++ s2) (grownCap w2 (s1 ++ s2).size 0 5)).size, (bytesRow (s1 ++ s2) (grownCap w2 (s1 ++ s2).size 0 5)).size + 1)))
  generalize w2.drew.alloc _ = w3 at *
  generalize (Value.slice (some ⟨w2.heap.size, 0, none⟩) (s1 ++ s2).size (grownCap w2 (s1 ++ s2).size 0 5)) = v3 at *
  clear BK KK HB
  have BK := BK3; have KK := KK3; have HB := HB3; clear BK3 KK3 HB3
  clear hHeld
  refine hK.out _ _ ⟨(blk_cell BK.out 0).trans rfl, (blk_cell BK.out 1).trans rfl⟩ (fun hHeld => ?_)
  clear hK K
  refine norm_ (a' := ?_) ?_ ?_
  rotate_left
  · show Act.put _ (some 24) _ = _
    simp only [Act.put, List.setIfInBounds_toArray, List.set_cons_zero, List.set_cons_succ, i64_w, i32_w]
    rfl
  -- 10: Op.assign t24
  refine pure_ (i := 10) (N := (some 6)) (v := ?_) (a' := ?_) #[true, true, true, true, true, true, true, true, true, true, true] rfl rfl (by kernel_rfl) (fun _ _ _ h => h) (Or.inl ⟨by rfl, ?_⟩) ?_ ?_
  rotate_left
  · intro w'
    go_simp
    with_reducible rfl
  rotate_left
  · simp only [Act.put, List.setIfInBounds_toArray, List.set_cons_zero, List.set_cons_succ, i64_w, i32_w]
    rfl
  refine done_ (by kernel_rfl) ?_
  clear hHeld z4
  have hmax := HR.out.2.1
  rw [show IntKind.u64.wrap (l.length : Int) = (l.length : Int) from by rw [IntKind.wrap_u64]; omega]
  have hc1 : w3.cell? ⟨w.heap.size, 1, none⟩ = some (.slice A l.length c) := (blk_cell BK.out 1).trans rfl
  go_wp2
  clear BK hc1
  have H5 : Aside0 (batch_Encode.l0 k (l.drop 0) (bytesOf (s1 ++ s2)) = some r) := ⟨by rw [List.drop_zero]; exact H4.out⟩
  clear H4
  go_loopw [6, 28] (fun v6 v28 wr => ∃ (i : Nat) (out : List Int), i ≤ l.length ∧ v28 = .int .i64 i ∧ Aside0 (batch_Encode.l0 k (l.drop i) out = some r) ∧ Aside0 (H.BRow wr w.heap.size 5 v6 out) ∧ Aside0 (wr.heap[gk]? = some (.cells #[.nilFunc, .nilFunc, .func (.func 85) #[] #[], .func (.func 86) #[] #[], .func (.func 87) #[] #[], .func (.func 88) #[] #[]] 113 (0, 0))) ∧ Aside0 (Below w.heap.size w wr)) (fun _ v28 _ => l.length - (intOf v28).toNat)
  case atStart => exact ⟨0, _, Nat.zero_le _, rfl, H5, HV, KK, HB⟩
  case round =>
    clear H5 HV KK HB
    obtain ⟨i, out, hi, rfl, H, HV, KK, HB⟩ := hrel
    by_cases hlt : i < l.length
    · have hdrop : l.drop i = rd_T72 l i :: l.drop (i + 1) := by
        rw [List.drop_eq_getElem_cons hlt]
        simp [rd_T72, hlt]
      have h0 := H.out
      rw [hdrop] at h0
      clear H hdrop
      obtain ⟨ad, hA, q0, q1, q2⟩ := at_T72 (Kd.C_below HR.out HB.out) i (by omega) (by omega)
      subst hA
      simp only [Int.toNat_natCast] at q0 q1 q2
      generalize rd_T72 l i = x at *
      obtain ⟨f0, key, val⟩ := x
      dsimp only at q0 q1 q2
      simp only [batch_Encode.l0] at h0
      obtain ⟨a, ha, h0⟩ := Option.bind_eq_some_iff.mp h0
      obtain ⟨b, hb, h0⟩ := Option.bind_eq_some_iff.mp h0
      by_cases hs : a.size + b.size ≤ 1000000 ∧ out.length ≤ 1000000000
      · rw [if_pos hs] at h0
        have H5 := Aside0.mk h0
        have Ha := Aside0.mk ha
        have Hs := Aside0.mk hs
        have z4 : (9223372036854775807 < a.size + b.size) = False := eq_false (by omega)
        have z5 : (9223372036854775807 < a.size) = False := eq_false (by omega)
        unfold batch_putOf at hb
        dsimp only at hb
        clear h0 ha hs
        by_cases h1 : f0 = 1
        · subst h1
          rw [if_pos rfl] at hb
          have Hb := Aside0.mk hb
          clear hb
          go_wp2_with (first
            | (at_builtin
               refine H.BRow.wp_append_one (base := w.heap.size) (e := 5) (by rfl) (.tmp 32) (.tmp 36) 115 rfl Try.underlying115 info5 (by rfl) ((HV.out.alloc _).alloc _) ⟨wr.heap.size + 1, 0, none⟩ (1 % 256) 1 rfl ((H.cell_alloc_at (by simp) 0).trans rfl) (by have := Hs.out; omega) (by have := below_size HB.out; simp; omega) ?_
               intro v4 w4 hv4 hg4 hat4
               have h1_ := Aside0.mk (blk_grown (blk_alloc (blk_new wr (.cells #[.int .i64 1, .string key, .string val] 72)) _) hg4 (fun e => HV.out.ne_alloc (blk_new wr (.cells #[.int .i64 1, .string key, .string val] 72)) e.symm))
               have h2_ := Aside0.mk (blk_grown (blk_alloc (blk_alloc KK.out _) _) hg4 (fun e => HV.out.ne KK.out (by decide) e.symm))
               have h3_ := Aside0.mk ((below_alloc (below_alloc HB.out _) _).grown hg4 (below_size (below_alloc (below_alloc HB.out _) _)) (fun k hk => HV.out.own_ge k hk))
               have h4_ := Aside0.mk hv4
               clear KK HB HV hv4 hg4 hat4 q0 q1 q2
               have BX := h1_; have KK := h2_; have HB := h3_; have HV := h4_; clear h1_ h2_ h3_ h4_))
          have BXd := Aside0.mk (blk_drew BX.out); have KKd := Aside0.mk (blk_drew KK.out); have HBd := Aside0.mk (below_drew HB.out); have HVd := Aside0.mk HV.out.drew
          clear BX KK HB HV
          have BX := BXd; have KK := KKd; have HB := HBd; have HV := HVd; clear BXd KKd HBd HVd
          refine start_ (n := 14) (S := (fun w' => w'.cell? ⟨wr.heap.size, 0, none⟩ = some (.int .i64 1) ∧ w'.cell? ⟨wr.heap.size, 1, none⟩ = some (.string key) ∧ w'.cell? ⟨wr.heap.size, 2, none⟩ = some (.string val) ∧ w'.cell? ⟨gk, 2, none⟩ = some (.func (.func 85) #[] #[]))) (ds := []) #[false, false, false, false, false, false, false, false, false, false, false, false, false, false] (by kernel_rfl) rfl rfl ⟨(blk_cell BX.out 0).trans rfl, (blk_cell BX.out 1).trans rfl, (blk_cell BX.out 2).trans rfl, (blk_cell KK.out 2).trans rfl⟩ (fun hHeld => ?_)
          -- 0: Op.move t6
          refine pure_ (i := 0) (N := (some 38)) (v := ?_) (a' := ?_) #[true, false, false, false, false, false, false, false, false, false, false, false, false, false] rfl rfl (by kernel_rfl) (fun _ _ _ h => h) (Or.inl ⟨by rfl, ?_⟩) ?_ ?_
          rotate_left
          · intro w'
            go_simp
            with_reducible rfl
          rotate_left
          · simp only [Act.put, List.setIfInBounds_toArray, List.set_cons_zero, List.set_cons_succ, i64_w, i32_w]
            rfl
          -- 1: Op.fieldAddr 72 t8 1
          refine pure_ (i := 1) (N := (some 39)) (v := ?_) (a' := ?_) #[true, true, false, false, false, false, false, false, false, false, false, false, false, false] rfl rfl (by kernel_rfl) (fun _ _ _ h => h) (Or.inl ⟨by rfl, ?_⟩) ?_ ?_
          rotate_left
          · intro w'
            go_simp
            with_reducible rfl
          rotate_left
          · simp only [Act.put, List.setIfInBounds_toArray, List.set_cons_zero, List.set_cons_succ, i64_w, i32_w]
            rfl
          -- 4: Op.fieldAddr 72 t8 0
          refine pure_ (i := 4) (N := (some 42)) (v := ?_) (a' := ?_) #[true, true, false, false, true, false, false, false, false, false, false, false, false, false] rfl rfl (by kernel_rfl) (fun _ _ _ h => h) (Or.inl ⟨by rfl, ?_⟩) ?_ ?_
          rotate_left
          · intro w'
            go_simp
            with_reducible rfl
          rotate_left
          · simp only [Act.put, List.setIfInBounds_toArray, List.set_cons_zero, List.set_cons_succ, i64_w, i32_w]
            rfl
          -- 2: Op.load 9 t39
          refine take_ (i := 2) (N := (some 40)) (v := ?_) (a' := ?_) #[true, true, true, false, true, false, false, false, false, false, false, false, false, false] rfl rfl (by kernel_rfl) (fun _ _ _ h => h) (Or.inl ⟨by rfl, ?_⟩) hHeld ?_ ?_
          rotate_left
          · rintro w' ⟨s0, s1, s2, s3⟩
            go_simp
            with_reducible rfl
          rotate_left
          · simp only [Act.put, List.setIfInBounds_toArray, List.set_cons_zero, List.set_cons_succ, i64_w, i32_w]
            rfl
          -- 5: Op.load 3 t42
          refine take_ (i := 5) (N := (some 43)) (v := ?_) (a' := ?_) #[true, true, true, false, true, true, false, false, false, false, false, false, false, false] rfl rfl (by kernel_rfl) (fun _ _ _ h => h) (Or.inl ⟨by rfl, ?_⟩) hHeld ?_ ?_
          rotate_left
          · rintro w' ⟨s0, s1, s2, s3⟩
            go_simp
            with_reducible rfl
          rotate_left
          · simp only [Act.put, List.setIfInBounds_toArray, List.set_cons_zero, List.set_cons_succ, i64_w, i32_w]
            rfl
          -- 6: Op.indexAddr 113 t5 t43
          refine pure_ (i := 6) (N := (some 44)) (v := ?_) (a' := ?_) #[true, true, true, false, true, true, true, false, false, false, false, false, false, false] rfl rfl (by kernel_rfl) (fun _ _ _ h => h) (Or.inl ⟨by rfl, ?_⟩) ?_ ?_
          rotate_left
          · intro w'
            go_simp
            with_reducible rfl
          rotate_left
          · simp only [Act.put, List.setIfInBounds_toArray, List.set_cons_zero, List.set_cons_succ, i64_w, i32_w]
            rfl
          -- 7: Op.fieldAddr 112 t44 0
          refine pure_ (i := 7) (N := (some 45)) (v := ?_) (a' := ?_) #[true, true, true, false, true, true, true, true, false, false, false, false, false, false] rfl rfl (by kernel_rfl) (fun _ _ _ h => h) (Or.inl ⟨by rfl, ?_⟩) ?_ ?_
          rotate_left
          · intro w'
            go_simp
            with_reducible rfl
          rotate_left
          · simp only [Act.put, List.setIfInBounds_toArray, List.set_cons_zero, List.set_cons_succ, i64_w, i32_w]
            rfl
          -- 8: Op.load 109 t45
          refine take_ (i := 8) (N := (some 46)) (v := ?_) (a' := ?_) #[true, true, true, false, true, true, true, true, true, false, false, false, false, false] rfl rfl (by kernel_rfl) (fun _ _ _ h => h) (Or.inl ⟨by rfl, ?_⟩) hHeld ?_ ?_
          rotate_left
          · rintro w' ⟨s0, s1, s2, s3⟩
            go_simp
            with_reducible rfl
          rotate_left
          · simp only [Act.put, List.setIfInBounds_toArray, List.set_cons_zero, List.set_cons_succ, i64_w, i32_w]
            rfl
          -- 9: Op.load 72 t8
          refine take_ (i := 9) (N := (some 47)) (v := ?_) (a' := ?_) #[true, true, true, false, true, true, true, true, true, true, false, false, false, false] rfl rfl (by kernel_rfl) (fun _ _ _ h => h) (Or.inl ⟨by rfl, ?_⟩) hHeld ?_ ?_
          rotate_left
          · rintro w' ⟨s0, s1, s2, s3⟩
            go_simp
            with_reducible rfl
          rotate_left
          · simp only [Act.put, List.setIfInBounds_toArray, List.set_cons_zero, List.set_cons_succ, i64_w, i32_w]
            rfl
          -- 3: Op.call { value (Operand.func 71), args := #[t40], argTypes := #[9] }
          refine one_ (i := 3) (N := (some 41)) #[true, true, true, true, true, true, true, true, true, true, false, false, false, false] rfl rfl (by kernel_rfl) (by decide) (fun K hK => ?_)
          refine goes_ Try.func71 (by kernel_rfl) rfl #[.string key] (by rfl) rfl rfl (by (try simp only [List.map_toArray, List.map_cons, List.map_nil]); first | done | rfl) ?_
          (with_reducible refine (code_PutField.calls k key a _ Ha.out).mono ?_)
          rintro e w5 ⟨rfl, hb⟩
          refine ⟨_, rfl, ?_⟩
          have h1_ := Aside0.mk (blk_below BX.out hb)
          have h2_ := Aside0.mk (blk_below KK.out hb)
          have h3_ := Aside0.mk (below_step HB.out hb)
          have h4_ := Aside0.mk (HV.out.below hb)
          clear BX KK HB HV hb
          have BX := h1_; have KK := h2_; have HB := h3_; have HV := h4_; clear h1_ h2_ h3_ h4_
          clear hHeld
          refine hK.out _ _ ⟨(blk_cell BX.out 0).trans rfl, (blk_cell BX.out 1).trans rfl, (blk_cell BX.out 2).trans rfl, (blk_cell KK.out 2).trans rfl⟩ (fun hHeld => ?_)
          clear hK K
          refine norm_ (a' := ?_) ?_ ?_
          rotate_left
          · show Act.put _ (some 41) _ = _
            simp only [Act.put, List.setIfInBounds_toArray, List.set_cons_zero, List.set_cons_succ, i64_w, i32_w]
            rfl
          -- 10: Op.call { value t46, args := #[t47], argTypes := #[72] }
          refine one_ (i := 10) (N := (some 48)) #[true, true, true, true, true, true, true, true, true, true, true, false, false, false] rfl rfl (by kernel_rfl) (by decide) (fun K hK => ?_)
          refine call_ 85 #[.agg #[.int .i64 1, .string key, .string val]] (by rfl) rfl ?_ ?_
          · have he := enters_ (P := Try.prog) Try.func85 (by kernel_rfl) rfl #[.agg #[.int .i64 1, .string key, .string val]] w5
            unfold execOp
            simp [resolve, Deferred.ofValue, invoke, Act.eval, he]
          (with_reducible refine (kp_calls k 1 key val b Hb.out _).mono ?_)
          rintro e w6 ⟨rfl, hb⟩
          refine ⟨_, rfl, ?_⟩
          have h1_ := Aside0.mk (blk_below BX.out hb)
          have h2_ := Aside0.mk (blk_below KK.out hb)
          have h3_ := Aside0.mk (below_step HB.out hb)
          have h4_ := Aside0.mk (HV.out.below hb)
          clear BX KK HB HV hb
          have BX := h1_; have KK := h2_; have HB := h3_; have HV := h4_; clear h1_ h2_ h3_ h4_
          clear hHeld
          refine hK.out _ _ ⟨(blk_cell BX.out 0).trans rfl, (blk_cell BX.out 1).trans rfl, (blk_cell BX.out 2).trans rfl, (blk_cell KK.out 2).trans rfl⟩ (fun hHeld => ?_)
          clear hK K
          refine norm_ (a' := ?_) ?_ ?_
          rotate_left
          · show Act.put _ (some 48) _ = _
            simp only [Act.put, List.setIfInBounds_toArray, List.set_cons_zero, List.set_cons_succ, i64_w, i32_w]
            rfl
          -- 11: Op.binOp BinOp.add 9 t41 t48 9
          refine pure_ (i := 11) (N := (some 49)) (v := ?_) (a' := ?_) #[true, true, true, true, true, true, true, true, true, true, true, true, false, false] rfl rfl (by kernel_rfl) (fun _ _ _ h => h) (Or.inl ⟨by rfl, ?_⟩) ?_ ?_
          rotate_left
          · intro w'
            go_simp
            with_reducible rfl
          rotate_left
          · simp only [Act.put, List.setIfInBounds_toArray, List.set_cons_zero, List.set_cons_succ, i64_w, i32_w]
            rfl
          -- 12: Op.call { builtin append, args := #[t38, t49], argTypes := #[115, 9] }
          refine one_ (i := 12) (N := (some 50)) #[true, true, true, true, true, true, true, true, true, true, true, true, true, false] rfl rfl (by kernel_rfl) (by decide) (fun K hK => ?_)
          obtain ⟨v7, w7, hrun7, hv7, hg7, hat7⟩ := H.BRow.append_str_i (P := Try.prog) (w := w6) (base := w.heap.size) (e := 5) 115 9 115 Try.underlying115 Try.underlying9 info5 HV.out (a ++ b) (by have := Hs.out; rw [ByteArray.size_append]; simp; omega) (below_size HB.out)
          refine value_ (by rfl) rfl (H.exec_append (.tmp 38) (.tmp 49) 115 9 (by rfl) (by rfl) (by rfl) hrun7) ?_
          have h1_ := Aside0.mk (blk_grown BX.out hg7 (fun e => HV.out.ne BX.out (by decide) e.symm))
          have h2_ := Aside0.mk (blk_grown KK.out hg7 (fun e => HV.out.ne KK.out (by decide) e.symm))
          have h3_ := Aside0.mk (HB.out.grown hg7 (below_size HB.out) (fun k hk => HV.out.own_ge k hk))
          have h4_ := Aside0.mk hv7
          clear BX KK HB HV hrun7 hv7 hg7 hat7
          have BX := h1_; have KK := h2_; have HB := h3_; have HV := h4_; clear h1_ h2_ h3_ h4_
          clear hHeld
          refine hK.out _ _ ⟨(blk_cell BX.out 0).trans rfl, (blk_cell BX.out 1).trans rfl, (blk_cell BX.out 2).trans rfl, (blk_cell KK.out 2).trans rfl⟩ (fun hHeld => ?_)
          clear hK K
          refine norm_ (a' := ?_) ?_ ?_
          rotate_left
          · show Act.put _ (some 50) _ = _
            simp only [Act.put, List.setIfInBounds_toArray, List.set_cons_zero, List.set_cons_succ, i64_w, i32_w]
            rfl
          -- 13: Op.assign t50
          refine pure_ (i := 13) (N := (some 6)) (v := ?_) (a' := ?_) #[true, true, true, true, true, true, true, true, true, true, true, true, true, true] rfl rfl (by kernel_rfl) (fun _ _ _ h => h) (Or.inl ⟨by rfl, ?_⟩) ?_ ?_
          rotate_left
          · intro w'
            go_simp
            with_reducible rfl
          rotate_left
          · simp only [Act.put, List.setIfInBounds_toArray, List.set_cons_zero, List.set_cons_succ, i64_w, i32_w]
            rfl
          refine done_ (by kernel_rfl) ?_
          clear hHeld z4 z5
          go_wp2
          go_roundw
          case rel => exact ⟨i + 1, _, by omega, by go_num, H5, HV, KK, HB⟩
          case measure => simp [intOf]; omega
        · rw [if_neg h1] at hb
          by_cases h2 : f0 = 2
          · subst h2
            rw [if_pos rfl] at hb
            obtain rfl := Option.some.inj hb
            clear hb h1
            go_wp2_with (first
              | (at_builtin
                 refine H.BRow.wp_append_one (base := w.heap.size) (e := 5) (by rfl) (.tmp 32) (.tmp 36) 115 rfl Try.underlying115 info5 (by rfl) ((HV.out.alloc _).alloc _) ⟨wr.heap.size + 1, 0, none⟩ (2 % 256) 1 rfl ((H.cell_alloc_at (by simp) 0).trans rfl) (by have := Hs.out; omega) (by have := below_size HB.out; simp; omega) ?_
                 intro v4 w4 hv4 hg4 hat4
                 have h1_ := Aside0.mk (blk_grown (blk_alloc (blk_new wr (.cells #[.int .i64 2, .string key, .string val] 72)) _) hg4 (fun e => HV.out.ne_alloc (blk_new wr (.cells #[.int .i64 2, .string key, .string val] 72)) e.symm))
                 have h2_ := Aside0.mk (blk_grown (blk_alloc (blk_alloc KK.out _) _) hg4 (fun e => HV.out.ne KK.out (by decide) e.symm))
                 have h3_ := Aside0.mk ((below_alloc (below_alloc HB.out _) _).grown hg4 (below_size (below_alloc (below_alloc HB.out _) _)) (fun k hk => HV.out.own_ge k hk))
                 have h4_ := Aside0.mk hv4
                 clear KK HB HV hv4 hg4 hat4 q0 q1 q2
                 have BX := h1_; have KK := h2_; have HB := h3_; have HV := h4_; clear h1_ h2_ h3_ h4_))
            have BXd := Aside0.mk (blk_drew BX.out); have KKd := Aside0.mk (blk_drew KK.out); have HBd := Aside0.mk (below_drew HB.out); have HVd := Aside0.mk HV.out.drew
            clear BX KK HB HV
            have BX := BXd; have KK := KKd; have HB := HBd; have HV := HVd; clear BXd KKd HBd HVd
            refine start_ (n := 14) (S := (fun w' => w'.cell? ⟨wr.heap.size, 0, none⟩ = some (.int .i64 2) ∧ w'.cell? ⟨wr.heap.size, 1, none⟩ = some (.string key) ∧ w'.cell? ⟨wr.heap.size, 2, none⟩ = some (.string val) ∧ w'.cell? ⟨gk, 4, none⟩ = some (.func (.func 87) #[] #[]))) (ds := []) #[false, false, false, false, false, false, false, false, false, false, false, false, false, false] (by kernel_rfl) rfl rfl ⟨(blk_cell BX.out 0).trans rfl, (blk_cell BX.out 1).trans rfl, (blk_cell BX.out 2).trans rfl, (blk_cell KK.out 4).trans rfl⟩ (fun hHeld => ?_)
            -- 0: Op.move t6
            refine pure_ (i := 0) (N := (some 38)) (v := ?_) (a' := ?_) #[true, false, false, false, false, false, false, false, false, false, false, false, false, false] rfl rfl (by kernel_rfl) (fun _ _ _ h => h) (Or.inl ⟨by rfl, ?_⟩) ?_ ?_
            rotate_left
            · intro w'
              go_simp
              with_reducible rfl
            rotate_left
            · simp only [Act.put, List.setIfInBounds_toArray, List.set_cons_zero, List.set_cons_succ, i64_w, i32_w]
              rfl
            -- 1: Op.fieldAddr 72 t8 1
            refine pure_ (i := 1) (N := (some 39)) (v := ?_) (a' := ?_) #[true, true, false, false, false, false, false, false, false, false, false, false, false, false] rfl rfl (by kernel_rfl) (fun _ _ _ h => h) (Or.inl ⟨by rfl, ?_⟩) ?_ ?_
            rotate_left
            · intro w'
              go_simp
              with_reducible rfl
            rotate_left
            · simp only [Act.put, List.setIfInBounds_toArray, List.set_cons_zero, List.set_cons_succ, i64_w, i32_w]
              rfl
            -- 4: Op.fieldAddr 72 t8 0
            refine pure_ (i := 4) (N := (some 42)) (v := ?_) (a' := ?_) #[true, true, false, false, true, false, false, false, false, false, false, false, false, false] rfl rfl (by kernel_rfl) (fun _ _ _ h => h) (Or.inl ⟨by rfl, ?_⟩) ?_ ?_
            rotate_left
            · intro w'
              go_simp
              with_reducible rfl
            rotate_left
            · simp only [Act.put, List.setIfInBounds_toArray, List.set_cons_zero, List.set_cons_succ, i64_w, i32_w]
              rfl
            -- 2: Op.load 9 t39
            refine take_ (i := 2) (N := (some 40)) (v := ?_) (a' := ?_) #[true, true, true, false, true, false, false, false, false, false, false, false, false, false] rfl rfl (by kernel_rfl) (fun _ _ _ h => h) (Or.inl ⟨by rfl, ?_⟩) hHeld ?_ ?_
            rotate_left
            · rintro w' ⟨s0, s1, s2, s3⟩
              go_simp
              with_reducible rfl
            rotate_left
            · simp only [Act.put, List.setIfInBounds_toArray, List.set_cons_zero, List.set_cons_succ, i64_w, i32_w]
              rfl
            -- 5: Op.load 3 t42
            refine take_ (i := 5) (N := (some 43)) (v := ?_) (a' := ?_) #[true, true, true, false, true, true, false, false, false, false, false, false, false, false] rfl rfl (by kernel_rfl) (fun _ _ _ h => h) (Or.inl ⟨by rfl, ?_⟩) hHeld ?_ ?_
            rotate_left
            · rintro w' ⟨s0, s1, s2, s3⟩
              go_simp
              with_reducible rfl
            rotate_left
            · simp only [Act.put, List.setIfInBounds_toArray, List.set_cons_zero, List.set_cons_succ, i64_w, i32_w]
              rfl
            -- 6: Op.indexAddr 113 t5 t43
            refine pure_ (i := 6) (N := (some 44)) (v := ?_) (a' := ?_) #[true, true, true, false, true, true, true, false, false, false, false, false, false, false] rfl rfl (by kernel_rfl) (fun _ _ _ h => h) (Or.inl ⟨by rfl, ?_⟩) ?_ ?_
            rotate_left
            · intro w'
              go_simp
              with_reducible rfl
            rotate_left
            · simp only [Act.put, List.setIfInBounds_toArray, List.set_cons_zero, List.set_cons_succ, i64_w, i32_w]
              rfl
            -- 7: Op.fieldAddr 112 t44 0
            refine pure_ (i := 7) (N := (some 45)) (v := ?_) (a' := ?_) #[true, true, true, false, true, true, true, true, false, false, false, false, false, false] rfl rfl (by kernel_rfl) (fun _ _ _ h => h) (Or.inl ⟨by rfl, ?_⟩) ?_ ?_
            rotate_left
            · intro w'
              go_simp
              with_reducible rfl
            rotate_left
            · simp only [Act.put, List.setIfInBounds_toArray, List.set_cons_zero, List.set_cons_succ, i64_w, i32_w]
              rfl
            -- 8: Op.load 109 t45
            refine take_ (i := 8) (N := (some 46)) (v := ?_) (a' := ?_) #[true, true, true, false, true, true, true, true, true, false, false, false, false, false] rfl rfl (by kernel_rfl) (fun _ _ _ h => h) (Or.inl ⟨by rfl, ?_⟩) hHeld ?_ ?_
            rotate_left
            · rintro w' ⟨s0, s1, s2, s3⟩
              go_simp
              with_reducible rfl
            rotate_left
            · simp only [Act.put, List.setIfInBounds_toArray, List.set_cons_zero, List.set_cons_succ, i64_w, i32_w]
              rfl
            -- 9: Op.load 72 t8
            refine take_ (i := 9) (N := (some 47)) (v := ?_) (a' := ?_) #[true, true, true, false, true, true, true, true, true, true, false, false, false, false] rfl rfl (by kernel_rfl) (fun _ _ _ h => h) (Or.inl ⟨by rfl, ?_⟩) hHeld ?_ ?_
            rotate_left
            · rintro w' ⟨s0, s1, s2, s3⟩
              go_simp
              with_reducible rfl
            rotate_left
            · simp only [Act.put, List.setIfInBounds_toArray, List.set_cons_zero, List.set_cons_succ, i64_w, i32_w]
              rfl
            -- 3: Op.call { value (Operand.func 71), args := #[t40], argTypes := #[9] }
            refine one_ (i := 3) (N := (some 41)) #[true, true, true, true, true, true, true, true, true, true, false, false, false, false] rfl rfl (by kernel_rfl) (by decide) (fun K hK => ?_)
            refine goes_ Try.func71 (by kernel_rfl) rfl #[.string key] (by rfl) rfl rfl (by (try simp only [List.map_toArray, List.map_cons, List.map_nil]); first | done | rfl) ?_
            (with_reducible refine (code_PutField.calls k key a _ Ha.out).mono ?_)
            rintro e w5 ⟨rfl, hb⟩
            refine ⟨_, rfl, ?_⟩
            have h1_ := Aside0.mk (blk_below BX.out hb)
            have h2_ := Aside0.mk (blk_below KK.out hb)
            have h3_ := Aside0.mk (below_step HB.out hb)
            have h4_ := Aside0.mk (HV.out.below hb)
            clear BX KK HB HV hb
            have BX := h1_; have KK := h2_; have HB := h3_; have HV := h4_; clear h1_ h2_ h3_ h4_
            clear hHeld
            refine hK.out _ _ ⟨(blk_cell BX.out 0).trans rfl, (blk_cell BX.out 1).trans rfl, (blk_cell BX.out 2).trans rfl, (blk_cell KK.out 4).trans rfl⟩ (fun hHeld => ?_)
            clear hK K
            refine norm_ (a' := ?_) ?_ ?_
            rotate_left
            · show Act.put _ (some 41) _ = _
              simp only [Act.put, List.setIfInBounds_toArray, List.set_cons_zero, List.set_cons_succ, i64_w, i32_w]
              rfl
            -- 10: Op.call { value t46, args := #[t47], argTypes := #[72] }
            refine one_ (i := 10) (N := (some 48)) #[true, true, true, true, true, true, true, true, true, true, true, false, false, false] rfl rfl (by kernel_rfl) (by decide) (fun K hK => ?_)
            refine call_ 87 #[.agg #[.int .i64 2, .string key, .string val]] (by rfl) rfl ?_ ?_
            · have he := enters_ (P := Try.prog) Try.func87 (by kernel_rfl) rfl #[.agg #[.int .i64 2, .string key, .string val]] w5
              unfold execOp
              simp [resolve, Deferred.ofValue, invoke, Act.eval, he]
            (with_reducible refine (kd_calls _ key val _).mono ?_)
            rintro e w6 ⟨rfl, hb⟩
            refine ⟨_, rfl, ?_⟩
            have h1_ := Aside0.mk (blk_below BX.out hb)
            have h2_ := Aside0.mk (blk_below KK.out hb)
            have h3_ := Aside0.mk (below_step HB.out hb)
            have h4_ := Aside0.mk (HV.out.below hb)
            clear BX KK HB HV hb
            have BX := h1_; have KK := h2_; have HB := h3_; have HV := h4_; clear h1_ h2_ h3_ h4_
            clear hHeld
            refine hK.out _ _ ⟨(blk_cell BX.out 0).trans rfl, (blk_cell BX.out 1).trans rfl, (blk_cell BX.out 2).trans rfl, (blk_cell KK.out 4).trans rfl⟩ (fun hHeld => ?_)
            clear hK K
            refine norm_ (a' := ?_) ?_ ?_
            rotate_left
            · show Act.put _ (some 48) _ = _
              simp only [Act.put, List.setIfInBounds_toArray, List.set_cons_zero, List.set_cons_succ, i64_w, i32_w]
              rfl
            -- 11: Op.binOp BinOp.add 9 t41 t48 9
            refine pure_ (i := 11) (N := (some 49)) (v := ?_) (a' := ?_) #[true, true, true, true, true, true, true, true, true, true, true, true, false, false] rfl rfl (by kernel_rfl) (fun _ _ _ h => h) (Or.inl ⟨by rfl, ?_⟩) ?_ ?_
            rotate_left
            · intro w'
              go_simp
              with_reducible rfl
            rotate_left
            · simp only [Act.put, List.setIfInBounds_toArray, List.set_cons_zero, List.set_cons_succ, i64_w, i32_w]
              rfl
            -- 12: Op.call { builtin append, args := #[t38, t49], argTypes := #[115, 9] }
            refine one_ (i := 12) (N := (some 50)) #[true, true, true, true, true, true, true, true, true, true, true, true, true, false] rfl rfl (by kernel_rfl) (by decide) (fun K hK => ?_)
            obtain ⟨v7, w7, hrun7, hv7, hg7, hat7⟩ := H.BRow.append_str_i (P := Try.prog) (w := w6) (base := w.heap.size) (e := 5) 115 9 115 Try.underlying115 Try.underlying9 info5 HV.out (a ++ ⟨#[]⟩) (by have := Hs.out; rw [ByteArray.size_append]; simp; omega) (below_size HB.out)
            refine value_ (by rfl) rfl (H.exec_append (.tmp 38) (.tmp 49) 115 9 (by rfl) (by rfl) (by rfl) hrun7) ?_
            have h1_ := Aside0.mk (blk_grown BX.out hg7 (fun e => HV.out.ne BX.out (by decide) e.symm))
            have h2_ := Aside0.mk (blk_grown KK.out hg7 (fun e => HV.out.ne KK.out (by decide) e.symm))
            have h3_ := Aside0.mk (HB.out.grown hg7 (below_size HB.out) (fun k hk => HV.out.own_ge k hk))
            have h4_ := Aside0.mk hv7
            clear BX KK HB HV hrun7 hv7 hg7 hat7
            have BX := h1_; have KK := h2_; have HB := h3_; have HV := h4_; clear h1_ h2_ h3_ h4_
            clear hHeld
            refine hK.out _ _ ⟨(blk_cell BX.out 0).trans rfl, (blk_cell BX.out 1).trans rfl, (blk_cell BX.out 2).trans rfl, (blk_cell KK.out 4).trans rfl⟩ (fun hHeld => ?_)
            clear hK K
            refine norm_ (a' := ?_) ?_ ?_
            rotate_left
            · show Act.put _ (some 50) _ = _
              simp only [Act.put, List.setIfInBounds_toArray, List.set_cons_zero, List.set_cons_succ, i64_w, i32_w]
              rfl
            -- 13: Op.assign t50
            refine pure_ (i := 13) (N := (some 6)) (v := ?_) (a' := ?_) #[true, true, true, true, true, true, true, true, true, true, true, true, true, true] rfl rfl (by kernel_rfl) (fun _ _ _ h => h) (Or.inl ⟨by rfl, ?_⟩) ?_ ?_
            rotate_left
            · intro w'
              go_simp
              with_reducible rfl
            rotate_left
            · simp only [Act.put, List.setIfInBounds_toArray, List.set_cons_zero, List.set_cons_succ, i64_w, i32_w]
              rfl
            refine done_ (by kernel_rfl) ?_
            clear hHeld z4 z5
            go_wp2
            go_roundw
            case rel => exact ⟨i + 1, _, by omega, by go_num, H5, HV, KK, HB⟩
            case measure => simp [intOf]; omega
          · rw [if_neg h2] at hb
            cases hb
      · rw [if_neg hs] at h0
        cases h0
    · have hE := H.out
      clear H
      rw [List.drop_eq_nil_of_le (by omega)] at hE
      simp only [batch_Encode.l0] at hE
      obtain rfl := Option.some.inj hE
      have kc := H.BRow.to_string (P := Try.prog) (dst := 9) Try.underlying115 Try.underlying5 Try.underlying9 HV.out
      clear hE
      go_wp2
      go_ret2
      exact ⟨rfl, HB.out⟩
theorem batch_Encode.calls (k : Nat) (a0_0 : Int) (A0_1 : Option Addr) (c0_1 : Nat) (l0_1 : List (S72)) (r1 : ByteArray) (r2 : Int) (w : World) (hr0_1 : Kd.C k72 w A0_1 l0_1.length l0_1) (hc0_1 : l0_1.length ≤ c0_1) (h : batch_Encode.f k a0_0 l0_1 = some (r1, r2)) :
    Calls Try.prog 35 #[.agg #[.int .u64 a0_0, .slice A0_1 l0_1.length c0_1]] w fun e w' => e = .returned (.tuple #[.string r1, .int .i64 r2]) ∧ Below w.heap.size w w' := by
  unfold batch_Encode.f at h
  obtain ⟨e, he, h⟩ := Option.bind_eq_some_iff.mp h
  by_cases h0 : e = 0
  · rw [if_pos h0] at h
    subst h0
    obtain ⟨s1, h1, h⟩ := Option.bind_eq_some_iff.mp h
    obtain ⟨s2, h2, h⟩ := Option.bind_eq_some_iff.mp h
    by_cases h3 : s1.size + s2.size ≤ 1000000
    · rw [if_pos h3] at h
      obtain ⟨s, h4, h⟩ := Option.bind_eq_some_iff.mp h
      have h5 := Option.some.inj h
      injection h5 with h5 h6
      subst h5
      subst h6
      exact encode_ok k a0_0 A0_1 c0_1 l0_1 s1 s2 s w hr0_1 hc0_1 he h1 h2 h3 h4
    · rw [if_neg h3] at h
      cases h
  · rw [if_neg h0] at h
    have h5 := Option.some.inj h
    injection h5 with h5 h6
    subst h5
    subst h6
    have hu58 := Try.underlying58
    have hu72 := Try.underlying72
    have HR := Aside0.mk hr0_1
    have HC := Aside0.mk hc0_1
    have HE := Aside0.mk he
    have hb1 : (e != 0) = true := by simpa using h0
    clear hr0_1 hc0_1 he h h0
    go_enter Try.func35, Try.ntmps35
    go_wp2_with (go_at_call 37; refine (batch_Check.calls k a0_0 A0_1 c0_1 l0_1 e _ (Kd.C_below HR.out ((Below.refl _ _).alloc (Nat.le_refl _) _)) HC.out HE.out).mono ?_; rintro e w1 ⟨rfl, hb⟩; have HB1 := Aside0.mk hb; clear hb)
    go_ret2
    exact ⟨rfl, below_step ((Below.refl _ _).alloc (Nat.le_refl _) _) HB1.out⟩

/-! ### code_Uint: function 74 -/
-- ASSUME code_Uint rounds=0 making=1 imports=Derived.Test.YtfemebenkbobnaaHUint
def code_Uint.f (a0 : ByteArray) : Option (Int × Int × Int) := some (H.uintS a0)
theorem code_Uint.calls (a0 : ByteArray) (r1 : Int) (r2 : Int) (r3 : Int) (w : World) (h : code_Uint.f a0 = some (r1, r2, r3)) :
    Calls Try.prog 74 #[.string a0] w fun e w' => e = .returned (.tuple #[.int .u64 r1, .int .i64 r2, .int .i64 r3]) ∧ Below w.heap.size w w' := by
  have h2 := Option.some.inj h
  have h3 := H.uint_calls a0 w
  rw [h2] at h3
  exact h3

/-! ### code_Field: function 75 -/
def code_Field.j0 : Nat → ByteArray → Int → Int → Bool → Option (ByteArray × Int × Int)
  | 0, _, _, _, _ => none
  | k + 1, x0, x7, x8, x19 => if x19 = true then (some ((⟨#[]⟩ : ByteArray), 0, 3)) else (if x7 > (IntKind.u64.wrap (wrap64 ((x0.size : Int) - x8))) then (some ((⟨#[]⟩ : ByteArray), 0, 6)) else (if 0 ≤ x8 then (if x8 ≤ (wrap64 (x8 + (wrap64 (x7)))) then (if (wrap64 (x8 + (wrap64 (x7)))) ≤ (x0.size : Int) then (some (x0.extract (x8 : Int).toNat ((wrap64 (x8 + (wrap64 (x7)))) : Int).toNat, wrap64 (x8 + (wrap64 (x7))), 0)) else (none)) else (none)) else (none)))
def code_Field.f (k : Nat) (a0 : ByteArray) (a1 : Int) : Option (ByteArray × Int × Int) := (code_Uint.f a0).bind fun bt110 => (if bt110.2.2 = 0 then (if a1 < 0 then (code_Field.j0 k a0 bt110.1 bt110.2.1 true) else (code_Field.j0 k a0 bt110.1 bt110.2.1 (decide (bt110.1 > (IntKind.u64.wrap (a1)))))) else (some ((⟨#[]⟩ : ByteArray), 0, bt110.2.2)))
theorem code_Field.mono_l : ∀ k, (∀ y0 y1 y2 y3, LeO (code_Field.j0 k y0 y1 y2 y3) (code_Field.j0 (k + 1) y0 y1 y2 y3))
  | 0 => fun _ _ _ _ r h => by simp [code_Field.j0] at h
  | k + 1 => by
    have ih0 := code_Field.mono_l k
    · intro y0 y1 y2 y3
      unfold code_Field.j0
      repeat' first
      | (with_reducible exact ih0 _ _ _ _)
      | (with_reducible exact LeO.refl _)
      | (with_reducible exact LeO.none _)
      | (with_reducible refine LeO.ite ?_ ?_)
      | (with_reducible refine LeO.bind ?_ (fun _ => ?_))
      | exact ih0 _ _ _ _
      | exact LeO.none _
      | refine LeO.ite ?_ ?_
      | refine LeO.bind ?_ (fun _ => ?_)
theorem code_Field.mono : ∀ a0 a1 k, LeO (code_Field.f k a0 a1) (code_Field.f (k + 1) a0 a1) := by
  intro a0 a1 k
  have ih0 := code_Field.mono_l k
  unfold code_Field.f
  repeat' first
      | (with_reducible exact ih0 _ _ _ _)
      | (with_reducible exact LeO.refl _)
      | (with_reducible exact LeO.none _)
      | (with_reducible refine LeO.ite ?_ ?_)
      | (with_reducible refine LeO.bind ?_ (fun _ => ?_))
      | exact ih0 _ _ _ _
      | exact LeO.none _
      | refine LeO.ite ?_ ?_
      | refine LeO.bind ?_ (fun _ => ?_)
set_option maxHeartbeats 8000000 in
set_option maxRecDepth 100000 in
theorem code_Field.calls (k : Nat) (a0 : ByteArray) (a1 : Int) (r1 : ByteArray) (r2 : Int) (r3 : Int) (w : World) (h : code_Field.f k a0 a1 = some (r1, r2, r3)) :
    Calls Try.prog 75 #[.string a0, .int .i64 a1] w fun e w' => e = .returned (.tuple #[.string r1, .int .i64 r2, .int .i64 r3]) ∧ Below w.heap.size w w' := by
  have HB := Aside0.mk (Below.refl w.heap.size w)
  have H : ((code_Uint.f a0).bind fun bt110 => (if bt110.2.2 = 0 then (if a1 < 0 then (code_Field.j0 k a0 bt110.1 bt110.2.1 true) else (code_Field.j0 k a0 bt110.1 bt110.2.1 (decide (bt110.1 > (IntKind.u64.wrap (a1)))))) else (some ((⟨#[]⟩ : ByteArray), 0, bt110.2.2)))) = some (r1, r2, r3) := h
  clear h
  replace H := Option.bind_eq_some_iff.mp H
  obtain ⟨⟨t110, t111, t112⟩, A30, H⟩ := H
  replace H : (if t112 = 0 then (if a1 < 0 then (code_Field.j0 k a0 t110 t111 true) else (code_Field.j0 k a0 t110 t111 (decide (t110 > (IntKind.u64.wrap (a1)))))) else (some ((⟨#[]⟩ : ByteArray), 0, t112))) = some (r1, r2, r3) := H
  have A3 := Aside0.mk A30
  clear A30
  by_cases c4 : t112 = 0
  · rw [if_pos c4] at H
    have c4b0 : (t112 == 0) = true := beq_iff_eq.mpr c4
    have c4b1 : (t112 != 0) = false := bne_eq_false_iff_eq.mpr c4
    clear c4
    have HC5 := Aside0.mk H
    clear H
    go_enter Try.func75, Try.ntmps75
    go_upto_region 4 with (first | ((with_reducible refine gate_callee (f := 74) rfl ?_); refine goesL_ (some 11) rfl rfl Try.func74 (by kernel_rfl) rfl #[.string a0] rfl (by (try simp only [List.map_toArray, List.map_cons, List.map_nil]); first | done | rfl | (simp only [List.length_drop, List.length_take]; rfl)) ?_; (with_reducible refine (code_Uint.calls a0 t110 t111 t112 _ A3.out).mono ?_); rintro e w6 ⟨rfl, hb⟩; refine ⟨_, rfl, ?_⟩; have n0_ := Aside0.mk (below_step (by repeat (first | (with_reducible first | exact HB.out | apply below_alloc | apply pw_below_drewN | apply below_drew1) | exact HB.out)) hb); clear HB; have HB := n0_; clear n0_; (try clear hb); (try clear hb2); (try clear hk); (try clear hi)))
    (try simp only [Act.put, List.setIfInBounds_toArray, List.set_cons_zero, List.set_cons_succ])
    go_cut [19] (fun v19 wc => ∃ (kq : Nat) (x19_4 : Bool), v19 = .bool x19_4 ∧ Aside0 (code_Field.j0 kq a0 t110 t111 x19_4 = some (r1, r2, r3)) ∧ Aside0 (kq ≤ k) ∧ Aside0 (Below w.heap.size w wc))
    case first =>
      have H := HC5.out
      clear HC5
      by_cases c7 : a1 < 0
      · rw [if_pos c7] at H
        have c7b0 : decide (a1 < 0) = true := decide_eq_true c7
        clear c7
        (first | rw [c7b0] | (simp only [i64_w, i32_w]; rw [c7b0]) | skip)
        have H' := Aside0.mk H
        clear H
        go_wp2
        go_meet
        case rel => exact ⟨_, (true), (by first | rfl | (simp; done) | (simp [*]; done) | (simp; exact H.isEmpty_bne _)), H', ⟨by first | omega | exact Nat.le_refl _⟩, ⟨by repeat (first | (with_reducible first | exact HB.out | apply below_alloc | apply pw_below_drewN | apply below_drew1) | exact HB.out)⟩⟩
      · rw [if_neg c7] at H
        have c7b0 : decide (a1 < 0) = false := decide_eq_false c7
        clear c7
        (first | rw [c7b0] | (simp only [i64_w, i32_w]; rw [c7b0]) | skip)
        have H' := Aside0.mk H
        clear H
        go_wp2
        go_meet
        case rel => exact ⟨_, (decide (t110 > (IntKind.u64.wrap (a1)))), (by first | rfl | (simp; done) | (simp [*]; done) | (simp; exact H.isEmpty_bne _)), H', ⟨by first | omega | exact Nat.le_refl _⟩, ⟨by repeat (first | (with_reducible first | exact HB.out | apply below_alloc | apply pw_below_drewN | apply below_drew1) | exact HB.out)⟩⟩
    case rest =>
      clear HC5
      try clear p2
      try clear c4
      try clear c4b0
      try clear c4b1
      try clear c7
      try clear c7b0
      obtain ⟨kq, x19_4, rfl, HA, HJ4, HB⟩ := hcut
      cases kq with
      | zero => exact absurd HA.out (by simp [code_Field.j0])
      | succ kj4 =>
        have H := HA.out
        clear HA
        simp only [code_Field.j0] at H
        by_cases c8 : x19_4 = true
        · subst c8
          have H1 : (some ((⟨#[]⟩ : ByteArray), 0, 3)) = some (r1, r2, r3) := by rw [if_pos rfl] at H; exact H
          clear H
          have H := H1
          clear H1
          simp only [Option.some.injEq, Prod.mk.injEq] at H
          obtain ⟨rfl, rfl, rfl⟩ := H
          go_wp2
          go_ret3
          exact ⟨by first | rfl | (simp [errW_none, errW_some] <;> rfl) | (simp [*, errW_none, errW_some] <;> rfl), by repeat (first | (with_reducible first | exact HB.out | apply below_alloc | apply pw_below_drewN | apply below_drew1) | exact HB.out)⟩
        · replace c8 := Bool.eq_false_iff.mpr c8
          subst c8
          have H1 : (if t110 > (IntKind.u64.wrap (wrap64 ((a0.size : Int) - t111))) then (some ((⟨#[]⟩ : ByteArray), 0, 6)) else (if 0 ≤ t111 then (if t111 ≤ (wrap64 (t111 + (wrap64 (t110)))) then (if (wrap64 (t111 + (wrap64 (t110)))) ≤ (a0.size : Int) then (some (a0.extract (t111 : Int).toNat ((wrap64 (t111 + (wrap64 (t110)))) : Int).toNat, wrap64 (t111 + (wrap64 (t110))), 0)) else (none)) else (none)) else (none))) = some (r1, r2, r3) := by rw [if_neg (show ¬ (false = true) by decide)] at H; exact H
          clear H
          have H := H1
          clear H1
          by_cases c9 : t110 > (IntKind.u64.wrap (wrap64 ((a0.size : Int) - t111)))
          · rw [if_pos c9] at H
            have c9b0 : decide ((IntKind.u64.wrap (wrap64 ((a0.size : Int) - t111))) < t110) = true := decide_eq_true c9
            clear c9
            simp only [Option.some.injEq, Prod.mk.injEq] at H
            obtain ⟨rfl, rfl, rfl⟩ := H
            go_wp2
            go_ret3
            exact ⟨by first | rfl | (simp [errW_none, errW_some] <;> rfl) | (simp [*, errW_none, errW_some] <;> rfl), by repeat (first | (with_reducible first | exact HB.out | apply below_alloc | apply pw_below_drewN | apply below_drew1) | exact HB.out)⟩
          · rw [if_neg c9] at H
            have c9b0 : decide ((IntKind.u64.wrap (wrap64 ((a0.size : Int) - t111))) < t110) = false := decide_eq_false c9
            clear c9
            by_cases c10 : 0 ≤ t111
            · rw [if_pos c10] at H
              have c10b0 := eq_true c10
              have c10b1 : decide (0 ≤ t111) = true := decide_eq_true c10
              clear c10
              by_cases c11 : t111 ≤ (wrap64 (t111 + (wrap64 (t110))))
              · rw [if_pos c11] at H
                have c11b0 := eq_true c11
                have c11b1 : decide (t111 ≤ (wrap64 (t111 + (wrap64 (t110))))) = true := decide_eq_true c11
                by_cases c12 : (wrap64 (t111 + (wrap64 (t110)))) ≤ (a0.size : Int)
                · rw [if_pos c12] at H
                  have c12b0 := eq_true c12
                  have c12b1 : decide ((wrap64 (t111 + (wrap64 (t110)))) ≤ (a0.size : Int)) = true := decide_eq_true c12
                  simp only [Option.some.injEq, Prod.mk.injEq] at H
                  obtain ⟨rfl, rfl, rfl⟩ := H
                  go_wp2
                  go_ret3
                  exact ⟨by first | rfl | (simp [errW_none, errW_some] <;> rfl) | (simp [*, errW_none, errW_some] <;> rfl), by repeat (first | (with_reducible first | exact HB.out | apply below_alloc | apply pw_below_drewN | apply below_drew1) | exact HB.out)⟩
                · rw [if_neg c12] at H
                  exact absurd H (by simp)
              · rw [if_neg c11] at H
                exact absurd H (by simp)
            · rw [if_neg c10] at H
              exact absurd H (by simp)
  · rw [if_neg c4] at H
    have c4b0 : (t112 == 0) = false := beq_eq_false_iff_ne.mpr c4
    have c4b1 : (t112 != 0) = true := bne_iff_ne.mpr c4
    simp only [Option.some.injEq, Prod.mk.injEq] at H
    obtain ⟨rfl, rfl, rfl⟩ := H
    go_enter Try.func75, Try.ntmps75
    go_wp2_with (first | ((with_reducible refine gate_callee (f := 74) rfl ?_); refine goesL_ (some 11) rfl rfl Try.func74 (by kernel_rfl) rfl #[.string a0] rfl (by (try simp only [List.map_toArray, List.map_cons, List.map_nil]); first | done | rfl | (simp only [List.length_drop, List.length_take]; rfl)) ?_; (with_reducible refine (code_Uint.calls a0 t110 t111 t112 _ A3.out).mono ?_); rintro e w13 ⟨rfl, hb⟩; refine ⟨_, rfl, ?_⟩; have n0_ := Aside0.mk (below_step (by repeat (first | (with_reducible first | exact HB.out | apply below_alloc | apply pw_below_drewN | apply below_drew1) | exact HB.out)) hb); clear HB; have HB := n0_; clear n0_; (try clear hb); (try clear hb2); (try clear hk); (try clear hi)))
    go_ret3
    exact ⟨by first | rfl | (simp [errW_none, errW_some] <;> rfl) | (simp [*, errW_none, errW_some] <;> rfl), by repeat (first | (with_reducible first | exact HB.out | apply below_alloc | apply pw_below_drewN | apply below_drew1) | exact HB.out)⟩

end Go.Proofs.Ytfemebenkbobnaa.PB06
