-- printed by wip/mkprint.py, a program of this session, over the kit's print program: functions proved by hand are taken in
import Derived.Test.YtfemebenkbobnaaPB060
import Derived.Test.YtfemebenkbobnaaPB063
import Derived.Test.YtfemebenkbobnaaPB064
namespace Go.Proofs.Ytfemebenkbobnaa.PB06
open Go.RowKit Go.Proofs.YtfemebenkbobnaaW.PrintWords Go.Proofs.YtfemebenkbobnaaW.PrintLast Go.Proofs.YtfemebenkbobnaaW.PrintMore
attribute [local go_sem] max2_int min2_int max_two min_two max_three min_three max_four min_four   -- for this text's walks alone
set_option linter.unusedVariables false
set_option linter.unusedSimpArgs false

/-! ### batch_Decode: function 40 -/
-- ASSUME batch_Decode rounds=1 making=1 imports=Derived.Lib.Strings+Derived.Test.YtfemebenkbobnaaHBytes
theorem kr_calls (s : ByteArray) (w : World) : Calls Try.prog 88 #[.string s] w fun e w' => e = .returned (.tuple #[.string ⟨#[]⟩, .int .i64 0, .int .i64 0]) ∧ Below w.heap.size w w' := by
  go_enter Try.func88, Try.ntmps88
  go_wp2
  go_ret3
  exact ⟨rfl, Below.refl _ _⟩
theorem ki_calls (n : Nat) (s r1 : ByteArray) (r2 r3 : Int) (h : code_Field.f n s 2048 = some (r1, r2, r3)) (w : World) : Calls Try.prog 86 #[.string s] w fun e w' => e = .returned (.tuple #[.string r1, .int .i64 r2, .int .i64 r3]) ∧ Below w.heap.size w w' := by
  have H := Aside0.mk h
  clear h
  go_enter Try.func86, Try.ntmps86
  go_wp2_with (go_at_call 75; refine (code_Field.calls n s 2048 r1 r2 r3 _ H.out).mono ?_; rintro e w1 ⟨rfl, hb⟩; have HB := Aside0.mk hb; clear hb)
  go_ret3
  exact ⟨rfl, HB.out⟩
def batch_readOf (k : Nat) (c : Int) (s : ByteArray) : Option (ByteArray × Int × Int) := if c = 1 then code_Field.f k s 2048 else if c = 2 then some (⟨#[]⟩, 0, 0) else none
def batch_Decode.l0 (k : Nat) : Nat → Int → Int → ByteArray → List S72 → Option (Int × List S72 × Int)
  | 0, _, _, _, _ => none
  | j + 1, seq, many, s, acc =>
    if (acc.length : Int) = many then
      if s.size = 0 then (batch_Check.f k seq acc).bind fun e => if e = 0 then some (seq, acc, 0) else some (0, [], 7)
      else some (0, [], 7)
    else if s.size = 0 then some (0, [], 7)
    else if bt s 0 = 0 ∨ 3 ≤ bt s 0 then some (0, [], 7)
    else (code_Field.f k (s.extract 1 s.size) 520).bind fun x => if x.2.2 = 0 then
        if 0 ≤ x.2.1 ∧ 1 + x.2.1 ≤ s.size ∧ x.2.1 ≤ 100000 then
          (batch_readOf k (bt s 0) (s.extract (1 + x.2.1).toNat s.size)).bind fun y => if y.2.2 = 0 then
            if 0 ≤ y.2.1 ∧ 1 + x.2.1 + y.2.1 ≤ s.size ∧ y.2.1 ≤ 100000 ∧ acc.length ≤ 1000 then batch_Decode.l0 k j seq many (s.extract (1 + x.2.1 + y.2.1).toNat s.size) (acc ++ [⟨bt s 0, x.1, y.1⟩]) else none
          else some (0, [], 7)
        else none
      else some (0, [], 7)
def batch_Decode.f (k : Nat) (a0 : ByteArray) : Option (Int × List S72 × Int) :=
  (code_Uint.f a0).bind fun u => if 0 ≤ u.2.1 ∧ u.2.1 ≤ a0.size then (code_Uint.f (a0.extract u.2.1.toNat a0.size)).bind fun v =>
    if u.2.2 = 0 ∧ v.2.2 = 0 ∧ v.1 ≤ 64 then (if 0 ≤ v.2.1 ∧ u.2.1 + v.2.1 ≤ a0.size ∧ u.2.1 + v.2.1 ≤ 1000 ∧ 0 ≤ v.1 then batch_Decode.l0 k k u.1 v.1 (a0.extract (u.2.1 + v.2.1).toNat a0.size) [] else none) else some (0, [], 7)
  else none
set_option maxRecDepth 100000 in
set_option maxHeartbeats 2000000 in
theorem decode_bad (s : ByteArray) (u1 u2 u3 v1 v2 v3 : Int) (w : World) (hu : code_Uint.f s = some (u1, u2, u3)) (hb : 0 ≤ u2 ∧ u2 ≤ s.size) (hv : code_Uint.f (s.extract u2.toNat s.size) = some (v1, v2, v3)) (hne : ¬ (u3 = 0 ∧ v3 = 0 ∧ v1 ≤ 64)) :
    Calls Try.prog 40 #[.string s] w fun e w' => e = .returned (.tuple #[.agg #[.int .u64 0, .slice none 0 0], .int .i64 7]) ∧ Below w.heap.size w w' := by
  have hu58 := Try.underlying58
  obtain ⟨hb1, hb2⟩ := hb
  obtain ⟨n, rfl⟩ := Int.eq_ofNat_of_zero_le hb1
  rw [Int.toNat_natCast] at hv
  have HU := Aside0.mk hu
  have HV := Aside0.mk hv
  have hn : n ≤ s.size := by omega
  obtain ⟨t1, ht1⟩ : ∃ t, (u3 != 0) = t := ⟨_, rfl⟩
  obtain ⟨t2, ht2⟩ : ∃ t, (v3 != 0) = t := ⟨_, rfl⟩
  obtain ⟨t3, ht3⟩ : ∃ t, decide (64 < v1) = t := ⟨_, rfl⟩
  have HT : Aside0 ((t1 || t2 || t3) = true) := ⟨by
    rw [← ht1, ← ht2, ← ht3]
    rw [Bool.or_eq_true, Bool.or_eq_true, bne_iff_ne, bne_iff_ne, decide_eq_true_eq]
    omega⟩
  clear hu hv hne hb1
  cases t1 <;> cases t2 <;> cases t3 <;> first | exact Bool.noConfusion (show false = true from HT.out) | skip
  all_goals
    go_enter Try.func40, Try.ntmps40
    go_wp2
    go_step3
    go_wp2_with (first
      | (go_at_call 69; refine (kinds_calls _).mono ?_; rintro e w2 ⟨rfl, hb⟩
         have BR := Aside0.mk (blk_alloc (blk_alloc (blk_below (blk_new w (.cells #[.int .u64 0, .slice none 0 0] 58)) hb) (.cells #[.nilFunc, .nilFunc, .func (.func 85) #[] #[], .func (.func 86) #[] #[], .func (.func 87) #[] #[], .func (.func 88) #[] #[]] 113)) (.cells #[.int .u64 0, .slice none 0 0] 58))
         have HB := Aside0.mk (below_alloc (below_alloc (below_step (below_alloc (Below.refl _ w) (.cells #[.int .u64 0, .slice none 0 0] 58)) hb) (.cells #[.nilFunc, .nilFunc, .func (.func 85) #[] #[], .func (.func 86) #[] #[], .func (.func 87) #[] #[], .func (.func 88) #[] #[]] 113)) (.cells #[.int .u64 0, .slice none 0 0] 58))
         clear hb)
      | (go_at_call 74; (with_reducible refine (code_Uint.calls s u1 n u3 _ HU.out).mono ?_); rintro e w3 ⟨rfl, hb⟩
         have h1_ := Aside0.mk (blk_below BR.out hb); have h2_ := Aside0.mk (below_step HB.out hb); clear BR HB hb; have BR := h1_; have HB := h2_; clear h1_ h2_)
      | (go_at_call 74; (with_reducible refine (code_Uint.calls _ v1 v2 v3 _ HV.out).mono ?_); rintro e w4 ⟨rfl, hb⟩
         have h1_ := Aside0.mk (blk_below BR.out hb); have h2_ := Aside0.mk (below_step HB.out hb); clear BR HB hb; have BR := h1_; have HB := h2_; clear h1_ h2_
         have hc0 : w4.cell? ⟨w.heap.size, 0, none⟩ = some (.int .u64 0) := (blk_cell BR.out 0).trans rfl
         have hc1 : w4.cell? ⟨w.heap.size, 1, none⟩ = some (.slice none 0 0) := (blk_cell BR.out 1).trans rfl
         have hf0 := blk_frozen BR.out 0
         have hf1 := blk_frozen BR.out 1))
    try rw [Exit.noGoto_ret]
    refine bodyPost_ret (v := .tuple #[.agg #[.int .u64 0, .slice none 0 0], .int .i64 7]) ?_ rfl ⟨rfl, (HB.out.setCell (p := ⟨w.heap.size, 0, none⟩) (Nat.le_refl _) _).setCell (p := ⟨w.heap.size, 1, none⟩) (Nat.le_refl _) _⟩
    simp [results, Try.results40, go_sem, hc0, hc1]
theorem empty_of_size (s : ByteArray) (h : s.size = 0) : s = ⟨#[]⟩ := by
  obtain ⟨d⟩ := s
  have : d = #[] := Array.eq_empty_of_size_eq_zero h
  rw [this]
theorem toList_ne (s : ByteArray) (h : ¬ s.size = 0) : s.toList ≠ [] := by
  intro e
  have h2 : s.data.toList.length = s.size := by rw [Array.length_toList]; rfl
  have h3 : s.toList = s.data.toList := Lib.toList_data s
  rw [e] at h3
  rw [← h3] at h2
  exact h (by simpa using h2.symm)
def DPost (w : World) (r1 : Int) (r2 : List S72) (r3 : Int) (e : Ending) (w' : World) : Prop := ∃ v1_ : Value, e = .returned (.tuple #[.agg #[.int .u64 r1, v1_], .int .i64 r3]) ∧ Kd.R k72 72 w' w.heap.size (fun _ => True) v1_ r2 ∧ Below w.heap.size w w'
set_option maxRecDepth 100000 in
set_option maxHeartbeats 4000000 in
theorem decode_go (k j : Nat) (s : ByteArray) (seq many : Int) (n m : Nat) (r1 : Int) (r2 : List S72) (r3 : Int) (w : World) (hu : code_Uint.f s = some (seq, (n : Int), 0)) (hv : code_Uint.f (s.extract n s.size) = some (many, (m : Int), 0)) (hn : n ≤ s.size) (hm : n + m ≤ s.size) (hmax : n + m ≤ 1000) (hm0 : 0 ≤ many) (hm64 : many ≤ 64)
    (h : batch_Decode.l0 k j seq many (s.extract (n + m) s.size) [] = some (r1, r2, r3)) : Calls Try.prog 40 #[.string s] w (DPost w r1 r2 r3) := by
  have hu58 := Try.underlying58
  have hu72 := Try.underlying72
  have HU := Aside0.mk hu
  have HV := Aside0.mk hv
  have H := Aside0.mk h
  clear hu hv h
  have hd : decide (64 < many) = false := decide_eq_false (by omega)
  have hn' : (n : Int) ≤ (s.size : Int) := by omega
  have hm' : (n : Int) + (m : Int) ≤ (s.size : Int) := by omega
  go_enter Try.func40, Try.ntmps40
  go_wp2
  go_step3
  go_wp2_with (first
    | (go_at_call 69; refine (kinds_calls _).mono ?_; rintro e w2 ⟨rfl, hb⟩
       have BR := Aside0.mk (blk_alloc (blk_alloc (blk_below (blk_new w (.cells #[.int .u64 0, .slice none 0 0] 58)) hb) (.cells #[.nilFunc, .nilFunc, .func (.func 85) #[] #[], .func (.func 86) #[] #[], .func (.func 87) #[] #[], .func (.func 88) #[] #[]] 113)) (.cells #[.int .u64 0, .slice none 0 0] 58))
       have KK := Aside0.mk (blk_alloc (blk_new w2 (.cells #[.nilFunc, .nilFunc, .func (.func 85) #[] #[], .func (.func 86) #[] #[], .func (.func 87) #[] #[], .func (.func 88) #[] #[]] 113)) (.cells #[.int .u64 0, .slice none 0 0] 58))
       have BB := Aside0.mk (blk_new (w2.alloc (.cells #[.nilFunc, .nilFunc, .func (.func 85) #[] #[], .func (.func 86) #[] #[], .func (.func 87) #[] #[], .func (.func 88) #[] #[]] 113)) (.cells #[.int .u64 0, .slice none 0 0] 58))
       have HB := Aside0.mk (below_alloc (below_alloc (below_step (below_alloc (Below.refl _ w) (.cells #[.int .u64 0, .slice none 0 0] 58)) hb) (.cells #[.nilFunc, .nilFunc, .func (.func 85) #[] #[], .func (.func 86) #[] #[], .func (.func 87) #[] #[], .func (.func 88) #[] #[]] 113)) (.cells #[.int .u64 0, .slice none 0 0] 58))
       have GK := Aside0.mk (below_size (below_step (below_alloc (Below.refl _ w) (.cells #[.int .u64 0, .slice none 0 0] 58)) hb))
       have GB : Aside0 (w.heap.size < w2.heap.size) := ⟨by have := below_size hb; simp only [World.size_alloc] at this; omega⟩
       clear hb
       simp only [World.size_alloc] at BB
       )
    | (go_at_call 74; (with_reducible refine (code_Uint.calls s seq n 0 _ HU.out).mono ?_); rintro e w3 ⟨rfl, hb⟩
       have h0_ := Aside0.mk (blk_below BR.out hb); have h1_ := Aside0.mk (blk_below KK.out hb); have h2_ := Aside0.mk (blk_below BB.out hb); have h3_ := Aside0.mk (below_step HB.out hb)
       clear BR KK BB HB hb; have BR := h0_; have KK := h1_; have BB := h2_; have HB := h3_; clear h0_ h1_ h2_ h3_)
    | (go_at_call 74; (with_reducible refine (code_Uint.calls _ many m 0 _ HV.out).mono ?_); rintro e w4 ⟨rfl, hb⟩
       have h0_ := Aside0.mk (blk_below BR.out hb); have h1_ := Aside0.mk (blk_below KK.out hb); have h2_ := Aside0.mk (blk_below BB.out hb); have h3_ := Aside0.mk (below_step HB.out hb)
       clear BR KK BB HB hb; have BR := h0_; have KK := h1_; have BB := h2_; have HB := h3_; clear h0_ h1_ h2_ h3_))
  have h0_ := Aside0.mk (blk_drew BR.out); have h1_ := Aside0.mk (blk_drew KK.out); have h2_ := Aside0.mk (blk_drew BB.out); have h3_ := Aside0.mk (below_drew HB.out)
  clear BR KK BB HB; have BR := h0_; have KK := h1_; have BB := h2_; have HB := h3_; clear h0_ h1_ h2_ h3_
  generalize w2.heap.size = gq at *
  refine start_ (n := 9) (S := (fun _ => True)) (ds := []) #[false, false, false, false, false, false, false, false, false] (by kernel_rfl) rfl rfl trivial (fun hHeld => ?_)
  generalize w4.drew = w5 at *
  -- 0: Op.move t6
  refine pure_ (i := 0) (N := (some 44)) (v := ?_) (a' := ?_) #[true, false, false, false, false, false, false, false, false] rfl rfl (by kernel_rfl) (fun _ _ _ h => h) (Or.inl ⟨by rfl, ?_⟩) ?_ ?_
  rotate_left
  · intro w'
    go_simp
    with_reducible rfl
  rotate_left
  · simp only [Act.put, List.setIfInBounds_toArray, List.set_cons_zero, List.set_cons_succ, i64_w, i32_w]
    rfl
  -- 1: Op.move t0
  refine pure_ (i := 1) (N := (some 45)) (v := ?_) (a' := ?_) #[true, true, false, false, false, false, false, false, false] rfl rfl (by kernel_rfl) (fun _ _ _ h => h) (Or.inl ⟨by rfl, ?_⟩) ?_ ?_
  rotate_left
  · intro w'
    go_simp
    with_reducible rfl
  rotate_left
  · simp only [Act.put, List.setIfInBounds_toArray, List.set_cons_zero, List.set_cons_succ, i64_w, i32_w]
    rfl
  -- 2: Op.move t7
  refine pure_ (i := 2) (N := (some 46)) (v := ?_) (a' := ?_) #[true, true, true, false, false, false, false, false, false] rfl rfl (by kernel_rfl) (fun _ _ _ h => h) (Or.inl ⟨by rfl, ?_⟩) ?_ ?_
  rotate_left
  · intro w'
    go_simp
    with_reducible rfl
  rotate_left
  · simp only [Act.put, List.setIfInBounds_toArray, List.set_cons_zero, List.set_cons_succ, i64_w, i32_w]
    rfl
  -- 3: Op.move t10
  refine pure_ (i := 3) (N := (some 47)) (v := ?_) (a' := ?_) #[true, true, true, true, false, false, false, false, false] rfl rfl (by kernel_rfl) (fun _ _ _ h => h) (Or.inl ⟨by rfl, ?_⟩) ?_ ?_
  rotate_left
  · intro w'
    go_simp
    with_reducible rfl
  rotate_left
  · simp only [Act.put, List.setIfInBounds_toArray, List.set_cons_zero, List.set_cons_succ, i64_w, i32_w]
    rfl
  -- 4: Op.binOp BinOp.add 3 t46 t47 3
  refine pure_ (i := 4) (N := (some 48)) (v := ?_) (a' := ?_) #[true, true, true, true, true, false, false, false, false] rfl rfl (by kernel_rfl) (fun _ _ _ h => h) (Or.inl ⟨by rfl, ?_⟩) ?_ ?_
  rotate_left
  · intro w'
    have e1 : IntKind.i64.wrap ((n : Int) + (m : Int)) = (n : Int) + (m : Int) := IntWalk.i64_in _ (by omega)
    go_simp
    with_reducible rfl
  rotate_left
  · simp only [Act.put, List.setIfInBounds_toArray, List.set_cons_zero, List.set_cons_succ, i64_w, i32_w]
    rfl
  -- 5: Op.slice 9 t45 (some t48) none none
  refine pure_ (i := 5) (N := (some 49)) (v := ?_) (a' := ?_) #[true, true, true, true, true, true, false, false, false] rfl rfl (by kernel_rfl) (fun _ _ _ h => h) (Or.inl ⟨by rfl, ?_⟩) ?_ ?_
  rotate_left
  · intro w'
    have e2 : ((n : Int) + (m : Int)).toNat = n + m := by omega
    have e3 : 0 ≤ (n : Int) + (m : Int) := by omega
    go_simp
    with_reducible rfl
  rotate_left
  · simp only [Act.put, List.setIfInBounds_toArray, List.set_cons_zero, List.set_cons_succ, i64_w, i32_w]
    rfl
  -- 6: Op.fieldAddr 58 t5 0
  refine pure_ (i := 6) (N := (some 50)) (v := ?_) (a' := ?_) #[true, true, true, true, true, true, true, false, false] rfl rfl (by kernel_rfl) (fun _ _ _ h => h) (Or.inl ⟨by rfl, ?_⟩) ?_ ?_
  rotate_left
  · intro w'
    go_simp
    with_reducible rfl
  rotate_left
  · simp only [Act.put, List.setIfInBounds_toArray, List.set_cons_zero, List.set_cons_succ, i64_w, i32_w]
    rfl
  -- 7: Op.store 24 t50 t44
  refine one_ (i := 7) (N := none) #[true, true, true, true, true, true, true, true, false] rfl rfl (by kernel_rfl) (by decide) (fun K hK => ?_)
  have hc0 : w5.cell? ⟨gq + 1, 0, none⟩ = some (.int .u64 0) := (blk_cell BB.out 0).trans rfl
  have hf0 := blk_frozen BB.out 0
  refine skip_ (w1 := w5.setCell ⟨gq + 1, 0, none⟩ (.int .u64 seq)) (by rfl) rfl (by go_simp) ?_
  clear hc0 hf0
  have h0_ := Aside0.mk (blk_far BR.out (p := ⟨gq + 1, 0, none⟩) (by have := GB.out; simp; omega) (.int .u64 seq))
  have h1_ := Aside0.mk (blk_far KK.out (p := ⟨gq + 1, 0, none⟩) (by simp) (.int .u64 seq))
  have h2_ := Aside0.mk (blk_put BB.out 0 (.int .u64 seq) (cs' := #[.int .u64 seq, .slice none 0 0]) rfl)
  have h3_ := Aside0.mk (HB.out.setCell (p := ⟨gq + 1, 0, none⟩) (by have := GB.out; simp; omega) (.int .u64 seq))
  clear BR KK BB HB
  have BR := h0_; have KK := h1_; have BB := h2_; have HB := h3_
  clear h0_ h1_ h2_ h3_
  clear hHeld
  refine hK.out _ _ trivial (fun hHeld => ?_)
  clear hK K
  -- 8: Op.assign t49
  refine pure_ (i := 8) (N := (some 0)) (v := ?_) (a' := ?_) #[true, true, true, true, true, true, true, true, true] rfl rfl (by kernel_rfl) (fun _ _ _ h => h) (Or.inl ⟨by rfl, ?_⟩) ?_ ?_
  rotate_left
  · intro w'
    go_simp
    with_reducible rfl
  rotate_left
  · simp only [Act.put, List.setIfInBounds_toArray, List.set_cons_zero, List.set_cons_succ, i64_w, i32_w]
    rfl
  refine done_ (by kernel_rfl) ?_
  clear hHeld HU HV hn' hm' hd
  go_wp2
  go_step3
  go_wp2
  generalize s.extract (n + m) s.size = s0 at *
  clear hn hm hmax
  generalize hWW : w5.setCell _ _ = w6 at *
  clear hWW
  have H6 := H
  clear H
  go_loopg [0] j (fun kq v0 wr => ∃ (s' : ByteArray) (v : Value) (acc : List S72), v0 = .string s' ∧ Aside0 (batch_Decode.l0 k kq seq many s' acc = some (r1, r2, r3)) ∧ Aside0 (wr.heap[w.heap.size]? = some (.cells #[.int .u64 0, .slice none 0 0] 58 (0, 0))) ∧ Aside0 (wr.heap[gq]? = some (.cells #[.nilFunc, .nilFunc, .func (.func 85) #[] #[], .func (.func 86) #[] #[], .func (.func 87) #[] #[], .func (.func 88) #[] #[]] 113 (0, 0))) ∧ Aside0 (wr.heap[gq + 1]? = some (.cells #[.int .u64 seq, v] 58 (0, 0))) ∧ Aside0 (Kd.R k72 72 wr w.heap.size (fun _ => True) v acc) ∧ Aside0 (Below w.heap.size w wr) ∧ Aside0 (acc.length ≤ 1001))
  case atStart => exact ⟨_, _, _, rfl, H6, BR, KK, BB, ⟨Kd.R_nil _ _ _ _ _⟩, HB, ⟨Nat.zero_le _⟩⟩
  case round =>
    clear H6 BR KK BB HB
    obtain ⟨s', v, acc, rfl, H, BR, KK, BB, HO, HB, HN⟩ := hrel
    cases gk with
    | zero => exact absurd H.out (by simp [batch_Decode.l0])
    | succ j1 =>
    have h := H.out
    clear H
    simp only [batch_Decode.l0] at h
    obtain ⟨A, c, hv, hcap, hC⟩ := Kd.R_reads HO.out
    have HC := Aside0.mk hC
    have Hcap := Aside0.mk hcap
    clear hC hcap
    subst hv
    have hlen : (acc.length : Int) ≤ 100000 := by have := HN.out; omega
    have hwr : IntKind.u64.wrap (acc.length : Int) = (acc.length : Int) := by rw [IntKind.wrap_u64]; omega
    by_cases hl : (acc.length : Int) = many
    · rw [if_pos hl] at h
      subst hl
      have hc0 : wr.cell? ⟨w.heap.size, 0, none⟩ = some (.int .u64 0) := (blk_cell BR.out 0).trans rfl
      have hc1 : wr.cell? ⟨w.heap.size, 1, none⟩ = some (.slice none 0 0) := (blk_cell BR.out 1).trans rfl
      have hf0 := blk_frozen BR.out 0
      have hf1 := blk_frozen BR.out 1
      have hb0 : wr.cell? ⟨gq + 1, 0, none⟩ = some (.int .u64 seq) := (blk_cell BB.out 0).trans rfl
      have hb1 : wr.cell? ⟨gq + 1, 1, none⟩ = some (.slice A acc.length c) := (blk_cell BB.out 1).trans rfl
      by_cases hs : s'.size = 0
      · rw [if_pos hs] at h
        obtain ⟨e, he, h⟩ := Option.bind_eq_some_iff.mp h
        have HE := Aside0.mk he
        have hs2 : s' = ⟨#[]⟩ := empty_of_size s' hs
        subst hs2
        by_cases h0 : e = 0
        · rw [if_pos h0] at h
          have HF := Aside0.mk (Option.some.inj h)
          subst h0
          clear h he hs
          go_wp2_with (go_at_call 37; (with_reducible refine (batch_Check.calls k seq A c acc 0 _ HC.out Hcap.out HE.out).mono ?_); rintro e w7 ⟨rfl, hb⟩; have h0_ := Aside0.mk (blk_below BR.out hb); have h1_ := Aside0.mk (blk_below KK.out hb); have h2_ := Aside0.mk (blk_below BB.out hb); have h3_ := Aside0.mk (Kd.R_below HO.out hb); have h4_ := Aside0.mk (below_step HB.out hb); clear BR KK BB HO HB; have BR := h0_; have KK := h1_; have BB := h2_; have HO := h3_; have HB := h4_; clear h0_ h1_ h2_ h3_ h4_; clear hb; clear hc0 hc1 hf0 hf1 hb0 hb1; have hc0 : w7.cell? ⟨w.heap.size, 0, none⟩ = some (.int .u64 0) := (blk_cell BR.out 0).trans rfl; have hc1 : w7.cell? ⟨w.heap.size, 1, none⟩ = some (.slice none 0 0) := (blk_cell BR.out 1).trans rfl; have hf0 := blk_frozen BR.out 0; have hf1 := blk_frozen BR.out 1; have hb0 : w7.cell? ⟨gq + 1, 0, none⟩ = some (.int .u64 seq) := (blk_cell BB.out 0).trans rfl; have hb1 : w7.cell? ⟨gq + 1, 1, none⟩ = some (.slice A acc.length c) := (blk_cell BB.out 1).trans rfl)
          try rw [Exit.noGoto_ret]
          rw [← (Prod.mk.inj HF.out).1, ← (Prod.mk.inj (Prod.mk.inj HF.out).2).1, ← (Prod.mk.inj (Prod.mk.inj HF.out).2).2]
          refine bodyPost_ret (v := .tuple #[.agg #[.int .u64 seq, .slice A acc.length c], .int .i64 0]) ?_ rfl ⟨_, rfl, Kd.R_set (Kd.R_set HO.out BR.out (by decide) 0 _) (blk_set BR.out 0 _) (by decide) 1 _, (HB.out.setCell (p := ⟨w.heap.size, 0, none⟩) (Nat.le_refl _) _).setCell (p := ⟨w.heap.size, 1, none⟩) (Nat.le_refl _) _⟩
          simp [results, Try.results40, go_sem, hc0, hc1]
        · rw [if_neg h0] at h
          have HF := Aside0.mk (Option.some.inj h)
          have h0b : (e == 0) = false := by simpa using h0
          clear h he hs h0
          go_wp2_with (go_at_call 37; (with_reducible refine (batch_Check.calls k seq A c acc e _ HC.out Hcap.out HE.out).mono ?_); rintro e w7 ⟨rfl, hb⟩; have h0_ := Aside0.mk (blk_below BR.out hb); have h1_ := Aside0.mk (blk_below KK.out hb); have h2_ := Aside0.mk (blk_below BB.out hb); have h3_ := Aside0.mk (Kd.R_below HO.out hb); have h4_ := Aside0.mk (below_step HB.out hb); clear BR KK BB HO HB; have BR := h0_; have KK := h1_; have BB := h2_; have HO := h3_; have HB := h4_; clear h0_ h1_ h2_ h3_ h4_; clear hb; clear hc0 hc1 hf0 hf1 hb0 hb1; have hc0 : w7.cell? ⟨w.heap.size, 0, none⟩ = some (.int .u64 0) := (blk_cell BR.out 0).trans rfl; have hc1 : w7.cell? ⟨w.heap.size, 1, none⟩ = some (.slice none 0 0) := (blk_cell BR.out 1).trans rfl; have hf0 := blk_frozen BR.out 0; have hf1 := blk_frozen BR.out 1; have hb0 : w7.cell? ⟨gq + 1, 0, none⟩ = some (.int .u64 seq) := (blk_cell BB.out 0).trans rfl; have hb1 : w7.cell? ⟨gq + 1, 1, none⟩ = some (.slice A acc.length c) := (blk_cell BB.out 1).trans rfl)
          try rw [Exit.noGoto_ret]
          rw [← (Prod.mk.inj HF.out).1, ← (Prod.mk.inj (Prod.mk.inj HF.out).2).1, ← (Prod.mk.inj (Prod.mk.inj HF.out).2).2]
          refine bodyPost_ret (v := .tuple #[.agg #[.int .u64 0, .slice none 0 0], .int .i64 7]) ?_ rfl ⟨_, rfl, Kd.R_nil _ _ _ _ _, (HB.out.setCell (p := ⟨w.heap.size, 0, none⟩) (Nat.le_refl _) _).setCell (p := ⟨w.heap.size, 1, none⟩) (Nat.le_refl _) _⟩
          simp [results, Try.results40, go_sem, hc0, hc1]
      · rw [if_neg hs] at h
        have HF := Aside0.mk (Option.some.inj h)
        have e1 : s'.toList.isEmpty = false := by rw [← Bool.not_eq_true, List.isEmpty_iff]; exact toList_ne s' hs
        clear h hs
        go_wp2_with (fail)
        try rw [Exit.noGoto_ret]
        rw [← (Prod.mk.inj HF.out).1, ← (Prod.mk.inj (Prod.mk.inj HF.out).2).1, ← (Prod.mk.inj (Prod.mk.inj HF.out).2).2]
        refine bodyPost_ret (v := .tuple #[.agg #[.int .u64 0, .slice none 0 0], .int .i64 7]) ?_ rfl ⟨_, rfl, Kd.R_nil _ _ _ _ _, (HB.out.setCell (p := ⟨w.heap.size, 0, none⟩) (Nat.le_refl _) _).setCell (p := ⟨w.heap.size, 1, none⟩) (Nat.le_refl _) _⟩
        simp [results, Try.results40, go_sem, hc0, hc1]
    · rw [if_neg hl] at h
      have hlb : ((acc.length : Int) == many) = false := beq_false_of_ne hl
      have hc0 : wr.cell? ⟨w.heap.size, 0, none⟩ = some (.int .u64 0) := (blk_cell BR.out 0).trans rfl
      have hc1 : wr.cell? ⟨w.heap.size, 1, none⟩ = some (.slice none 0 0) := (blk_cell BR.out 1).trans rfl
      have hf0 := blk_frozen BR.out 0
      have hf1 := blk_frozen BR.out 1
      have hb0 : wr.cell? ⟨gq + 1, 0, none⟩ = some (.int .u64 seq) := (blk_cell BB.out 0).trans rfl
      have hb1 : wr.cell? ⟨gq + 1, 1, none⟩ = some (.slice A acc.length c) := (blk_cell BB.out 1).trans rfl
      by_cases hs : s'.size = 0
      · rw [if_pos hs] at h
        have HF := Aside0.mk (Option.some.inj h)
        have hs2 : s' = ⟨#[]⟩ := empty_of_size s' hs
        subst hs2
        clear h hs hl
        go_wp2_with (fail)
        try rw [Exit.noGoto_ret]
        rw [← (Prod.mk.inj HF.out).1, ← (Prod.mk.inj (Prod.mk.inj HF.out).2).1, ← (Prod.mk.inj (Prod.mk.inj HF.out).2).2]
        refine bodyPost_ret (v := .tuple #[.agg #[.int .u64 0, .slice none 0 0], .int .i64 7]) ?_ rfl ⟨_, rfl, Kd.R_nil _ _ _ _ _, (HB.out.setCell (p := ⟨w.heap.size, 0, none⟩) (Nat.le_refl _) _).setCell (p := ⟨w.heap.size, 1, none⟩) (Nat.le_refl _) _⟩
        simp [results, Try.results40, go_sem, hc0, hc1]
      · rw [if_neg hs] at h
        have e1 : s'.toList.isEmpty = false := by rw [← Bool.not_eq_true, List.isEmpty_iff]; exact toList_ne s' hs
        have hp : 0 < s'.size := by omega
        have hbt : ((s'[0]'hp).toNat : Int) = bt s' 0 := bt_at s' 0 hp
        have hbr := bt_range s' 0
        by_cases hk : bt s' 0 = 0 ∨ 3 ≤ bt s' 0
        · rw [if_pos hk] at h
          have HF := Aside0.mk (Option.some.inj h)
          clear h hs hl
          generalize bt s' 0 = c0 at *
          obtain ⟨t1, ht1⟩ : ∃ t, (c0 == 0) = t := ⟨_, rfl⟩
          obtain ⟨t2, ht2⟩ : ∃ t, decide (3 ≤ c0) = t := ⟨_, rfl⟩
          have HT : Aside0 ((t1 || t2) = true) := ⟨by rw [← ht1, ← ht2, Bool.or_eq_true, beq_iff_eq, decide_eq_true_eq]; exact hk⟩
          clear hk
          cases t1 <;> cases t2 <;> first | exact Bool.noConfusion (show false = true from HT.out) | skip
          all_goals
            go_wp2_with (fail)
            try rw [Exit.noGoto_ret]
            rw [← (Prod.mk.inj HF.out).1, ← (Prod.mk.inj (Prod.mk.inj HF.out).2).1, ← (Prod.mk.inj (Prod.mk.inj HF.out).2).2]
            refine bodyPost_ret (v := .tuple #[.agg #[.int .u64 0, .slice none 0 0], .int .i64 7]) ?_ rfl ⟨_, rfl, Kd.R_nil _ _ _ _ _, (HB.out.setCell (p := ⟨w.heap.size, 0, none⟩) (Nat.le_refl _) _).setCell (p := ⟨w.heap.size, 1, none⟩) (Nat.le_refl _) _⟩
            simp [results, Try.results40, go_sem, hc0, hc1]
        · rw [if_neg hk] at h
          obtain ⟨⟨key, i, e⟩, hf, h⟩ := Option.bind_eq_some_iff.mp h
          dsimp only at h
          have HK := Aside0.mk hf
          clear hf
          have hk0 : (bt s' 0 == 0) = false := beq_false_of_ne (by omega)
          have hk3 : decide (3 ≤ bt s' 0) = false := decide_eq_false (by omega)
          have hk12 : bt s' 0 = 1 ∨ bt s' 0 = 2 := by omega
          clear hk hs hl
          by_cases he : e = 0
          · rw [if_pos he] at h
            subst he
            by_cases hi : 0 ≤ i ∧ 1 + i ≤ (s'.size : Int) ∧ i ≤ 100000
            · rw [if_pos hi] at h
              obtain ⟨hi0, hi1, hi2⟩ := hi
              obtain ⟨ni, rfl⟩ := Int.eq_ofNat_of_zero_le hi0
              have hin : (1 + (ni : Int)).toNat = 1 + ni := by omega
              rw [hin] at h
              obtain ⟨⟨val, jv, e2⟩, hf2, h⟩ := Option.bind_eq_some_iff.mp h
              dsimp only at h
              unfold batch_readOf at hf2
              rcases hk12 with hk1 | hk2
              · rw [if_pos hk1] at hf2
                have HK2 := Aside0.mk hf2
                clear hf2
                rw [hk1] at h hbt hk0 hk3
                clear hk1 hbr
                have HX := Aside0.mk h
                clear h hin hi0
                have GX := Aside0.mk (below_size HB.out)
                have HO2 := Aside0.mk (Kd.R_mono (Kd.R_bound HO.out) (ok' := fun k => k ≠ wr.heap.size) (fun k hk => by have := hk.2.2.1; omega))
                clear HO; have HO := HO2; clear HO2
                go_wp2_with (go_at_call 75; (with_reducible refine (code_Field.calls k (s'.extract 1 s'.size) 520 key ni 0 _ HK.out).mono ?_); rintro e w7 ⟨rfl, hb⟩; have BX := Aside0.mk (blk_below (blk_new wr (.cells #[.int .i64 1, .string ⟨#[]⟩, .string ⟨#[]⟩] 72)) hb); have h0_ := Aside0.mk (blk_below (blk_alloc BR.out _) hb); have h1_ := Aside0.mk (blk_below (blk_alloc KK.out _) hb); have h2_ := Aside0.mk (blk_below (blk_alloc BB.out _) hb); have h3_ := Aside0.mk (Kd.R_below (Kd.R_alloc HO.out _) hb); have h4_ := Aside0.mk (below_step (below_alloc HB.out _) hb); clear BR KK BB HO HB; have BR := h0_; have KK := h1_; have BB := h2_; have HO := h3_; have HB := h4_; clear h0_ h1_ h2_ h3_ h4_; clear hb; have BX2 := Aside0.mk (blk_drew BX.out); clear BX; have BX := BX2; clear BX2; clear hc0 hc1 hf0 hf1 hb0 hb1)
                have h0_ := Aside0.mk (blk_drew BR.out)
                have h1_ := Aside0.mk (blk_drew KK.out)
                have h2_ := Aside0.mk (blk_drew BB.out)
                have h3_ := Aside0.mk (Kd.R_drew HO.out)
                have h4_ := Aside0.mk (below_drew HB.out)
                clear BR KK BB HO HB
                have BR := h0_; have KK := h1_; have BB := h2_; have HO := h3_; have HB := h4_
                clear h0_ h1_ h2_ h3_ h4_
                have NX1 : Aside0 (wr.heap.size ≠ w.heap.size) := ⟨blk_ne BX.out BR.out (by decide)⟩
                have NX2 : Aside0 (wr.heap.size ≠ gq) := ⟨blk_ne BX.out KK.out (by decide)⟩
                have NX3 : Aside0 (wr.heap.size ≠ gq + 1) := ⟨blk_ne BX.out BB.out (by decide)⟩
                refine start_ (n := 17) (S := (fun w' => w'.cell? ⟨wr.heap.size, 0, none⟩ = some (.int .i64 1) ∧ w'.cell? ⟨gq, 3, none⟩ = some (.func (.func 86) #[] #[]))) (ds := []) #[false, false, false, false, false, false, false, false, false, false, false, false, false, false, false, false, false] (by kernel_rfl) rfl rfl ⟨(blk_cell BX.out 0).trans rfl, (blk_cell KK.out 3).trans rfl⟩ (fun hHeld => ?_)
                generalize w7.drew = w8 at *
                -- 0: Op.fieldAddr 72 t12 0
                refine pure_ (i := 0) (N := (some 92)) (v := ?_) (a' := ?_) #[true, false, false, false, false, false, false, false, false, false, false, false, false, false, false, false, false] rfl rfl (by kernel_rfl) (fun _ _ _ h => h) (Or.inl ⟨by rfl, ?_⟩) ?_ ?_
                rotate_left
                · intro w'
                  go_simp
                  with_reducible rfl
                rotate_left
                · simp only [Act.put, List.setIfInBounds_toArray, List.set_cons_zero, List.set_cons_succ, i64_w, i32_w]
                  rfl
                -- 5: Op.move t0
                refine pure_ (i := 5) (N := (some 97)) (v := ?_) (a' := ?_) #[true, false, false, false, false, true, false, false, false, false, false, false, false, false, false, false, false] rfl rfl (by kernel_rfl) (fun _ _ _ h => h) (Or.inl ⟨by rfl, ?_⟩) ?_ ?_
                rotate_left
                · intro w'
                  go_simp
                  with_reducible rfl
                rotate_left
                · simp only [Act.put, List.setIfInBounds_toArray, List.set_cons_zero, List.set_cons_succ, i64_w, i32_w]
                  rfl
                -- 6: Op.move t14
                refine pure_ (i := 6) (N := (some 98)) (v := ?_) (a' := ?_) #[true, false, false, false, false, true, true, false, false, false, false, false, false, false, false, false, false] rfl rfl (by kernel_rfl) (fun _ _ _ h => h) (Or.inl ⟨by rfl, ?_⟩) ?_ ?_
                rotate_left
                · intro w'
                  go_simp
                  with_reducible rfl
                rotate_left
                · simp only [Act.put, List.setIfInBounds_toArray, List.set_cons_zero, List.set_cons_succ, i64_w, i32_w]
                  rfl
                -- 7: Op.binOp BinOp.add 3 (const (1:i64)) t98 3
                refine pure_ (i := 7) (N := (some 99)) (v := ?_) (a' := ?_) #[true, false, false, false, false, true, true, true, false, false, false, false, false, false, false, false, false] rfl rfl (by kernel_rfl) (fun _ _ _ h => h) (Or.inl ⟨by rfl, ?_⟩) ?_ ?_
                rotate_left
                · intro w'
                  have e1 : IntKind.i64.wrap (1 + (ni : Int)) = 1 + (ni : Int) := IntWalk.i64_in _ (by omega)
                  go_simp
                  with_reducible rfl
                rotate_left
                · simp only [Act.put, List.setIfInBounds_toArray, List.set_cons_zero, List.set_cons_succ, i64_w, i32_w]
                  rfl
                -- 8: Op.slice 9 t97 (some t99) none none
                refine pure_ (i := 8) (N := (some 100)) (v := ?_) (a' := ?_) #[true, false, false, false, false, true, true, true, true, false, false, false, false, false, false, false, false] rfl rfl (by kernel_rfl) (fun _ _ _ h => h) (Or.inl ⟨by rfl, ?_⟩) ?_ ?_
                rotate_left
                · intro w'
                  have e2 : (1 + (ni : Int)).toNat = 1 + ni := by omega
                  have e3 : 0 ≤ 1 + (ni : Int) := by omega
                  go_simp
                  with_reducible rfl
                rotate_left
                · simp only [Act.put, List.setIfInBounds_toArray, List.set_cons_zero, List.set_cons_succ, i64_w, i32_w]
                  rfl
                -- 1: Op.load 3 t92
                refine take_ (i := 1) (N := (some 93)) (v := ?_) (a' := ?_) #[true, true, false, false, false, true, true, true, true, false, false, false, false, false, false, false, false] rfl rfl (by kernel_rfl) (fun _ _ _ h => h) (Or.inl ⟨by rfl, ?_⟩) hHeld ?_ ?_
                rotate_left
                · rintro w' ⟨s0, s1⟩
                  go_simp
                  with_reducible rfl
                rotate_left
                · simp only [Act.put, List.setIfInBounds_toArray, List.set_cons_zero, List.set_cons_succ, i64_w, i32_w]
                  rfl
                -- 2: Op.indexAddr 113 t4 t93
                refine pure_ (i := 2) (N := (some 94)) (v := ?_) (a' := ?_) #[true, true, true, false, false, true, true, true, true, false, false, false, false, false, false, false, false] rfl rfl (by kernel_rfl) (fun _ _ _ h => h) (Or.inl ⟨by rfl, ?_⟩) ?_ ?_
                rotate_left
                · intro w'
                  go_simp
                  with_reducible rfl
                rotate_left
                · simp only [Act.put, List.setIfInBounds_toArray, List.set_cons_zero, List.set_cons_succ, i64_w, i32_w]
                  rfl
                -- 3: Op.fieldAddr 112 t94 1
                refine pure_ (i := 3) (N := (some 95)) (v := ?_) (a' := ?_) #[true, true, true, true, false, true, true, true, true, false, false, false, false, false, false, false, false] rfl rfl (by kernel_rfl) (fun _ _ _ h => h) (Or.inl ⟨by rfl, ?_⟩) ?_ ?_
                rotate_left
                · intro w'
                  go_simp
                  with_reducible rfl
                rotate_left
                · simp only [Act.put, List.setIfInBounds_toArray, List.set_cons_zero, List.set_cons_succ, i64_w, i32_w]
                  rfl
                -- 4: Op.load 110 t95
                refine take_ (i := 4) (N := (some 96)) (v := ?_) (a' := ?_) #[true, true, true, true, true, true, true, true, true, false, false, false, false, false, false, false, false] rfl rfl (by kernel_rfl) (fun _ _ _ h => h) (Or.inl ⟨by rfl, ?_⟩) hHeld ?_ ?_
                rotate_left
                · rintro w' ⟨s0, s1⟩
                  go_simp
                  with_reducible rfl
                rotate_left
                · simp only [Act.put, List.setIfInBounds_toArray, List.set_cons_zero, List.set_cons_succ, i64_w, i32_w]
                  rfl
                -- 9: Op.call { value t96, args := #[t100], argTypes := #[9] }
                refine one_ (i := 9) (N := (some 101)) #[true, true, true, true, true, true, true, true, true, true, false, false, false, false, false, false, false] rfl rfl (by kernel_rfl) (by decide) (fun K hK => ?_)
                refine call_ 86 #[.string (s'.extract (1 + ni) s'.size)] (by rfl) rfl ?_ ?_
                · have he := enters_ (P := Try.prog) Try.func86 (by kernel_rfl) rfl #[.string (s'.extract (1 + ni) s'.size)] w8
                  unfold execOp
                  simp [resolve, Deferred.ofValue, invoke, Act.eval, he]
                (with_reducible refine (ki_calls k _ val jv e2 HK2.out _).mono ?_)
                rintro e w9 ⟨rfl, hb⟩
                refine ⟨_, rfl, ?_⟩
                have h0_ := Aside0.mk (blk_below BX.out hb)
                have h1_ := Aside0.mk (blk_below BR.out hb)
                have h2_ := Aside0.mk (blk_below KK.out hb)
                have h3_ := Aside0.mk (blk_below BB.out hb)
                have h4_ := Aside0.mk (Kd.R_below HO.out hb)
                have h5_ := Aside0.mk (below_step HB.out hb)
                clear BX BR KK BB HO HB
                have BX := h0_; have BR := h1_; have KK := h2_; have BB := h3_; have HO := h4_; have HB := h5_
                clear h0_ h1_ h2_ h3_ h4_ h5_
                clear hb
                clear hHeld
                refine hK.out _ _ ⟨(blk_cell BX.out 0).trans rfl, (blk_cell KK.out 3).trans rfl⟩ (fun hHeld => ?_)
                clear hK K
                refine norm_ (a' := ?_) ?_ ?_
                rotate_left
                · show Act.put _ (some 101) _ = _
                  simp only [Act.put, List.setIfInBounds_toArray, List.set_cons_zero, List.set_cons_succ, i64_w, i32_w]
                  rfl
                -- 10: Op.move t101
                refine pure_ (i := 10) (N := (some 91)) (v := ?_) (a' := ?_) #[true, true, true, true, true, true, true, true, true, true, true, false, false, false, false, false, false] rfl rfl (by kernel_rfl) (fun _ _ _ h => h) (Or.inl ⟨by rfl, ?_⟩) ?_ ?_
                rotate_left
                · intro w'
                  go_simp
                  with_reducible rfl
                rotate_left
                · simp only [Act.put, List.setIfInBounds_toArray, List.set_cons_zero, List.set_cons_succ, i64_w, i32_w]
                  rfl
                -- 11: Op.extract t91 0
                refine pure_ (i := 11) (N := (some 102)) (v := ?_) (a' := ?_) #[true, true, true, true, true, true, true, true, true, true, true, true, false, false, false, false, false] rfl rfl (by kernel_rfl) (fun _ _ _ h => h) (Or.inl ⟨by rfl, ?_⟩) ?_ ?_
                rotate_left
                · intro w'
                  go_simp
                  with_reducible rfl
                rotate_left
                · simp only [Act.put, List.setIfInBounds_toArray, List.set_cons_zero, List.set_cons_succ, i64_w, i32_w]
                  rfl
                -- 12: Op.extract t91 1
                refine pure_ (i := 12) (N := (some 103)) (v := ?_) (a' := ?_) #[true, true, true, true, true, true, true, true, true, true, true, true, true, false, false, false, false] rfl rfl (by kernel_rfl) (fun _ _ _ h => h) (Or.inl ⟨by rfl, ?_⟩) ?_ ?_
                rotate_left
                · intro w'
                  go_simp
                  with_reducible rfl
                rotate_left
                · simp only [Act.put, List.setIfInBounds_toArray, List.set_cons_zero, List.set_cons_succ, i64_w, i32_w]
                  rfl
                -- 13: Op.extract t91 2
                refine pure_ (i := 13) (N := (some 104)) (v := ?_) (a' := ?_) #[true, true, true, true, true, true, true, true, true, true, true, true, true, true, false, false, false] rfl rfl (by kernel_rfl) (fun _ _ _ h => h) (Or.inl ⟨by rfl, ?_⟩) ?_ ?_
                rotate_left
                · intro w'
                  go_simp
                  with_reducible rfl
                rotate_left
                · simp only [Act.put, List.setIfInBounds_toArray, List.set_cons_zero, List.set_cons_succ, i64_w, i32_w]
                  rfl
                -- 14: Op.assign t102
                refine pure_ (i := 14) (N := (some 16)) (v := ?_) (a' := ?_) #[true, true, true, true, true, true, true, true, true, true, true, true, true, true, true, false, false] rfl rfl (by kernel_rfl) (fun _ _ _ h => h) (Or.inl ⟨by rfl, ?_⟩) ?_ ?_
                rotate_left
                · intro w'
                  go_simp
                  with_reducible rfl
                rotate_left
                · simp only [Act.put, List.setIfInBounds_toArray, List.set_cons_zero, List.set_cons_succ, i64_w, i32_w]
                  rfl
                -- 15: Op.assign t103
                refine pure_ (i := 15) (N := (some 17)) (v := ?_) (a' := ?_) #[true, true, true, true, true, true, true, true, true, true, true, true, true, true, true, true, false] rfl rfl (by kernel_rfl) (fun _ _ _ h => h) (Or.inl ⟨by rfl, ?_⟩) ?_ ?_
                rotate_left
                · intro w'
                  go_simp
                  with_reducible rfl
                rotate_left
                · simp only [Act.put, List.setIfInBounds_toArray, List.set_cons_zero, List.set_cons_succ, i64_w, i32_w]
                  rfl
                -- 16: Op.assign t104
                refine pure_ (i := 16) (N := (some 15)) (v := ?_) (a' := ?_) #[true, true, true, true, true, true, true, true, true, true, true, true, true, true, true, true, true] rfl rfl (by kernel_rfl) (fun _ _ _ h => h) (Or.inl ⟨by rfl, ?_⟩) ?_ ?_
                rotate_left
                · intro w'
                  go_simp
                  with_reducible rfl
                rotate_left
                · simp only [Act.put, List.setIfInBounds_toArray, List.set_cons_zero, List.set_cons_succ, i64_w, i32_w]
                  rfl
                refine done_ (by kernel_rfl) ?_
                have hX := HX.out
                clear HX
                by_cases he2 : e2 = 0
                · rw [if_pos he2] at hX
                  subst he2
                  by_cases hg : 0 ≤ (jv : Int) ∧ 1 + (ni : Int) + (jv : Int) ≤ (s'.size : Int) ∧ (jv : Int) ≤ 100000 ∧ acc.length ≤ 1000
                  · rw [if_pos hg] at hX
                    obtain ⟨hg0, hg1, hg2, hg3⟩ := hg
                    obtain ⟨nj, rfl⟩ := Int.eq_ofNat_of_zero_le hg0
                    have HG := Aside0.mk hg3
                    rw [show (1 + (ni : Int) + (nj : Int)).toNat = 1 + ni + nj from by omega] at hX
                    have HX := Aside0.mk hX
                    clear hX hg0
                    clear hHeld
                    have hb1 : w9.cell? ⟨wr.heap.size, 1, none⟩ = some (.string ⟨#[]⟩) := (blk_cell BX.out 1).trans rfl
                    have hb2 : w9.cell? ⟨wr.heap.size, 2, none⟩ = some (.string ⟨#[]⟩) := (blk_cell BX.out 2).trans rfl
                    have hf0 := blk_frozen BX.out 1
                    have hf1 := blk_frozen BX.out 2
                    go_wp2
                    clear hb1 hb2 hf0 hf1
                    have h0_ := Aside0.mk (blk_drew (blk_put (blk_put BX.out 1 (.string key) (cs' := #[.int .i64 1, .string key, .string ⟨#[]⟩]) rfl) 2 (.string val) (cs' := #[.int .i64 1, .string key, .string val]) rfl))
                    have h1_ := Aside0.mk (blk_drew (blk_far (blk_far BR.out (p := ⟨wr.heap.size, 1, none⟩) (Ne.symm NX1.out) (.string key)) (p := ⟨wr.heap.size, 2, none⟩) (Ne.symm NX1.out) (.string val)))
                    have h2_ := Aside0.mk (blk_drew (blk_far (blk_far KK.out (p := ⟨wr.heap.size, 1, none⟩) (Ne.symm NX2.out) (.string key)) (p := ⟨wr.heap.size, 2, none⟩) (Ne.symm NX2.out) (.string val)))
                    have h3_ := Aside0.mk (blk_drew (blk_far (blk_far BB.out (p := ⟨wr.heap.size, 1, none⟩) (Ne.symm NX3.out) (.string key)) (p := ⟨wr.heap.size, 2, none⟩) (Ne.symm NX3.out) (.string val)))
                    have h4_ := Aside0.mk (Kd.R_drew (Kd.R_far (Kd.R_far HO.out (p := ⟨wr.heap.size, 1, none⟩) (fun k hk => hk) (.string key)) (p := ⟨wr.heap.size, 2, none⟩) (fun k hk => hk) (.string val)))
                    have h5_ := Aside0.mk (below_drew ((HB.out.setCell (p := ⟨wr.heap.size, 1, none⟩) GX.out (.string key)).setCell (p := ⟨wr.heap.size, 2, none⟩) GX.out (.string val)))
                    clear BX BR KK BB HO HB
                    have BX := h0_; have BR := h1_; have KK := h2_; have BB := h3_; have HO := h4_; have HB := h5_
                    clear h0_ h1_ h2_ h3_ h4_ h5_
                    refine start_ (n := 14) (S := (fun w' => w'.cell? ⟨gq + 1, 1, none⟩ = some (.slice A acc.length c) ∧ w'.cell? ⟨wr.heap.size, 0, none⟩ = some (.int .i64 1) ∧ w'.cell? ⟨wr.heap.size, 1, none⟩ = some (.string key) ∧ w'.cell? ⟨wr.heap.size, 2, none⟩ = some (.string val))) (ds := [12]) #[false, false, false, false, false, false, false, false, false, false, false, false, false, false] (by kernel_rfl) rfl rfl ⟨(blk_cell BB.out 1).trans rfl, (blk_cell BX.out 0).trans rfl, (blk_cell BX.out 1).trans rfl, (blk_cell BX.out 2).trans rfl⟩ (fun hHeld => ?_)
                    generalize World.drew _ = w10 at *
                    -- 0: Op.fieldAddr 58 t5 1
                    refine pure_ (i := 0) (N := (some 111)) (v := ?_) (a' := ?_) #[true, false, false, false, false, false, false, false, false, false, false, false, false, false] rfl rfl (by kernel_rfl) (fun _ _ _ h => h) (Or.inl ⟨by rfl, ?_⟩) ?_ ?_
                    rotate_left
                    · intro w'
                      go_simp
                      with_reducible rfl
                    rotate_left
                    · simp only [Act.put, List.setIfInBounds_toArray, List.set_cons_zero, List.set_cons_succ, i64_w, i32_w]
                      rfl
                    -- 5: Op.move t0
                    refine pure_ (i := 5) (N := (some 116)) (v := ?_) (a' := ?_) #[true, false, false, false, false, true, false, false, false, false, false, false, false, false] rfl rfl (by kernel_rfl) (fun _ _ _ h => h) (Or.inl ⟨by rfl, ?_⟩) ?_ ?_
                    rotate_left
                    · intro w'
                      go_simp
                      with_reducible rfl
                    rotate_left
                    · simp only [Act.put, List.setIfInBounds_toArray, List.set_cons_zero, List.set_cons_succ, i64_w, i32_w]
                      rfl
                    -- 6: Op.move t14
                    refine pure_ (i := 6) (N := (some 117)) (v := ?_) (a' := ?_) #[true, false, false, false, false, true, true, false, false, false, false, false, false, false] rfl rfl (by kernel_rfl) (fun _ _ _ h => h) (Or.inl ⟨by rfl, ?_⟩) ?_ ?_
                    rotate_left
                    · intro w'
                      go_simp
                      with_reducible rfl
                    rotate_left
                    · simp only [Act.put, List.setIfInBounds_toArray, List.set_cons_zero, List.set_cons_succ, i64_w, i32_w]
                      rfl
                    -- 7: Op.binOp BinOp.add 3 (const (1:i64)) t117 3
                    refine pure_ (i := 7) (N := (some 118)) (v := ?_) (a' := ?_) #[true, false, false, false, false, true, true, true, false, false, false, false, false, false] rfl rfl (by kernel_rfl) (fun _ _ _ h => h) (Or.inl ⟨by rfl, ?_⟩) ?_ ?_
                    rotate_left
                    · intro w'
                      have e1 : IntKind.i64.wrap (1 + (ni : Int)) = 1 + (ni : Int) := IntWalk.i64_in _ (by omega)
                      go_simp
                      with_reducible rfl
                    rotate_left
                    · simp only [Act.put, List.setIfInBounds_toArray, List.set_cons_zero, List.set_cons_succ, i64_w, i32_w]
                      rfl
                    -- 8: Op.move t17
                    refine pure_ (i := 8) (N := (some 119)) (v := ?_) (a' := ?_) #[true, false, false, false, false, true, true, true, true, false, false, false, false, false] rfl rfl (by kernel_rfl) (fun _ _ _ h => h) (Or.inl ⟨by rfl, ?_⟩) ?_ ?_
                    rotate_left
                    · intro w'
                      go_simp
                      with_reducible rfl
                    rotate_left
                    · simp only [Act.put, List.setIfInBounds_toArray, List.set_cons_zero, List.set_cons_succ, i64_w, i32_w]
                      rfl
                    -- 9: Op.binOp BinOp.add 3 t118 t119 3
                    refine pure_ (i := 9) (N := (some 120)) (v := ?_) (a' := ?_) #[true, false, false, false, false, true, true, true, true, true, false, false, false, false] rfl rfl (by kernel_rfl) (fun _ _ _ h => h) (Or.inl ⟨by rfl, ?_⟩) ?_ ?_
                    rotate_left
                    · intro w'
                      have e1 : IntKind.i64.wrap (1 + (ni : Int) + (nj : Int)) = 1 + (ni : Int) + (nj : Int) := IntWalk.i64_in _ (by omega)
                      go_simp
                      with_reducible rfl
                    rotate_left
                    · simp only [Act.put, List.setIfInBounds_toArray, List.set_cons_zero, List.set_cons_succ, i64_w, i32_w]
                      rfl
                    -- 10: Op.slice 9 t116 (some t120) none none
                    refine pure_ (i := 10) (N := (some 121)) (v := ?_) (a' := ?_) #[true, false, false, false, false, true, true, true, true, true, true, false, false, false] rfl rfl (by kernel_rfl) (fun _ _ _ h => h) (Or.inl ⟨by rfl, ?_⟩) ?_ ?_
                    rotate_left
                    · intro w'
                      have e2 : (1 + (ni : Int) + (nj : Int)).toNat = 1 + ni + nj := by omega
                      have e3 : 0 ≤ 1 + (ni : Int) + (nj : Int) := by omega
                      go_simp
                      with_reducible rfl
                    rotate_left
                    · simp only [Act.put, List.setIfInBounds_toArray, List.set_cons_zero, List.set_cons_succ, i64_w, i32_w]
                      rfl
                    -- 1: Op.load 56 t111
                    refine take_ (i := 1) (N := (some 112)) (v := ?_) (a' := ?_) #[true, true, false, false, false, true, true, true, true, true, true, false, false, false] rfl rfl (by kernel_rfl) (fun _ _ _ h => h) (Or.inl ⟨by rfl, ?_⟩) hHeld ?_ ?_
                    rotate_left
                    · rintro w' ⟨s0, s1, s2, s3⟩
                      go_simp
                      with_reducible rfl
                    rotate_left
                    · simp only [Act.put, List.setIfInBounds_toArray, List.set_cons_zero, List.set_cons_succ, i64_w, i32_w]
                      rfl
                    -- 2: Op.load 72 t12
                    refine take_ (i := 2) (N := (some 113)) (v := ?_) (a' := ?_) #[true, true, true, false, false, true, true, true, true, true, true, false, false, false] rfl rfl (by kernel_rfl) (fun _ _ _ h => h) (Or.inl ⟨by rfl, ?_⟩) hHeld ?_ ?_
                    rotate_left
                    · rintro w' ⟨s0, s1, s2, s3⟩
                      go_simp
                      with_reducible rfl
                    rotate_left
                    · simp only [Act.put, List.setIfInBounds_toArray, List.set_cons_zero, List.set_cons_succ, i64_w, i32_w]
                      rfl
                    -- 3: Op.buildSlice 56 1 #[(0, t113)]
                    refine one_ (i := 3) (N := (some 114)) #[true, true, true, true, false, true, true, true, true, true, true, false, false, false] rfl rfl (by kernel_rfl) (by decide) (fun K hK => ?_)
                    refine value_ (w1 := w10.alloc (.cells #[.int .i64 1, .string key, .string val] 72)) (v := .slice (some ⟨w10.heap.size, 0, none⟩) 1 1) (by rfl) rfl (by go_simp) ?_
                    clear hHeld
                    refine hK.out _ _ ⟨(blk_cell (blk_alloc BB.out _) 1).trans rfl, (blk_cell (blk_alloc BX.out _) 0).trans rfl, (blk_cell (blk_alloc BX.out _) 1).trans rfl, (blk_cell (blk_alloc BX.out _) 2).trans rfl⟩ (fun hHeld => ?_)
                    clear hK K
                    refine norm_ (a' := ?_) ?_ ?_
                    rotate_left
                    · show Act.put _ (some 114) _ = _
                      simp only [Act.put, List.setIfInBounds_toArray, List.set_cons_zero, List.set_cons_succ, i64_w, i32_w]
                      rfl
                    -- 4: Op.call { builtin append, args := #[t112, t114], argTypes := #[56, 56] }
                    refine one_ (i := 4) (N := (some 115)) #[true, true, true, true, true, true, true, true, true, true, true, false, false, false] rfl rfl (by kernel_rfl) (by decide) (fun K hK => ?_)
                    refine Kd.R_append_step k72 (w0 := w) (W := w10) w.heap.size (by rfl) (.tmp 112) (.tmp 114) 56 72 (.agg #[.int .i64 0, .string ⟨#[]⟩, .string ⟨#[]⟩]) 40 (by rfl) Try.underlying56 info72 rfl (by decide) (by omega) (.slice A acc.length c) acc (⟨1, key, val⟩ : S72) [.int .i64 1, .string key, .string val] (fun k => k ≠ wr.heap.size) (fun _ => False) (by rfl) (by rfl) (k72_mkM _ _ _ _) (fun _ h => h.elim) (fun k hk => by have := blk_lt BX.out; omega) HO.out HB.out (below_size HB.out) (by have := HG.out; omega) ?_
                    intro v11 w11 hR hB hg hat
                    obtain ⟨A1, c1, rfl⟩ := Kd.R_slice hR
                    have h0_ := Aside0.mk (blk_grown BX.out hg (Kd.R_away HO.out (fun k hk => hk)))
                    have h1_ := Aside0.mk (blk_grown BR.out hg (Kd.R_ne HO.out BR.out (by decide)))
                    have h2_ := Aside0.mk (blk_grown KK.out hg (Kd.R_ne HO.out KK.out (by decide)))
                    have h3_ := Aside0.mk (blk_grown BB.out hg (Kd.R_ne HO.out BB.out (by decide)))
                    have h4_ := Aside0.mk (hR)
                    have h5_ := Aside0.mk (hB)
                    clear BX BR KK BB HO HB
                    have BX := h0_; have BR := h1_; have KK := h2_; have BB := h3_; have HO := h4_; have HB := h5_
                    clear h0_ h1_ h2_ h3_ h4_ h5_
                    clear hR hB hg hat
                    clear hHeld
                    refine hK.out _ _ ⟨(blk_cell BB.out 1).trans rfl, (blk_cell BX.out 0).trans rfl, (blk_cell BX.out 1).trans rfl, (blk_cell BX.out 2).trans rfl⟩ (fun hHeld => ?_)
                    clear hK K
                    refine norm_ (a' := ?_) ?_ ?_
                    rotate_left
                    · show Act.put _ (some 115) _ = _
                      simp only [Act.put, List.setIfInBounds_toArray, List.set_cons_zero, List.set_cons_succ, i64_w, i32_w]
                      rfl
                    -- 11: Op.fieldAddr 58 t5 1
                    refine pure_ (i := 11) (N := (some 122)) (v := ?_) (a' := ?_) #[true, true, true, true, true, true, true, true, true, true, true, true, false, false] rfl rfl (by kernel_rfl) (fun _ _ _ h => h) (Or.inl ⟨by rfl, ?_⟩) ?_ ?_
                    rotate_left
                    · intro w'
                      go_simp
                      with_reducible rfl
                    rotate_left
                    · simp only [Act.put, List.setIfInBounds_toArray, List.set_cons_zero, List.set_cons_succ, i64_w, i32_w]
                      rfl
                    -- 12: Op.store 56 t122 t115
                    refine last_ (i := 12) (N := none) #[true, true, true, true, true, true, true, true, true, true, true, true, true, false] rfl rfl (by kernel_rfl) (by decide) (fun K hK => ?_)
                    have hc1 : w11.cell? ⟨gq + 1, 1, none⟩ = some (.slice A acc.length c) := (blk_cell BB.out 1).trans rfl
                    have hf0 := blk_frozen BB.out 1
                    refine skip_ (w1 := w11.setCell ⟨gq + 1, 1, none⟩ (.slice A1 (acc ++ [(⟨1, key, val⟩ : S72)]).length c1)) (by rfl) rfl (by go_simp) ?_
                    clear hc1 hf0
                    have h0_ := Aside0.mk (blk_far BR.out (p := ⟨gq + 1, 1, none⟩) (by have := GB.out; simp; omega) (.slice A1 (acc ++ [(⟨1, key, val⟩ : S72)]).length c1))
                    have h1_ := Aside0.mk (blk_far KK.out (p := ⟨gq + 1, 1, none⟩) (by simp) (.slice A1 (acc ++ [(⟨1, key, val⟩ : S72)]).length c1))
                    have h2_ := Aside0.mk (blk_put BB.out 1 (.slice A1 (acc ++ [(⟨1, key, val⟩ : S72)]).length c1) (cs' := #[.int .u64 seq, .slice A1 (acc ++ [(⟨1, key, val⟩ : S72)]).length c1]) rfl)
                    have h3_ := Aside0.mk (Kd.R_set HO.out BB.out (by decide) 1 (.slice A1 (acc ++ [(⟨1, key, val⟩ : S72)]).length c1))
                    have h4_ := Aside0.mk (HB.out.setCell (p := ⟨gq + 1, 1, none⟩) (by have := GB.out; simp; omega) (.slice A1 (acc ++ [(⟨1, key, val⟩ : S72)]).length c1))
                    clear BR KK BB HO HB
                    have BR := h0_; have KK := h1_; have BB := h2_; have HO := h3_; have HB := h4_
                    clear h0_ h1_ h2_ h3_ h4_
                    clear hHeld
                    refine hK.out _ _ ?_
                    clear hK K
                    -- 13: Op.assign t121
                    refine pure_ (i := 13) (N := (some 0)) (v := ?_) (a' := ?_) #[true, true, true, true, true, true, true, true, true, true, true, true, true, true] rfl rfl (by kernel_rfl) (fun _ _ _ h => h) (Or.inl ⟨by rfl, ?_⟩) ?_ ?_
                    rotate_left
                    · intro w'
                      go_simp
                      with_reducible rfl
                    rotate_left
                    · simp only [Act.put, List.setIfInBounds_toArray, List.set_cons_zero, List.set_cons_succ, i64_w, i32_w]
                      rfl
                    refine done_ (by kernel_rfl) ?_
                    go_wp2
                    go_roundg j1
                    case measure => omega
                    case rel => exact ⟨_, _, _, rfl, HX, BR, KK, BB, ⟨Kd.R_mono HO.out (fun _ _ => trivial)⟩, HB, ⟨by have := HG.out; simp; omega⟩⟩
                  · rw [if_neg hg] at hX
                    cases hX
                · rw [if_neg he2] at hX
                  have HF := Aside0.mk (Option.some.inj hX)
                  have heb : (e2 != 0) = true := by simpa using he2
                  clear hX he2 hHeld
                  have hc0 : w9.cell? ⟨w.heap.size, 0, none⟩ = some (.int .u64 0) := (blk_cell BR.out 0).trans rfl
                  have hc1 : w9.cell? ⟨w.heap.size, 1, none⟩ = some (.slice none 0 0) := (blk_cell BR.out 1).trans rfl
                  have hf0 := blk_frozen BR.out 0
                  have hf1 := blk_frozen BR.out 1
                  go_wp2_with (fail)
                  try rw [Exit.noGoto_ret]
                  rw [← (Prod.mk.inj HF.out).1, ← (Prod.mk.inj (Prod.mk.inj HF.out).2).1, ← (Prod.mk.inj (Prod.mk.inj HF.out).2).2]
                  refine bodyPost_ret (v := .tuple #[.agg #[.int .u64 0, .slice none 0 0], .int .i64 7]) ?_ rfl ⟨_, rfl, Kd.R_nil _ _ _ _ _, (HB.out.setCell (p := ⟨w.heap.size, 0, none⟩) (Nat.le_refl _) _).setCell (p := ⟨w.heap.size, 1, none⟩) (Nat.le_refl _) _⟩
                  simp [results, Try.results40, go_sem, hc0, hc1]
              · rw [if_neg (by omega), if_pos hk2] at hf2
                have hf3 := Option.some.inj hf2
                obtain rfl := (Prod.mk.inj hf3).1
                obtain rfl := (Prod.mk.inj (Prod.mk.inj hf3).2).1
                obtain rfl := (Prod.mk.inj (Prod.mk.inj hf3).2).2
                clear hf2 hf3
                rw [hk2] at h hbt hk0 hk3
                clear hk2 hbr
                have HX := Aside0.mk h
                clear h hin hi0
                have GX := Aside0.mk (below_size HB.out)
                have HO2 := Aside0.mk (Kd.R_mono (Kd.R_bound HO.out) (ok' := fun k => k ≠ wr.heap.size) (fun k hk => by have := hk.2.2.1; omega))
                clear HO; have HO := HO2; clear HO2
                go_wp2_with (go_at_call 75; (with_reducible refine (code_Field.calls k (s'.extract 1 s'.size) 520 key ni 0 _ HK.out).mono ?_); rintro e w7 ⟨rfl, hb⟩; have BX := Aside0.mk (blk_below (blk_new wr (.cells #[.int .i64 2, .string ⟨#[]⟩, .string ⟨#[]⟩] 72)) hb); have h0_ := Aside0.mk (blk_below (blk_alloc BR.out _) hb); have h1_ := Aside0.mk (blk_below (blk_alloc KK.out _) hb); have h2_ := Aside0.mk (blk_below (blk_alloc BB.out _) hb); have h3_ := Aside0.mk (Kd.R_below (Kd.R_alloc HO.out _) hb); have h4_ := Aside0.mk (below_step (below_alloc HB.out _) hb); clear BR KK BB HO HB; have BR := h0_; have KK := h1_; have BB := h2_; have HO := h3_; have HB := h4_; clear h0_ h1_ h2_ h3_ h4_; clear hb; have BX2 := Aside0.mk (blk_drew BX.out); clear BX; have BX := BX2; clear BX2; clear hc0 hc1 hf0 hf1 hb0 hb1)
                have h0_ := Aside0.mk (blk_drew BR.out)
                have h1_ := Aside0.mk (blk_drew KK.out)
                have h2_ := Aside0.mk (blk_drew BB.out)
                have h3_ := Aside0.mk (Kd.R_drew HO.out)
                have h4_ := Aside0.mk (below_drew HB.out)
                clear BR KK BB HO HB
                have BR := h0_; have KK := h1_; have BB := h2_; have HO := h3_; have HB := h4_
                clear h0_ h1_ h2_ h3_ h4_
                have NX1 : Aside0 (wr.heap.size ≠ w.heap.size) := ⟨blk_ne BX.out BR.out (by decide)⟩
                have NX2 : Aside0 (wr.heap.size ≠ gq) := ⟨blk_ne BX.out KK.out (by decide)⟩
                have NX3 : Aside0 (wr.heap.size ≠ gq + 1) := ⟨blk_ne BX.out BB.out (by decide)⟩
                refine start_ (n := 17) (S := (fun w' => w'.cell? ⟨wr.heap.size, 0, none⟩ = some (.int .i64 2) ∧ w'.cell? ⟨gq, 5, none⟩ = some (.func (.func 88) #[] #[]))) (ds := []) #[false, false, false, false, false, false, false, false, false, false, false, false, false, false, false, false, false] (by kernel_rfl) rfl rfl ⟨(blk_cell BX.out 0).trans rfl, (blk_cell KK.out 5).trans rfl⟩ (fun hHeld => ?_)
                generalize w7.drew = w8 at *
                -- 0: Op.fieldAddr 72 t12 0
                refine pure_ (i := 0) (N := (some 92)) (v := ?_) (a' := ?_) #[true, false, false, false, false, false, false, false, false, false, false, false, false, false, false, false, false] rfl rfl (by kernel_rfl) (fun _ _ _ h => h) (Or.inl ⟨by rfl, ?_⟩) ?_ ?_
                rotate_left
                · intro w'
                  go_simp
                  with_reducible rfl
                rotate_left
                · simp only [Act.put, List.setIfInBounds_toArray, List.set_cons_zero, List.set_cons_succ, i64_w, i32_w]
                  rfl
                -- 5: Op.move t0
                refine pure_ (i := 5) (N := (some 97)) (v := ?_) (a' := ?_) #[true, false, false, false, false, true, false, false, false, false, false, false, false, false, false, false, false] rfl rfl (by kernel_rfl) (fun _ _ _ h => h) (Or.inl ⟨by rfl, ?_⟩) ?_ ?_
                rotate_left
                · intro w'
                  go_simp
                  with_reducible rfl
                rotate_left
                · simp only [Act.put, List.setIfInBounds_toArray, List.set_cons_zero, List.set_cons_succ, i64_w, i32_w]
                  rfl
                -- 6: Op.move t14
                refine pure_ (i := 6) (N := (some 98)) (v := ?_) (a' := ?_) #[true, false, false, false, false, true, true, false, false, false, false, false, false, false, false, false, false] rfl rfl (by kernel_rfl) (fun _ _ _ h => h) (Or.inl ⟨by rfl, ?_⟩) ?_ ?_
                rotate_left
                · intro w'
                  go_simp
                  with_reducible rfl
                rotate_left
                · simp only [Act.put, List.setIfInBounds_toArray, List.set_cons_zero, List.set_cons_succ, i64_w, i32_w]
                  rfl
                -- 7: Op.binOp BinOp.add 3 (const (1:i64)) t98 3
                refine pure_ (i := 7) (N := (some 99)) (v := ?_) (a' := ?_) #[true, false, false, false, false, true, true, true, false, false, false, false, false, false, false, false, false] rfl rfl (by kernel_rfl) (fun _ _ _ h => h) (Or.inl ⟨by rfl, ?_⟩) ?_ ?_
                rotate_left
                · intro w'
                  have e1 : IntKind.i64.wrap (1 + (ni : Int)) = 1 + (ni : Int) := IntWalk.i64_in _ (by omega)
                  go_simp
                  with_reducible rfl
                rotate_left
                · simp only [Act.put, List.setIfInBounds_toArray, List.set_cons_zero, List.set_cons_succ, i64_w, i32_w]
                  rfl
                -- 8: Op.slice 9 t97 (some t99) none none
                refine pure_ (i := 8) (N := (some 100)) (v := ?_) (a' := ?_) #[true, false, false, false, false, true, true, true, true, false, false, false, false, false, false, false, false] rfl rfl (by kernel_rfl) (fun _ _ _ h => h) (Or.inl ⟨by rfl, ?_⟩) ?_ ?_
                rotate_left
                · intro w'
                  have e2 : (1 + (ni : Int)).toNat = 1 + ni := by omega
                  have e3 : 0 ≤ 1 + (ni : Int) := by omega
                  go_simp
                  with_reducible rfl
                rotate_left
                · simp only [Act.put, List.setIfInBounds_toArray, List.set_cons_zero, List.set_cons_succ, i64_w, i32_w]
                  rfl
                -- 1: Op.load 3 t92
                refine take_ (i := 1) (N := (some 93)) (v := ?_) (a' := ?_) #[true, true, false, false, false, true, true, true, true, false, false, false, false, false, false, false, false] rfl rfl (by kernel_rfl) (fun _ _ _ h => h) (Or.inl ⟨by rfl, ?_⟩) hHeld ?_ ?_
                rotate_left
                · rintro w' ⟨s0, s1⟩
                  go_simp
                  with_reducible rfl
                rotate_left
                · simp only [Act.put, List.setIfInBounds_toArray, List.set_cons_zero, List.set_cons_succ, i64_w, i32_w]
                  rfl
                -- 2: Op.indexAddr 113 t4 t93
                refine pure_ (i := 2) (N := (some 94)) (v := ?_) (a' := ?_) #[true, true, true, false, false, true, true, true, true, false, false, false, false, false, false, false, false] rfl rfl (by kernel_rfl) (fun _ _ _ h => h) (Or.inl ⟨by rfl, ?_⟩) ?_ ?_
                rotate_left
                · intro w'
                  go_simp
                  with_reducible rfl
                rotate_left
                · simp only [Act.put, List.setIfInBounds_toArray, List.set_cons_zero, List.set_cons_succ, i64_w, i32_w]
                  rfl
                -- 3: Op.fieldAddr 112 t94 1
                refine pure_ (i := 3) (N := (some 95)) (v := ?_) (a' := ?_) #[true, true, true, true, false, true, true, true, true, false, false, false, false, false, false, false, false] rfl rfl (by kernel_rfl) (fun _ _ _ h => h) (Or.inl ⟨by rfl, ?_⟩) ?_ ?_
                rotate_left
                · intro w'
                  go_simp
                  with_reducible rfl
                rotate_left
                · simp only [Act.put, List.setIfInBounds_toArray, List.set_cons_zero, List.set_cons_succ, i64_w, i32_w]
                  rfl
                -- 4: Op.load 110 t95
                refine take_ (i := 4) (N := (some 96)) (v := ?_) (a' := ?_) #[true, true, true, true, true, true, true, true, true, false, false, false, false, false, false, false, false] rfl rfl (by kernel_rfl) (fun _ _ _ h => h) (Or.inl ⟨by rfl, ?_⟩) hHeld ?_ ?_
                rotate_left
                · rintro w' ⟨s0, s1⟩
                  go_simp
                  with_reducible rfl
                rotate_left
                · simp only [Act.put, List.setIfInBounds_toArray, List.set_cons_zero, List.set_cons_succ, i64_w, i32_w]
                  rfl
                -- 9: Op.call { value t96, args := #[t100], argTypes := #[9] }
                refine one_ (i := 9) (N := (some 101)) #[true, true, true, true, true, true, true, true, true, true, false, false, false, false, false, false, false] rfl rfl (by kernel_rfl) (by decide) (fun K hK => ?_)
                refine call_ 88 #[.string (s'.extract (1 + ni) s'.size)] (by rfl) rfl ?_ ?_
                · have he := enters_ (P := Try.prog) Try.func88 (by kernel_rfl) rfl #[.string (s'.extract (1 + ni) s'.size)] w8
                  unfold execOp
                  simp [resolve, Deferred.ofValue, invoke, Act.eval, he]
                (with_reducible refine (kr_calls _ _).mono ?_)
                rintro e w9 ⟨rfl, hb⟩
                refine ⟨_, rfl, ?_⟩
                have h0_ := Aside0.mk (blk_below BX.out hb)
                have h1_ := Aside0.mk (blk_below BR.out hb)
                have h2_ := Aside0.mk (blk_below KK.out hb)
                have h3_ := Aside0.mk (blk_below BB.out hb)
                have h4_ := Aside0.mk (Kd.R_below HO.out hb)
                have h5_ := Aside0.mk (below_step HB.out hb)
                clear BX BR KK BB HO HB
                have BX := h0_; have BR := h1_; have KK := h2_; have BB := h3_; have HO := h4_; have HB := h5_
                clear h0_ h1_ h2_ h3_ h4_ h5_
                clear hb
                clear hHeld
                refine hK.out _ _ ⟨(blk_cell BX.out 0).trans rfl, (blk_cell KK.out 5).trans rfl⟩ (fun hHeld => ?_)
                clear hK K
                refine norm_ (a' := ?_) ?_ ?_
                rotate_left
                · show Act.put _ (some 101) _ = _
                  simp only [Act.put, List.setIfInBounds_toArray, List.set_cons_zero, List.set_cons_succ, i64_w, i32_w]
                  rfl
                -- 10: Op.move t101
                refine pure_ (i := 10) (N := (some 91)) (v := ?_) (a' := ?_) #[true, true, true, true, true, true, true, true, true, true, true, false, false, false, false, false, false] rfl rfl (by kernel_rfl) (fun _ _ _ h => h) (Or.inl ⟨by rfl, ?_⟩) ?_ ?_
                rotate_left
                · intro w'
                  go_simp
                  with_reducible rfl
                rotate_left
                · simp only [Act.put, List.setIfInBounds_toArray, List.set_cons_zero, List.set_cons_succ, i64_w, i32_w]
                  rfl
                -- 11: Op.extract t91 0
                refine pure_ (i := 11) (N := (some 102)) (v := ?_) (a' := ?_) #[true, true, true, true, true, true, true, true, true, true, true, true, false, false, false, false, false] rfl rfl (by kernel_rfl) (fun _ _ _ h => h) (Or.inl ⟨by rfl, ?_⟩) ?_ ?_
                rotate_left
                · intro w'
                  go_simp
                  with_reducible rfl
                rotate_left
                · simp only [Act.put, List.setIfInBounds_toArray, List.set_cons_zero, List.set_cons_succ, i64_w, i32_w]
                  rfl
                -- 12: Op.extract t91 1
                refine pure_ (i := 12) (N := (some 103)) (v := ?_) (a' := ?_) #[true, true, true, true, true, true, true, true, true, true, true, true, true, false, false, false, false] rfl rfl (by kernel_rfl) (fun _ _ _ h => h) (Or.inl ⟨by rfl, ?_⟩) ?_ ?_
                rotate_left
                · intro w'
                  go_simp
                  with_reducible rfl
                rotate_left
                · simp only [Act.put, List.setIfInBounds_toArray, List.set_cons_zero, List.set_cons_succ, i64_w, i32_w]
                  rfl
                -- 13: Op.extract t91 2
                refine pure_ (i := 13) (N := (some 104)) (v := ?_) (a' := ?_) #[true, true, true, true, true, true, true, true, true, true, true, true, true, true, false, false, false] rfl rfl (by kernel_rfl) (fun _ _ _ h => h) (Or.inl ⟨by rfl, ?_⟩) ?_ ?_
                rotate_left
                · intro w'
                  go_simp
                  with_reducible rfl
                rotate_left
                · simp only [Act.put, List.setIfInBounds_toArray, List.set_cons_zero, List.set_cons_succ, i64_w, i32_w]
                  rfl
                -- 14: Op.assign t102
                refine pure_ (i := 14) (N := (some 16)) (v := ?_) (a' := ?_) #[true, true, true, true, true, true, true, true, true, true, true, true, true, true, true, false, false] rfl rfl (by kernel_rfl) (fun _ _ _ h => h) (Or.inl ⟨by rfl, ?_⟩) ?_ ?_
                rotate_left
                · intro w'
                  go_simp
                  with_reducible rfl
                rotate_left
                · simp only [Act.put, List.setIfInBounds_toArray, List.set_cons_zero, List.set_cons_succ, i64_w, i32_w]
                  rfl
                -- 15: Op.assign t103
                refine pure_ (i := 15) (N := (some 17)) (v := ?_) (a' := ?_) #[true, true, true, true, true, true, true, true, true, true, true, true, true, true, true, true, false] rfl rfl (by kernel_rfl) (fun _ _ _ h => h) (Or.inl ⟨by rfl, ?_⟩) ?_ ?_
                rotate_left
                · intro w'
                  go_simp
                  with_reducible rfl
                rotate_left
                · simp only [Act.put, List.setIfInBounds_toArray, List.set_cons_zero, List.set_cons_succ, i64_w, i32_w]
                  rfl
                -- 16: Op.assign t104
                refine pure_ (i := 16) (N := (some 15)) (v := ?_) (a' := ?_) #[true, true, true, true, true, true, true, true, true, true, true, true, true, true, true, true, true] rfl rfl (by kernel_rfl) (fun _ _ _ h => h) (Or.inl ⟨by rfl, ?_⟩) ?_ ?_
                rotate_left
                · intro w'
                  go_simp
                  with_reducible rfl
                rotate_left
                · simp only [Act.put, List.setIfInBounds_toArray, List.set_cons_zero, List.set_cons_succ, i64_w, i32_w]
                  rfl
                refine done_ (by kernel_rfl) ?_
                have hX := HX.out
                clear HX
                rw [if_pos (by first | rfl | trivial)] at hX
                by_cases hg : 0 ≤ (0 : Int) ∧ 1 + (ni : Int) + (0 : Int) ≤ (s'.size : Int) ∧ (0 : Int) ≤ 100000 ∧ acc.length ≤ 1000
                · rw [if_pos hg] at hX
                  obtain ⟨hg0, hg1, hg2, hg3⟩ := hg
                  skip
                  have HG := Aside0.mk hg3
                  rw [show (1 + (ni : Int) + (0 : Int)).toNat = 1 + ni from by omega] at hX
                  have HX := Aside0.mk hX
                  clear hX hg0
                  clear hHeld
                  have hb1 : w9.cell? ⟨wr.heap.size, 1, none⟩ = some (.string ⟨#[]⟩) := (blk_cell BX.out 1).trans rfl
                  have hb2 : w9.cell? ⟨wr.heap.size, 2, none⟩ = some (.string ⟨#[]⟩) := (blk_cell BX.out 2).trans rfl
                  have hf0 := blk_frozen BX.out 1
                  have hf1 := blk_frozen BX.out 2
                  go_wp2
                  clear hb1 hb2 hf0 hf1
                  have h0_ := Aside0.mk (blk_drew (blk_put (blk_put BX.out 1 (.string key) (cs' := #[.int .i64 2, .string key, .string ⟨#[]⟩]) rfl) 2 (.string ⟨#[]⟩) (cs' := #[.int .i64 2, .string key, .string ⟨#[]⟩]) rfl))
                  have h1_ := Aside0.mk (blk_drew (blk_far (blk_far BR.out (p := ⟨wr.heap.size, 1, none⟩) (Ne.symm NX1.out) (.string key)) (p := ⟨wr.heap.size, 2, none⟩) (Ne.symm NX1.out) (.string ⟨#[]⟩)))
                  have h2_ := Aside0.mk (blk_drew (blk_far (blk_far KK.out (p := ⟨wr.heap.size, 1, none⟩) (Ne.symm NX2.out) (.string key)) (p := ⟨wr.heap.size, 2, none⟩) (Ne.symm NX2.out) (.string ⟨#[]⟩)))
                  have h3_ := Aside0.mk (blk_drew (blk_far (blk_far BB.out (p := ⟨wr.heap.size, 1, none⟩) (Ne.symm NX3.out) (.string key)) (p := ⟨wr.heap.size, 2, none⟩) (Ne.symm NX3.out) (.string ⟨#[]⟩)))
                  have h4_ := Aside0.mk (Kd.R_drew (Kd.R_far (Kd.R_far HO.out (p := ⟨wr.heap.size, 1, none⟩) (fun k hk => hk) (.string key)) (p := ⟨wr.heap.size, 2, none⟩) (fun k hk => hk) (.string ⟨#[]⟩)))
                  have h5_ := Aside0.mk (below_drew ((HB.out.setCell (p := ⟨wr.heap.size, 1, none⟩) GX.out (.string key)).setCell (p := ⟨wr.heap.size, 2, none⟩) GX.out (.string ⟨#[]⟩)))
                  clear BX BR KK BB HO HB
                  have BX := h0_; have BR := h1_; have KK := h2_; have BB := h3_; have HO := h4_; have HB := h5_
                  clear h0_ h1_ h2_ h3_ h4_ h5_
                  refine start_ (n := 14) (S := (fun w' => w'.cell? ⟨gq + 1, 1, none⟩ = some (.slice A acc.length c) ∧ w'.cell? ⟨wr.heap.size, 0, none⟩ = some (.int .i64 2) ∧ w'.cell? ⟨wr.heap.size, 1, none⟩ = some (.string key) ∧ w'.cell? ⟨wr.heap.size, 2, none⟩ = some (.string ⟨#[]⟩))) (ds := [12]) #[false, false, false, false, false, false, false, false, false, false, false, false, false, false] (by kernel_rfl) rfl rfl ⟨(blk_cell BB.out 1).trans rfl, (blk_cell BX.out 0).trans rfl, (blk_cell BX.out 1).trans rfl, (blk_cell BX.out 2).trans rfl⟩ (fun hHeld => ?_)
                  generalize World.drew _ = w10 at *
                  -- 0: Op.fieldAddr 58 t5 1
                  refine pure_ (i := 0) (N := (some 111)) (v := ?_) (a' := ?_) #[true, false, false, false, false, false, false, false, false, false, false, false, false, false] rfl rfl (by kernel_rfl) (fun _ _ _ h => h) (Or.inl ⟨by rfl, ?_⟩) ?_ ?_
                  rotate_left
                  · intro w'
                    go_simp
                    with_reducible rfl
                  rotate_left
                  · simp only [Act.put, List.setIfInBounds_toArray, List.set_cons_zero, List.set_cons_succ, i64_w, i32_w]
                    rfl
                  -- 5: Op.move t0
                  refine pure_ (i := 5) (N := (some 116)) (v := ?_) (a' := ?_) #[true, false, false, false, false, true, false, false, false, false, false, false, false, false] rfl rfl (by kernel_rfl) (fun _ _ _ h => h) (Or.inl ⟨by rfl, ?_⟩) ?_ ?_
                  rotate_left
                  · intro w'
                    go_simp
                    with_reducible rfl
                  rotate_left
                  · simp only [Act.put, List.setIfInBounds_toArray, List.set_cons_zero, List.set_cons_succ, i64_w, i32_w]
                    rfl
                  -- 6: Op.move t14
                  refine pure_ (i := 6) (N := (some 117)) (v := ?_) (a' := ?_) #[true, false, false, false, false, true, true, false, false, false, false, false, false, false] rfl rfl (by kernel_rfl) (fun _ _ _ h => h) (Or.inl ⟨by rfl, ?_⟩) ?_ ?_
                  rotate_left
                  · intro w'
                    go_simp
                    with_reducible rfl
                  rotate_left
                  · simp only [Act.put, List.setIfInBounds_toArray, List.set_cons_zero, List.set_cons_succ, i64_w, i32_w]
                    rfl
                  -- 7: Op.binOp BinOp.add 3 (const (1:i64)) t117 3
                  refine pure_ (i := 7) (N := (some 118)) (v := ?_) (a' := ?_) #[true, false, false, false, false, true, true, true, false, false, false, false, false, false] rfl rfl (by kernel_rfl) (fun _ _ _ h => h) (Or.inl ⟨by rfl, ?_⟩) ?_ ?_
                  rotate_left
                  · intro w'
                    have e1 : IntKind.i64.wrap (1 + (ni : Int)) = 1 + (ni : Int) := IntWalk.i64_in _ (by omega)
                    go_simp
                    with_reducible rfl
                  rotate_left
                  · simp only [Act.put, List.setIfInBounds_toArray, List.set_cons_zero, List.set_cons_succ, i64_w, i32_w]
                    rfl
                  -- 8: Op.move t17
                  refine pure_ (i := 8) (N := (some 119)) (v := ?_) (a' := ?_) #[true, false, false, false, false, true, true, true, true, false, false, false, false, false] rfl rfl (by kernel_rfl) (fun _ _ _ h => h) (Or.inl ⟨by rfl, ?_⟩) ?_ ?_
                  rotate_left
                  · intro w'
                    go_simp
                    with_reducible rfl
                  rotate_left
                  · simp only [Act.put, List.setIfInBounds_toArray, List.set_cons_zero, List.set_cons_succ, i64_w, i32_w]
                    rfl
                  -- 9: Op.binOp BinOp.add 3 t118 t119 3
                  refine pure_ (i := 9) (N := (some 120)) (v := ?_) (a' := ?_) #[true, false, false, false, false, true, true, true, true, true, false, false, false, false] rfl rfl (by kernel_rfl) (fun _ _ _ h => h) (Or.inl ⟨by rfl, ?_⟩) ?_ ?_
                  rotate_left
                  · intro w'
                    have e1 : IntKind.i64.wrap (1 + (ni : Int)) = 1 + (ni : Int) := IntWalk.i64_in _ (by omega)
                    go_simp
                    with_reducible rfl
                  rotate_left
                  · simp only [Act.put, List.setIfInBounds_toArray, List.set_cons_zero, List.set_cons_succ, i64_w, i32_w]
                    rfl
                  -- 10: Op.slice 9 t116 (some t120) none none
                  refine pure_ (i := 10) (N := (some 121)) (v := ?_) (a' := ?_) #[true, false, false, false, false, true, true, true, true, true, true, false, false, false] rfl rfl (by kernel_rfl) (fun _ _ _ h => h) (Or.inl ⟨by rfl, ?_⟩) ?_ ?_
                  rotate_left
                  · intro w'
                    have e2 : (1 + (ni : Int)).toNat = 1 + ni := by omega
                    have e3 : 0 ≤ 1 + (ni : Int) := by omega
                    go_simp
                    with_reducible rfl
                  rotate_left
                  · simp only [Act.put, List.setIfInBounds_toArray, List.set_cons_zero, List.set_cons_succ, i64_w, i32_w]
                    rfl
                  -- 1: Op.load 56 t111
                  refine take_ (i := 1) (N := (some 112)) (v := ?_) (a' := ?_) #[true, true, false, false, false, true, true, true, true, true, true, false, false, false] rfl rfl (by kernel_rfl) (fun _ _ _ h => h) (Or.inl ⟨by rfl, ?_⟩) hHeld ?_ ?_
                  rotate_left
                  · rintro w' ⟨s0, s1, s2, s3⟩
                    go_simp
                    with_reducible rfl
                  rotate_left
                  · simp only [Act.put, List.setIfInBounds_toArray, List.set_cons_zero, List.set_cons_succ, i64_w, i32_w]
                    rfl
                  -- 2: Op.load 72 t12
                  refine take_ (i := 2) (N := (some 113)) (v := ?_) (a' := ?_) #[true, true, true, false, false, true, true, true, true, true, true, false, false, false] rfl rfl (by kernel_rfl) (fun _ _ _ h => h) (Or.inl ⟨by rfl, ?_⟩) hHeld ?_ ?_
                  rotate_left
                  · rintro w' ⟨s0, s1, s2, s3⟩
                    go_simp
                    with_reducible rfl
                  rotate_left
                  · simp only [Act.put, List.setIfInBounds_toArray, List.set_cons_zero, List.set_cons_succ, i64_w, i32_w]
                    rfl
                  -- 3: Op.buildSlice 56 1 #[(0, t113)]
                  refine one_ (i := 3) (N := (some 114)) #[true, true, true, true, false, true, true, true, true, true, true, false, false, false] rfl rfl (by kernel_rfl) (by decide) (fun K hK => ?_)
                  refine value_ (w1 := w10.alloc (.cells #[.int .i64 2, .string key, .string ⟨#[]⟩] 72)) (v := .slice (some ⟨w10.heap.size, 0, none⟩) 1 1) (by rfl) rfl (by go_simp) ?_
                  clear hHeld
                  refine hK.out _ _ ⟨(blk_cell (blk_alloc BB.out _) 1).trans rfl, (blk_cell (blk_alloc BX.out _) 0).trans rfl, (blk_cell (blk_alloc BX.out _) 1).trans rfl, (blk_cell (blk_alloc BX.out _) 2).trans rfl⟩ (fun hHeld => ?_)
                  clear hK K
                  refine norm_ (a' := ?_) ?_ ?_
                  rotate_left
                  · show Act.put _ (some 114) _ = _
                    simp only [Act.put, List.setIfInBounds_toArray, List.set_cons_zero, List.set_cons_succ, i64_w, i32_w]
                    rfl
                  -- 4: Op.call { builtin append, args := #[t112, t114], argTypes := #[56, 56] }
                  refine one_ (i := 4) (N := (some 115)) #[true, true, true, true, true, true, true, true, true, true, true, false, false, false] rfl rfl (by kernel_rfl) (by decide) (fun K hK => ?_)
                  refine Kd.R_append_step k72 (w0 := w) (W := w10) w.heap.size (by rfl) (.tmp 112) (.tmp 114) 56 72 (.agg #[.int .i64 0, .string ⟨#[]⟩, .string ⟨#[]⟩]) 40 (by rfl) Try.underlying56 info72 rfl (by decide) (by omega) (.slice A acc.length c) acc (⟨2, key, ⟨#[]⟩⟩ : S72) [.int .i64 2, .string key, .string ⟨#[]⟩] (fun k => k ≠ wr.heap.size) (fun _ => False) (by rfl) (by rfl) (k72_mkM _ _ _ _) (fun _ h => h.elim) (fun k hk => by have := blk_lt BX.out; omega) HO.out HB.out (below_size HB.out) (by have := HG.out; omega) ?_
                  intro v11 w11 hR hB hg hat
                  obtain ⟨A1, c1, rfl⟩ := Kd.R_slice hR
                  have h0_ := Aside0.mk (blk_grown BX.out hg (Kd.R_away HO.out (fun k hk => hk)))
                  have h1_ := Aside0.mk (blk_grown BR.out hg (Kd.R_ne HO.out BR.out (by decide)))
                  have h2_ := Aside0.mk (blk_grown KK.out hg (Kd.R_ne HO.out KK.out (by decide)))
                  have h3_ := Aside0.mk (blk_grown BB.out hg (Kd.R_ne HO.out BB.out (by decide)))
                  have h4_ := Aside0.mk (hR)
                  have h5_ := Aside0.mk (hB)
                  clear BX BR KK BB HO HB
                  have BX := h0_; have BR := h1_; have KK := h2_; have BB := h3_; have HO := h4_; have HB := h5_
                  clear h0_ h1_ h2_ h3_ h4_ h5_
                  clear hR hB hg hat
                  clear hHeld
                  refine hK.out _ _ ⟨(blk_cell BB.out 1).trans rfl, (blk_cell BX.out 0).trans rfl, (blk_cell BX.out 1).trans rfl, (blk_cell BX.out 2).trans rfl⟩ (fun hHeld => ?_)
                  clear hK K
                  refine norm_ (a' := ?_) ?_ ?_
                  rotate_left
                  · show Act.put _ (some 115) _ = _
                    simp only [Act.put, List.setIfInBounds_toArray, List.set_cons_zero, List.set_cons_succ, i64_w, i32_w]
                    rfl
                  -- 11: Op.fieldAddr 58 t5 1
                  refine pure_ (i := 11) (N := (some 122)) (v := ?_) (a' := ?_) #[true, true, true, true, true, true, true, true, true, true, true, true, false, false] rfl rfl (by kernel_rfl) (fun _ _ _ h => h) (Or.inl ⟨by rfl, ?_⟩) ?_ ?_
                  rotate_left
                  · intro w'
                    go_simp
                    with_reducible rfl
                  rotate_left
                  · simp only [Act.put, List.setIfInBounds_toArray, List.set_cons_zero, List.set_cons_succ, i64_w, i32_w]
                    rfl
                  -- 12: Op.store 56 t122 t115
                  refine last_ (i := 12) (N := none) #[true, true, true, true, true, true, true, true, true, true, true, true, true, false] rfl rfl (by kernel_rfl) (by decide) (fun K hK => ?_)
                  have hc1 : w11.cell? ⟨gq + 1, 1, none⟩ = some (.slice A acc.length c) := (blk_cell BB.out 1).trans rfl
                  have hf0 := blk_frozen BB.out 1
                  refine skip_ (w1 := w11.setCell ⟨gq + 1, 1, none⟩ (.slice A1 (acc ++ [(⟨2, key, ⟨#[]⟩⟩ : S72)]).length c1)) (by rfl) rfl (by go_simp) ?_
                  clear hc1 hf0
                  have h0_ := Aside0.mk (blk_far BR.out (p := ⟨gq + 1, 1, none⟩) (by have := GB.out; simp; omega) (.slice A1 (acc ++ [(⟨2, key, ⟨#[]⟩⟩ : S72)]).length c1))
                  have h1_ := Aside0.mk (blk_far KK.out (p := ⟨gq + 1, 1, none⟩) (by simp) (.slice A1 (acc ++ [(⟨2, key, ⟨#[]⟩⟩ : S72)]).length c1))
                  have h2_ := Aside0.mk (blk_put BB.out 1 (.slice A1 (acc ++ [(⟨2, key, ⟨#[]⟩⟩ : S72)]).length c1) (cs' := #[.int .u64 seq, .slice A1 (acc ++ [(⟨2, key, ⟨#[]⟩⟩ : S72)]).length c1]) rfl)
                  have h3_ := Aside0.mk (Kd.R_set HO.out BB.out (by decide) 1 (.slice A1 (acc ++ [(⟨2, key, ⟨#[]⟩⟩ : S72)]).length c1))
                  have h4_ := Aside0.mk (HB.out.setCell (p := ⟨gq + 1, 1, none⟩) (by have := GB.out; simp; omega) (.slice A1 (acc ++ [(⟨2, key, ⟨#[]⟩⟩ : S72)]).length c1))
                  clear BR KK BB HO HB
                  have BR := h0_; have KK := h1_; have BB := h2_; have HO := h3_; have HB := h4_
                  clear h0_ h1_ h2_ h3_ h4_
                  clear hHeld
                  refine hK.out _ _ ?_
                  clear hK K
                  -- 13: Op.assign t121
                  refine pure_ (i := 13) (N := (some 0)) (v := ?_) (a' := ?_) #[true, true, true, true, true, true, true, true, true, true, true, true, true, true] rfl rfl (by kernel_rfl) (fun _ _ _ h => h) (Or.inl ⟨by rfl, ?_⟩) ?_ ?_
                  rotate_left
                  · intro w'
                    go_simp
                    with_reducible rfl
                  rotate_left
                  · simp only [Act.put, List.setIfInBounds_toArray, List.set_cons_zero, List.set_cons_succ, i64_w, i32_w]
                    rfl
                  refine done_ (by kernel_rfl) ?_
                  go_wp2
                  go_roundg j1
                  case measure => omega
                  case rel => exact ⟨_, _, _, rfl, HX, BR, KK, BB, ⟨Kd.R_mono HO.out (fun _ _ => trivial)⟩, HB, ⟨by have := HG.out; simp; omega⟩⟩
                · rw [if_neg hg] at hX
                  cases hX
            · rw [if_neg hi] at h
              cases h
          · rw [if_neg he] at h
            have HF := Aside0.mk (Option.some.inj h)
            have heb : (e != 0) = true := by simpa using he
            generalize bt s' 0 = c0 at *
            clear h hk12 he
            go_wp2_with (go_at_call 75; (with_reducible refine (code_Field.calls k (s'.extract 1 s'.size) 520 key i e _ HK.out).mono ?_); rintro e w7 ⟨rfl, hb⟩; have h0_ := Aside0.mk (blk_below (blk_alloc BR.out _) hb); have h1_ := Aside0.mk (blk_below (blk_alloc KK.out _) hb); have h2_ := Aside0.mk (blk_below (blk_alloc BB.out _) hb); have h3_ := Aside0.mk (Kd.R_below (Kd.R_alloc HO.out _) hb); have h4_ := Aside0.mk (below_step (below_alloc HB.out _) hb); clear BR KK BB HO HB; have BR := h0_; have KK := h1_; have BB := h2_; have HO := h3_; have HB := h4_; clear h0_ h1_ h2_ h3_ h4_; clear hb; clear hc0 hc1 hf0 hf1 hb0 hb1; have hc0 : w7.cell? ⟨w.heap.size, 0, none⟩ = some (.int .u64 0) := (blk_cell BR.out 0).trans rfl; have hc1 : w7.cell? ⟨w.heap.size, 1, none⟩ = some (.slice none 0 0) := (blk_cell BR.out 1).trans rfl; have hf0 := blk_frozen BR.out 0; have hf1 := blk_frozen BR.out 1; have hb0 : w7.cell? ⟨gq + 1, 0, none⟩ = some (.int .u64 seq) := (blk_cell BB.out 0).trans rfl; have hb1 : w7.cell? ⟨gq + 1, 1, none⟩ = some (.slice A acc.length c) := (blk_cell BB.out 1).trans rfl)
            try rw [Exit.noGoto_ret]
            rw [← (Prod.mk.inj HF.out).1, ← (Prod.mk.inj (Prod.mk.inj HF.out).2).1, ← (Prod.mk.inj (Prod.mk.inj HF.out).2).2]
            refine bodyPost_ret (v := .tuple #[.agg #[.int .u64 0, .slice none 0 0], .int .i64 7]) ?_ rfl ⟨_, rfl, Kd.R_nil _ _ _ _ _, (HB.out.setCell (p := ⟨w.heap.size, 0, none⟩) (Nat.le_refl _) _).setCell (p := ⟨w.heap.size, 1, none⟩) (Nat.le_refl _) _⟩
            simp [results, Try.results40, go_sem, hc0, hc1]
theorem batch_Decode.mono_l (k : Nat) : ∀ j a b s acc, LeO (batch_Decode.l0 k j a b s acc) (batch_Decode.l0 (k + 1) (j + 1) a b s acc)
  | 0, _, _, _, _ => fun r h => by simp [batch_Decode.l0] at h
  | j + 1, a, b, s, acc => by
    rw [batch_Decode.l0, batch_Decode.l0]
    refine LeO.ite (LeO.ite (LeO.bind (batch_Check.mono _ _ _) (fun _ => LeO.refl _)) (LeO.refl _)) (LeO.ite (LeO.refl _) (LeO.ite (LeO.refl _) (LeO.bind (code_Field.mono _ _ _) (fun x => LeO.ite (LeO.ite (LeO.bind ?_ (fun y => LeO.ite (LeO.ite (batch_Decode.mono_l k j _ _ _ _) (LeO.refl _)) (LeO.refl _))) (LeO.refl _)) (LeO.refl _)))))
    unfold batch_readOf
    exact LeO.ite (code_Field.mono _ _ _) (LeO.refl _)
theorem batch_Decode.mono : ∀ a0 k, LeO (batch_Decode.f k a0) (batch_Decode.f (k + 1) a0) := by
  intro a0 k
  unfold batch_Decode.f
  exact LeO.bind (LeO.refl _) (fun _ => LeO.ite (LeO.bind (LeO.refl _) (fun _ => LeO.ite (LeO.ite (batch_Decode.mono_l _ _ _ _ _ _) (LeO.refl _)) (LeO.refl _))) (LeO.refl _))
theorem batch_Decode.calls (k : Nat) (a0 : ByteArray) (r1 : Int) (r2 : List (S72)) (r3 : Int) (w : World) (h : batch_Decode.f k a0 = some (r1, r2, r3)) :
    Calls Try.prog 40 #[.string a0] w fun e w' => ∃ v1_ : Value, e = .returned (.tuple #[.agg #[.int .u64 r1, v1_], .int .i64 r3]) ∧ Kd.R k72 72 w' w.heap.size (fun _ => True) v1_ r2 ∧ Below w.heap.size w w' := by
  unfold batch_Decode.f at h
  obtain ⟨⟨u1, u2, u3⟩, hu, h⟩ := Option.bind_eq_some_iff.mp h
  dsimp only at h
  by_cases hb : 0 ≤ u2 ∧ u2 ≤ (a0.size : Int)
  · rw [if_pos hb] at h
    obtain ⟨⟨v1, v2, v3⟩, hv, h⟩ := Option.bind_eq_some_iff.mp h
    dsimp only at h
    by_cases hc : u3 = 0 ∧ v3 = 0 ∧ v1 ≤ 64
    · rw [if_pos hc] at h
      obtain ⟨rfl, rfl, hm64⟩ := hc
      by_cases hd : 0 ≤ v2 ∧ u2 + v2 ≤ (a0.size : Int) ∧ u2 + v2 ≤ 1000 ∧ 0 ≤ v1
      · rw [if_pos hd] at h
        obtain ⟨n, rfl⟩ := Int.eq_ofNat_of_zero_le hb.1
        obtain ⟨m, rfl⟩ := Int.eq_ofNat_of_zero_le hd.1
        rw [Int.toNat_natCast] at hv
        rw [show ((n : Int) + (m : Int)).toNat = n + m from by omega] at h
        exact decode_go k k a0 u1 v1 n m r1 r2 r3 w hu hv (by omega) (by omega) (by omega) hd.2.2.2 hm64 h
      · rw [if_neg hd] at h
        cases h
    · rw [if_neg hc] at h
      have h5 := Option.some.inj h
      injection h5 with h5 h6
      injection h6 with h6 h7
      subst h5
      subst h6
      subst h7
      exact (decode_bad a0 u1 u2 u3 v1 v2 v3 w hu hb hv hc).mono fun e w' hh => ⟨_, hh.1, Kd.R_nil _ _ _ _ _, hh.2⟩
  · rw [if_neg hb] at h
    cases h

end Go.Proofs.Ytfemebenkbobnaa.PB06
