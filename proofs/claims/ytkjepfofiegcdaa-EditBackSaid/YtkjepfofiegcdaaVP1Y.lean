import Derived.Test.YtkjepfofiegcdaaVP0
import Derived.Test.YtkjepfofiegcdaaVX1Y
import Derived.Test.YtkjepfofiegcdaaHBytes
/- A variable that holds a row of bytes which is appended to, and the closure of edit.Encode that appends numbers to it (111), walked. -/
namespace Go.Proofs.Ytkjepfofiegcdaa.V
set_option linter.unusedVariables false
set_option linter.unusedSimpArgs false
open Go.RowKit Go.Proofs.YtkjepfofiegcdaaW.PrintWords Go.Proofs.YtkjepfofiegcdaaW.PrintLast Go.Proofs.YtkjepfofiegcdaaW.PrintMore Go.Proofs.Ytkjepfofiegcdaa.PB14
open H (putL)
/-- Bytes of a list, as numbers. -/
def bts (l : List UInt8) : List Int := bytesOf (bA l)
theorem bts_append (a b : List UInt8) : bts (a ++ b) = bts a ++ bts b := by
  unfold bts bytesOf
  rw [bA_list, bA_list, bA_list, List.map_append]
theorem bts_len (a : List UInt8) : (bts a).length = a.length := by
  unfold bts
  rw [bytesOf_length, bA_size]
theorem bts_str (a : List UInt8) : strOfNums (bts a) = bA a := by
  unfold bts
  rw [str_bA, bytesOf_back, bA_list]
/-- A row of bytes, or none yet. -/
def BN (w : World) (base : Nat) (v : Value) (xs : List Int) : Prop := (v = .slice none 0 0 ∧ xs = []) ∨ H.BRow w base 5 v xs
theorem BN.kept {w w1 : World} {base : Nat} {v : Value} {xs : List Int} (h : BN w base v xs) (hk : ∀ g, v.ownBlock = some g → w1.heap[g]? = w.heap[g]?) : BN w1 base v xs := h.imp_right fun h => h.kept hk
theorem BN.lt {w : World} {base : Nat} {v : Value} {xs : List Int} (h : BN w base v xs) (g : Nat) (hv : v.ownBlock = some g) : g < w.heap.size := by
  rcases h with ⟨rfl, _⟩ | h
  · simp [Value.ownBlock] at hv
  · exact h.lt g hv
theorem BN.below {w w1 : World} {base : Nat} {v : Value} {xs : List Int} (h : BN w base v xs) (hb : Below w.heap.size w w1) : BN w1 base v xs := h.kept fun g hg => hb.block g (h.lt g hg)
theorem BN.own_ge {w : World} {base : Nat} {v : Value} {xs : List Int} (h : BN w base v xs) (g : Nat) (hv : v.ownBlock = some g) : base ≤ g := by
  rcases h with ⟨rfl, _⟩ | h
  · simp [Value.ownBlock] at hv
  · exact h.own_ge g hv
theorem BN.ne {w : World} {base : Nat} {v : Value} {xs : List Int} (h : BN w base v xs) {g : Nat} {cs : Array Value} {t : TypeId} (hg : w.heap[g]? = some (.cells cs t (0, 0))) (hne : 5 ≠ t) : v.ownBlock ≠ some g := by
  rcases h with ⟨rfl, _⟩ | h
  · simp [Value.ownBlock]
  · exact h.ne hg hne
theorem nil_str (w : World) (base : Nat) (ty : TypeId) (y : ByteArray) (h0 : 0 < y.size) (hl : y.size ≤ 140737488355328) (hbase : base ≤ w.heap.size) :
    ∃ v' w', (Builtin.append_ #[36, 9] ty #[.slice none 0 0, .string y]).run Try.prog w = .ok v' w' ∧ BN w' base v' (bytesOf y) ∧ w.grownBy w' none ∧ v'.ownBlock = some w.heap.size := by
  obtain ⟨i, hi, hz0, hz1, hz2⟩ := info_parts info5
  have hr := run_append_nil_string (P := Try.prog) (w := w) 36 9 ty 5 i (.int .u8 0) Try.underlying36 Try.underlying9 hi hz0 y h0 (by omega) (by rw [hz2]; omega)
  refine ⟨_, _, hr, .inr ?_, ⟨rfl, rfl, rfl, by simp, fun k hk _ => Below.heap_alloc w.drew _ k hk⟩, rfl⟩
  have hge := grownCap_ge w y.size 0 5
  refine ⟨w.heap.size, _, _, _, by rw [bytesOf_length], hbase, heap_alloc_new w.drew _, .inl rfl, by rw [bytesOf_length]; exact hge, grownCap_le_maxLen _ _ _ _ (by simp only [maxLen]; omega), ?_, ?_⟩
  · simp only [Array.size_append, Array.size_map, size_zeroCells, show (Value.int IntKind.u8 0).cells.size = 1 from rfl]
    have h2 : y.data.size = y.size := rfl
    omega
  · rw [bytesOf_length]
    simp only [Array.toList_append, Array.toList_map]
    rw [List.take_left' (by simp)]
    simp [YtkjepfofiegcdaaW.PrintWords.nums, bytesOf]
theorem BN.append_str {w : World} {base : Nat} {v : Value} {xs : List Int} (h : BN w base v xs) (ty : TypeId) (y : ByteArray) (h0 : 0 < y.size) (hl : xs.length + y.size ≤ 140737488355328) (hbase : base ≤ w.heap.size) :
    ∃ v' w', (Builtin.append_ #[36, 9] ty #[v, .string y]).run Try.prog w = .ok v' w' ∧ BN w' base v' (xs ++ bytesOf y) ∧ w.grownBy w' v.ownBlock ∧ (v'.ownBlock = v.ownBlock ∨ v'.ownBlock = some w.heap.size) := by
  rcases h with ⟨rfl, rfl⟩ | h
  · obtain ⟨v', w', a, b, c, d⟩ := nil_str w base ty y h0 (by simpa using hl) hbase
    exact ⟨v', w', a, b, c, .inr d⟩
  · obtain ⟨v', w', a, b, c, d⟩ := h.append_str_i (P := Try.prog) 36 9 ty Try.underlying36 Try.underlying9 info5 y hl hbase
    exact ⟨v', w', a, .inr b, c, d⟩
/-- What an appending leaves as it was: all below, and every plain block that holds no bytes, but the variable's own. -/
def OutK (go : Nat) (w w' : World) : Prop := Below go w w' ∧ ∀ g cs t, t ≠ 5 → g ≠ go → w.heap[g]? = some (.cells cs t (0, 0)) → w'.heap[g]? = some (.cells cs t (0, 0))
theorem OutK.refl (go : Nat) (w : World) : OutK go w w := ⟨Below.refl _ _, fun _ _ _ _ _ h => h⟩
theorem OutK.trans {go : Nat} {w w1 w2 : World} (h : OutK go w w1) (h2 : OutK go w1 w2) : OutK go w w2 := ⟨h.1.trans h2.1, fun g cs t ht hg hh => h2.2 g cs t ht hg (h.2 g cs t ht hg hh)⟩
theorem OutK.of_below {go : Nat} {w w' : World} (h : Below w.heap.size w w') (hg : go ≤ w.heap.size) : OutK go w w' := ⟨h.mono hg, fun g cs t _ _ hh => blk_below hh h⟩
/-- The variable's bytes. -/
def OUT (w : World) (go : Nat) (l : List UInt8) : Prop := ∃ v, w.heap[go]? = some (.cells #[v] 36 (0, 0)) ∧ BN w (go + 1) v (bts l)
theorem OUT.below {w w' : World} {go : Nat} {l : List UInt8} (h : OUT w go l) (hb : Below w.heap.size w w') : OUT w' go l := by
  obtain ⟨v, h1, h2⟩ := h
  exact ⟨v, blk_below h1 hb, h2.below hb⟩
theorem OUT.lt {w : World} {go : Nat} {l : List UInt8} (h : OUT w go l) : go < w.heap.size := by
  obtain ⟨v, h1, h2⟩ := h
  exact blk_lt h1
/-- The bytes of numbers. -/
def putsL : List Int → List UInt8
  | [] => []
  | n :: r => putL n.toNat ++ putsL r
theorem putsL_append (a b : List Int) : putsL (a ++ b) = putsL a ++ putsL b := by
  induction a with
  | nil => rfl
  | cons n r ih => rw [List.cons_append, putsL, putsL, ih, List.append_assoc]
theorem putsL_len : ∀ l : List Int, (∀ n, n ∈ l → 0 ≤ n ∧ n < 18446744073709551616) → (putsL l).length ≤ 10 * l.length
  | [], _ => by simp [putsL]
  | n :: r, h => by
    have h1 := putsL_len r fun n hn => h n (List.mem_cons_of_mem _ hn)
    have h2 := h n (List.mem_cons_self ..)
    have h3 := putL_le n.toNat (nat_u h2.1 h2.2)
    rw [putsL, List.length_append, List.length_cons]
    omega
theorem BN.form {w : World} {base : Nat} {v : Value} {xs : List Int} (h : BN w base v xs) : ∃ A n c, v = .slice A n c := by
  rcases h with ⟨rfl, _⟩ | ⟨g, cap, cur, fz, rfl, _⟩
  · exact ⟨_, _, _, rfl⟩
  · exact ⟨_, _, _, rfl⟩
theorem putL_pos (n : Nat) : 0 < (putL n).length := by
  rcases Nat.lt_or_ge n 128 with h | h
  · rw [H.putL_small n h]; simp
  · rw [H.putL_big n (by omega)]; simp
theorem out_step {wr w5 w6 : World} {go : Nat} {l m : List UInt8} {v0 v1 : Value} (h0 : wr.heap[go]? = some (.cells #[v0] 36 (0, 0))) (hB0 : BN wr (go + 1) v0 (bts l)) (hb : Below wr.heap.size wr w5) (h1 : BN w6 (go + 1) v1 (bts (l ++ m))) (hg : w5.grownBy w6 v0.ownBlock) :
    OUT (w6.setCell ⟨go, 0, none⟩ v1) go (l ++ m) ∧ OutK go wr (w6.setCell ⟨go, 0, none⟩ v1) := by
  have hgo : go < wr.heap.size := blk_lt h0
  have hB5 := hB0.below hb
  have h5 := blk_below h0 hb
  have h6 := blk_grown h5 hg (hB5.ne h5 (by decide)).symm
  refine ⟨⟨v1, one_setCell h6, h1.kept fun g hg2 => Below.heap_setCell w6 ⟨go, 0, none⟩ v1 g (by have := h1.own_ge g hg2; simp only; omega)⟩, ?_, fun g cs t ht hne hh => ?_⟩
  · have hbg : Below go wr w5 := hb.mono (by omega)
    exact (pw_below_grown hbg v0.ownBlock (by have := hb.size; omega) hg (fun b hb2 => by have := hB5.own_ge b hb2; omega)).setCell (Nat.le_refl _) v1
  · have g5 := blk_below hh hb
    exact blk_far (blk_grown g5 hg (hB5.ne g5 (fun e => ht e.symm)).symm) hne v1
set_option maxHeartbeats 8000000 in
set_option maxRecDepth 100000 in
theorem put111_calls (w : World) (go gv c : Nat) (l : List UInt8) (ns : List Int) (cs : Array Value) (hO : OUT w go l) (hV : w.heap[gv]? = some (.cells cs 22 (0, 0))) (hne : gv ≠ go) (hcs : ∀ j, j < ns.length → cs[j]? = some (.int .u64 (ns.getD j 0))) (hr : ∀ n, n ∈ ns → 0 ≤ n ∧ n < 18446744073709551616) (hl : l.length + 10 * ns.length ≤ 1000000000) :
    Calls Try.prog 111 #[.slice (some ⟨gv, 0, none⟩) ns.length c, .pointer (some ⟨go, 0, none⟩)] w fun e w' => (∃ v, e = .returned v) ∧ OUT w' go (l ++ putsL ns) ∧ OutK go w w' := by
  have HO := Aside0.mk hO
  have HV := Aside0.mk hV
  have HNE := Aside0.mk hne
  have HCS := Aside0.mk hcs
  have HRG := Aside0.mk hr
  have HL := Aside0.mk hl
  clear hO hV hne hcs hr hl
  go_enter Try.func111, Try.ntmps111
  go_wp2_with fail
  go_loopg [7] ns.length (fun kq v7 w' => ∃ k : Nat, v7 = .int .i64 (k : Int) ∧ Aside0 (kq + k = ns.length) ∧ Aside0 (OUT w' go (l ++ putsL (ns.take k))) ∧ Aside0 (OutK go w w'))
  case atStart => exact ⟨0, rfl, ⟨by omega⟩, ⟨by rw [List.take_zero, putsL, List.append_nil]; exact HO.out⟩, ⟨OutK.refl _ _⟩⟩
  case round =>
    obtain ⟨k, rfl, HK, HOr, HKr⟩ := hrel
    cases gk with
    | zero =>
      have ek : k = ns.length := by have := HK.out; omega
      subst ek
      have d0 : decide ((ns.length : Int) < (ns.length : Int)) = false := by simp
      rw [List.take_length] at HOr
      go_wp2_with fail
      exact bodyPost_end (v := .tuple #[]) (by kernel_rfl) rfl ⟨⟨_, rfl⟩, HOr.out, HKr.out⟩
    | succ k' =>
      have hk : k < ns.length := by have := HK.out; omega
      have HM := Aside0.mk (show ns.length ≤ 1000000000 by have := HL.out; omega)
      have d0 : decide ((k : Int) < (ns.length : Int)) = true := decide_eq_true (by omega)
      have d1 : decide (k < ns.length) = true := decide_eq_true hk
      have p0 : 0 ≤ (k : Int) := Int.natCast_nonneg _
      have p1 : (k : Int) < (ns.length : Int) := by omega
      have XV := Aside0.mk (HKr.out.2 gv cs 22 (by decide) HNE.out HV.out)
      have hrn := HRG.out (ns.getD k 0) (getD_mem ns 0 hk)
      have hcn := HCS.out k hk
      have TS := Aside0.mk (take_snoc ns 0 hk)
      obtain ⟨n, hn⟩ : ∃ n, n = ns.getD k 0 := ⟨_, rfl⟩
      rw [← hn] at hrn hcn TS
      clear hn
      obtain ⟨q, rfl⟩ : ∃ q : Nat, n = (q : Int) := ⟨n.toNat, by omega⟩
      have hcv : wr.cell? ⟨gv, 0 + k, none⟩ = some (.int .u64 (q : Int)) := by rw [Nat.zero_add]; exact (blk_cell XV.out k).trans hcn
      have hcv3 : wr.cell? ⟨gv, k, none⟩ = some (.int .u64 (q : Int)) := (blk_cell XV.out k).trans hcn
      have hcv2 : wr.cell? ((⟨gv, 0, none⟩ : Addr).add k) = some (.int .u64 (q : Int)) := by rw [add_plain]; exact (blk_cell XV.out k).trans hcn
      have HQ := Aside0.mk (show q < 2 ^ 64 by have := hrn.2; omega)
      have HP := Aside0.mk (show 0 < (bA (putL q)).size by rw [bA_size]; exact putL_pos q)
      obtain ⟨v0, x0, n0⟩ := HOr.out
      have X0 := Aside0.mk x0
      have HN := Aside0.mk n0
      have hc0 : wr.cell? ⟨go, 0, none⟩ = some v0 := (blk_cell x0 0).trans rfl
      have HGO := Aside0.mk (show go + 1 ≤ wr.heap.size from blk_lt x0)
      have HTK := Aside0.mk (putsL_len (ns.take k) (fun n hn => HRG.out n (List.mem_of_mem_take hn)))
      have ew : wrap64 ((k : Int) + 1) = ((k + 1 : Nat) : Int) := by have h1 := HM.out; unfold wrap64; omega
      obtain ⟨l2, hl2⟩ : ∃ l2, l2 = l ++ putsL (ns.take k) := ⟨_, rfl⟩
      rw [← hl2] at HN
      have HL2 := Aside0.mk hl2
      have HLL := Aside0.mk (show l2.length ≤ 1000000000 by
        have h1 := HTK.out; have h2 := HL.out
        rw [hl2, List.length_append]; rw [List.length_take] at h1; omega)
      have KL := Aside0.mk hk
      clear hk hl2 x0 n0 hcn hrn
      go_upto_region 3 with (fail)
      refine start_ (n := 5) (S := (fun w' => Below wr.heap.size wr w' ∧ w'.cell? ⟨go, 0, none⟩ = some v0)) (ds := [3, 4]) #[false, false, false, false, false] (by kernel_rfl) rfl rfl ⟨below_drew (Below.refl _ _), hc0⟩ (fun hHeld => ?_)
      -- 0: Op.load 36 t1
      refine take_ (i := 0) (N := (some 11)) (v := ?_) (a' := ?_) #[true, false, false, false, false] rfl rfl (by kernel_rfl) (fun _ _ _ h => h) (Or.inl ⟨by rfl, ?_⟩) hHeld ?_ ?_
      rotate_left
      · rintro w' ⟨s0, s1⟩
        go_simp
        with_reducible rfl
      rotate_left
      · simp only [Act.put, List.setIfInBounds_toArray, List.set_cons_zero, List.set_cons_succ, i64_w, i32_w]
        rfl
      -- 1: Op.move t4
      refine pure_ (i := 1) (N := (some 12)) (v := ?_) (a' := ?_) #[true, true, false, false, false] rfl rfl (by kernel_rfl) (fun _ _ _ h => h) (Or.inl ⟨by rfl, ?_⟩) ?_ ?_
      rotate_left
      · intro w'
        go_simp
        with_reducible rfl
      rotate_left
      · simp only [Act.put, List.setIfInBounds_toArray, List.set_cons_zero, List.set_cons_succ, i64_w, i32_w]
        rfl
      -- 2: Op.call { value (Operand.func 112), args := #[t12], argTypes := #[22] }
      refine one_ (i := 2) (N := (some 13)) #[true, true, true, false, false] rfl rfl (by kernel_rfl) (by decide) (fun K hK => ?_)
      refine goes_ Try.func112 (by kernel_rfl) rfl #[.int .u64 (q : Int)] (by rfl) rfl rfl (by (try simp only [List.map_toArray, List.map_cons, List.map_nil]); first | done | rfl) ?_
      (with_reducible refine (putUint_calls _ q HQ.out).mono ?_)
      rintro e w5 ⟨rfl, hb⟩
      refine ⟨_, rfl, ?_⟩
      have hOld := hHeld
      clear hHeld
      refine hK.out _ _ (⟨below_step hOld.1 hb, pw_cell_below hb hOld.2⟩) (fun hHeld => ?_)
      clear hOld hK K
      refine norm_ (a' := ?_) ?_ ?_
      rotate_left
      · show Act.put _ (some 13) _ = _
        simp only [Act.put, List.setIfInBounds_toArray, List.set_cons_zero, List.set_cons_succ, i64_w, i32_w]
        rfl
      have HB5 := Aside0.mk hHeld.1
      -- 3: Op.call { builtin append, args := #[t11, t13], argTypes := #[36, 9] }
      refine last_ (i := 3) (N := (some 14)) #[true, true, true, true, false] rfl rfl (by kernel_rfl) (by decide) (fun K hK => ?_)
      obtain ⟨v1, w6, hr_, hn_, hg_, ho_⟩ := (BN.below HN.out HB5.out).append_str 36 (bA (putL q)) HP.out (by rw [bts_len, bA_size]; have := HLL.out; have := putL_le q HQ.out; omega) (Nat.le_trans HGO.out HB5.out.size)
      obtain ⟨A1, n1, c1, rfl⟩ := hn_.form
      have HG6 := Aside0.mk hg_
      have HO6 := Aside0.mk ho_
      have HN6 := Aside0.mk (show BN w6 (go + 1) (.slice A1 n1 c1) (bts (l2 ++ putL q)) by rw [bts_append]; exact hn_)
      clear hn_ hg_ ho_
      refine value_ (w1 := w6) (v := .slice A1 n1 c1) (by rfl) rfl (H.exec_append (.tmp 11) (.tmp 13) 36 9 (by rfl) (by rfl) (by rfl) hr_) ?_
      try clear hHeld
      refine hK.out _ _ ?_
      clear hK K
      refine norm_ (a' := ?_) ?_ ?_
      rotate_left
      · show Act.put _ (some 14) _ = _
        simp only [Act.put, List.setIfInBounds_toArray, List.set_cons_zero, List.set_cons_succ, i64_w, i32_w]
        rfl
      -- 4: Op.store 36 t1 t14
      refine last_ (i := 4) (N := none) #[true, true, true, true, true] rfl rfl (by kernel_rfl) (by decide) (fun K hK => ?_)
      have hc_ : w6.cell? ⟨go, 0, none⟩ = some v0 := (blk_cell (blk_grown (blk_below X0.out HB5.out) HG6.out (BN.ne (BN.below HN.out HB5.out) (blk_below X0.out HB5.out) (by decide)).symm) 0).trans rfl
      have hf_ := blk_frozen (blk_grown (blk_below X0.out HB5.out) HG6.out (BN.ne (BN.below HN.out HB5.out) (blk_below X0.out HB5.out) (by decide)).symm) 0
      refine skip_ (w1 := w6.setCell ⟨go, 0, none⟩ (.slice A1 n1 c1)) (by rfl) rfl (by go_simp) ?_
      clear hc_ hf_
      try clear hHeld
      refine hK.out _ _ ?_
      clear hK K
      refine done_ (by kernel_rfl) ?_
      have ST := out_step X0.out HN.out HB5.out HN6.out HG6.out
      have HOn := Aside0.mk ST.1
      have HKn := Aside0.mk (HKr.out.trans ST.2)
      clear ST
      generalize w6.setCell ⟨go, 0, none⟩ (.slice A1 n1 c1) = w7 at *
      clear hc0 hcv hcv2 hcv3
      go_wp2_with fail
      try rw [ew]
      clear ew
      go_roundg k'
      case measure => omega
      case rel => exact ⟨k + 1, rfl, ⟨by have := HK.out; omega⟩, ⟨by rw [TS.out, putsL_append, ← List.append_assoc, ← HL2.out, show putsL [(q : Int)] = putL q from by rw [putsL, putsL, List.append_nil, Int.toNat_natCast]]; exact HOn.out⟩, HKn⟩
end Go.Proofs.Ytkjepfofiegcdaa.V
