import Derived.Test.YtkjepfofiegcdaaVP0
import Derived.Test.YtkjepfofiegcdaaVM1Y
import Derived.Test.YtkjepfofiegcdaaHBytes
import Derived.Test.YtkjepfofiegcdaaVM2Y
import Derived.Test.YtkjepfofiegcdaaVM3Y
import Derived.Test.YtkjepfofiegcdaaVJ1Y
/- A variable that holds a row of bytes which is appended to, and the closure of edit.Encode that appends numbers to it (111), walked. -/
namespace Go.Proofs.Ytkjepfofiegcdaa.V
set_option linter.unusedVariables false
set_option linter.unusedSimpArgs false
open Go.RowKit Go.Proofs.YtkjepfofiegcdaaW.PrintWords Go.Proofs.YtkjepfofiegcdaaW.PrintLast Go.Proofs.YtkjepfofiegcdaaW.PrintMore Go.Proofs.Ytkjepfofiegcdaa.PB14
open H (putL)
/-- Bytes of a list, as numbers. -/
def bts (l : List UInt8) : List Int := bytesOf (bA l)
theorem bts_append (a b : List UInt8) : bts (a ++ b) = bts a ++ bts b := by
  unfold bts bytesOf
  rw [bA_list, bA_list, bA_list, List.map_append]
theorem bts_len (a : List UInt8) : (bts a).length = a.length := by
  unfold bts
  rw [bytesOf_length, bA_size]
theorem bts_str (a : List UInt8) : strOfNums (bts a) = bA a := by
  unfold bts
  rw [str_bA, bytesOf_back, bA_list]
/-- A row of bytes, or none yet. -/
def BN (w : World) (base : Nat) (v : Value) (xs : List Int) : Prop := (v = .slice none 0 0 ∧ xs = []) ∨ H.BRow w base 5 v xs
theorem BN.kept {w w1 : World} {base : Nat} {v : Value} {xs : List Int} (h : BN w base v xs) (hk : ∀ g, v.ownBlock = some g → w1.heap[g]? = w.heap[g]?) : BN w1 base v xs := h.imp_right fun h => h.kept hk
theorem BN.lt {w : World} {base : Nat} {v : Value} {xs : List Int} (h : BN w base v xs) (g : Nat) (hv : v.ownBlock = some g) : g < w.heap.size := by
  rcases h with ⟨rfl, _⟩ | h
  · simp [Value.ownBlock] at hv
  · exact h.lt g hv
theorem BN.below {w w1 : World} {base : Nat} {v : Value} {xs : List Int} (h : BN w base v xs) (hb : Below w.heap.size w w1) : BN w1 base v xs := h.kept fun g hg => hb.block g (h.lt g hg)
theorem BN.own_ge {w : World} {base : Nat} {v : Value} {xs : List Int} (h : BN w base v xs) (g : Nat) (hv : v.ownBlock = some g) : base ≤ g := by
  rcases h with ⟨rfl, _⟩ | h
  · simp [Value.ownBlock] at hv
  · exact h.own_ge g hv
theorem BN.ne {w : World} {base : Nat} {v : Value} {xs : List Int} (h : BN w base v xs) {g : Nat} {cs : Array Value} {t : TypeId} (hg : w.heap[g]? = some (.cells cs t (0, 0))) (hne : 5 ≠ t) : v.ownBlock ≠ some g := by
  rcases h with ⟨rfl, _⟩ | h
  · simp [Value.ownBlock]
  · exact h.ne hg hne
theorem nil_str (w : World) (base : Nat) (ty : TypeId) (y : ByteArray) (h0 : 0 < y.size) (hl : y.size ≤ 140737488355328) (hbase : base ≤ w.heap.size) :
    ∃ v' w', (Builtin.append_ #[36, 9] ty #[.slice none 0 0, .string y]).run Try.prog w = .ok v' w' ∧ BN w' base v' (bytesOf y) ∧ w.grownBy w' none ∧ v'.ownBlock = some w.heap.size := by
  obtain ⟨i, hi, hz0, hz1, hz2⟩ := info_parts info5
  have hr := run_append_nil_string (P := Try.prog) (w := w) 36 9 ty 5 i (.int .u8 0) Try.underlying36 Try.underlying9 hi hz0 y h0 (by omega) (by rw [hz2]; omega)
  refine ⟨_, _, hr, .inr ?_, ⟨rfl, rfl, rfl, by simp, fun k hk _ => Below.heap_alloc w.drew _ k hk⟩, rfl⟩
  have hge := grownCap_ge w y.size 0 5
  refine ⟨w.heap.size, _, _, _, by rw [bytesOf_length], hbase, heap_alloc_new w.drew _, .inl rfl, by rw [bytesOf_length]; exact hge, grownCap_le_maxLen _ _ _ _ (by simp only [maxLen]; omega), ?_, ?_⟩
  · simp only [Array.size_append, Array.size_map, size_zeroCells, show (Value.int IntKind.u8 0).cells.size = 1 from rfl]
    have h2 : y.data.size = y.size := rfl
    omega
  · rw [bytesOf_length]
    simp only [Array.toList_append, Array.toList_map]
    rw [List.take_left' (by simp)]
    simp [YtkjepfofiegcdaaW.PrintWords.nums, bytesOf]
theorem BN.append_str {w : World} {base : Nat} {v : Value} {xs : List Int} (h : BN w base v xs) (ty : TypeId) (y : ByteArray) (h0 : 0 < y.size) (hl : xs.length + y.size ≤ 140737488355328) (hbase : base ≤ w.heap.size) :
    ∃ v' w', (Builtin.append_ #[36, 9] ty #[v, .string y]).run Try.prog w = .ok v' w' ∧ BN w' base v' (xs ++ bytesOf y) ∧ w.grownBy w' v.ownBlock ∧ (v'.ownBlock = v.ownBlock ∨ v'.ownBlock = some w.heap.size) := by
  rcases h with ⟨rfl, rfl⟩ | h
  · obtain ⟨v', w', a, b, c, d⟩ := nil_str w base ty y h0 (by simpa using hl) hbase
    exact ⟨v', w', a, b, c, .inr d⟩
  · obtain ⟨v', w', a, b, c, d⟩ := h.append_str_i (P := Try.prog) 36 9 ty Try.underlying36 Try.underlying9 info5 y hl hbase
    exact ⟨v', w', a, .inr b, c, d⟩
/-- What an appending leaves as it was: all below, and every plain block that holds no bytes, but the variable's own. -/
def OutK (go : Nat) (w w' : World) : Prop := Below go w w' ∧ ∀ g cs t, t ≠ 5 → g ≠ go → w.heap[g]? = some (.cells cs t (0, 0)) → w'.heap[g]? = some (.cells cs t (0, 0))
theorem OutK.refl (go : Nat) (w : World) : OutK go w w := ⟨Below.refl _ _, fun _ _ _ _ _ h => h⟩
theorem OutK.trans {go : Nat} {w w1 w2 : World} (h : OutK go w w1) (h2 : OutK go w1 w2) : OutK go w w2 := ⟨h.1.trans h2.1, fun g cs t ht hg hh => h2.2 g cs t ht hg (h.2 g cs t ht hg hh)⟩
theorem OutK.of_below {go : Nat} {w w' : World} (h : Below w.heap.size w w') (hg : go ≤ w.heap.size) : OutK go w w' := ⟨h.mono hg, fun g cs t _ _ hh => blk_below hh h⟩
/-- The variable's bytes. -/
def OUT (w : World) (go : Nat) (l : List UInt8) : Prop := ∃ v, w.heap[go]? = some (.cells #[v] 36 (0, 0)) ∧ BN w (go + 1) v (bts l)
theorem OUT.below {w w' : World} {go : Nat} {l : List UInt8} (h : OUT w go l) (hb : Below w.heap.size w w') : OUT w' go l := by
  obtain ⟨v, h1, h2⟩ := h
  exact ⟨v, blk_below h1 hb, h2.below hb⟩
theorem OUT.lt {w : World} {go : Nat} {l : List UInt8} (h : OUT w go l) : go < w.heap.size := by
  obtain ⟨v, h1, h2⟩ := h
  exact blk_lt h1
/-- The bytes of numbers. -/
def putsL : List Int → List UInt8
  | [] => []
  | n :: r => putL n.toNat ++ putsL r
theorem putsL_append (a b : List Int) : putsL (a ++ b) = putsL a ++ putsL b := by
  induction a with
  | nil => rfl
  | cons n r ih => rw [List.cons_append, putsL, putsL, ih, List.append_assoc]
theorem putsL_len : ∀ l : List Int, (∀ n, n ∈ l → 0 ≤ n ∧ n < 18446744073709551616) → (putsL l).length ≤ 10 * l.length
  | [], _ => by simp [putsL]
  | n :: r, h => by
    have h1 := putsL_len r fun n hn => h n (List.mem_cons_of_mem _ hn)
    have h2 := h n (List.mem_cons_self ..)
    have h3 := putL_le n.toNat (nat_u h2.1 h2.2)
    rw [putsL, List.length_append, List.length_cons]
    omega
theorem BN.form {w : World} {base : Nat} {v : Value} {xs : List Int} (h : BN w base v xs) : ∃ A n c, v = .slice A n c := by
  rcases h with ⟨rfl, _⟩ | ⟨g, cap, cur, fz, rfl, _⟩
  · exact ⟨_, _, _, rfl⟩
  · exact ⟨_, _, _, rfl⟩
theorem putL_pos (n : Nat) : 0 < (putL n).length := by
  rcases Nat.lt_or_ge n 128 with h | h
  · rw [H.putL_small n h]; simp
  · rw [H.putL_big n (by omega)]; simp
theorem out_step {wr w5 w6 : World} {go : Nat} {l m : List UInt8} {v0 v1 : Value} (h0 : wr.heap[go]? = some (.cells #[v0] 36 (0, 0))) (hB0 : BN wr (go + 1) v0 (bts l)) (hb : Below wr.heap.size wr w5) (h1 : BN w6 (go + 1) v1 (bts (l ++ m))) (hg : w5.grownBy w6 v0.ownBlock) :
    OUT (w6.setCell ⟨go, 0, none⟩ v1) go (l ++ m) ∧ OutK go wr (w6.setCell ⟨go, 0, none⟩ v1) := by
  have hgo : go < wr.heap.size := blk_lt h0
  have hB5 := hB0.below hb
  have h5 := blk_below h0 hb
  have h6 := blk_grown h5 hg (hB5.ne h5 (by decide)).symm
  refine ⟨⟨v1, one_setCell h6, h1.kept fun g hg2 => Below.heap_setCell w6 ⟨go, 0, none⟩ v1 g (by have := h1.own_ge g hg2; simp only; omega)⟩, ?_, fun g cs t ht hne hh => ?_⟩
  · have hbg : Below go wr w5 := hb.mono (by omega)
    exact (pw_below_grown hbg v0.ownBlock (by have := hb.size; omega) hg (fun b hb2 => by have := hB5.own_ge b hb2; omega)).setCell (Nat.le_refl _) v1
  · have g5 := blk_below hh hb
    exact blk_far (blk_grown g5 hg (hB5.ne g5 (fun e => ht e.symm)).symm) hne v1
set_option maxHeartbeats 8000000 in
set_option maxRecDepth 100000 in
theorem put111_calls (w : World) (go gv c : Nat) (l : List UInt8) (ns : List Int) (cs : Array Value) (hO : OUT w go l) (hV : w.heap[gv]? = some (.cells cs 22 (0, 0))) (hne : gv ≠ go) (hcs : ∀ j, j < ns.length → cs[j]? = some (.int .u64 (ns.getD j 0))) (hr : ∀ n, n ∈ ns → 0 ≤ n ∧ n < 18446744073709551616) (hl : l.length + 10 * ns.length ≤ 1000000000) :
    Calls Try.prog 111 #[.slice (some ⟨gv, 0, none⟩) ns.length c, .pointer (some ⟨go, 0, none⟩)] w fun e w' => (∃ v, e = .returned v) ∧ OUT w' go (l ++ putsL ns) ∧ OutK go w w' := by
  have HO := Aside0.mk hO
  have HV := Aside0.mk hV
  have HNE := Aside0.mk hne
  have HCS := Aside0.mk hcs
  have HRG := Aside0.mk hr
  have HL := Aside0.mk hl
  clear hO hV hne hcs hr hl
  go_enter Try.func111, Try.ntmps111
  go_wp2_with fail
  go_loopg [7] ns.length (fun kq v7 w' => ∃ k : Nat, v7 = .int .i64 (k : Int) ∧ Aside0 (kq + k = ns.length) ∧ Aside0 (OUT w' go (l ++ putsL (ns.take k))) ∧ Aside0 (OutK go w w'))
  case atStart => exact ⟨0, rfl, ⟨by omega⟩, ⟨by rw [List.take_zero, putsL, List.append_nil]; exact HO.out⟩, ⟨OutK.refl _ _⟩⟩
  case round =>
    obtain ⟨k, rfl, HK, HOr, HKr⟩ := hrel
    cases gk with
    | zero =>
      have ek : k = ns.length := by have := HK.out; omega
      subst ek
      have d0 : decide ((ns.length : Int) < (ns.length : Int)) = false := by simp
      rw [List.take_length] at HOr
      go_wp2_with fail
      exact bodyPost_end (v := .tuple #[]) (by kernel_rfl) rfl ⟨⟨_, rfl⟩, HOr.out, HKr.out⟩
    | succ k' =>
      have hk : k < ns.length := by have := HK.out; omega
      have HM := Aside0.mk (show ns.length ≤ 1000000000 by have := HL.out; omega)
      have d0 : decide ((k : Int) < (ns.length : Int)) = true := decide_eq_true (by omega)
      have d1 : decide (k < ns.length) = true := decide_eq_true hk
      have p0 : 0 ≤ (k : Int) := Int.natCast_nonneg _
      have p1 : (k : Int) < (ns.length : Int) := by omega
      have XV := Aside0.mk (HKr.out.2 gv cs 22 (by decide) HNE.out HV.out)
      have hrn := HRG.out (ns.getD k 0) (getD_mem ns 0 hk)
      have hcn := HCS.out k hk
      have TS := Aside0.mk (take_snoc ns 0 hk)
      obtain ⟨n, hn⟩ : ∃ n, n = ns.getD k 0 := ⟨_, rfl⟩
      rw [← hn] at hrn hcn TS
      clear hn
      obtain ⟨q, rfl⟩ : ∃ q : Nat, n = (q : Int) := ⟨n.toNat, by omega⟩
      have hcv : wr.cell? ⟨gv, 0 + k, none⟩ = some (.int .u64 (q : Int)) := by rw [Nat.zero_add]; exact (blk_cell XV.out k).trans hcn
      have hcv3 : wr.cell? ⟨gv, k, none⟩ = some (.int .u64 (q : Int)) := (blk_cell XV.out k).trans hcn
      have hcv2 : wr.cell? ((⟨gv, 0, none⟩ : Addr).add k) = some (.int .u64 (q : Int)) := by rw [add_plain]; exact (blk_cell XV.out k).trans hcn
      have HQ := Aside0.mk (show q < 2 ^ 64 by have := hrn.2; omega)
      have HP := Aside0.mk (show 0 < (bA (putL q)).size by rw [bA_size]; exact putL_pos q)
      obtain ⟨v0, x0, n0⟩ := HOr.out
      have X0 := Aside0.mk x0
      have HN := Aside0.mk n0
      have hc0 : wr.cell? ⟨go, 0, none⟩ = some v0 := (blk_cell x0 0).trans rfl
      have HGO := Aside0.mk (show go + 1 ≤ wr.heap.size from blk_lt x0)
      have HTK := Aside0.mk (putsL_len (ns.take k) (fun n hn => HRG.out n (List.mem_of_mem_take hn)))
      have ew : wrap64 ((k : Int) + 1) = ((k + 1 : Nat) : Int) := by have h1 := HM.out; unfold wrap64; omega
      obtain ⟨l2, hl2⟩ : ∃ l2, l2 = l ++ putsL (ns.take k) := ⟨_, rfl⟩
      rw [← hl2] at HN
      have HL2 := Aside0.mk hl2
      have HLL := Aside0.mk (show l2.length ≤ 1000000000 by
        have h1 := HTK.out; have h2 := HL.out
        rw [hl2, List.length_append]; rw [List.length_take] at h1; omega)
      have KL := Aside0.mk hk
      clear hk hl2 x0 n0 hcn hrn
      go_upto_region 3 with (fail)
      refine start_ (n := 5) (S := (fun w' => Below wr.heap.size wr w' ∧ w'.cell? ⟨go, 0, none⟩ = some v0)) (ds := [3, 4]) #[false, false, false, false, false] (by kernel_rfl) rfl rfl ⟨below_drew (Below.refl _ _), hc0⟩ (fun hHeld => ?_)
      refine take_ (i := 0) (N := (some 11)) (v := ?_) (a' := ?_) #[true, false, false, false, false] rfl rfl (by kernel_rfl) (fun _ _ _ h => h) (Or.inl ⟨by rfl, ?_⟩) hHeld ?_ ?_
      rotate_left
      · rintro w' ⟨s0, s1⟩
        go_simp
        with_reducible rfl
      rotate_left
      · simp only [Act.put, List.setIfInBounds_toArray, List.set_cons_zero, List.set_cons_succ, i64_w, i32_w]
        rfl
      refine pure_ (i := 1) (N := (some 12)) (v := ?_) (a' := ?_) #[true, true, false, false, false] rfl rfl (by kernel_rfl) (fun _ _ _ h => h) (Or.inl ⟨by rfl, ?_⟩) ?_ ?_
      rotate_left
      · intro w'
        go_simp
        with_reducible rfl
      rotate_left
      · simp only [Act.put, List.setIfInBounds_toArray, List.set_cons_zero, List.set_cons_succ, i64_w, i32_w]
        rfl
      refine one_ (i := 2) (N := (some 13)) #[true, true, true, false, false] rfl rfl (by kernel_rfl) (by decide) (fun K hK => ?_)
      refine goes_ Try.func112 (by kernel_rfl) rfl #[.int .u64 (q : Int)] (by rfl) rfl rfl (by (try simp only [List.map_toArray, List.map_cons, List.map_nil]); first | done | rfl) ?_
      (with_reducible refine (putUint_calls _ q HQ.out).mono ?_)
      rintro e w5 ⟨rfl, hb⟩
      refine ⟨_, rfl, ?_⟩
      have hOld := hHeld
      clear hHeld
      refine hK.out _ _ (⟨below_step hOld.1 hb, pw_cell_below hb hOld.2⟩) (fun hHeld => ?_)
      clear hOld hK K
      refine norm_ (a' := ?_) ?_ ?_
      rotate_left
      · show Act.put _ (some 13) _ = _
        simp only [Act.put, List.setIfInBounds_toArray, List.set_cons_zero, List.set_cons_succ, i64_w, i32_w]
        rfl
      have HB5 := Aside0.mk hHeld.1
      refine last_ (i := 3) (N := (some 14)) #[true, true, true, true, false] rfl rfl (by kernel_rfl) (by decide) (fun K hK => ?_)
      obtain ⟨v1, w6, hr_, hn_, hg_, ho_⟩ := (BN.below HN.out HB5.out).append_str 36 (bA (putL q)) HP.out (by rw [bts_len, bA_size]; have := HLL.out; have := putL_le q HQ.out; omega) (Nat.le_trans HGO.out HB5.out.size)
      obtain ⟨A1, n1, c1, rfl⟩ := hn_.form
      have HG6 := Aside0.mk hg_
      have HO6 := Aside0.mk ho_
      have HN6 := Aside0.mk (show BN w6 (go + 1) (.slice A1 n1 c1) (bts (l2 ++ putL q)) by rw [bts_append]; exact hn_)
      clear hn_ hg_ ho_
      refine value_ (w1 := w6) (v := .slice A1 n1 c1) (by rfl) rfl (H.exec_append (.tmp 11) (.tmp 13) 36 9 (by rfl) (by rfl) (by rfl) hr_) ?_
      try clear hHeld
      refine hK.out _ _ ?_
      clear hK K
      refine norm_ (a' := ?_) ?_ ?_
      rotate_left
      · show Act.put _ (some 14) _ = _
        simp only [Act.put, List.setIfInBounds_toArray, List.set_cons_zero, List.set_cons_succ, i64_w, i32_w]
        rfl
      refine last_ (i := 4) (N := none) #[true, true, true, true, true] rfl rfl (by kernel_rfl) (by decide) (fun K hK => ?_)
      have hc_ : w6.cell? ⟨go, 0, none⟩ = some v0 := (blk_cell (blk_grown (blk_below X0.out HB5.out) HG6.out (BN.ne (BN.below HN.out HB5.out) (blk_below X0.out HB5.out) (by decide)).symm) 0).trans rfl
      have hf_ := blk_frozen (blk_grown (blk_below X0.out HB5.out) HG6.out (BN.ne (BN.below HN.out HB5.out) (blk_below X0.out HB5.out) (by decide)).symm) 0
      refine skip_ (w1 := w6.setCell ⟨go, 0, none⟩ (.slice A1 n1 c1)) (by rfl) rfl (by go_simp) ?_
      clear hc_ hf_
      try clear hHeld
      refine hK.out _ _ ?_
      clear hK K
      refine done_ (by kernel_rfl) ?_
      have ST := out_step X0.out HN.out HB5.out HN6.out HG6.out
      have HOn := Aside0.mk ST.1
      have HKn := Aside0.mk (HKr.out.trans ST.2)
      clear ST
      generalize w6.setCell ⟨go, 0, none⟩ (.slice A1 n1 c1) = w7 at *
      clear hc0 hcv hcv2 hcv3
      go_wp2_with fail
      try rw [ew]
      clear ew
      go_roundg k'
      case measure => omega
      case rel => exact ⟨k + 1, rfl, ⟨by have := HK.out; omega⟩, ⟨by rw [TS.out, putsL_append, ← List.append_assoc, ← HL2.out, show putsL [(q : Int)] = putL q from by rw [putsL, putsL, List.append_nil, Int.toNat_natCast]]; exact HOn.out⟩, HKn⟩
end Go.Proofs.Ytkjepfofiegcdaa.V
/- edit.Encode (57), walked: what it writes. Conditions: the numbers are such as the machine has. -/
namespace Go.Proofs.Ytkjepfofiegcdaa.V
set_option linter.unusedVariables false
set_option linter.unusedSimpArgs false
open Go.RowKit Go.Proofs.YtkjepfofiegcdaaW.PrintWords Go.Proofs.YtkjepfofiegcdaaW.PrintLast Go.Proofs.YtkjepfofiegcdaaW.PrintMore Go.Proofs.Ytkjepfofiegcdaa.PB14
open H (putL)
/-- The bytes of a table that goes, of one that comes, and of an edit. -/
def gBy (x : S84) : List UInt8 := putsL [x.f0, x.f1]
def gBys : List S84 → List UInt8
  | [] => []
  | x :: r => gBy x ++ gBys r
def aBy1 (x : S82) : List UInt8 := putsL [x.f0, x.f1.f0, x.f1.f1, x.f1.f2]
def aBy2 (x : S82) : List UInt8 := fieldL x.f1.f3 ++ fieldL x.f1.f4
def aBy3 (x : S82) : List UInt8 := putsL [x.f1.f5, x.f1.f6]
def aBy (x : S82) : List UInt8 := aBy1 x ++ aBy2 x ++ aBy3 x
def aBys : List S82 → List UInt8
  | [] => []
  | x :: r => aBy x ++ aBys r
theorem gBys_append (a b : List S84) : gBys (a ++ b) = gBys a ++ gBys b := by
  induction a with
  | nil => rfl
  | cons n r ih => rw [List.cons_append, gBys, gBys, ih, List.append_assoc]
theorem aBys_append (a b : List S82) : aBys (a ++ b) = aBys a ++ aBys b := by
  induction a with
  | nil => rfl
  | cons n r ih => rw [List.cons_append, aBys, aBys, ih, List.append_assoc]
def encB (e : Edt) : List UInt8 := putsL [e.log, e.next, e.seq, (e.gone.length : Int)] ++ gBys e.gone ++ putsL [(e.added.length : Int)] ++ aBys e.added
/-- What Encode answers. -/
def encV (e : Edt) : ByteArray × Int := if listedP e then (if 256 < e.gone.length ∨ 256 < e.added.length then (⟨#[]⟩, 3) else (bA (encB e), 0)) else (⟨#[]⟩, 2)
def U64 (n : Int) : Prop := 0 ≤ n ∧ n < 18446744073709551616
/-- An edit's numbers are such as the machine has. -/
def EU (e : Edt) : Prop := (U64 e.log ∧ U64 e.next ∧ U64 e.seq) ∧ ∀ x, x ∈ e.gone → U64 x.f1
theorem U64.wrap {n : Int} (h : U64 n) : IntKind.u64.wrap n = n := wrap_u h.1 h.2
theorem gBy_len {x : S84} (h0 : U64 x.f0) (h1 : U64 x.f1) : (gBy x).length ≤ 20 := putsL_len [x.f0, x.f1] (fun n hn => by
  simp at hn
  rcases hn with rfl | rfl
  · exact h0
  · exact h1)
theorem gBys_len : ∀ l : List S84, (∀ x, x ∈ l → U64 x.f0 ∧ U64 x.f1) → (gBys l).length ≤ 20 * l.length
  | [], _ => by simp [gBys]
  | x :: r, h => by
    have h1 := gBys_len r fun n hn => h n (List.mem_cons_of_mem _ hn)
    have h2 := h x (List.mem_cons_self ..)
    have h3 := gBy_len h2.1 h2.2
    rw [gBys, List.length_append, List.length_cons]
    omega
theorem add_nums {x : S82} (h : addOk x) : U64 x.f0 ∧ U64 x.f1.f0 ∧ U64 x.f1.f1 ∧ U64 x.f1.f2 ∧ U64 x.f1.f5 ∧ U64 x.f1.f6 ∧ x.f1.f3.size ≤ 520 ∧ x.f1.f4.size ≤ 520 := by
  obtain ⟨⟨a0, a1⟩, b0, b1, b2, b3, b4, b5, b6, b7, b8, b9, b10, b11, b12⟩ := h
  refine ⟨⟨a0, by omega⟩, ⟨by omega, by omega⟩, ⟨by omega, by omega⟩, ⟨by omega, by omega⟩, ⟨by omega, by omega⟩, ⟨by omega, by omega⟩, by omega, by omega⟩
theorem puts4 {a b c d : Int} (h : U64 a ∧ U64 b ∧ U64 c ∧ U64 d) : ∀ n, n ∈ [a, b, c, d] → 0 ≤ n ∧ n < 18446744073709551616 := by
  intro n hn; simp at hn; rcases hn with rfl | rfl | rfl | rfl
  · exact h.1
  · exact h.2.1
  · exact h.2.2.1
  · exact h.2.2.2
theorem puts2 {a b : Int} (h : U64 a ∧ U64 b) : ∀ n, n ∈ [a, b] → 0 ≤ n ∧ n < 18446744073709551616 := by
  intro n hn; simp at hn; rcases hn with rfl | rfl
  · exact h.1
  · exact h.2
theorem puts1 {a : Int} (h : U64 a) : ∀ n, n ∈ [a] → 0 ≤ n ∧ n < 18446744073709551616 := by
  intro n hn; simp at hn; subst hn; exact h
theorem aBy_len {x : S82} (h : addOk x) : (aBy1 x).length ≤ 40 ∧ (aBy2 x).length ≤ 1060 ∧ (aBy3 x).length ≤ 20 := by
  obtain ⟨h0, h1, h2, h3, h5, h6, h7, h8⟩ := add_nums h
  have l1 := fieldL_len x.f1.f3 (by omega)
  have l2 := fieldL_len x.f1.f4 (by omega)
  refine ⟨putsL_len [x.f0, x.f1.f0, x.f1.f1, x.f1.f2] (puts4 ⟨h0, h1, h2, h3⟩), ?_, putsL_len [x.f1.f5, x.f1.f6] (puts2 ⟨h5, h6⟩)⟩
  unfold aBy2
  rw [List.length_append]
  omega
theorem aBys_len : ∀ l : List S82, (∀ x, x ∈ l → addOk x) → (aBys l).length ≤ 1120 * l.length
  | [], _ => by simp [aBys]
  | x :: r, h => by
    have h1 := aBys_len r fun n hn => h n (List.mem_cons_of_mem _ hn)
    have h2 := aBy_len (h x (List.mem_cons_self ..))
    rw [aBys, aBy, List.length_append, List.length_append, List.length_append, List.length_cons]
    omega
theorem put111n (w : World) (go gv c n : Nat) (l : List UInt8) (ns : List Int) (cs : Array Value) (hn : ns.length = n) (hO : OUT w go l) (hV : w.heap[gv]? = some (.cells cs 22 (0, 0))) (hne : gv ≠ go) (hcs : ∀ j, j < ns.length → cs[j]? = some (.int .u64 (ns.getD j 0))) (hr : ∀ n, n ∈ ns → 0 ≤ n ∧ n < 18446744073709551616) (hl : l.length ≤ 900000000) (hl2 : n ≤ 4) :
    Calls Try.prog 111 #[.slice (some ⟨gv, 0, none⟩) n c, .pointer (some ⟨go, 0, none⟩)] w fun e w' => (∃ v, e = .returned v) ∧ OUT w' go (l ++ putsL ns) ∧ OutK go w w' := by
  subst hn
  exact put111_calls w go gv c l ns cs hO hV hne hcs hr (by omega)
theorem cs4 {a b c d : Int} : ∀ j, j < [a, b, c, d].length → #[Value.int .u64 a, .int .u64 b, .int .u64 c, .int .u64 d][j]? = some (.int .u64 ([a, b, c, d].getD j 0)) := by
  intro j hj
  rcases j with _ | _ | _ | _ | j
  · rfl
  · rfl
  · rfl
  · rfl
  · simp only [List.length_cons, List.length_nil] at hj; omega
theorem cs2 {a b : Int} : ∀ j, j < [a, b].length → #[Value.int .u64 a, .int .u64 b][j]? = some (.int .u64 ([a, b].getD j 0)) := by
  intro j hj
  rcases j with _ | _ | j
  · rfl
  · rfl
  · simp only [List.length_cons, List.length_nil] at hj; omega
theorem cs1 {a : Int} : ∀ j, j < [a].length → #[Value.int .u64 a][j]? = some (.int .u64 ([a].getD j 0)) := by
  intro j hj
  rcases j with _ | j
  · rfl
  · simp only [List.length_cons, List.length_nil] at hj; omega
theorem new_row {w : World} {go : Nat} {l : List UInt8} (h : OUT w go l) (cs : Array Value) (t : TypeId) : OUT (w.alloc (.cells cs t)) go l ∧ OutK go w (w.alloc (.cells cs t)) ∧ w.heap.size ≠ go := by
  have hb : Below w.heap.size w (w.alloc (.cells cs t)) := below_alloc (Below.refl _ w) _
  exact ⟨h.below hb, OutK.of_below hb (Nat.le_of_lt h.lt), by have := h.lt; omega⟩
end Go.Proofs.Ytkjepfofiegcdaa.V
/- edit.Encode (57), walked: what it writes. Conditions: the numbers are such as the machine has. -/
namespace Go.Proofs.Ytkjepfofiegcdaa.V
set_option linter.unusedVariables false
set_option linter.unusedSimpArgs false
open Go.RowKit Go.Proofs.YtkjepfofiegcdaaW.PrintWords Go.Proofs.YtkjepfofiegcdaaW.PrintLast Go.Proofs.YtkjepfofiegcdaaW.PrintMore Go.Proofs.Ytkjepfofiegcdaa.PB14
open H (putL)
theorem len_ak {l2 : List UInt8} {l : List S82} {k : Nat} (h1 : l2.length ≤ 6000) (h2 : (aBys (l.take k)).length ≤ 1120 * (l.take k).length) (h3 : l.length ≤ 256) : (l2 ++ aBys (l.take k)).length ≤ 400000 := by
  have h4 : (l.take k).length ≤ l.length := List.length_take_le' k l
  rw [List.length_append]
  omega
theorem len_gk {l2 : List UInt8} {l : List S84} {k : Nat} (h1 : l2.length ≤ 40) (h2 : (gBys (l.take k)).length ≤ 20 * (l.take k).length) (h3 : l.length ≤ 256) : (l2 ++ gBys (l.take k)).length ≤ 6000 := by
  have h4 : (l.take k).length ≤ l.length := List.length_take_le' k l
  rw [List.length_append]
  omega
theorem ret_si {s t : ByteArray} {a b : Int} (h : (s, a) = (t, b)) : Ending.returned (.tuple #[.string t, .int .i64 b]) = .returned (.tuple #[.string s, .int .i64 a]) := by
  injection h with h1 h2
  rw [h1, h2]
set_option maxHeartbeats 8000000 in
set_option maxRecDepth 100000 in
theorem encode_calls (w : World) (e : Edt) (A1 A2 : Option Addr) (c1 c2 : Nat) (h1 : k84.C w A1 e.gone.length e.gone) (h2 : k82.C w A2 e.added.length e.added) (hu : EU e) :
    Calls Try.prog 57 #[.agg (eCs e A1 c1 A2 c2)] w fun x w' => x = .returned (.tuple #[.string (encV e).1, .int .i64 (encV e).2]) ∧ Below w.heap.size w w' := by
  have H1 := Aside0.mk h1
  have H2 := Aside0.mk h2
  have HU := Aside0.mk hu
  have HB := Aside0.mk ((Below.refl w.heap.size w).alloc (Nat.le_refl _) (.cells (eCs e A1 c1 A2 c2) 70))
  have X1 := Aside0.mk (blk_new w (.cells (eCs e A1 c1 A2 c2) 70))
  clear h1 h2 hu
  obtain ⟨r1, r2, hr⟩ : ∃ r1 r2, (r1, r2) = encV e := ⟨_, _, rfl⟩
  rw [show (encV e).1 = r1 by rw [← hr], show (encV e).2 = r2 by rw [← hr]]
  have HRR := Aside0.mk hr
  clear hr
  go_enter Try.func57, Try.ntmps57
  go_upto_region 1 with (fail)
  generalize w.alloc (.cells (eCs e A1 c1 A2 c2) 70) = w1 at *
  have b0 : w1.cell? ⟨w.heap.size, 0, none⟩ = some (.int .u64 e.log) := (blk_cell X1.out 0).trans rfl
  have b1 : w1.cell? ⟨w.heap.size, 1, none⟩ = some (.int .u64 e.next) := (blk_cell X1.out 1).trans rfl
  have b2 : w1.cell? ⟨w.heap.size, 2, none⟩ = some (.int .u64 e.seq) := (blk_cell X1.out 2).trans rfl
  have b3 : w1.cell? ⟨w.heap.size, 3, none⟩ = some (.slice A1 e.gone.length c1) := (blk_cell X1.out 3).trans rfl
  have b4 : w1.cell? ⟨w.heap.size, 4, none⟩ = some (.slice A2 e.added.length c2) := (blk_cell X1.out 4).trans rfl
  go_wp2_with fail
  refine (listed_calls _ e A1 A2 c1 c2 (Kd.C_below H1.out HB.out) (Kd.C_below H2.out HB.out)).mono ?_
  rintro x w2 ⟨rfl, hb⟩
  have HB2 := Aside0.mk (below_step HB.out hb)
  have X2 := Aside0.mk (blk_below X1.out hb)
  clear hb b0 b1 b2 b3 b4
  have b0 : w2.cell? ⟨w.heap.size, 0, none⟩ = some (.int .u64 e.log) := (blk_cell X2.out 0).trans rfl
  have b1 : w2.cell? ⟨w.heap.size, 1, none⟩ = some (.int .u64 e.next) := (blk_cell X2.out 1).trans rfl
  have b2 : w2.cell? ⟨w.heap.size, 2, none⟩ = some (.int .u64 e.seq) := (blk_cell X2.out 2).trans rfl
  have b3 : w2.cell? ⟨w.heap.size, 3, none⟩ = some (.slice A1 e.gone.length c1) := (blk_cell X2.out 3).trans rfl
  have b4 : w2.cell? ⟨w.heap.size, 4, none⟩ = some (.slice A2 e.added.length c2) := (blk_cell X2.out 4).trans rfl
  by_cases hl : listedP e
  · rw [if_pos hl]
    have LP := Aside0.mk hl
    have M1 := Aside0.mk (show e.gone.length ≤ 9223372036854775807 from H1.out.2.1)
    have M2 := Aside0.mk (show e.added.length ≤ 9223372036854775807 from H2.out.2.1)
    clear hl
    by_cases hg : 256 < e.gone.length
    · have d0 : decide (256 < (e.gone.length : Int)) = true := decide_eq_true (by omega)
      have d1 : decide (256 < e.gone.length) = true := decide_eq_true hg
      have EV := Aside0.mk (show encV e = (⟨#[]⟩, 3) by unfold encV; rw [if_pos LP.out, if_pos (.inl hg)])
      rw [← HRR.out] at EV
      clear hg
      go_wp2_with fail
      go_ret2
      exact ⟨ret_si EV.out, HB2.out⟩
    · have d0 : decide (256 < (e.gone.length : Int)) = false := decide_eq_false (by omega)
      have d1 : decide (256 < e.gone.length) = false := decide_eq_false hg
      have G1 := Aside0.mk (show e.gone.length ≤ 256 by omega)
      by_cases hg2 : 256 < e.added.length
      · have d2 : decide (256 < (e.added.length : Int)) = true := decide_eq_true (by omega)
        have d3 : decide (256 < e.added.length) = true := decide_eq_true hg2
        have EV := Aside0.mk (show encV e = (⟨#[]⟩, 3) by unfold encV; rw [if_pos LP.out, if_pos (.inr hg2)])
        rw [← HRR.out] at EV
        clear hg hg2
        go_wp2_with fail
        go_ret2
        exact ⟨ret_si EV.out, HB2.out⟩
      · have d2 : decide (256 < (e.added.length : Int)) = false := decide_eq_false (by omega)
        have d3 : decide (256 < e.added.length) = false := decide_eq_false hg2
        have G2 := Aside0.mk (show e.added.length ≤ 256 by omega)
        have EV := Aside0.mk (show encV e = (bA (encB e), 0) by unfold encV; rw [if_pos LP.out, if_neg (by omega)])
        have wg : IntKind.u64.wrap (e.gone.length : Int) = (e.gone.length : Int) := wrap_u (by omega) (by have := M1.out; omega)
        have wa : IntKind.u64.wrap (e.added.length : Int) = (e.added.length : Int) := wrap_u (by omega) (by have := M2.out; omega)
        clear hg hg2
        go_upto_region 8 with (fail)
        have X3 := Aside0.mk (blk_alloc X2.out (.cells #[.slice none 0 0] 36))
        have HB3 := Aside0.mk (below_alloc HB2.out (.cells #[.slice none 0 0] 36))
        have O3 := Aside0.mk (show OUT (w2.alloc (.cells #[.slice none 0 0] 36)) w2.heap.size [] from ⟨_, blk_new w2 _, .inl ⟨rfl, rfl⟩⟩)
        have NG := Aside0.mk (show w.heap.size < w2.heap.size from blk_lt X2.out)
        clear HB2 X2 b0 b1 b2 b3 b4
        generalize w2.heap.size = go at *
        generalize w2.alloc (.cells #[.slice none 0 0] 36) = w3 at *
        have b0 : w3.cell? ⟨w.heap.size, 0, none⟩ = some (.int .u64 e.log) := (blk_cell X3.out 0).trans rfl
        have b1 : w3.cell? ⟨w.heap.size, 1, none⟩ = some (.int .u64 e.next) := (blk_cell X3.out 1).trans rfl
        have b2 : w3.cell? ⟨w.heap.size, 2, none⟩ = some (.int .u64 e.seq) := (blk_cell X3.out 2).trans rfl
        have b3 : w3.cell? ⟨w.heap.size, 3, none⟩ = some (.slice A1 e.gone.length c1) := (blk_cell X3.out 3).trans rfl
        have b4 : w3.cell? ⟨w.heap.size, 4, none⟩ = some (.slice A2 e.added.length c2) := (blk_cell X3.out 4).trans rfl
        go_wp2_with fail
        try rw [wg]
        have NR := new_row O3.out #[.int .u64 e.log, .int .u64 e.next, .int .u64 e.seq, .int .u64 (e.gone.length : Int)] 22
        refine (put111n _ go w3.heap.size 4 4 [] [e.log, e.next, e.seq, (e.gone.length : Int)] _ rfl NR.1 (blk_new w3 _) NR.2.2 cs4 (puts4 ⟨HU.out.1.1, HU.out.1.2.1, HU.out.1.2.2, ⟨by omega, by have := G1.out; omega⟩⟩) (by simp) (by decide)).mono ?_
        rintro x w4 ⟨⟨_, rfl⟩, ho, hk⟩
        rw [List.nil_append] at ho
        obtain ⟨l1, hl1⟩ : ∃ l1, l1 = putsL [e.log, e.next, e.seq, (e.gone.length : Int)] := ⟨_, rfl⟩
        rw [← hl1] at ho
        have LL1 := Aside0.mk (show l1.length ≤ 40 by rw [hl1]; exact putsL_len _ (puts4 ⟨HU.out.1.1, HU.out.1.2.1, HU.out.1.2.2, ⟨by omega, by have := G1.out; omega⟩⟩))
        have EL1 := Aside0.mk hl1
        have O4 := Aside0.mk ho
        have K4 := Aside0.mk (NR.2.1.trans hk)
        clear ho hk NR hl1 b0 b1 b2 b3 b4
        have X4 := Aside0.mk (K4.out.2 _ _ _ (by decide) (Nat.ne_of_lt NG.out) X3.out)
        have b3 : w4.cell? ⟨w.heap.size, 3, none⟩ = some (.slice A1 e.gone.length c1) := (blk_cell X4.out 3).trans rfl
        have b4 : w4.cell? ⟨w.heap.size, 4, none⟩ = some (.slice A2 e.added.length c2) := (blk_cell X4.out 4).trans rfl
        go_wp2_with fail
        clear b3 b4
        go_loopg [44] e.gone.length (fun kq v44 w' => ∃ k : Nat, v44 = .int .i64 (k : Int) ∧ Aside0 (kq + k = e.gone.length) ∧ Aside0 (OUT w' go (l1 ++ gBys (e.gone.take k))) ∧ Aside0 (OutK go w3 w'))
        case atStart => exact ⟨0, rfl, ⟨by omega⟩, ⟨by rw [List.take_zero, gBys, List.append_nil]; exact O4.out⟩, K4⟩
        case round =>
          clear O4 K4 X4
          obtain ⟨k, rfl, HK, HO, HKr⟩ := hrel
          have XR := Aside0.mk (HKr.out.2 _ _ _ (by decide) (Nat.ne_of_lt NG.out) X3.out)
          have HBR := Aside0.mk (HB3.out.trans (HKr.out.1.mono (Nat.le_of_lt NG.out)))
          cases gk with
          | zero =>
            have ek : k = e.gone.length := by have := HK.out; omega
            subst ek
            have d4 : decide ((e.gone.length : Int) < (e.gone.length : Int)) = false := by simp
            rw [List.take_length] at HO
            have b3 : wr.cell? ⟨w.heap.size, 3, none⟩ = some (.slice A1 e.gone.length c1) := (blk_cell XR.out 3).trans rfl
            have b4 : wr.cell? ⟨w.heap.size, 4, none⟩ = some (.slice A2 e.added.length c2) := (blk_cell XR.out 4).trans rfl
            go_wp2_with fail
            try rw [wa]
            have NR := new_row HO.out #[.int .u64 (e.added.length : Int)] 22
            refine (put111n _ go wr.heap.size 1 1 _ [(e.added.length : Int)] _ rfl NR.1 (blk_new wr _) NR.2.2 cs1 (puts1 ⟨by omega, by have := G2.out; omega⟩) (by rw [List.length_append]; have h1 := LL1.out; have h2 := gBys_len e.gone (fun y hy => ⟨⟨(LP.out.1 y hy).1, by have := (LP.out.1 y hy).2; omega⟩, HU.out.2 y hy⟩); have := G1.out; omega) (by decide)).mono ?_
            rintro x w4b ⟨⟨_, rfl⟩, ho, hk⟩
            obtain ⟨l2, hl2⟩ : ∃ l2, l2 = l1 ++ gBys e.gone ++ putsL [(e.added.length : Int)] := ⟨_, rfl⟩
            have LL2 := Aside0.mk (show l2.length ≤ 6000 by
              rw [hl2, List.length_append, List.length_append]
              have h1 := LL1.out
              have h2 := gBys_len e.gone (fun y hy => ⟨⟨(LP.out.1 y hy).1, by have := (LP.out.1 y hy).2; omega⟩, HU.out.2 y hy⟩)
              have h3 := putsL_len [(e.added.length : Int)] (puts1 ⟨by omega, by have := G2.out; omega⟩)
              have := G1.out
              simp only [List.length_cons, List.length_nil] at h3
              omega)
            rw [← hl2] at ho
            have EL2 := Aside0.mk hl2
            have O4 := Aside0.mk ho
            have K4 := Aside0.mk ((HKr.out.trans NR.2.1).trans hk)
            clear ho hk NR hl2 b3 b4 XR HBR HKr HO
            have X4 := Aside0.mk (K4.out.2 _ _ _ (by decide) (Nat.ne_of_lt NG.out) X3.out)
            have b3 : w4b.cell? ⟨w.heap.size, 3, none⟩ = some (.slice A1 e.gone.length c1) := (blk_cell X4.out 3).trans rfl
            have b4 : w4b.cell? ⟨w.heap.size, 4, none⟩ = some (.slice A2 e.added.length c2) := (blk_cell X4.out 4).trans rfl
            go_wp2_with fail
            clear b3 b4
            go_loopg [67] e.added.length (fun kq v67 w' => ∃ k : Nat, v67 = .int .i64 (k : Int) ∧ Aside0 (kq + k = e.added.length) ∧ Aside0 (OUT w' go (l2 ++ aBys (e.added.take k))) ∧ Aside0 (OutK go w3 w'))
            case atStart => exact ⟨0, rfl, ⟨by omega⟩, ⟨by rw [List.take_zero, aBys, List.append_nil]; exact O4.out⟩, K4⟩
            case round =>
              clear O4 K4 X4
              obtain ⟨k, rfl, HK, HO, HKr⟩ := hrel
              have HBR := Aside0.mk (HB3.out.trans (HKr.out.1.mono (Nat.le_of_lt NG.out)))
              cases gk with
              | zero =>
                have ek : k = e.added.length := by have := HK.out; omega
                subst ek
                have d6 : decide ((e.added.length : Int) < (e.added.length : Int)) = false := by simp
                rw [List.take_length] at HO
                obtain ⟨v0, x0, n0⟩ := HO.out
                have hc0 : wr.cell? ⟨go, 0, none⟩ = some v0 := (blk_cell x0 0).trans rfl
                have ER := Aside0.mk (show (r1, r2) = (bA (l2 ++ aBys e.added), 0) by refine (HRR.out.trans EV.out).trans ?_; congr 2; rw [EL2.out, EL1.out]; unfold encB; simp only [List.append_assoc])
                rcases n0 with ⟨rfl, hxs⟩ | hB
                · exfalso
                  have h1 := congrArg List.length hxs
                  rw [bts_len, List.length_append, EL2.out, List.length_append] at h1
                  have h2 := putL_pos ((e.added.length : Int)).toNat
                  simp only [putsL, List.length_append, List.length_nil] at h1
                  omega
                · have kc := H.BRow.to_string (P := Try.prog) (src := 36) (dst := 9) Try.underlying36 Try.underlying5 Try.underlying9 hB
                  rw [bts_str] at kc
                  go_wp2_with fail
                  go_ret2
                  exact ⟨ret_si ER.out, HBR.out⟩
              | succ q =>
                have hk : k < e.added.length := by have := HK.out; omega
                have d6 : decide ((k : Int) < (e.added.length : Int)) = true := decide_eq_true (by omega)
                have d7 : decide (k < e.added.length) = true := decide_eq_true hk
                have p0 : 0 ≤ (k : Int) := Int.natCast_nonneg _
                have p1 : (k : Int) < (e.added.length : Int) := by omega
                have CG := Kd.C_below H2.out HBR.out
                obtain ⟨ad, ea, ha0, ha1, ha2, ha3, ha4, ha5, ha6, ha7⟩ := at_T82 CG (k : Int) p0 p1
                rw [Int.toNat_natCast] at ha0 ha1 ha2 ha3 ha4 ha5 ha6 ha7
                have EM := Aside0.mk (show rd_T82 e.added (k : Int) = e.added.getD k z82 by unfold rd_T82; rw [Int.toNat_natCast])
                have hmx := getD_mem e.added z82 hk
                have TS := Aside0.mk (take_snoc e.added z82 hk)
                rw [← EM.out] at hmx TS
                generalize rd_T82 e.added (k : Int) = x at *
                have hgo := LP.out.2 x hmx
                have UX := Aside0.mk (add_nums hgo)
                have UL := Aside0.mk (aBy_len hgo)
                have wx0 := UX.out.1.wrap
                have wx1 := UX.out.2.2.1.wrap
                have wx2 := UX.out.2.2.2.1.wrap
                have SZ3 := Aside0.mk UX.out.2.2.2.2.2.2.1
                have SZ4 := Aside0.mk UX.out.2.2.2.2.2.2.2
                have F3 := Aside0.mk (fieldL_len x.f1.f3 (by have := SZ3.out; omega))
                have F4 := Aside0.mk (fieldL_len x.f1.f4 (by have := SZ4.out; omega))
                have HTK := Aside0.mk (aBys_len (e.added.take k) (fun y hy => LP.out.2 y (List.mem_of_mem_take hy)))
                have ew : wrap64 ((k : Int) + 1) = ((k + 1 : Nat) : Int) := by have h1 := G2.out; unfold wrap64; omega
                have z4 : (9223372036854775807 < (bA (fieldL x.f1.f3)).size + (bA (fieldL x.f1.f4)).size) = False := eq_false (by rw [bA_size, bA_size]; have := F3.out; have := F4.out; have := SZ3.out; have := SZ4.out; omega)
                have HP := Aside0.mk (show 0 < (bA (fieldL x.f1.f3) ++ bA (fieldL x.f1.f4)).size by rw [ByteArray.size_append, bA_size, bA_size, fieldL, List.length_append]; have := putL_pos x.f1.f3.size; omega)
                rw [ea]
                have HAX := Aside0.mk ea
                obtain ⟨l2k, hl2⟩ : ∃ l2k, l2k = l2 ++ aBys (e.added.take k) := ⟨_, rfl⟩
                have HLL := Aside0.mk (show l2k.length ≤ 400000 by rw [hl2]; exact len_ak LL2.out HTK.out G2.out)
                rw [← hl2] at HO
                have HL2 := Aside0.mk hl2
                clear hk ea hmx hgo CG hl2
                go_upto_region 18 with (fail)
                have NR1 := new_row HO.out (pCs x) 82
                have O5 := Aside0.mk NR1.1
                have K5 := Aside0.mk (HKr.out.trans NR1.2.1)
                have X5 := Aside0.mk (blk_new wr (.cells (pCs x) 82))
                have G5 := Aside0.mk NR1.2.2
                clear NR1 ha0 ha1 ha2 ha3 ha4 ha5 ha6 ha7
                generalize wr.heap.size = g5 at *
                generalize wr.alloc (.cells (pCs x) 82) = w5 at *
                have y1 : w5.cell? ⟨g5, 1, none⟩ = some (.int .u64 x.f1.f0) := (blk_cell X5.out 1).trans rfl
                have y2 : w5.cell? ⟨g5, 2, none⟩ = some (.int .i64 x.f1.f1) := (blk_cell X5.out 2).trans rfl
                have y3 : w5.cell? ⟨g5, 3, none⟩ = some (.int .i64 x.f1.f2) := (blk_cell X5.out 3).trans rfl
                have y4 : w5.cell? ⟨g5, 4, none⟩ = some (.string x.f1.f3) := (blk_cell X5.out 4).trans rfl
                have y5 : w5.cell? ⟨g5, 5, none⟩ = some (.string x.f1.f4) := (blk_cell X5.out 5).trans rfl
                have y6 : w5.cell? ⟨g5, 6, none⟩ = some (.int .u64 x.f1.f5) := (blk_cell X5.out 6).trans rfl
                have y7 : w5.cell? ⟨g5, 7, none⟩ = some (.int .u64 x.f1.f6) := (blk_cell X5.out 7).trans rfl
                go_upto_region 19 with (fail)
                have NR1 := new_row O5.out (mCs x.f1) 58
                have O6 := Aside0.mk NR1.1
                have K6 := Aside0.mk (K5.out.trans NR1.2.1)
                have X6 := Aside0.mk (blk_new w5 (.cells (mCs x.f1) 58))
                have X56 := Aside0.mk (blk_alloc X5.out (.cells (mCs x.f1) 58))
                have G6 := Aside0.mk NR1.2.2
                clear NR1 y1 y2 y3 y4 y5 y6 y7
                generalize w5.heap.size = g6 at *
                generalize w5.alloc (.cells (mCs x.f1) 58) = w6 at *
                have y0 : w6.cell? ⟨g5, 0, none⟩ = some (.int .i64 x.f0) := (blk_cell X56.out 0).trans rfl
                have z0 : w6.cell? ⟨g6, 0, none⟩ = some (.int .u64 x.f1.f0) := (blk_cell X6.out 0).trans rfl
                have z1 : w6.cell? ⟨g6, 1, none⟩ = some (.int .i64 x.f1.f1) := (blk_cell X6.out 1).trans rfl
                have z2 : w6.cell? ⟨g6, 2, none⟩ = some (.int .i64 x.f1.f2) := (blk_cell X6.out 2).trans rfl
                go_wp2_with fail
                try rw [wx0, wx1, wx2]
                have NR := new_row O6.out #[.int .u64 x.f0, .int .u64 x.f1.f0, .int .u64 x.f1.f1, .int .u64 x.f1.f2] 22
                refine (put111n _ go w6.heap.size 4 4 l2k [x.f0, x.f1.f0, x.f1.f1, x.f1.f2] _ rfl NR.1 (blk_new w6 _) NR.2.2 cs4 (puts4 ⟨UX.out.1, UX.out.2.1, UX.out.2.2.1, UX.out.2.2.2.1⟩) (by have := HLL.out; omega) (by decide)).mono ?_
                rintro x9 w8 ⟨⟨_, rfl⟩, ho, hk⟩
                obtain ⟨l3, hl3⟩ : ∃ l3, l3 = l2k ++ aBy1 x := ⟨_, rfl⟩
                have O8 := Aside0.mk (show OUT w8 go l3 by rw [hl3]; exact ho)
                have HLL3 := Aside0.mk (show l3.length ≤ 500000 by rw [hl3, List.length_append]; have := HLL.out; have := UL.out; omega)
                have EL3 := Aside0.mk hl3
                have K68 := NR.2.1.trans hk
                have K8 := Aside0.mk (K6.out.trans K68)
                have X8 := Aside0.mk (K68.2 g6 _ 58 (by decide) G6.out X6.out)
                clear ho hk NR hl3 K68 y0 z0 z1 z2 wx0 wx1 wx2 X56 X5
                obtain ⟨v0, x0, n0⟩ := O8.out
                have X0 := Aside0.mk x0
                have HN := Aside0.mk n0
                have hc0 : w8.cell? ⟨go, 0, none⟩ = some v0 := (blk_cell x0 0).trans rfl
                have HGO := Aside0.mk (show go + 1 ≤ w8.heap.size from blk_lt x0)
                have hc3 : w8.cell? ⟨g6, 3, none⟩ = some (.string x.f1.f3) := (blk_cell X8.out 3).trans rfl
                have hc4 : w8.cell? ⟨g6, 4, none⟩ = some (.string x.f1.f4) := (blk_cell X8.out 4).trans rfl
                clear x0 n0
                go_upto_region 20 with (fail)
                refine start_ (n := 10) (S := (fun w' => Below w8.heap.size w8 w' ∧ w'.cell? ⟨go, 0, none⟩ = some v0 ∧ w'.cell? ⟨g6, 3, none⟩ = some (.string x.f1.f3) ∧ w'.cell? ⟨g6, 4, none⟩ = some (.string x.f1.f4))) (ds := [8, 9]) #[false, false, false, false, false, false, false, false, false, false] (by kernel_rfl) rfl rfl ⟨below_drew (Below.refl _ _), hc0, hc3, hc4⟩ (fun hHeld => ?_)
                refine take_ (i := 0) (N := (some 87)) (v := ?_) (a' := ?_) #[true, false, false, false, false, false, false, false, false, false] rfl rfl (by kernel_rfl) (fun _ _ _ h => h) (Or.inl ⟨by rfl, ?_⟩) hHeld ?_ ?_
                rotate_left
                · rintro w' ⟨s0, s1, s2, s3⟩
                  go_simp
                  with_reducible rfl
                rotate_left
                · simp only [Act.put, List.setIfInBounds_toArray, List.set_cons_zero, List.set_cons_succ, i64_w, i32_w]
                  rfl
                refine pure_ (i := 1) (N := (some 88)) (v := ?_) (a' := ?_) #[true, true, false, false, false, false, false, false, false, false] rfl rfl (by kernel_rfl) (fun _ _ _ h => h) (Or.inl ⟨by rfl, ?_⟩) ?_ ?_
                rotate_left
                · intro w'
                  go_simp
                  with_reducible rfl
                rotate_left
                · simp only [Act.put, List.setIfInBounds_toArray, List.set_cons_zero, List.set_cons_succ, i64_w, i32_w]
                  rfl
                refine take_ (i := 2) (N := (some 89)) (v := ?_) (a' := ?_) #[true, true, true, false, false, false, false, false, false, false] rfl rfl (by kernel_rfl) (fun _ _ _ h => h) (Or.inl ⟨by rfl, ?_⟩) hHeld ?_ ?_
                rotate_left
                · rintro w' ⟨s0, s1, s2, s3⟩
                  go_simp
                  with_reducible rfl
                rotate_left
                · simp only [Act.put, List.setIfInBounds_toArray, List.set_cons_zero, List.set_cons_succ, i64_w, i32_w]
                  rfl
                refine pure_ (i := 4) (N := (some 91)) (v := ?_) (a' := ?_) #[true, true, true, false, true, false, false, false, false, false] rfl rfl (by kernel_rfl) (fun _ _ _ h => h) (Or.inl ⟨by rfl, ?_⟩) ?_ ?_
                rotate_left
                · intro w'
                  go_simp
                  with_reducible rfl
                rotate_left
                · simp only [Act.put, List.setIfInBounds_toArray, List.set_cons_zero, List.set_cons_succ, i64_w, i32_w]
                  rfl
                refine take_ (i := 5) (N := (some 92)) (v := ?_) (a' := ?_) #[true, true, true, false, true, true, false, false, false, false] rfl rfl (by kernel_rfl) (fun _ _ _ h => h) (Or.inl ⟨by rfl, ?_⟩) hHeld ?_ ?_
                rotate_left
                · rintro w' ⟨s0, s1, s2, s3⟩
                  go_simp
                  with_reducible rfl
                rotate_left
                · simp only [Act.put, List.setIfInBounds_toArray, List.set_cons_zero, List.set_cons_succ, i64_w, i32_w]
                  rfl
                refine one_ (i := 3) (N := (some 90)) #[true, true, true, true, true, true, false, false, false, false] rfl rfl (by kernel_rfl) (by decide) (fun K hK => ?_)
                refine goes_ Try.func113 (by kernel_rfl) rfl #[.string x.f1.f3] (by rfl) rfl rfl (by (try simp only [List.map_toArray, List.map_cons, List.map_nil]); first | done | rfl) ?_
                (with_reducible refine (putField_calls _ x.f1.f3 (by have := SZ3.out; omega)).mono ?_)
                rintro e wA ⟨rfl, hb⟩
                refine ⟨_, rfl, ?_⟩
                have hOld := hHeld
                clear hHeld
                refine hK.out _ _ (⟨below_step hOld.1 hb, pw_cell_below hb hOld.2.1, pw_cell_below hb hOld.2.2.1, pw_cell_below hb hOld.2.2.2⟩) (fun hHeld => ?_)
                clear hOld hK K
                refine norm_ (a' := ?_) ?_ ?_
                rotate_left
                · show Act.put _ (some 90) _ = _
                  simp only [Act.put, List.setIfInBounds_toArray, List.set_cons_zero, List.set_cons_succ, i64_w, i32_w]
                  rfl
                refine one_ (i := 6) (N := (some 93)) #[true, true, true, true, true, true, true, false, false, false] rfl rfl (by kernel_rfl) (by decide) (fun K hK => ?_)
                refine goes_ Try.func113 (by kernel_rfl) rfl #[.string x.f1.f4] (by rfl) rfl rfl (by (try simp only [List.map_toArray, List.map_cons, List.map_nil]); first | done | rfl) ?_
                (with_reducible refine (putField_calls _ x.f1.f4 (by have := SZ4.out; omega)).mono ?_)
                rintro e wB ⟨rfl, hb⟩
                refine ⟨_, rfl, ?_⟩
                have hOld := hHeld
                clear hHeld
                refine hK.out _ _ (⟨below_step hOld.1 hb, pw_cell_below hb hOld.2.1, pw_cell_below hb hOld.2.2.1, pw_cell_below hb hOld.2.2.2⟩) (fun hHeld => ?_)
                clear hOld hK K
                refine norm_ (a' := ?_) ?_ ?_
                rotate_left
                · show Act.put _ (some 93) _ = _
                  simp only [Act.put, List.setIfInBounds_toArray, List.set_cons_zero, List.set_cons_succ, i64_w, i32_w]
                  rfl
                have HB9 := Aside0.mk hHeld.1
                refine pure_ (i := 7) (N := (some 94)) (v := ?_) (a' := ?_) #[true, true, true, true, true, true, true, true, false, false] rfl rfl (by kernel_rfl) (fun _ _ _ h => h) (Or.inl ⟨by rfl, ?_⟩) ?_ ?_
                rotate_left
                · intro w'
                  go_simp
                  with_reducible rfl
                rotate_left
                · simp only [Act.put, List.setIfInBounds_toArray, List.set_cons_zero, List.set_cons_succ, i64_w, i32_w]
                  rfl
                refine last_ (i := 8) (N := (some 95)) #[true, true, true, true, true, true, true, true, true, false] rfl rfl (by kernel_rfl) (by decide) (fun K hK => ?_)
                obtain ⟨v1, w9, hr_, hn_, hg_, ho_⟩ := (BN.below HN.out HB9.out).append_str 36 (bA (fieldL x.f1.f3) ++ bA (fieldL x.f1.f4)) HP.out (by rw [bts_len, ByteArray.size_append, bA_size, bA_size]; have := HLL3.out; have := F3.out; have := F4.out; have := SZ3.out; have := SZ4.out; omega) (Nat.le_trans HGO.out HB9.out.size)
                obtain ⟨A1_, n1_, c1_, rfl⟩ := hn_.form
                have HG9 := Aside0.mk hg_
                have HN9 := Aside0.mk (show BN w9 (go + 1) (.slice A1_ n1_ c1_) (bts (l3 ++ aBy2 x)) by rw [bts_append]; unfold aBy2; rw [bA_append] at hn_; exact hn_)
                clear hn_ hg_ ho_
                refine value_ (w1 := w9) (v := .slice A1_ n1_ c1_) (by rfl) rfl (H.exec_append (.tmp 87) (.tmp 94) 36 9 (by rfl) (by rfl) (by rfl) hr_) ?_
                try clear hHeld
                refine hK.out _ _ ?_
                clear hK K
                refine norm_ (a' := ?_) ?_ ?_
                rotate_left
                · show Act.put _ (some 95) _ = _
                  simp only [Act.put, List.setIfInBounds_toArray, List.set_cons_zero, List.set_cons_succ, i64_w, i32_w]
                  rfl
                refine last_ (i := 9) (N := none) #[true, true, true, true, true, true, true, true, true, true] rfl rfl (by kernel_rfl) (by decide) (fun K hK => ?_)
                have hc_ : w9.cell? ⟨go, 0, none⟩ = some v0 := (blk_cell (blk_grown (blk_below X0.out HB9.out) HG9.out (BN.ne (BN.below HN.out HB9.out) (blk_below X0.out HB9.out) (by decide)).symm) 0).trans rfl
                have hf_ := blk_frozen (blk_grown (blk_below X0.out HB9.out) HG9.out (BN.ne (BN.below HN.out HB9.out) (blk_below X0.out HB9.out) (by decide)).symm) 0
                refine skip_ (w1 := w9.setCell ⟨go, 0, none⟩ (.slice A1_ n1_ c1_)) (by rfl) rfl (by go_simp) ?_
                clear hc_ hf_
                try clear hHeld
                refine hK.out _ _ ?_
                clear hK K
                refine done_ (by kernel_rfl) ?_
                have ST := out_step X0.out HN.out HB9.out HN9.out HG9.out
                have O9 := Aside0.mk ST.1
                have K9 := Aside0.mk (K8.out.trans ST.2)
                have X9 := Aside0.mk (ST.2.2 g6 _ 58 (by decide) G6.out X8.out)
                clear ST hc0 hc3 hc4 z4
                generalize w9.setCell ⟨go, 0, none⟩ (.slice A1_ n1_ c1_) = w10 at *
                have z5 : w10.cell? ⟨g6, 5, none⟩ = some (.int .u64 x.f1.f5) := (blk_cell X9.out 5).trans rfl
                have z6 : w10.cell? ⟨g6, 6, none⟩ = some (.int .u64 x.f1.f6) := (blk_cell X9.out 6).trans rfl
                go_wp2_with fail
                have NR := new_row O9.out #[.int .u64 x.f1.f5, .int .u64 x.f1.f6] 22
                refine (put111n _ go w10.heap.size 2 2 _ [x.f1.f5, x.f1.f6] _ rfl NR.1 (blk_new w10 _) NR.2.2 cs2 (puts2 ⟨UX.out.2.2.2.2.1, UX.out.2.2.2.2.2.1⟩) (by rw [List.length_append]; have := HLL3.out; have := UL.out; omega) (by decide)).mono ?_
                rintro x10 w12 ⟨⟨_, rfl⟩, ho, hk⟩
                have O12 := Aside0.mk ho
                have K12 := Aside0.mk ((K9.out.trans NR.2.1).trans hk)
                clear ho hk NR z5 z6
                go_wp2_with fail
                try rw [ew]
                rw [← HAX.out]
                clear ew
                go_roundg q
                case measure => omega
                case rel => exact ⟨k + 1, rfl, ⟨by have := HK.out; omega⟩, ⟨by
                  have h1 := O12.out
                  rw [TS.out, aBys_append, ← List.append_assoc, ← HL2.out, show aBys [x] = aBy1 x ++ aBy2 x ++ aBy3 x from List.append_nil _]
                  rw [EL3.out] at h1
                  rw [show l2k ++ (aBy1 x ++ aBy2 x ++ aBy3 x) = l2k ++ aBy1 x ++ aBy2 x ++ putsL [x.f1.f5, x.f1.f6] by unfold aBy3; simp only [List.append_assoc]]
                  exact h1⟩, K12⟩
          | succ q =>
            have hk : k < e.gone.length := by have := HK.out; omega
            have d4 : decide ((k : Int) < (e.gone.length : Int)) = true := decide_eq_true (by omega)
            have d5 : decide (k < e.gone.length) = true := decide_eq_true hk
            have p0 : 0 ≤ (k : Int) := Int.natCast_nonneg _
            have p1 : (k : Int) < (e.gone.length : Int) := by omega
            have CG := Kd.C_below H1.out HBR.out
            obtain ⟨ad, ea, ha0, ha1⟩ := at_T84 CG (k : Int) p0 p1
            rw [Int.toNat_natCast] at ha0 ha1
            have EM := Aside0.mk (show rd_T84 e.gone (k : Int) = e.gone.getD k z84 by unfold rd_T84; rw [Int.toNat_natCast])
            have hmx := getD_mem e.gone z84 hk
            have TS := Aside0.mk (take_snoc e.gone z84 hk)
            rw [← EM.out] at hmx TS
            generalize rd_T84 e.gone (k : Int) = x at *
            have hgo := LP.out.1 x hmx
            have UX := Aside0.mk (show U64 x.f0 from ⟨hgo.1, by have := hgo.2; omega⟩)
            have UY := Aside0.mk (HU.out.2 x hmx)
            have wx := UX.out.wrap
            have HTK := Aside0.mk (gBys_len (e.gone.take k) (fun y hy => ⟨⟨(LP.out.1 y (List.mem_of_mem_take hy)).1, by have := (LP.out.1 y (List.mem_of_mem_take hy)).2; omega⟩, HU.out.2 y (List.mem_of_mem_take hy)⟩))
            have ew : wrap64 ((k : Int) + 1) = ((k + 1 : Nat) : Int) := by have h1 := G1.out; unfold wrap64; omega
            rw [ea]
            have HAX := Aside0.mk ea
            obtain ⟨l2, hl2⟩ : ∃ l2, l2 = l1 ++ gBys (e.gone.take k) := ⟨_, rfl⟩
            have HLL := Aside0.mk (show l2.length ≤ 6000 by rw [hl2]; exact len_gk LL1.out HTK.out G1.out)
            rw [← hl2] at HO
            have HL2 := Aside0.mk hl2
            clear hk ea hmx hgo CG hl2
            go_upto_region 12 with (fail)
            have NR1 := new_row HO.out (gCs x) 84
            have O5 := Aside0.mk NR1.1
            have K5 := Aside0.mk (HKr.out.trans NR1.2.1)
            have X5 := Aside0.mk (blk_new wr (.cells (gCs x) 84))
            clear NR1
            generalize wr.heap.size = g5 at *
            generalize wr.alloc (.cells (gCs x) 84) = w5 at *
            have y0 : w5.cell? ⟨g5, 0, none⟩ = some (.int .i64 x.f0) := (blk_cell X5.out 0).trans rfl
            have y1 : w5.cell? ⟨g5, 1, none⟩ = some (.int .u64 x.f1) := (blk_cell X5.out 1).trans rfl
            clear ha0 ha1
            go_wp2_with fail
            try rw [wx]
            have NR := new_row O5.out #[.int .u64 x.f0, .int .u64 x.f1] 22
            refine (put111n _ go w5.heap.size 2 2 l2 [x.f0, x.f1] _ rfl NR.1 (blk_new w5 _) NR.2.2 cs2 (puts2 ⟨UX.out, UY.out⟩) (by have := HLL.out; omega) (by decide)).mono ?_
            rintro x9 w6 ⟨⟨_, rfl⟩, ho, hk⟩
            have O6 := Aside0.mk ho
            have K6 := Aside0.mk ((K5.out.trans NR.2.1).trans hk)
            clear ho hk NR y0 y1
            go_wp2_with fail
            try rw [ew]
            rw [← HAX.out]
            clear ew wx
            go_roundg q
            case measure => omega
            case rel => exact ⟨k + 1, rfl, ⟨by have := HK.out; omega⟩, ⟨by rw [TS.out, gBys_append, ← List.append_assoc, ← HL2.out, show gBys [x] = putsL [x.f0, x.f1] from List.append_nil _]; exact O6.out⟩, K6⟩
  · rw [if_neg hl]
    have EV := Aside0.mk (show encV e = (⟨#[]⟩, 2) by unfold encV; rw [if_neg hl])
    rw [← HRR.out] at EV
    clear hl
    go_wp2_with fail
    go_ret2
    exact ⟨ret_si EV.out, HB2.out⟩
end Go.Proofs.Ytkjepfofiegcdaa.V
/- The law's 'awake' of layer 14 (53), walked: it is true. Conditions: none. -/
namespace Go.Proofs.Ytkjepfofiegcdaa.V
set_option linter.unusedVariables false
set_option linter.unusedSimpArgs false
open Go.RowKit Go.Proofs.YtkjepfofiegcdaaW.PrintWords Go.Proofs.YtkjepfofiegcdaaW.PrintLast Go.Proofs.YtkjepfofiegcdaaW.PrintMore Go.Proofs.Ytkjepfofiegcdaa.PB14
open H (putL)
theorem row84 (w : World) (x : S84) : k84.C (w.alloc (.cells (gCs x) 84)) (some ⟨w.heap.size, 0, none⟩) ([x] : List S84).length [x] := by
  refine ⟨rfl, by simp, fun _ => ⟨_, rfl, fun j p hj => ?_⟩⟩
  match j, hj with
  | 0, hj =>
    simp at hj
    subst hj
    refine ⟨[.int .i64 x.f0, .int .u64 x.f1], rfl, k84_mk _ x, fun i u hi => ?_⟩
    rw [add_plain]
    match i, hi with
    | 0, hi => simp at hi; subst hi; exact (blk_cell (blk_new w (.cells (gCs x) 84)) 0).trans rfl
    | 1, hi => simp at hi; subst hi; exact (blk_cell (blk_new w (.cells (gCs x) 84)) 1).trans rfl
  | j + 1, hj => simp at hj
theorem nil84 (w : World) (A : Option Addr) : k84.C w A ([] : List S84).length [] := ⟨rfl, by simp, fun h => absurd h (Nat.lt_irrefl 0)⟩
theorem nil82 (w : World) (A : Option Addr) : k82.C w A ([] : List S82).length [] := ⟨rfl, by simp, fun h => absurd h (Nat.lt_irrefl 0)⟩
theorem nil58 (w : World) (A : Option Addr) : k58.C w A ([] : List S58).length [] := ⟨rfl, by simp, fun h => absurd h (Nat.lt_irrefl 0)⟩
def eA1 : Edt := ⟨0, 3, 0, [⟨1, 2⟩], []⟩
def eA2 : Edt := ⟨0, 0, 0, [⟨0, 1⟩], []⟩
def eA3 : Edt := ⟨0, 0, 5, [], []⟩
theorem listA1 : listedP eA1 := by decide
theorem encA : encV eA1 = (⟨#[0, 3, 0, 1, 1, 2, 0]⟩, 0) := by
  unfold encV
  rw [if_pos listA1, if_neg (by decide)]
  congr 1
  unfold encB
  simp [eA1, putsL, gBys, gBy, aBys, H.putL_small, bA]
theorem euA1 : EU eA1 := ⟨⟨⟨by decide, by decide⟩, ⟨by decide, by decide⟩, ⟨by decide, by decide⟩⟩, fun x hx => by
  simp [eA1] at hx; subst hx; exact ⟨by decide, by decide⟩⟩
theorem vcF (w : World) : VC w firstV firstP := fun i hi => by
  rcases (by omega : i = 0 ∨ i = 1 ∨ i = 2 ∨ i = 3) with rfl | rfl | rfl | rfl <;> exact ⟨nil58 _ _, Nat.le_refl _⟩
theorem vwF : VW firstV := fun i hi m hm => by
  rcases (by omega : i = 0 ∨ i = 1 ∨ i = 2 ∨ i = 3) with rfl | rfl | rfl | rfl <;> cases hm
theorem lvF : ∀ i, i < 4 → firstV.lv i = [] := fun i hi => by
  rcases (by omega : i = 0 ∨ i = 1 ∨ i = 2 ∨ i = 3) with rfl | rfl | rfl | rfl <;> rfl
theorem rightF (lg nx sq : Int) (h1 : 1 ≤ lg) (h2 : lg ≤ 99999999) (h3 : 1 ≤ nx) (h4 : nx ≤ 99999999) (h5 : sq < 72057594037927936) : rightP ⟨lg, nx, sq, [], [], [], []⟩ := by
  have hlv : ∀ i, i < 4 → (Ver.lv ⟨lg, nx, sq, [], [], [], []⟩ i) = [] := fun i hi => by
    rcases (by omega : i = 0 ∨ i = 1 ∨ i = 2 ∨ i = 3) with rfl | rfl | rfl | rfl <;> rfl
  refine ⟨⟨h1, h2, h3, h4, h5⟩, ⟨fun i hi => by rw [hlv i hi]; simp, ⟨fun m hm => by simp [catV, hlv] at hm, by simp [catV, hlv, nums]⟩⟩, fun i hi k hk => by rw [hlv i hi] at hk; simp at hk⟩
theorem right1 : rightP firstV := rightF 1 1 0 (by omega) (by omega) (by omega) (by omega) (by omega)
theorem right2 : rightP (bndV firstV eA2) := rightF 1 1 0 (by omega) (by omega) (by omega) (by omega) (by omega)
theorem right3 : rightP (bndV firstV eA3) := rightF 1 1 5 (by omega) (by omega) (by omega) (by omega) (by omega)
set_option maxHeartbeats 8000000 in
set_option maxRecDepth 100000 in
theorem awake14_calls (w : World) : Calls Try.prog 53 #[] w fun e w' => e = .returned (.bool true) ∧ Below w.heap.size w w' := by
  have E1 := Aside0.mk encA
  have HB0 := Aside0.mk (below_alloc (Below.refl w.heap.size w) (.cells (gCs ⟨1, 2⟩) 84))
  have R0 := Aside0.mk (row84 w ⟨1, 2⟩)
  go_enter Try.func53, Try.ntmps53
  go_wp2_with fail
  generalize w.alloc (.cells (gCs ⟨1, 2⟩) 84) = w1 at *
  refine (encode_calls w1 eA1 (some ⟨w.heap.size, 0, none⟩) none 1 0 R0.out (nil82 _ _) euA1).mono ?_
  rintro x w2 ⟨rfl, hb⟩
  rw [E1.out]
  have HB2 := Aside0.mk (below_step HB0.out hb)
  clear hb R0 HB0
  go_wp2_with fail
  refine (first66_calls w2).mono ?_
  rintro x w3 ⟨rfl, hb⟩
  have HB3 := Aside0.mk (below_alloc (below_step HB2.out hb) (.cells (gCs ⟨0, 1⟩) 84))
  have R3 := Aside0.mk (row84 w3 ⟨0, 1⟩)
  clear hb HB2
  go_wp2_with fail
  generalize w3.heap.size = g3 at *
  generalize w3.alloc (.cells (gCs ⟨0, 1⟩) 84) = w4 at *
  refine (applyF_calls w4 firstV firstP eA2 (some ⟨g3, 0, none⟩) none 1 0 (vcF _) vwF R3.out (nil82 _ _) lvF right1 rfl (by decide) (by decide) (by decide) (by decide) (by decide) right2).mono ?_
  rintro x w5 ⟨⟨y, q, rfl, _⟩, hb⟩
  rw [show (if eA2.gone = [] then (0 : Int) else 4) = 4 from rfl]
  have HB5 := Aside0.mk (below_alloc (below_step HB3.out hb) (.cells (vCs y q) 26))
  clear hb R3 HB3
  go_wp2_with fail
  generalize w5.alloc (.cells (vCs y q) 26) = w6 at *
  refine (first66_calls w6).mono ?_
  rintro x w7 ⟨rfl, hb⟩
  have HB7 := Aside0.mk (below_step HB5.out hb)
  clear hb HB5
  go_wp2_with fail
  refine (applyF_calls w7 firstV firstP eA3 none none 0 0 (vcF _) vwF (nil84 _ _) (nil82 _ _) lvF right1 rfl (by decide) (by decide) (by decide) (by decide) (by decide) right3).mono ?_
  rintro x w8 ⟨⟨y2, q2, rfl, hy⟩, hb⟩
  have hy2 : y2 = bndV firstV eA3 := hy rfl
  subst hy2
  rw [show (if eA3.gone = [] then (0 : Int) else 4) = 0 from rfl]
  have HB8 := Aside0.mk (below_alloc (below_step HB7.out hb) (.cells (vCs (bndV firstV eA3) q2) 26))
  have X8 := Aside0.mk (blk_new w8 (.cells (vCs (bndV firstV eA3) q2) 26))
  clear hb HB7 hy
  have b2 : (w8.alloc (.cells (vCs (bndV firstV eA3) q2) 26)).cell? ⟨w8.heap.size, 2, none⟩ = some (.int .u64 5) := (blk_cell X8.out 2).trans rfl
  have b1 : (w8.alloc (.cells (vCs (bndV firstV eA3) q2) 26)).cell? ⟨w8.heap.size, 1, none⟩ = some (.int .u64 1) := (blk_cell X8.out 1).trans rfl
  go_wp2_with fail
  go_ret
  exact ⟨rfl, HB8.out⟩
end Go.Proofs.Ytkjepfofiegcdaa.V
/- Whole: what it answers, in the plain; edit.Whole (59) and the reference's (60), walked. Conditions: the tables' numbers are such as the machine has. -/
namespace Go.Proofs.Ytkjepfofiegcdaa.V
set_option linter.unusedVariables false
set_option linter.unusedSimpArgs false
open Go.RowKit Go.Proofs.YtkjepfofiegcdaaW.PrintWords Go.Proofs.YtkjepfofiegcdaaW.PrintLast Go.Proofs.YtkjepfofiegcdaaW.PrintMore Go.Proofs.Ytkjepfofiegcdaa.PB14
end Go.Proofs.Ytkjepfofiegcdaa.V
/- What edit.Apply makes, in the plain: right versions; the whole edit of a right version; what is added is taken away again. Conditions: none. -/
namespace Go.Proofs.Ytkjepfofiegcdaa.V
set_option linter.unusedVariables false
set_option linter.unusedSimpArgs false
open Go.RowKit Go.Proofs.YtkjepfofiegcdaaW.PrintWords Go.Proofs.YtkjepfofiegcdaaW.PrintLast Go.Proofs.YtkjepfofiegcdaaW.PrintMore Go.Proofs.Ytkjepfofiegcdaa.PB14
theorem lastV_cases (u : Ver) : (rightP u ∧ lastV u = (u, 0)) ∨ (¬ rightP u ∧ lastV u = (zeroV, 11)) := by
  unfold lastV
  by_cases h : rightP u
  · rw [if_pos h]; exact .inl ⟨h, rfl⟩
  · rw [if_neg h]; exact .inr ⟨h, rfl⟩
theorem comeV_cases (u : Ver) (l : List S82) : (∃ x, adsV u l = some x ∧ rightP x ∧ comeV u l = (x, 0)) ∨ ∃ r, comeV u l = (zeroV, r) ∧ (r = 5 ∨ r = 11) := by
  unfold comeV
  cases h : adsV u l with
  | none => exact .inr ⟨5, rfl, .inl rfl⟩
  | some x =>
    rcases lastV_cases x with ⟨h1, h2⟩ | ⟨_, h2⟩
    · exact .inl ⟨x, rfl, h1, h2⟩
    · exact .inr ⟨11, h2, .inr rfl⟩
theorem goneV_cases (u : Ver) (l : List S84) (r : List S82) : (∃ y x, gosV u l = some y ∧ adsV y r = some x ∧ rightP x ∧ goneV u l r = (x, 0)) ∨ ∃ n, goneV u l r = (zeroV, n) ∧ (n = 4 ∨ n = 5 ∨ n = 11) := by
  unfold goneV
  cases h : gosV u l with
  | none => exact .inr ⟨4, rfl, .inl rfl⟩
  | some y =>
    rcases comeV_cases y r with ⟨x, h1, h2, h3⟩ | ⟨n, h1, h2⟩
    · exact .inl ⟨y, x, rfl, h1, h2, h3⟩
    · exact .inr ⟨n, h1, .inr h2⟩
theorem applyV_cases (v : Ver) (e : Edt) : (∃ y x, askE v e ∧ gosV (bndV v e) e.gone = some y ∧ adsV y e.added = some x ∧ rightP x ∧ applyV v e = (x, 0)) ∨ ∃ n, applyV v e = (zeroV, n) ∧ (n = 2 ∨ n = 4 ∨ n = 5 ∨ n = 11) := by
  unfold applyV
  by_cases h : askE v e
  · rw [if_pos h]
    rcases goneV_cases (bndV v e) e.gone e.added with ⟨y, x, h1, h2, h3, h4⟩ | ⟨n, h1, h2⟩
    · exact .inl ⟨y, x, h, h1, h2, h3, h4⟩
    · exact .inr ⟨n, h1, .inr h2⟩
  · rw [if_neg h]
    exact .inr ⟨2, rfl, .inl rfl⟩
/-! The whole edit. -/
theorem right_ap {v : Ver} (h : rightP v) : apV v := apV_of h.2.1.2.2
/-- The first levels of a version, the others empty. -/
def headV (v : Ver) : Nat → Ver
  | 0 => ⟨v.log, v.next, v.seq, [], [], [], []⟩
  | i + 1 => (headV v i).set i (v.lv i)
theorem headV_all (v : Ver) : headV v 4 = v := by cases v; rfl
/-! What is added is taken away again. -/
theorem gos_char : ∀ (gl : List S84) (y : Ver), apV y → (∀ x, x ∈ gl → (0 ≤ x.f0 ∧ x.f0 < 4) ∧ x.f1 ∈ nums (y.lv x.f0.toNat)) → (gl.map (·.f1)).Nodup → ∃ y', gosV y gl = some y' ∧ (y'.log = y.log ∧ y'.next = y.next ∧ y'.seq = y.seq) ∧ ∀ i, i < 4 → y'.lv i = (y.lv i).filter fun m => decide (m.f0 ∉ gl.map (·.f1))
  | [], y, _, _, _ => ⟨y, rfl, ⟨rfl, rfl, rfl⟩, fun i hi => by rw [List.filter_eq_self.mpr]; intro m _; simp⟩
  | x :: gl, y, ha, hx, hn => by
    obtain ⟨⟨x0, x1⟩, x2⟩ := hx x (List.mem_cons_self ..)
    rw [List.map_cons, List.nodup_cons] at hn
    have hlv : x.f0.toNat < 4 := by omega
    have e1 : ∀ i, i < 4 → (y.set x.f0.toNat (woL (y.lv x.f0.toNat) x.f1)).lv i = woL (y.lv i) x.f1 := fun i hi => by
      rw [Ver.set_lv y _ i hlv hi]
      by_cases e : i = x.f0.toNat
      · rw [if_pos e, e]
      · rw [if_neg e, woL_none]
        intro h2
        have h3 := ha x.f1
        rw [lv_cnt] at h3
        have c1 : 1 ≤ (nums (y.lv i)).count x.f1 := List.count_pos_iff.mpr h2
        have c2 : 1 ≤ (nums (y.lv x.f0.toNat)).count x.f1 := List.count_pos_iff.mpr x2
        generalize x.f0.toNat = j at *
        rcases (by omega : i = 0 ∨ i = 1 ∨ i = 2 ∨ i = 3) with rfl | rfl | rfl | rfl <;> rcases (by omega : j = 0 ∨ j = 1 ∨ j = 2 ∨ j = 3) with rfl | rfl | rfl | rfl <;> first | exact e rfl | omega
    obtain ⟨y', h1, h2, h3⟩ := gos_char gl (y.set x.f0.toNat (woL (y.lv x.f0.toNat) x.f1)) (ha.wo hlv x.f1) (fun z hz => by
      obtain ⟨⟨z0, z1⟩, z2⟩ := hx z (List.mem_cons_of_mem _ hz)
      refine ⟨⟨z0, z1⟩, ?_⟩
      rw [e1 _ (by omega)]
      obtain ⟨m, hm, hf⟩ := mem_nums.mp z2
      refine mem_nums.mpr ⟨m, ?_, hf⟩
      unfold woL
      rw [List.mem_filter]
      refine ⟨hm, decide_eq_true fun e => hn.1 ?_⟩
      rw [← e, hf]
      exact List.mem_map_of_mem hz) hn.2
    refine ⟨y', ?_, ?_, fun i hi => ?_⟩
    · rw [gosV, goV, if_pos x2]; exact h1
    · have : ∀ (v : Ver) (i : Nat) (l : List S58), (v.set i l).log = v.log ∧ (v.set i l).next = v.next ∧ (v.set i l).seq = v.seq := fun v i l => by
        rcases i with _ | _ | _ | i <;> exact ⟨rfl, rfl, rfl⟩
      obtain ⟨a, b, c⟩ := this y x.f0.toNat (woL (y.lv x.f0.toNat) x.f1)
      exact ⟨h2.1.trans a, h2.2.1.trans b, h2.2.2.trans c⟩
    · rw [h3 i hi, e1 i hi]
      unfold woL
      rw [List.filter_filter]
      refine List.filter_congr fun m _ => ?_
      rw [List.map_cons]
      simp only [List.mem_cons, not_or]
      by_cases c1 : m.f0 = x.f1 <;> by_cases c2 : m.f0 ∈ gl.map (·.f1) <;> simp [c1, c2]
theorem ads_char : ∀ (al : List S82) (y y' : Ver), adsV y al = some y' → (∀ x, x ∈ al → 0 ≤ x.f0 ∧ x.f0 < 4) → (y'.log = y.log ∧ y'.next = y.next ∧ y'.seq = y.seq) ∧ (∀ S : List Int, (∀ x, x ∈ al → x.f1.f0 ∈ S) → ∀ i, i < 4 → (y'.lv i).filter (fun m => decide (m.f0 ∉ S)) = (y.lv i).filter fun m => decide (m.f0 ∉ S)) ∧ (∀ x, x ∈ al → x.f1.f0 ∈ nums (y'.lv x.f0.toNat)) ∧ (al.map (·.f1.f0)).Nodup ∧ (∀ x, x ∈ al → cntV y x.f1.f0 = 0) ∧ ∀ i, i < 4 → ∀ n, n ∈ nums (y.lv i) → n ∈ nums (y'.lv i)
  | [], y, y', h, _ => by
    injection h with h
    subst h
    exact ⟨⟨rfl, rfl, rfl⟩, fun _ _ _ _ => rfl, (fun x hx => by cases hx), List.nodup_nil, (fun x hx => by cases hx), fun _ _ _ h => h⟩
  | x :: al, y, y', h, hl => by
    obtain ⟨x0, x1⟩ := hl x (List.mem_cons_self ..)
    have hlv : x.f0.toNat < 4 := by omega
    have ex : ((x.f0.toNat : Nat) : Int) = x.f0 := by omega
    rw [adsV] at h
    unfold adV at h
    by_cases hc : 0 < cntV y x.f1.f0
    · rw [if_pos hc] at h; cases h
    rw [if_neg hc] at h
    have h' : adsV (y.set x.f0.toNat (wiL x.f0 x.f1 (y.lv x.f0.toNat))) al = some y' := h
    obtain ⟨i1, i2, i3, i4, i5, i6⟩ := ads_char al _ y' h' (fun z hz => hl z (List.mem_cons_of_mem _ hz))
    have cw : ∀ n, cntV (y.set x.f0.toNat (wiL x.f0 x.f1 (y.lv x.f0.toNat))) n = cntV y n + if x.f1.f0 = n then 1 else 0 := fun n => wi_cnt y hlv x.f0 x.f1 n
    have mw : ∀ n, n = x.f1.f0 ∨ n ∈ nums (y.lv x.f0.toNat) → n ∈ nums (wiL x.f0 x.f1 (y.lv x.f0.toNat)) := fun n hn => by
      have h2 := wiL_cnt x.f0 x.f1 (y.lv x.f0.toNat) n
      refine List.count_pos_iff.mp ?_
      rcases hn with rfl | hn
      · rw [if_pos rfl] at h2; omega
      · have := List.count_pos_iff.mpr hn; omega
    refine ⟨?_, fun S hS i hi => ?_, fun z hz => ?_, ?_, fun z hz => ?_, fun i hi n hn => ?_⟩
    · have : ∀ (v : Ver) (i : Nat) (l : List S58), (v.set i l).log = v.log ∧ (v.set i l).next = v.next ∧ (v.set i l).seq = v.seq := fun v i l => by
        rcases i with _ | _ | _ | i <;> exact ⟨rfl, rfl, rfl⟩
      obtain ⟨a, b, c⟩ := this y x.f0.toNat (wiL x.f0 x.f1 (y.lv x.f0.toNat))
      exact ⟨i1.1.trans a, i1.2.1.trans b, i1.2.2.trans c⟩
    · rw [i2 S (fun z hz => hS z (List.mem_cons_of_mem _ hz)) i hi, Ver.set_lv y _ i hlv hi]
      by_cases e : i = x.f0.toNat
      · rw [if_pos e, e]
        unfold wiL
        rw [List.filter_append, List.filter_cons, if_neg (by simp [hS x (List.mem_cons_self ..)]), ← List.filter_append, List.take_append_drop]
      · rw [if_neg e]
    · rcases List.mem_cons.mp hz with rfl | hz
      · refine i6 _ hlv _ ?_
        rw [Ver.set_lv y _ _ hlv hlv, if_pos rfl]
        exact mw _ (.inl rfl)
      · exact i3 z hz
    · rw [List.map_cons, List.nodup_cons]
      refine ⟨fun hm => ?_, i4⟩
      obtain ⟨z, hz, e⟩ := List.mem_map.mp hm
      have h2 := i5 z hz
      rw [cw, e, if_pos rfl] at h2
      omega
    · rcases List.mem_cons.mp hz with rfl | hz
      · omega
      · have h2 := i5 z hz
        rw [cw] at h2
        omega
    · refine i6 i hi n ?_
      rw [Ver.set_lv y _ i hlv hi]
      by_cases e : i = x.f0.toNat
      · rw [if_pos e]
        rw [e] at hn
        exact mw n (.inr hn)
      · rw [if_neg e]; exact hn
/-- What takes away again what an edit adds. -/
def backL (l : List S82) : List S84 := l.map fun x => ⟨x.f0, x.f1.f0⟩
theorem bnd_zero (v : Ver) (g : List S84) (a : List S82) : bndV v ⟨0, 0, 0, g, a⟩ = v := by cases v; rfl
theorem laterB_zero (n : Int) : laterB n 0 = true := by unfold laterB; simp
theorem again {v w : Ver} {l : List S82} (h : applyV v ⟨0, 0, 0, [], l⟩ = (w, 0)) : applyV w ⟨0, 0, 0, backL l, []⟩ = (v, 0) := by
  rcases applyV_cases v ⟨0, 0, 0, [], l⟩ with ⟨y, x, h1, h2, h3, h4, h5⟩ | ⟨n, h1, h2⟩
  · rw [h5] at h
    injection h with h _
    subst h
    rw [bnd_zero] at h2
    injection h2 with h2
    subst h2
    have hl : ∀ z, z ∈ l → 0 ≤ z.f0 ∧ z.f0 < 4 := fun z hz => (h1.2.2 z hz).1
    obtain ⟨i1, i2, i3, i4, i5, i6⟩ := ads_char l v x h3 hl
    have e1 : (backL l).map (·.f1) = l.map (·.f1.f0) := by unfold backL; rw [List.map_map]; rfl
    obtain ⟨y', g1, g2, g3⟩ := gos_char (backL l) x (right_ap h4) (fun z hz => by
      obtain ⟨a, ha, rfl⟩ := List.mem_map.mp hz
      exact ⟨hl a ha, i3 a ha⟩) (by rw [e1]; exact i4)
    have ev : y' = v := by
      refine sameP_iff.mp ⟨⟨g2.1.trans i1.1, g2.2.1.trans i1.2.1, g2.2.2.trans i1.2.2⟩, fun i hi => ?_⟩
      rw [g3 i hi, e1, i2 _ (fun z hz => List.mem_map_of_mem (f := fun a : S82 => a.f1.f0) hz) i hi, List.filter_eq_self]
      intro m hm
      refine decide_eq_true fun h2 => ?_
      obtain ⟨a, ha, e⟩ := List.mem_map.mp h2
      have h3 := i5 a ha
      rw [lv_cnt] at h3
      have c1 : 1 ≤ (nums (v.lv i)).count a.f1.f0 := List.count_pos_iff.mpr (mem_nums.mpr ⟨m, hm, e.symm⟩)
      rcases (by omega : i = 0 ∨ i = 1 ∨ i = 2 ∨ i = 3) with rfl | rfl | rfl | rfl <;> omega
    subst ev
    unfold applyV
    rw [if_pos ⟨⟨h4, laterB_zero _, laterB_zero _, laterB_zero _⟩, fun z hz => by
      obtain ⟨a, ha, rfl⟩ := List.mem_map.mp hz
      exact hl a ha, fun z hz => by cases hz⟩, bnd_zero]
    show goneV x (backL l) [] = _
    unfold goneV
    rw [g1]
    exact if_pos h1.1.1
  · rw [h1] at h
    injection h with _ h
    omega
end Go.Proofs.Ytkjepfofiegcdaa.V
/- Apply's contract with its answer under letters; a whole row stored in a region that draws its order. Conditions: as before. -/
namespace Go.Proofs.Ytkjepfofiegcdaa.V
set_option linter.unusedVariables false
set_option linter.unusedSimpArgs false
open Go.RowKit Go.Proofs.YtkjepfofiegcdaaW.PrintWords Go.Proofs.YtkjepfofiegcdaaW.PrintLast Go.Proofs.YtkjepfofiegcdaaW.PrintMore Go.Proofs.Ytkjepfofiegcdaa.PB14
theorem apply2_calls (w : World) (v : Ver) (p : Pl) (e : Edt) (A1 A2 : Option Addr) (c1 c2 : Nat) {u : Ver} {f : Int} (h : applyV v e = (u, f)) (hC : VC w v p) (hW : VW v) (h1 : k84.C w A1 e.gone.length e.gone) (h2 : k82.C w A2 e.added.length e.added) (hn : ∀ i, i < 4 → (v.lv i).length ≤ 100000) (hga : e.added.length ≤ 100000) :
    Calls Try.prog 54 #[.agg (vCs v p), .agg (eCs e A1 c1 A2 c2)] w fun x w' => ∃ q : Pl, x = .returned (.tuple #[.agg (vCs u q), .int .i64 f]) ∧ Rows4 w' w.heap.size u q ∧ Below w.heap.size w w' := by
  have h3 := apply_calls w v p e A1 A2 c1 c2 hC hW h1 h2 hn hga
  rw [h] at h3
  exact h3
section
variable {P : Program} {ops : Array Oper} {Q : Exit → Act → World → Prop}
end
end Go.Proofs.Ytkjepfofiegcdaa.V
