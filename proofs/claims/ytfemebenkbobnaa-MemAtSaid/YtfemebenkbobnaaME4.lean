import Derived.Test.YtfemebenkbobnaaME3
/- The table of rows in memory where there is none; an answer that the document fixes (awake). Conditions: none. -/
namespace Go.Proofs.Ytfemebenkbobnaa.SM
set_option linter.unusedVariables false
set_option linter.unusedSimpArgs false
open Go.RowKit Go.Shelf Go.Proofs.YtfemebenkbobnaaW.PrintWords Go.Proofs.YtfemebenkbobnaaW.PrintLast Go.Proofs.YtfemebenkbobnaaW.PrintMore Go.Proofs.Ytfemebenkbobnaa.PB06
theorem add_un {w : World} {p : Option Addr} (h : Un w p) (n0 : Int) (A0 : Option Addr) (c0 m0 : Nat) (v : Value) : Calls Try.prog 49 #[.pointer p, .agg #[.int .u64 n0, .slice A0 m0 c0], v] w fun e w' => e = .returned (.int .i64 1) ∧ Below w.heap.size w w' := by
  have HB := Aside0.mk (Below.refl w.heap.size w)
  have HU := Aside0.mk h
  clear h
  go_enter Try.func49, Try.ntmps49
  go_wp2_with (first | ((with_reducible refine gate_dst (N := 4) rfl ?_); refine box_event ?hg (N := 4) ?hd (cs := #[.int .u64 n0, .slice A0 m0 c0]) (t := 58) ?hr ?_; (case hd => rfl); (case hg => rfl); (case hr => first | (go_simp; done) | (go_simp; rfl)); intro gb hg w2 hbox hb; have n0_ := Aside0.mk (below_step HB.out hb); have n2_ := Aside0.mk (HU.out.below hb); clear HB HU; have HB := n0_; have HU := n2_; clear n0_ n2_; clear hb hbox hg) | fail)
  refine (none_un HU.out).mono ?_
  rintro e w3 ⟨rfl, hb⟩
  have HB2 := Aside0.mk (below_step HB.out hb)
  clear hb HB
  go_wp2_with fail
  go_ret
  exact ⟨rfl, HB2.out⟩
theorem ends_nil (w : World) : Calls Try.prog 81 #[.slice none 0 0] w fun e w' => e = .returned (.tuple #[.int .u64 0, .int .u64 0]) ∧ Below w.heap.size w w' := by
  go_enter Try.func81, Try.ntmps81
  go_wp2
  go_loopg [4, 5, 6] 0 (fun kq v4 v5 v6 w' => v4 = .int .u64 0 ∧ v5 = .int .u64 0 ∧ v6 = .int .i64 0 ∧ w' = w)
  case atStart => exact ⟨rfl, rfl, rfl, rfl⟩
  case round =>
    obtain ⟨rfl, rfl, rfl, rfl⟩ := hrel
    go_wp2
    exact bodyPost_ret (v := .tuple #[.int .u64 0, .int .u64 0]) (by simp [results, Try.results81, go_sem]) rfl ⟨rfl, Below.refl _ _⟩
theorem room_nil (w : World) : Calls Try.prog 82 #[.slice none 0 0] w fun e w' => e = .returned (.int .i64 0) ∧ Below w.heap.size w w' := by
  go_enter Try.func82, Try.ntmps82
  go_wp2
  go_loopg [3, 4] 0 (fun kq v3 v4 w' => v3 = .int .i64 0 ∧ v4 = .int .i64 0 ∧ w' = w)
  case atStart => exact ⟨rfl, rfl, rfl⟩
  case round =>
    obtain ⟨rfl, rfl, rfl⟩ := hrel
    go_wp2
    go_ret
    exact ⟨rfl, Below.refl _ _⟩
theorem tells_un {w : World} {p : Option Addr} (h : Un w p) : Calls Try.prog 58 #[.pointer p, .slice none 0 0] w fun e w' => e = .returned (.bool true) ∧ Below w.heap.size w w' := by
  go_enter Try.func58, Try.ntmps58
  go_wp2_with fail
  refine (ends_nil w).mono ?_
  rintro e w1 ⟨rfl, h1⟩
  go_wp2_with fail
  refine (tlen_un (h.below h1)).mono ?_
  rintro e w2 ⟨rfl, h2⟩
  have b2 := below_step h1 h2
  clear h1 h2
  go_wp2_with fail
  refine (room_un (h.below b2)).mono ?_
  rintro e w3 ⟨rfl, h3⟩
  have b3 := below_step b2 h3
  clear b2 h3
  go_wp2_with fail
  refine (room_nil w3).mono ?_
  rintro e w4 ⟨rfl, h4⟩
  have b4 := below_step b3 h4
  clear b3 h4
  go_wp2_with fail
  refine (least_un (h.below b4)).mono ?_
  rintro e w5 ⟨rfl, h5⟩
  have b5 := below_step b4 h5
  clear b4 h5
  go_wp2_with fail
  refine (greatest_un (h.below b5)).mono ?_
  rintro e w6 ⟨rfl, h6⟩
  have b6 := below_step b5 h6
  clear b5 h6
  go_wp2_with fail
  go_ret
  exact ⟨rfl, b6⟩
/-! ### awake -/
theorem C72_block {w : World} {g t : Nat} {xs : List S72} {cs : Array Value} (hg : w.heap[g]? = some (.cells cs t (0, 0))) (hl : xs.length ≤ 1000)
    (hc : ∀ j p, xs[j]? = some p → ∀ i u, ([.int .i64 p.f0, .string p.f1, .string p.f2] : List Value)[i]? = some u → cs[j * 3 + i]? = some u) : k72.C w (some ⟨g, 0, none⟩) xs.length xs := by
  refine ⟨rfl, by omega, fun _ => ⟨_, rfl, fun j p hj => ⟨[.int .i64 p.f0, .string p.f1, .string p.f2], rfl, k72_mk w p, fun i u hu => ?_⟩⟩⟩
  show w.cell? ((⟨g, 0, none⟩ : Addr).add (j * 3 + i)) = some u
  rw [Addr.add_mid, Nat.zero_add, blk_cell hg]
  exact hc j p hj i u hu
theorem C3_block {w : World} {g t : Nat} {x : Int} (hg : w.heap[g]? = some (.cells #[.int .i64 x] t (0, 0))) : (Kd.int .i64).C w (some ⟨g, 0, none⟩) 1 [x] := by
  refine ⟨rfl, by decide, fun _ => ⟨_, rfl, fun j p hj => ⟨[.int .i64 p], rfl, rfl, fun i u hu => ?_⟩⟩⟩
  show w.cell? ((⟨g, 0, none⟩ : Addr).add (j * 1 + i)) = some u
  have hj0 : j = 0 := by
    cases j with
    | zero => rfl
    | succ n => simp at hj
  have hi0 : i = 0 := by
    cases i with
    | zero => rfl
    | succ n => simp at hu
  subst hj0 hi0
  rw [Addr.add_mid, blk_cell hg]
  simp at hj hu
  rw [← hu, ← hj]
  rfl
def wa1 : S72 := ⟨1, ⟨#[97]⟩, ⟨#[120]⟩⟩
def wb1 : S72 := ⟨1, ⟨#[98]⟩, ⟨#[121]⟩⟩
def wd1 : S72 := ⟨2, ⟨#[97]⟩, ⟨#[]⟩⟩
def rA : S28 := ⟨⟨#[97]⟩, 1, 1, ⟨#[120]⟩⟩
def rB : S28 := ⟨⟨#[98]⟩, 2, 1, ⟨#[121]⟩⟩
def rD : S28 := ⟨⟨#[97]⟩, 3, 2, ⟨#[]⟩⟩
theorem check1 : batch_Check.f 20 1 [wa1, wb1] = some 0 := by decide +kernel
theorem check2 : batch_Check.f 20 3 [wd1] = some 0 := by decide +kernel
theorem rows1 : batch_Rows.f 20 1 [wa1, wb1] = some [rA, rB] := by
  unfold batch_Rows.f
  rw [check1]
  kernel_rfl
theorem rows2 : batch_Rows.f 20 3 [wd1] = some [rD] := by
  unfold batch_Rows.f
  rw [check2]
  kernel_rfl
/-! ### what the calls of awake come to -/
def getIsV (key : ByteArray) (seq : Int) (l : List RH) : Bool := match behV key seq l with
  | [] => false
  | y :: _ => decide (y.1.f0 = key)
def getRowV (key : ByteArray) (seq : Int) (l : List RH) : S28 := match behV key seq l with
  | [] => zrow
  | y :: _ => if y.1.f0 = key then y.1 else zrow
theorem getIs_v (key : ByteArray) (seq : Int) (rs : List Nd) : getIs key seq rs = getIsV key seq (vals rs) := by
  unfold getIs getIsV seekOk seekRow
  rw [← vals_beh]
  cases beh key seq rs with
  | nil => rfl
  | cons y T => simp [vals]
theorem getRow_v (key : ByteArray) (seq : Int) (rs : List Nd) : getRow key seq rs = getRowV key seq (vals rs) := by
  unfold getRow getIs getRowV seekOk seekRow
  rw [← vals_beh]
  cases beh key seq rs with
  | nil => rfl
  | cons y T => simp [vals]
def t1 : Ts := runT [rA, rB] [] ⟨[], 0, 0, 0⟩ 2
def t2 : Ts := runT [rD] [5] t1 1
theorem t1_len : t1.l.length = 2 := by kernel_rfl
theorem t1_room : t1.room = 36 := by kernel_rfl
theorem t1_free : takenV rD t1.l = false := by kernel_rfl
theorem t2_len : t2.l.length = 3 := by kernel_rfl
theorem t2_room : t2.room = 53 := by kernel_rfl
theorem t2_least : t2.least = 1 := by kernel_rfl
theorem t2_greatest : t2.greatest = 3 := by kernel_rfl
theorem t2_is : getIsV ⟨#[97]⟩ 2 t2.l = true := by kernel_rfl
theorem t2_row : getRowV ⟨#[97]⟩ 2 t2.l = rA := by kernel_rfl
theorem C72_two (x y : S72) {w : World} {g t : Nat} (hg : w.heap[g]? = some (.cells #[.int .i64 x.f0, .string x.f1, .string x.f2, .int .i64 y.f0, .string y.f1, .string y.f2] t (0, 0))) : k72.C w (some ⟨g, 0, none⟩) 2 [x, y] := by
  refine C72_block (xs := [x, y]) hg (by simp) (fun j p hj i u hu => ?_)
  match j, hj with
  | 0, hj =>
    simp at hj
    subst hj
    match i, hu with
    | 0, hu => simpa using hu
    | 1, hu => simpa using hu
    | 2, hu => simpa using hu
    | n + 3, hu => simp at hu
  | 1, hj =>
    simp at hj
    subst hj
    match i, hu with
    | 0, hu => simpa using hu
    | 1, hu => simpa using hu
    | 2, hu => simpa using hu
    | n + 3, hu => simp at hu
  | n + 2, hj => simp at hj
theorem C72_one (x : S72) {w : World} {g t : Nat} (hg : w.heap[g]? = some (.cells #[.int .i64 x.f0, .string x.f1, .string x.f2] t (0, 0))) : k72.C w (some ⟨g, 0, none⟩) 1 [x] := by
  refine C72_block (xs := [x]) hg (by simp) (fun j p hj i u hu => ?_)
  match j, hj with
  | 0, hj =>
    simp at hj
    subst hj
    match i, hu with
    | 0, hu => simpa using hu
    | 1, hu => simpa using hu
    | 2, hu => simpa using hu
    | n + 3, hu => simp at hu
  | n + 1, hj => simp at hj
set_option maxHeartbeats 8000000 in
set_option maxRecDepth 100000 in
theorem awake09_calls (w : World) : Calls Try.prog 46 #[] w fun e w' => e = .returned (.bool true) ∧ Below w.heap.size w w' := by
  go_enter Try.func46, Try.ntmps46
  go_wp2_with fail
  refine (new_calls w).mono ?_
  rintro e w1 ⟨g, rfl, hs, hg, hb⟩
  have HG := Aside0.mk hg
  have n0_ := Aside0.mk (hs.below ((Below.refl w1.heap.size w1).alloc (Nat.le_refl _) (.cells #[.int .i64 1, .string ⟨#[97]⟩, .string ⟨#[120]⟩, .int .i64 1, .string ⟨#[98]⟩, .string ⟨#[121]⟩] 72)))
  have n1_ := Aside0.mk (below_step hb ((Below.refl w1.heap.size w1).alloc (Nat.le_refl _) (.cells #[.int .i64 1, .string ⟨#[97]⟩, .string ⟨#[120]⟩, .int .i64 1, .string ⟨#[98]⟩, .string ⟨#[121]⟩] 72)))
  have n2_ := Aside0.mk (C72_two wa1 wb1 (blk_new w1 (.cells #[.int .i64 1, .string ⟨#[97]⟩, .string ⟨#[120]⟩, .int .i64 1, .string ⟨#[98]⟩, .string ⟨#[121]⟩] 72)))
  have LG := Aside0.mk (show g < w1.heap.size from hs.lt g (fp_mem.mpr (.inl rfl)))
  clear hs hg hb
  go_wp2_with fail
  generalize w1.heap.size = gb at *
  generalize w1.alloc (.cells #[.int .i64 1, .string ⟨#[97]⟩, .string ⟨#[120]⟩, .int .i64 1, .string ⟨#[98]⟩, .string ⟨#[121]⟩] 72) = w2 at *
  refine (add_tab w2 g [] 0 0 0 n0_.out 1 (some ⟨gb, 0, none⟩) 2 [wa1, wb1] n2_.out (by simp) none 0 [] (fun w' _ => Kd.C_nil _ _) 0 20 check1 [rA, rB] (fun _ => ⟨20, rows1⟩) (by intro r hr; simp at hr; rcases hr with rfl | rfl <;> decide +kernel) (by omega) (by simp) (by simp)).mono ?_
  rintro e w3 (⟨h1, _⟩ | ⟨_, ⟨r, _, ht⟩, _⟩ | ⟨_, _, rfl, rs1, ha⟩)
  · exact absurd rfl h1
  · rw [show takenV r (vals []) = false from rfl] at ht
    cases ht
  replace ha : AddP w2 w3 g [] t1 rs1 := ha
  have HS := Aside0.mk ha.sk
  have HV := Aside0.mk ha.val
  have HB := Aside0.mk (ha.kp.low w.heap.size w n1_.out HG.out n1_.out.size (fun k hk => by simp at hk))
  have HLO := Aside0.mk (show ∀ k, k ∈ fp g rs1 → w.heap.size ≤ k from fun k hk => (ha.new k hk).elim (fun h => by rw [fp_mem] at h; simp at h; rw [h]; exact HG.out) (fun h => Nat.le_trans n1_.out.size h))
  clear ha n0_ n1_ n2_
  have hb1 := (Below.refl w3.heap.size w3).alloc (Nat.le_refl _) (.cells #[.int .i64 2, .string ⟨#[97]⟩, .string ⟨#[]⟩] 72)
  have hb2 := hb1.alloc (by simp) (.cells #[.int .i64 5] 3)
  have hsz : (w3.alloc (.cells #[.int .i64 2, .string ⟨#[97]⟩, .string ⟨#[]⟩] 72)).heap.size = w3.heap.size + 1 := by simp
  have hb5 := blk_new (w3.alloc (.cells #[.int .i64 2, .string ⟨#[97]⟩, .string ⟨#[]⟩] 72)) (.cells #[.int .i64 5] 3)
  rw [hsz] at hb5
  have n0_ := Aside0.mk (HS.out.below hb2)
  have n1_ := Aside0.mk (below_step HB.out hb2)
  have n2_ := Aside0.mk (C72_one wd1 (blk_alloc (blk_new w3 (.cells #[.int .i64 2, .string ⟨#[97]⟩, .string ⟨#[]⟩] 72)) (.cells #[.int .i64 5] 3)))
  have n3_ := Aside0.mk hb5
  clear HS HB hb1 hb2 hb5 LG
  go_wp2_with fail
  try rw [hsz]
  clear hsz
  generalize (w3.alloc (.cells #[.int .i64 2, .string ⟨#[97]⟩, .string ⟨#[]⟩] 72)).alloc (.cells #[.int .i64 5] 3) = w4 at *
  generalize w3.heap.size = gd at *
  refine (add_tab w4 g rs1 t1.room t1.least t1.greatest n0_.out 3 (some ⟨gd, 0, none⟩) 1 [wd1] n2_.out (by simp) (some ⟨gd + 1, 0, none⟩) 1 [5] (fun w' hk => C3_block ((hk _ (blk_lt n3_.out) (fun hm => by obtain ⟨cs, q, h1, _, h3⟩ := sk_typed n0_.out _ hm; rw [n3_.out] at h1; cases h1; exact h3 rfl)).trans n3_.out)) 0 20 check2 [rD] (fun _ => ⟨20, rows2⟩) (by intro r hr; simp at hr; rw [hr]; decide +kernel) (by rw [t1_room]; omega) (by have h1 := congrArg List.length HV.out; rw [vals_len, t1_len] at h1; omega) (by simp)).mono ?_
  rintro e w5 (⟨h1, _⟩ | ⟨_, ⟨r, hr, ht⟩, _⟩ | ⟨_, _, rfl, rs2, ha⟩)
  · exact absurd rfl h1
  · simp at hr
    rw [hr, HV.out, t1_free] at ht
    cases ht
  rw [HV.out] at ha
  replace ha : AddP w4 w5 g rs1 t2 rs2 := ha
  have HS := Aside0.mk ha.sk
  have HV2 := Aside0.mk ha.val
  have HB := Aside0.mk (ha.kp.low w.heap.size w n1_.out HG.out n1_.out.size (fun k hk => HLO.out k (fp_mem.mpr (.inr hk))))
  clear ha n0_ n1_ n2_ n3_ HLO HV
  have hgt := get_tab HS.out (by have h1 := congrArg List.length HV2.out; rw [vals_len, t2_len] at h1; omega) ⟨#[97]⟩ 2
  rw [getIs_v, getRow_v, HV2.out, t2_is, t2_row, show rowV rA = .agg #[.string ⟨#[97]⟩, .int .u64 1, .int .i64 1, .string ⟨#[120]⟩] from rfl] at hgt
  have HGT := Aside0.mk hgt
  clear hgt
  go_wp2_with fail
  refine HGT.out.mono ?_
  rintro e w6 ⟨rfl, hb⟩
  have hal := (Below.refl w6.heap.size w6).alloc (Nat.le_refl _) (.cells #[.string ⟨#[97]⟩, .int .u64 1, .int .i64 1, .string ⟨#[120]⟩] 28)
  have n0_ := Aside0.mk ((HS.out.below hb).below hal)
  have n1_ := Aside0.mk (below_step (below_step HB.out hb) hal)
  have c0 : (w6.alloc (.cells #[.string ⟨#[97]⟩, .int .u64 1, .int .i64 1, .string ⟨#[120]⟩] 28)).cell? ⟨w6.heap.size, 0, none⟩ = some (.string ⟨#[97]⟩) := (blk_cell (blk_new w6 (.cells #[.string ⟨#[97]⟩, .int .u64 1, .int .i64 1, .string ⟨#[120]⟩] 28)) 0).trans rfl
  have c1 : (w6.alloc (.cells #[.string ⟨#[97]⟩, .int .u64 1, .int .i64 1, .string ⟨#[120]⟩] 28)).cell? ⟨w6.heap.size, 1, none⟩ = some (.int .u64 1) := (blk_cell (blk_new w6 (.cells #[.string ⟨#[97]⟩, .int .u64 1, .int .i64 1, .string ⟨#[120]⟩] 28)) 1).trans rfl
  have c3 : (w6.alloc (.cells #[.string ⟨#[97]⟩, .int .u64 1, .int .i64 1, .string ⟨#[120]⟩] 28)).cell? ⟨w6.heap.size, 3, none⟩ = some (.string ⟨#[120]⟩) := (blk_cell (blk_new w6 (.cells #[.string ⟨#[97]⟩, .int .u64 1, .int .i64 1, .string ⟨#[120]⟩] 28)) 3).trans rfl
  clear HS HB hb hal HGT
  go_wp2_with fail
  generalize w6.alloc (.cells #[.string ⟨#[97]⟩, .int .u64 1, .int .i64 1, .string ⟨#[120]⟩] 28) = w7 at *
  clear c0 c1 c3
  have h60 := room_tab n0_.out
  rw [t2_room] at h60
  refine h60.mono ?_
  clear h60
  rintro e w8 ⟨rfl, hb⟩
  have m0_ := Aside0.mk (n0_.out.below hb)
  have m1_ := Aside0.mk (below_step n1_.out hb)
  clear n0_ n1_ hb
  go_wp2_with fail
  have h62 := least_tab m0_.out
  rw [t2_least] at h62
  refine h62.mono ?_
  clear h62
  rintro e w9 ⟨rfl, hb⟩
  have n0_ := Aside0.mk (m0_.out.below hb)
  have n1_ := Aside0.mk (below_step m1_.out hb)
  clear m0_ m1_ hb
  go_wp2_with fail
  have h63 := greatest_tab n0_.out
  rw [t2_greatest] at h63
  refine h63.mono ?_
  clear h63
  rintro e w10 ⟨rfl, hb⟩
  have m1_ := Aside0.mk (below_step n1_.out hb)
  clear n0_ n1_ hb
  go_wp2_with fail
  go_ret
  exact ⟨rfl, m1_.out⟩
end Go.Proofs.Ytfemebenkbobnaa.SM
