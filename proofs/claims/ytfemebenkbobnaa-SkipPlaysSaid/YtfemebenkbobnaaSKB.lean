import Derived.Test.YtfemebenkbobnaaSKA
/- The answers that the layer's document fixes (awake of layer 8). Conditions: none. -/
namespace Go.Proofs.Ytfemebenkbobnaa.SK
set_option linter.unusedVariables false
set_option linter.unusedSimpArgs false
open Go.RowKit Go.Shelf Go.Proofs.YtfemebenkbobnaaW.PrintWords Go.Proofs.YtfemebenkbobnaaW.PrintLast Go.Proofs.YtfemebenkbobnaaW.PrintMore Go.Proofs.Ytfemebenkbobnaa.PB06
attribute [local go_sem] max2_mx min2_mn max_two min_two
theorem seek_calls (w : World) (g : Nat) (rs : List Nd) (key : ByteArray) (seq : Int) (h : Sk w g rs) (hlen : rs.length ≤ 2305843009213693952) :
    Calls Try.prog 27 #[.pointer (some ⟨g, 0, none⟩), .string key, .int .u64 seq] w fun e W' => e = .returned (.tuple #[rowV (seekRow key seq rs), .bool (seekOk key seq rs)]) ∧ Below w.heap.size w W' := (callsIn_wide (n := 4)).1 (seek_in 4 (Nat.le_refl _) w g rs key seq h hlen)
theorem whole_calls (w : World) (g : Nat) (rs : List Nd) (h : Sk w g rs) (hlen : rs.length ≤ 1000000) :
    Calls Try.prog 32 #[.pointer (some ⟨g, 0, none⟩)] w fun e W' => ∃ v, e = .returned v ∧ Kd.R k28 28 W' w.heap.size (fun _ => True) v ((beh ⟨#[]⟩ 18446744073709551615 rs).map (·.row)) ∧ Below w.heap.size w W' := (callsIn_wide (n := 4)).1 (whole_in 4 (Nat.le_refl _) w g rs h hlen)
theorem all_calls (w : World) (g : Nat) (rs : List Nd) (key : ByteArray) (seq most : Int) (h : Sk w g rs) (hlen : rs.length ≤ 1000000) :
    Calls Try.prog 23 #[.pointer (some ⟨g, 0, none⟩), .string key, .int .u64 seq, .int .i64 most] w fun e W' => ∃ v, e = .returned v ∧ Kd.R k28 28 W' w.heap.size (fun _ => True) v (takeM most ((beh key seq rs).map (·.row))) ∧ Below w.heap.size w W' := (callsIn_wide (n := 4)).1 (all_in 4 (Nat.le_refl _) w g rs key seq most h hlen)
theorem seek_nil_calls (w : World) (key : ByteArray) (seq : Int) : Calls Try.prog 27 #[.pointer none, .string key, .int .u64 seq] w fun e W' => e = .returned (.tuple #[rowV zrow, .bool false]) ∧ Below w.heap.size w W' := (callsIn_wide (n := 4)).1 (seek_nil_in 4 (Nat.le_refl _) w key seq)
theorem whole_nil_calls (w : World) : Calls Try.prog 32 #[.pointer none] w fun e W' => ∃ v, e = .returned v ∧ Kd.R k28 28 W' w.heap.size (fun _ => True) v ([] : List S28) ∧ Below w.heap.size w W' := (callsIn_wide (n := 4)).1 (whole_nil_in 4 (Nat.le_refl _) w)
theorem all_nil_calls (w : World) (key : ByteArray) (seq most : Int) : Calls Try.prog 23 #[.pointer none, .string key, .int .u64 seq, .int .i64 most] w fun e W' => ∃ v, e = .returned v ∧ Kd.R k28 28 W' w.heap.size (fun _ => True) v ([] : List S28) ∧ Below w.heap.size w W' := (callsIn_wide (n := 4)).1 (all_nil_in 4 (Nat.le_refl _) w key seq most)
/-- An empty list. -/
theorem Sk.empty {w : World} {g : Nat} (h : w.heap[g]? = some (.cells (cellsH 0 0 []).toArray 34 (0, 0))) : Sk w g [] :=
  ⟨⟨h, trivial, List.nodup_nil, fun x hx => by simp at hx⟩, fun x hx => by simp at hx, List.Pairwise.nil⟩
def ra1 : S28 := ⟨⟨#[97]⟩, 1, 0, ⟨#[]⟩⟩
def ra2 : S28 := ⟨⟨#[97]⟩, 2, 0, ⟨#[]⟩⟩
def rb1 : S28 := ⟨⟨#[98]⟩, 1, 0, ⟨#[]⟩⟩
theorem aw0 : taken ra1 [] = false := rfl
theorem aw1 (b : Nat) : insN ⟨b, ra1, clampH 1⟩ [] = [⟨b, ra1, 1⟩] := rfl
theorem x12 : aheadB ra2.f0 ra2.f1 ra1 = false := by decide +kernel
theorem x1b : aheadB rb1.f0 rb1.f1 ra1 = true := by decide +kernel
theorem x2b : aheadB rb1.f0 rb1.f1 ra2 = true := by decide +kernel
theorem x20 : aheadB ⟨#[97]⟩ 0 ra2 = true := by decide +kernel
theorem x10 : aheadB ⟨#[97]⟩ 0 ra1 = true := by decide +kernel
theorem xb0 : aheadB ⟨#[97]⟩ 0 rb1 = false := by decide +kernel
theorem xbb : aheadB ⟨#[98]⟩ 1 rb1 = false := by decide +kernel
theorem aw2 (b : Nat) : taken ra2 [⟨b, ra1, 1⟩] = false := by
  unfold taken beh
  rw [List.dropWhile_cons, if_neg (by rw [x12]; simp)]
  simp [ra1, ra2]
theorem aw3 (b c : Nat) : insN ⟨c, ra2, clampH 3⟩ [⟨b, ra1, 1⟩] = [⟨c, ra2, 3⟩, ⟨b, ra1, 1⟩] := by
  unfold insN ahd beh
  rw [List.dropWhile_cons, if_neg (by rw [x12]; simp), List.takeWhile_cons, if_neg (by rw [x12]; simp)]
  rfl
theorem aw4 (b c : Nat) : taken rb1 [⟨c, ra2, 3⟩, ⟨b, ra1, 1⟩] = false := by
  unfold taken beh
  rw [List.dropWhile_cons, if_pos x2b, List.dropWhile_cons, if_pos x1b]
  rfl
theorem aw5 (b c d : Nat) : insN ⟨d, rb1, clampH 2⟩ [⟨c, ra2, 3⟩, ⟨b, ra1, 1⟩] = [⟨c, ra2, 3⟩, ⟨b, ra1, 1⟩, ⟨d, rb1, 2⟩] := by
  unfold insN ahd beh
  rw [List.dropWhile_cons, if_pos x2b, List.dropWhile_cons, if_pos x1b, List.takeWhile_cons, if_pos x2b, List.takeWhile_cons, if_pos x1b]
  rfl
theorem aw6 (b c d : Nat) : beh ⟨#[97]⟩ 0 [⟨c, ra2, 3⟩, ⟨b, ra1, 1⟩, ⟨d, rb1, 2⟩] = [⟨d, rb1, 2⟩] := by
  unfold beh
  rw [List.dropWhile_cons, if_pos x20, List.dropWhile_cons, if_pos x10, List.dropWhile_cons, if_neg (by rw [xb0]; simp)]
theorem aw7 (b c d : Nat) : stepsN 12 (hts ⟨#[98]⟩ 1 [⟨c, ra2, 3⟩, ⟨b, ra1, 1⟩, ⟨d, rb1, 2⟩]) = 2 := by
  have : hts ⟨#[98]⟩ 1 [⟨c, ra2, 3⟩, ⟨b, ra1, 1⟩, ⟨d, rb1, 2⟩] = [3, 1] := by
    unfold hts
    rw [List.takeWhile_cons, if_pos (show aheadB ⟨#[98]⟩ 1 ra2 = true from x2b), List.takeWhile_cons, if_pos (show aheadB ⟨#[98]⟩ 1 ra1 = true from x1b), List.takeWhile_cons, if_neg (by rw [xbb]; simp)]
    rfl
  rw [this]
  decide +kernel
set_option maxHeartbeats 8000000 in
set_option maxRecDepth 100000 in
theorem awake08_calls (w : World) : Calls Try.prog 20 #[] w fun e w' => e = .returned (.bool true) ∧ Below w.heap.size w w' := by
  have HB := Aside0.mk (Below.refl w.heap.size w)
  go_enter Try.func20, Try.ntmps20
  go_wp2_with (first | ((with_reducible refine gate_dst (N := 1) rfl ?_); refine box_event ?hg (N := 1) ?hd (cs := (cellsH 0 0 []).toArray) (t := 34) ?hr ?_; (case hd => rfl); (case hg => rfl); (case hr => first | (go_simp; done) | (go_simp; rfl)); intro g hg w2 hbox hb; have n0_ := Aside0.mk (below_step HB.out hb); have n1_ := Aside0.mk (Sk.empty hbox); have GE := Aside0.mk (by rw [hg]; exact below_size HB.out : w.heap.size ≤ g); clear HB; have HB := n0_; have HS := n1_; clear n0_ n1_; clear hb hbox hg) | fail)
  refine (put_calls w2 g [] ra1 1 HS.out (by simp)).mono ?_
  rintro e w3 (⟨ht, _⟩ | ⟨_, rfl, b, hb, hS, hK⟩)
  · rw [aw0] at ht; cases ht
  rw [aw1] at hS
  have Gb := Aside0.mk (Nat.le_trans HB.out.size hb)
  have n0_ := Aside0.mk (hK.low w.heap.size w HB.out GE.out HB.out.size (fun k hk => by simp at hk))
  clear HB HS hK hb
  have HB := n0_
  have HS := Aside0.mk hS
  clear n0_ hS
  go_wp2_with fail
  refine (put_calls w3 g _ ra2 3 HS.out (by simp)).mono ?_
  rintro e w4 (⟨ht, _⟩ | ⟨_, rfl, c, hc, hS, hK⟩)
  · rw [aw2] at ht; cases ht
  rw [aw3] at hS
  have Gc := Aside0.mk (Nat.le_trans HB.out.size hc)
  have n0_ := Aside0.mk (hK.low w.heap.size w HB.out GE.out HB.out.size (fun k hk => by simp at hk; rw [hk]; exact Gb.out))
  clear HB HS hK hc
  have HB := n0_
  have HS := Aside0.mk hS
  clear n0_ hS
  go_wp2_with fail
  refine (put_calls w4 g _ rb1 2 HS.out (by simp)).mono ?_
  rintro e w5 (⟨ht, _⟩ | ⟨_, rfl, d, hd, hS, hK⟩)
  · rw [aw4] at ht; cases ht
  rw [aw5] at hS
  have n0_ := Aside0.mk (hK.low w.heap.size w HB.out GE.out HB.out.size (fun k hk => by simp at hk; rcases hk with hk | hk <;> rw [hk] <;> first | exact Gb.out | exact Gc.out))
  clear HB HS hK hd
  have HB := n0_
  have HS := Aside0.mk hS
  clear n0_ hS
  go_wp2_with fail
  refine (seek_calls w5 g _ ⟨#[97]⟩ 0 HS.out (by simp)).mono ?_
  have e1 : rowV (seekRow ⟨#[97]⟩ 0 [⟨c, ra2, 3⟩, ⟨b, ra1, 1⟩, ⟨d, rb1, 2⟩]) = .agg #[.string ⟨#[98]⟩, .int .u64 1, .int .i64 0, .string ⟨#[]⟩] := by unfold seekRow; rw [aw6]; rfl
  have e2 : seekOk ⟨#[97]⟩ 0 [⟨c, ra2, 3⟩, ⟨b, ra1, 1⟩, ⟨d, rb1, 2⟩] = true := by unfold seekOk; rw [aw6]
  rw [e1, e2]
  clear e1 e2
  rintro e w6 ⟨rfl, hb6⟩
  have n0_ := Aside0.mk (below_step HB.out hb6)
  have n1_ := Aside0.mk (HS.out.below hb6)
  clear HB HS hb6
  have HB := n0_
  have HS := n1_
  clear n0_ n1_
  go_wp2_with fail
  have n0_ := Aside0.mk (HB.out.alloc HB.out.size (.cells #[.string ⟨#[98]⟩, .int .u64 1, .int .i64 0, .string ⟨#[]⟩] 28))
  have n1_ := Aside0.mk (show SL _ g 3 3 _ from (HS.out.below ((Below.refl _ w6).alloc (Nat.le_refl _) (.cells #[.string ⟨#[98]⟩, .int .u64 1, .int .i64 0, .string ⟨#[]⟩] 28))).sl)
  have n2_ := Aside0.mk (HS.out.below ((Below.refl _ w6).alloc (Nat.le_refl _) (.cells #[.string ⟨#[98]⟩, .int .u64 1, .int .i64 0, .string ⟨#[]⟩] 28)))
  clear HB HS
  have HB := n0_
  have HL := n1_
  have HS := n2_
  clear n0_ n1_ n2_
  refine (len_calls _ g 3 3 _ HL.out).mono ?_
  rintro e w7 ⟨rfl, hb7⟩
  have n0_ := Aside0.mk (below_step HB.out hb7)
  have n1_ := Aside0.mk (HL.out.below hb7)
  have n2_ := Aside0.mk (HS.out.below hb7)
  clear HB HL HS hb7
  have HB := n0_
  have HL := n1_
  have HS := n2_
  clear n0_ n1_ n2_
  go_wp2_with fail
  refine (height_calls _ g 3 3 _ HL.out).mono ?_
  rintro e w8 ⟨rfl, hb8⟩
  have n0_ := Aside0.mk (below_step HB.out hb8)
  have n2_ := Aside0.mk (HS.out.below hb8)
  clear HB HL HS hb8
  have HB := n0_
  have HS := n2_
  clear n0_ n2_
  go_wp2_with fail
  refine (steps_calls _ g _ _ _ ⟨#[98]⟩ 1 HS.out.sl (HS.out.front _ _) (by simp)).mono ?_
  rw [aw7]
  rintro e w9 ⟨rfl, hb9⟩
  have n0_ := Aside0.mk (below_step HB.out hb9)
  clear HB HS hb9
  have HB := n0_
  clear n0_
  go_wp2_with fail
  go_ret
  exact ⟨rfl, HB.out⟩
end Go.Proofs.Ytfemebenkbobnaa.SK
