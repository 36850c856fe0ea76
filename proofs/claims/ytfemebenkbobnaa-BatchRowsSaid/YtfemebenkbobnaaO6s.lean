-- printed by wip/mkprint.py, a program of this session, over the kit's print program; the end of own and the whole of kept by hand
import Derived.Test.YtfemebenkbobnaaPB060
import Derived.Test.YtfemebenkbobnaaS06
namespace Go.Proofs.Ytfemebenkbobnaa.PB06
open Go.RowKit Go.Proofs.YtfemebenkbobnaaW.PrintWords Go.Proofs.YtfemebenkbobnaaW.PrintLast Go.Proofs.YtfemebenkbobnaaW.PrintMore
attribute [local go_sem] max2_int min2_int max_two min_two max_three min_three max_four min_four   -- for this text's walks alone
set_option linter.unusedVariables false
set_option linter.unusedSimpArgs false
/-- A row of writes with a mark behind. -/
def OM (w : World) (base : Nat) (ok : Nat → Prop) (A : Option Addr) (c : Nat) (xs : List S72) : Prop := Kd.R k72 72 w base ok (.slice A (xs.length + 1) c) (xs ++ [(⟨77, (⟨#[]⟩ : ByteArray), (⟨#[]⟩ : ByteArray)⟩ : S72)])
namespace OM
section
variable {w w1 : World} {base : Nat} {ok ok' : Nat → Prop} {A : Option Addr} {c : Nat} {xs : List S72}
theorem R_drew (h : OM w base ok A c xs) : OM w.drew base ok A c xs := Kd.R_drew h
theorem R_drewN (h : OM w base ok A c xs) (m : Nat) : OM (w.drewN m) base ok A c xs := Kd.R_drewN h m
theorem R_alloc (h : OM w base ok A c xs) (o : Obj) : OM (w.alloc o) base ok A c xs := Kd.R_alloc h o
theorem R_below (h : OM w base ok A c xs) (hb : Below w.heap.size w w1) : OM w1 base ok A c xs := Kd.R_below h hb
theorem R_lower {base' : Nat} (h : OM w base ok A c xs) (hb : base' ≤ base) : OM w base' ok A c xs := Kd.R_lower h hb
theorem R_mono (h : OM w base ok A c xs) (hok : ∀ k, ok k → ok' k) : OM w base ok' A c xs := Kd.R_mono h hok
theorem R_types (h : OM w base ok A c xs) {g t : Nat} {cells : Array Value} (hb : w.heap[g]? = some (.cells cells t (0, 0))) (ht : ∀ q, q ∈ 72 :: k72.E → q ≠ t) : OM w base (fun k => ok k ∧ k ≠ g) A c xs := Kd.R_types h hb ht
theorem R_far (h : OM w base ok A c xs) {p : Addr} (hok : ∀ k, ok k → k ≠ p.block) (u : Value) : OM (w.setCell p u) base ok A c xs := Kd.R_far h hok u
theorem R_readsM (h : OM w base ok A c xs) : xs.length + 1 ≤ c ∧ Kd.C k72 w A (xs.length + 1) (xs ++ [(⟨77, (⟨#[]⟩ : ByteArray), (⟨#[]⟩ : ByteArray)⟩ : S72)]) := by
  obtain ⟨_, h1, h2⟩ := Kd.R_reads' h
  rw [List.length_append] at h2
  exact ⟨h1, h2⟩
theorem R_reads' (h : OM w base ok A c xs) : True ∧ xs.length ≤ c ∧ Kd.C k72 w A xs.length xs := by
  obtain ⟨h0, h1, h2⟩ := Kd.R_reads' h
  have := Kd.C_take (m := xs.length) h2 (by simp)
  rw [List.take_left' rfl] at this
  exact ⟨trivial, by omega, this⟩
end
end OM
/-! ### freshetlaw06_own: function 34 -/
def freshetlaw06_own.g (a0_0 : Int) (l0_1 : List (S72)) : Option (Int × (List (S72))) := (some (([] : List (S72)) : List (S72))).bind fun y130 => (if y130.length + l0_1.length < 3518437208883 then ((some (y130 ++ l0_1 : List (S72))).bind fun y133 => (if y133.length < 3518437208883 then ((some (y133 ++ [(⟨77, (⟨#[]⟩ : ByteArray), (⟨#[]⟩ : ByteArray)⟩ : S72)] : List (S72))).bind fun y136 => (if 0 ≤ (l0_1.length : Int) then (if (l0_1.length : Int) ≤ (y136.length : Int) then (some (a0_0, (y136.take ((l0_1.length : Int) : Int).toNat))) else (none)) else (none))) else (none))) else (none))
def freshetlaw06_own.T3 : Bool × List (List Nat × List Nat) := (true, [([], []), ([0], [0]), ([], []), ([], []), ([3], [3]), ([4], [4]), ([2, 5], [2, 5]), ([1, 6], [1, 6]), ([7, 0, 1, 2, 3, 4, 5, 6, 7], [7])])
def freshetlaw06_own.B3 : List Nat := [0, 1, 0, 0, 8, 24, 60, 127, 255]
theorem freshetlaw06_own.tab3 : rtab .any (opsOf Try.f34 3) = freshetlaw06_own.T3 := by kernel_rfl
theorem freshetlaw06_own.bits3 : waitsOk freshetlaw06_own.T3.2 freshetlaw06_own.B3 = true := by kernel_rfl
set_option maxHeartbeats 8000000 in
set_option maxRecDepth 100000 in
theorem freshetlaw06_own.callsG (a0_0 : Int) (A0_1 : Option Addr) (c0_1 : Nat) (l0_1 : List (S72)) (r1 : Int) (r2 : List (S72)) (w : World) (hr0_1 : Kd.C k72 w A0_1 l0_1.length l0_1) (hc0_1 : l0_1.length ≤ c0_1) (h : freshetlaw06_own.g a0_0 l0_1 = some (r1, r2)) :
    Calls Try.prog 34 #[.agg #[.int .u64 a0_0, .slice A0_1 l0_1.length c0_1]] w fun e w' => ∃ (Ao : Option Addr) (co : Nat), e = .returned (.agg #[.int .u64 r1, .slice Ao r2.length co]) ∧ OM w' w.heap.size (fun _ => True) Ao co r2 ∧ Below w.heap.size w w' := by
  have hu58 := Try.underlying58
  have hu72 := Try.underlying72
  have HR0_1 := Aside0.mk hr0_1
  have HC0_1 := Aside0.mk hc0_1
  clear hr0_1 hc0_1
  have HB := Aside0.mk (Below.refl w.heap.size w)
  have H : ((some (([] : List (S72)) : List (S72))).bind fun y130 => (if y130.length + l0_1.length < 3518437208883 then ((some (y130 ++ l0_1 : List (S72))).bind fun y133 => (if y133.length < 3518437208883 then ((some (y133 ++ [(⟨77, (⟨#[]⟩ : ByteArray), (⟨#[]⟩ : ByteArray)⟩ : S72)] : List (S72))).bind fun y136 => (if 0 ≤ (l0_1.length : Int) then (if (l0_1.length : Int) ≤ (y136.length : Int) then (some (a0_0, (y136.take ((l0_1.length : Int) : Int).toNat))) else (none)) else (none))) else (none))) else (none))) = some (r1, r2) := h
  clear h
  obtain ⟨y130, hy130⟩ : ∃ y_ : List (S72), y_ = (([] : List (S72))) := ⟨_, rfl⟩
  replace H : (if y130.length + l0_1.length < 3518437208883 then ((some (y130 ++ l0_1 : List (S72))).bind fun y133 => (if y133.length < 3518437208883 then ((some (y133 ++ [(⟨77, (⟨#[]⟩ : ByteArray), (⟨#[]⟩ : ByteArray)⟩ : S72)] : List (S72))).bind fun y136 => (if 0 ≤ (l0_1.length : Int) then (if (l0_1.length : Int) ≤ (y136.length : Int) then (some (a0_0, (y136.take ((l0_1.length : Int) : Int).toNat))) else (none)) else (none))) else (none))) else (none)) = some (r1, r2) := by first | (rw [hy130]; with_reducible exact H) | (have H2_ := (Option.bind_some _ _).symm.trans H; rw [hy130]; with_reducible exact H2_) | (have H2_ := (Option.bind_some _ _).symm.trans H; with_reducible exact H2_) | with_reducible exact H | (rw [hy130]; exact H) | exact H
  have Ny130 := Aside0.mk hy130
  clear hy130
  by_cases c2 : y130.length + l0_1.length < 3518437208883
  · rw [if_pos c2] at H
    have LMc2 := Aside0.mk c2
    clear c2
    obtain ⟨y133, hy133⟩ : ∃ y_ : List (S72), y_ = (y130 ++ l0_1) := ⟨_, rfl⟩
    replace H : (if y133.length < 3518437208883 then ((some (y133 ++ [(⟨77, (⟨#[]⟩ : ByteArray), (⟨#[]⟩ : ByteArray)⟩ : S72)] : List (S72))).bind fun y136 => (if 0 ≤ (l0_1.length : Int) then (if (l0_1.length : Int) ≤ (y136.length : Int) then (some (a0_0, (y136.take ((l0_1.length : Int) : Int).toNat))) else (none)) else (none))) else (none)) = some (r1, r2) := by first | (rw [hy133]; with_reducible exact H) | (have H2_ := (Option.bind_some _ _).symm.trans H; rw [hy133]; with_reducible exact H2_) | (have H2_ := (Option.bind_some _ _).symm.trans H; with_reducible exact H2_) | with_reducible exact H | (rw [hy133]; exact H) | exact H
    have Ny133 := Aside0.mk hy133
    clear hy133
    by_cases c3 : y133.length < 3518437208883
    · rw [if_pos c3] at H
      have LMc3 := Aside0.mk c3
      clear c3
      obtain ⟨y136, hy136⟩ : ∃ y_ : List (S72), y_ = (y133 ++ [(⟨77, (⟨#[]⟩ : ByteArray), (⟨#[]⟩ : ByteArray)⟩ : S72)]) := ⟨_, rfl⟩
      replace H : (if 0 ≤ (l0_1.length : Int) then (if (l0_1.length : Int) ≤ (y136.length : Int) then (some (a0_0, (y136.take ((l0_1.length : Int) : Int).toNat))) else (none)) else (none)) = some (r1, r2) := by first | (rw [hy136]; with_reducible exact H) | (have H2_ := (Option.bind_some _ _).symm.trans H; rw [hy136]; with_reducible exact H2_) | (have H2_ := (Option.bind_some _ _).symm.trans H; with_reducible exact H2_) | with_reducible exact H | (rw [hy136]; exact H) | exact H
      have Ny136 := Aside0.mk hy136
      clear hy136
      by_cases c4 : 0 ≤ (l0_1.length : Int)
      · rw [if_pos c4] at H
        have c4b0 := eq_true c4
        have c4b1 : decide (0 ≤ (l0_1.length : Int)) = true := decide_eq_true c4
        clear c4
        by_cases c5 : (l0_1.length : Int) ≤ (y136.length : Int)
        · rw [if_pos c5] at H
          have c5b0 := eq_true c5
          have c5b1 : decide ((l0_1.length : Int) ≤ (y136.length : Int)) = true := decide_eq_true c5
          clear c5
          obtain ⟨y139, hy139⟩ : ∃ y_ : List (S72), y_ = (y136.take ((l0_1.length : Int) : Int).toNat) := ⟨_, rfl⟩
          replace H : (some (a0_0, y139)) = some (r1, r2) := by first | (rw [hy139]; with_reducible exact H) | (have H2_ := (Option.bind_some _ _).symm.trans H; rw [hy139]; with_reducible exact H2_) | (have H2_ := (Option.bind_some _ _).symm.trans H; with_reducible exact H2_) | with_reducible exact H | (rw [hy139]; exact H) | exact H
          have Ny139 := Aside0.mk hy139
          clear hy139
          simp only [Option.some.injEq, Prod.mk.injEq] at H
          obtain ⟨rfl, rfl⟩ := H
          go_enter Try.func34, Try.ntmps34
          try go_wp2_with (first | ((with_reducible refine gate_dst (N := 1) rfl ?_); refine box_event ?hg (N := 1) ?hd (cs := #[.int .u64 a0_0, .slice A0_1 l0_1.length c0_1]) (t := 58) ?hr ?_; (case hd => rfl); (case hg => rfl); (case hr => first | (go_simp; done) | (go_simp; rfl)); intro gb128 hg w6 hbox hb; have n0_ := Aside0.mk (below_step (by repeat (first | (with_reducible first | exact HB.out | apply below_alloc | apply pw_below_drewN | apply below_drew1) | exact HB.out)) hb); have n1_ := Aside0.mk (hbox); have n2_ := Aside0.mk ((by rw [hg]; exact (below_size (by repeat (first | (with_reducible first | exact HB.out | apply below_alloc | apply pw_below_drewN | apply below_drew1) | exact HB.out))) : w.heap.size ≤ gb128)); have n3_ := Aside0.mk ((by rw [hg]; exact (below_size (by repeat (first | (with_reducible first | exact HB.out | apply below_alloc | apply pw_below_drewN | apply below_drew1) | exact HB.out))) : w.heap.size ≤ gb128)); clear HB; have HB := n0_; have BK128 := n1_; have GW128 := n2_; have GE128 := n3_; clear n0_ n1_ n2_ n3_; clear hb hbox hg) | ((with_reducible refine gate_dst (N := 2) rfl ?_); refine box_event ?hg (N := 2) ?hd (cs := #[.int .u64 0, .slice none 0 0]) (t := 58) ?hr ?_; (case hd => rfl); (case hg => rfl); (case hr => first | (go_simp; done) | (go_simp; rfl)); intro gb129 hg w7 hbox hb; have n0_ := Aside0.mk (blk_below (g := gb128) (o := .cells #[.int .u64 a0_0, .slice A0_1 l0_1.length c0_1] 58 (0, 0)) (by (with_reducible repeat (first | refine blk_drewN ?_ _ | refine blk_drew ?_ | refine blk_alloc ?_ _)); exact BK128.out) hb); have n1_ := Aside0.mk (below_step (by repeat (first | (with_reducible first | exact HB.out | apply below_alloc | apply pw_below_drewN | apply below_drew1 | refine below_set ?_ GE128.out) | exact HB.out)) hb); have n2_ := Aside0.mk (hbox); have n3_ := Aside0.mk ((by rw [hg]; exact (below_size (by repeat (first | (with_reducible first | exact HB.out | apply below_alloc | apply pw_below_drewN | apply below_drew1 | refine below_set ?_ GE128.out) | exact HB.out))) : w.heap.size ≤ gb129)); have n4_ := Aside0.mk ((by rw [hg]; exact (below_size (by repeat (first | (with_reducible first | exact HB.out | apply below_alloc | apply pw_below_drewN | apply below_drew1 | refine below_set ?_ GE128.out) | exact HB.out))) : w.heap.size ≤ gb129)); have n5_ := Aside0.mk ((by rw [hg]; exact Nat.ne_of_lt (blk_lt (g := gb128) (o := .cells #[.int .u64 a0_0, .slice A0_1 l0_1.length c0_1] 58 (0, 0)) (by (with_reducible repeat (first | refine blk_drewN ?_ _ | refine blk_drew ?_ | refine blk_alloc ?_ _)); exact BK128.out)) : gb128 ≠ gb129)); have n6_ := Aside0.mk ((by rw [hg]; exact Nat.ne_of_gt (blk_lt (g := gb128) (o := .cells #[.int .u64 a0_0, .slice A0_1 l0_1.length c0_1] 58 (0, 0)) (by (with_reducible repeat (first | refine blk_drewN ?_ _ | refine blk_drew ?_ | refine blk_alloc ?_ _)); exact BK128.out)) : gb129 ≠ gb128)); clear BK128; clear HB; have BK128 := n0_; have HB := n1_; have BK129 := n2_; have GW129 := n3_; have GE129 := n4_; have NB128_129 := n5_; have NB129_128 := n6_; clear n0_ n1_ n2_ n3_ n4_ n5_ n6_; clear hb hbox hg) | ((with_reducible refine gate_dst (N := 4) rfl ?_); refine Kd.R_lit k72 _ 72 ?hg (N := 4) ?hd (xs := ([] : List (S72))) (inner := []) (ok := fun _ => True) (okp := fun _ => True) ?hr ?hp (fun _ hk => hk) trivial (Below.refl _ _) (Nat.le_refl _) (by simp) ?_; (case hd => rfl); (case hg => rfl); (case hr => first | (go_simp; done) | (go_simp; rfl)); (case hp => exact (Reps.none _ _)); intro v131 w8 ho9 hb hg_ hnew_; clear hg_ hnew_; (first | rw [← Ny130.out] at ho9 | (simp only [Int.reduceToNat] at ho9; rw [← Ny130.out] at ho9)); have n0_ := Aside0.mk (Kd.R_lower ho9 (below_size (by repeat (first | (with_reducible first | exact HB.out | apply below_alloc | apply pw_below_drewN | apply below_drew1 | refine below_set ?_ GE128.out | refine below_set ?_ GE129.out) | exact HB.out)))); have n1_ := Aside0.mk (blk_below (g := gb128) (o := .cells #[.int .u64 a0_0, .slice A0_1 l0_1.length c0_1] 58 (0, 0)) (by (with_reducible repeat (first | refine blk_drewN ?_ _ | refine blk_drew ?_ | refine blk_alloc ?_ _)); exact BK128.out) hb); have n2_ := Aside0.mk (blk_below (g := gb129) (o := .cells #[.int .u64 0, .slice none 0 0] 58 (0, 0)) (by (with_reducible repeat (first | refine blk_drewN ?_ _ | refine blk_drew ?_ | refine blk_alloc ?_ _)); exact BK129.out) hb); have n3_ := Aside0.mk (below_step (by repeat (first | (with_reducible first | exact HB.out | apply below_alloc | apply pw_below_drewN | apply below_drew1 | refine below_set ?_ GE128.out | refine below_set ?_ GE129.out) | exact HB.out)) hb); clear BK128; clear BK129; clear HB; have HO132 := n0_; have BK128 := n1_; have BK129 := n2_; have HB := n3_; clear n0_ n1_ n2_ n3_; clear hb ho9; have hnb10 := NB128_129.out; have hnc10 := NB129_128.out; have hcz11_0 : w8.cell? ⟨gb128, 0, none⟩ = some (.int .u64 a0_0) := (blk_cell BK128.out 0).trans rfl; have hcz11_1 : w8.cell? ⟨gb128, 1, none⟩ = some (.slice A0_1 l0_1.length c0_1) := (blk_cell BK128.out 1).trans rfl; have hfz11_0 := blk_frozen BK128.out 0; have hfz11_1 := blk_frozen BK128.out 1) | ((with_reducible refine gate_builtin (b := .append) (xs := #[.tmp 4, .tmp 6]) rfl ?_); at_builtin; refine Kd.R_append_rows k72 (w0 := w) w.heap.size rfl (.tmp 4) (.tmp 6) 56 72 (.agg #[(.int .i64 0), (.string ⟨#[]⟩), (.string ⟨#[]⟩)]) 40 rfl Try.underlying56 info72 rfl (by decide) (by omega) v131 y130 l0_1 _ _ _ (fun _ => True) (fun _ => False) rfl rfl ?aO ?aR (fun _ _ h => h) (fun _ h => h.elim) ?aF ?aB ?aS ?aL ?_; (case aR => repeat (first | exact (Kd.C_below HR0_1.out HB.out) | (with_reducible refine Kd.C_alloc ?_ _) | (with_reducible refine Kd.C_drewN ?_ _) | (with_reducible refine Kd.C_drew ?_))); (case aB => exact (by repeat (first | (with_reducible first | exact HB.out | apply below_alloc | apply pw_below_drewN | apply below_drew1 | refine below_set ?_ GE128.out | refine below_set ?_ GE129.out) | exact HB.out))); (case aF => exact (fun _ _ => trivial)); (case aO => exact (by (with_reducible repeat (first | apply Kd.R_alloc | apply Kd.R_drewN | apply Kd.R_drew)); exact HO132.out)); (case aS => exact (below_size (by repeat (first | (with_reducible first | exact HB.out | apply below_alloc | apply pw_below_drewN | apply below_drew1 | refine below_set ?_ GE128.out | refine below_set ?_ GE129.out) | exact HB.out)))); (case aL => have := LMc2.out; omega); intro v134 w12 ho hb hg hat; rw [← Ny133.out] at ho; have n0_ := Aside0.mk (blk_grown (g := gb128) (o := .cells #[.int .u64 a0_0, .slice A0_1 l0_1.length c0_1] 58 (0, 0)) (by (with_reducible repeat (first | refine blk_drewN ?_ _ | refine blk_drew ?_ | refine blk_alloc ?_ _)); exact BK128.out) hg (Kd.R_ne HO132.out BK128.out (by decide))); have n1_ := Aside0.mk (blk_grown (g := gb129) (o := .cells #[.int .u64 0, .slice none 0 0] 58 (0, 0)) (by (with_reducible repeat (first | refine blk_drewN ?_ _ | refine blk_drew ?_ | refine blk_alloc ?_ _)); exact BK129.out) hg (Kd.R_ne HO132.out BK129.out (by decide))); have n2_ := Aside0.mk (hb); have n3_ := Aside0.mk (ho); clear BK128; clear BK129; clear HB; clear HO132; have BK128 := n0_; have BK129 := n1_; have HB := n2_; have HO135 := n3_; clear n0_ n1_ n2_ n3_; clear ho hb hg hat) | ((with_reducible refine gate_builtin (b := .append) (xs := #[.tmp 8, .tmp 10]) rfl ?_); at_builtin; refine Kd.R_append k72 (w0 := w) w.heap.size rfl (.tmp 8) (.tmp 10) 56 72 (.agg #[(.int .i64 0), (.string ⟨#[]⟩), (.string ⟨#[]⟩)]) 40 rfl Try.underlying56 info72 rfl (by decide) (by omega) v134 y133 (⟨77, (⟨#[]⟩ : ByteArray), (⟨#[]⟩ : ByteArray)⟩ : S72) [.int .i64 77, .string (⟨#[]⟩ : ByteArray), .string (⟨#[]⟩ : ByteArray)] (fun _ => True) (fun _ => False) rfl rfl ?aP (fun _ hk => hk.elim) ?aF ?aO ?aB ?aS ?aL ?_; (case aP => exact k72_mkM _ _ _ (⟨77, (⟨#[]⟩ : ByteArray), (⟨#[]⟩ : ByteArray)⟩ : S72)); (case aB => exact (by repeat (first | (with_reducible first | exact HB.out | apply below_alloc | apply pw_below_drewN | apply below_drew1 | refine below_set ?_ GE128.out | refine below_set ?_ GE129.out) | exact HB.out))); (case aF => exact (fun _ _ => trivial)); (case aO => exact (by (with_reducible repeat (first | apply Kd.R_alloc | apply Kd.R_drewN | apply Kd.R_drew)); exact HO135.out)); (case aS => exact (below_size (by repeat (first | (with_reducible first | exact HB.out | apply below_alloc | apply pw_below_drewN | apply below_drew1 | refine below_set ?_ GE128.out | refine below_set ?_ GE129.out) | exact HB.out)))); (case aL => have := LMc3.out; omega); intro v137 w13 ho hb hg hat; rw [← Ny136.out] at ho; have n0_ := Aside0.mk (blk_grown (g := gb128) (o := .cells #[.int .u64 a0_0, .slice A0_1 l0_1.length c0_1] 58 (0, 0)) (by (with_reducible repeat (first | refine blk_drewN ?_ _ | refine blk_drew ?_ | refine blk_alloc ?_ _)); exact BK128.out) hg (Kd.R_ne HO135.out BK128.out (by decide))); have n1_ := Aside0.mk (blk_grown (g := gb129) (o := .cells #[.int .u64 0, .slice none 0 0] 58 (0, 0)) (by (with_reducible repeat (first | refine blk_drewN ?_ _ | refine blk_drew ?_ | refine blk_alloc ?_ _)); exact BK129.out) hg (Kd.R_ne HO135.out BK129.out (by decide))); have n2_ := Aside0.mk (hb); have n3_ := Aside0.mk (ho); clear BK128; clear BK129; clear HB; clear HO135; have BK128 := n0_; have BK129 := n1_; have HB := n2_; have HO138 := n3_; clear n0_ n1_ n2_ n3_; clear ho hb hg hat))
          have n0_ := Aside0.mk (Kd.R_drew HO138.out)
          have n1_ := Aside0.mk (blk_drew BK128.out)
          have n2_ := Aside0.mk (blk_drew BK129.out)
          have n3_ := Aside0.mk (below_drew1 HB.out)
          clear HO138
          clear BK128
          clear BK129
          clear HB
          have HO138 := n0_
          have BK128 := n1_
          have BK129 := n2_
          have HB := n3_
          clear n0_ n1_ n2_ n3_
          obtain ⟨Ao16, co16, eo16⟩ := Kd.R_slice HO138.out
          (first | subst eo16 | (injection eo16 with f1_ f2_ f3_; have f4_ := f1_.symm; have f5_ := f3_.symm; clear f1_ f2_ f3_; subst f4_; subst f5_))
          have q15 : ((l0_1.length : Int) : Int) ≤ ((y136.length : Int) : Int) := of_decide_eq_true (by first | (with_reducible assumption) | assumption)
          obtain ⟨i015, hi015, _, hsz15, _⟩ := info_parts info72
          have hroom15 : y136.length ≤ co16 := (Kd.R_reads' HO138.out).2.1
          have hC15 : Kd.C k72 _ Ao16 y136.length y136 := (Kd.R_reads' HO138.out).2.2
          have hcut15 := cut_to (P := Try.prog) 56 72 .i64 Try.underlying56 hi015 Ao16 y136.length co16 (l0_1.length : Int) (of_decide_eq_true (by first | (with_reducible assumption) | assumption)) q15 hroom15
          have hr15 := Kd.C_take (m := ((l0_1.length : Int) : Int).toNat) hC15 (by omega)
          have hy15 : y139.length = ((l0_1.length : Int) : Int).toNat := (by rw [Ny139.out, List.length_take]; omega)
          rw [← Ny139.out] at hr15
          rw [← hy15] at hcut15
          have HR142 := Aside0.mk hr15
          have HC142 := Aside0.mk (show y139.length ≤ co16 from by omega)
          clear hr15 hC15 hroom15 hi015 hsz15
          have KY15 := Aside0.mk hy15
          clear hy15
          have KL15 := Aside0.mk (show ((l0_1.length : Int) : Int).toNat ≤ y136.length from by omega)
          replace q15 := eq_true q15
          refine start_ (n := 9) (S := fun w' => w'.cell? ⟨gb128, 0, none⟩ = some (.int .u64 a0_0) ∧ w'.cell? ⟨gb128, 1, none⟩ = some (.slice A0_1 l0_1.length c0_1)) (ds := []) #[false, false, false, false, false, false, false, false, false] (by kernel_rfl) rfl rfl ⟨(blk_cell BK128.out 0).trans rfl, (blk_cell BK128.out 1).trans rfl⟩ (fun hHeld => ?_); refine with_tabW freshetlaw06_own.tab3 freshetlaw06_own.bits3 (fun HT_ HW_ => ?_)
          generalize w13.drew = w14 at HO138 BK128 BK129 HB HR142 hHeld ⊢
          refine pure_ (i := 0) (N := some 12) (v := ?_) (a' := ?_) #[true, false, false, false, false, false, false, false, false] rfl rfl (any_of HT_.out (by kernel_rfl)) (fun _ _ _ h => h) (Or.inl ⟨by rfl, ?_⟩) ?_ ?_
          rotate_left
          · intro w'
            go_simp
            with_reducible rfl
          rotate_left
          · simp only [Act.put, List.setIfInBounds_toArray, List.set_cons_zero, List.set_cons_succ, i64_w, i32_w]
            rfl
          refine pure_ (i := 2) (N := some 14) (v := ?_) (a' := ?_) #[true, false, true, false, false, false, false, false, false] rfl rfl (any_of HT_.out (by kernel_rfl)) (fun _ _ _ h => h) (Or.inl ⟨by rfl, ?_⟩) ?_ ?_
          rotate_left
          · intro w'
            go_simp
            with_reducible rfl
          rotate_left
          · simp only [Act.put, List.setIfInBounds_toArray, List.set_cons_zero, List.set_cons_succ, i64_w, i32_w]
            rfl
          refine pure_ (i := 3) (N := some 15) (v := ?_) (a' := ?_) #[true, false, true, true, false, false, false, false, false] rfl rfl (any_of HT_.out (by kernel_rfl)) (fun _ _ _ h => h) (Or.inl ⟨by rfl, ?_⟩) ?_ ?_
          rotate_left
          · intro w'
            go_simp
            with_reducible rfl
          rotate_left
          · simp only [Act.put, List.setIfInBounds_toArray, List.set_cons_zero, List.set_cons_succ, i64_w, i32_w]
            rfl
          refine take_ (i := 1) (N := some 13) (v := ?_) (a' := ?_) #[true, true, true, true, false, false, false, false, false] rfl rfl (take_ofW HT_.out HW_.out (by kernel_rfl)) (fun _ _ _ h => h) (Or.inl ⟨by rfl, ?_⟩) hHeld ?_ ?_
          rotate_left
          · rintro w' ⟨s0, s1⟩
            go_simp
            with_reducible rfl
          rotate_left
          · simp only [Act.put, List.setIfInBounds_toArray, List.set_cons_zero, List.set_cons_succ, i64_w, i32_w]
            rfl
          refine take_ (i := 4) (N := some 16) (v := ?_) (a' := ?_) #[true, true, true, true, true, false, false, false, false] rfl rfl (take_ofW HT_.out HW_.out (by kernel_rfl)) (fun _ _ _ h => h) (Or.inl ⟨by rfl, ?_⟩) hHeld ?_ ?_
          rotate_left
          · rintro w' ⟨s0, s1⟩
            go_simp
            with_reducible rfl
          rotate_left
          · simp only [Act.put, List.setIfInBounds_toArray, List.set_cons_zero, List.set_cons_succ, i64_w, i32_w]
            rfl
          refine pure_ (i := 5) (N := some 17) (v := ?_) (a' := ?_) #[true, true, true, true, true, true, false, false, false] rfl rfl (any_of HT_.out (by kernel_rfl)) (fun _ _ _ h => h) (Or.inl ⟨by rfl, ?_⟩) ?_ ?_
          rotate_left
          · intro w'
            go_simp
            with_reducible rfl
          rotate_left
          · simp only [Act.put, List.setIfInBounds_toArray, List.set_cons_zero, List.set_cons_succ, i64_w, i32_w]
            rfl
          refine pure_ (i := 6) (N := some 18) (v := ?_) (a' := ?_) #[true, true, true, true, true, true, true, false, false] rfl rfl (any_of HT_.out (by kernel_rfl)) (fun _ _ _ h => h) (Or.inl ⟨by rfl, ?_⟩) ?_ ?_
          rotate_left
          · intro w'
            go_simp
            with_reducible rfl
          rotate_left
          · simp only [Act.put, List.setIfInBounds_toArray, List.set_cons_zero, List.set_cons_succ, i64_w, i32_w]
            rfl
          refine pure_ (i := 7) (N := some 19) (v := ?_) (a' := ?_) #[true, true, true, true, true, true, true, true, false] rfl rfl (any_of HT_.out (by kernel_rfl)) (fun _ _ _ h => h) (Or.inl ⟨by rfl, ?_⟩) ?_ ?_
          rotate_left
          · intro w'
            go_simp
            with_reducible rfl
          rotate_left
          · simp only [Act.put, List.setIfInBounds_toArray, List.set_cons_zero, List.set_cons_succ, i64_w, i32_w]
            rfl
          refine one_ (i := 8) (N := none) #[true, true, true, true, true, true, true, true, true] rfl rfl (one_of HT_.out (by kernel_rfl)) (by decide) (fun K hK => ?_)
          have hs17 : w14.cell? ⟨gb129, 0, none⟩ = some (.int .u64 0) := (blk_cell BK129.out 0).trans rfl
          have hfs17 := blk_frozen BK129.out 0
          have hns17_0 := NB128_129.out
          have hms17_0 := NB129_128.out
          have hs18 : w14.cell? ⟨gb129, 1, none⟩ = some (.slice none 0 0) := (blk_cell BK129.out 1).trans rfl
          have hfs18 := blk_frozen BK129.out 1
          have hns18_0 := NB128_129.out
          have hms18_0 := NB129_128.out
          refine skip_ (w1 := ?_) (by rfl) rfl ?_ ?_
          rotate_left
          · go_simp
            rfl
          refine hK.out _ _ ⟨((cell_far (p := ⟨gb129, _, none⟩) NB128_129.out _).trans (((cell_far (p := ⟨gb129, _, none⟩) NB128_129.out _).trans (hHeld.1)))), ((cell_far (p := ⟨gb129, _, none⟩) NB128_129.out _).trans (((cell_far (p := ⟨gb129, _, none⟩) NB128_129.out _).trans (hHeld.2))))⟩ (fun hHeld => ?_)
          clear hK K
          refine done_ (done_of HT_.out (by kernel_rfl)) ?_
          try go_wp2
          refine bodyPost_ret (results_cell_row rfl _ _ gb129 58 #[.int .u64 a0_0, .slice Ao16 y139.length co16] (0, 0) _ rfl (by (with_reducible repeat (first | refine blk_drewN ?_ _ | refine blk_drew ?_ | refine blk_alloc ?_ _)); refine blk_put (cs := #[.int .u64 a0_0, .slice none 0 0]) ?_ 1 _ rfl; (with_reducible repeat (first | refine blk_drewN ?_ _ | refine blk_drew ?_ | refine blk_alloc ?_ _)); refine blk_put (cs := #[.int .u64 0, .slice none 0 0]) ?_ 0 _ rfl; (with_reducible repeat (first | refine blk_drewN ?_ _ | refine blk_drew ?_ | refine blk_alloc ?_ _)); exact BK129.out) Try.underlying58 rfl (by kernel_rfl)) rfl ?_
          have e1 : y136 = l0_1 ++ [(⟨77, (⟨#[]⟩ : ByteArray), (⟨#[]⟩ : ByteArray)⟩ : S72)] := by rw [Ny136.out, Ny133.out, Ny130.out]; rfl
          have e2 : y139 = l0_1 := by rw [Ny139.out, e1]; simp
          refine ⟨Ao16, co16, rfl, ?_, by repeat (first | (with_reducible first | exact HB.out | apply below_alloc | apply pw_below_drewN | apply below_drew1 | refine below_set ?_ GE128.out | refine below_set ?_ GE129.out) | exact HB.out)⟩
          have hR := Kd.R_mono (ok' := fun _ => True) (Kd.R_far (p := ⟨gb129, 1, none⟩) (Kd.R_far (p := ⟨gb129, 0, none⟩) (Kd.R_types HO138.out BK129.out (by decide)) (fun _ hk => hk.2) (.int .u64 a0_0)) (fun _ hk => hk.2) (.slice Ao16 y139.length co16)) (fun _ hk => trivial)
          rw [e2] at hR ⊢
          have e3 : y136.length = l0_1.length + 1 := by rw [e1]; simp
          rw [e3, e1] at hR
          exact hR
        · rw [if_neg c5] at H
          exact absurd H (by simp)
      · rw [if_neg c4] at H
        exact absurd H (by simp)
    · rw [if_neg c3] at H
      exact absurd H (by simp)
  · rw [if_neg c2] at H
    exact absurd H (by simp)


def freshetlaw06_own.f (a0_0 : Int) (l0_1 : List S72) : Option (Int × (List S72)) := if l0_1.length < 3518437208882 then some (a0_0, l0_1) else none
theorem freshetlaw06_own.is (a : Int) (l : List S72) (h : l.length < 3518437208882) : freshetlaw06_own.g a l = some (a, l) := by
  unfold freshetlaw06_own.g
  simp only [Option.bind_some, List.nil_append, List.length_nil]
  rw [if_pos (by omega), if_pos (by omega), if_pos (by omega), if_pos (by rw [List.length_append]; simp; omega)]
  simp
theorem freshetlaw06_own.calls (a0_0 : Int) (A0_1 : Option Addr) (c0_1 : Nat) (l0_1 : List (S72)) (r1 : Int) (r2 : List (S72)) (w : World) (hr0_1 : Kd.C k72 w A0_1 l0_1.length l0_1) (hc0_1 : l0_1.length ≤ c0_1) (h : freshetlaw06_own.f a0_0 l0_1 = some (r1, r2)) :
    Calls Try.prog 34 #[.agg #[.int .u64 a0_0, .slice A0_1 l0_1.length c0_1]] w fun e w' => ∃ (Ao : Option Addr) (co : Nat), e = .returned (.agg #[.int .u64 r1, .slice Ao r2.length co]) ∧ OM w' w.heap.size (fun _ => True) Ao co r2 ∧ Below w.heap.size w w' := by
  unfold freshetlaw06_own.f at h
  by_cases c : l0_1.length < 3518437208882
  · rw [if_pos c] at h
    exact freshetlaw06_own.callsG a0_0 A0_1 c0_1 l0_1 r1 r2 w hr0_1 hc0_1 ((freshetlaw06_own.is a0_0 l0_1 c).trans h)
  · rw [if_neg c] at h
    cases h

theorem cut_past {P : Program} (t e : TypeId) (kh : IntKind) {i : TypeInfo} (ht : P.underlying t = some (.slice e)) (hi : P.info? e = some i) (A : Option Addr) (n c : Nat) (j : Int) (h0 : 0 ≤ j) (hm : j ≤ c) :
    ∀ W : World, (Instr.slice t (.slice A n c) none (some (.int kh j)) none).run P W = .ok (.slice A j.toNat c) W := by
  intro W
  have hel : P.elem t = e := by simp [Program.elem, ht]
  have hu : P.underlying t = some (.slice (P.elem t)) := by rw [hel]; exact ht
  have ha : (A.map fun x => x.add 0) = A := by cases A <;> simp [Addr.add]
  rw [run_slice_h W t A n c hu kh j h0 (by omega), hel]
  simp [sizeOf, typeInfo, hi, sliced, Result.andThen, ha]
def freshetlaw06_kept.f (k : Nat) (a0_0 : Int) (l0_1 : List S72) (a1_0 : Int) (l1_1 : List S72) : Option Bool :=
  if l0_1.length = l1_1.length ∧ l0_1.length ≤ 1000000 then (freshetref06_Same.f k a0_0 l0_1 a1_0 l1_1).bind fun t => (if t = true then some true else none) else none
theorem freshetlaw06_kept.mono : ∀ a0 a1 a2 a3 k, LeO (freshetlaw06_kept.f k a0 a1 a2 a3) (freshetlaw06_kept.f (k + 1) a0 a1 a2 a3) := by
  intro a0 a1 a2 a3 k
  unfold freshetlaw06_kept.f
  exact LeO.ite (LeO.bind (freshetref06_Same.mono _ _ _ _ _) (fun _ => LeO.refl _)) (LeO.refl _)
set_option maxHeartbeats 8000000 in
set_option maxRecDepth 100000 in
theorem freshetlaw06_kept.calls (k : Nat) (a0_0 : Int) (A0_1 : Option Addr) (c0_1 : Nat) (l0_1 : List (S72)) (a1_0 : Int) (A1_1 : Option Addr) (c1_1 : Nat) (l1_1 : List (S72)) (r : Bool) (w : World) (hr0_1 : Kd.C k72 w A0_1 (l0_1.length + 1) (l0_1 ++ [(⟨77, (⟨#[]⟩ : ByteArray), (⟨#[]⟩ : ByteArray)⟩ : S72)])) (hc0_1 : l0_1.length + 1 ≤ c0_1) (hr1_1 : Kd.C k72 w A1_1 l1_1.length l1_1) (hc1_1 : l1_1.length ≤ c1_1) (h : freshetlaw06_kept.f k a0_0 l0_1 a1_0 l1_1 = some r) :
    Calls Try.prog 39 #[.agg #[.int .u64 a0_0, .slice A0_1 l0_1.length c0_1], .agg #[.int .u64 a1_0, .slice A1_1 l1_1.length c1_1]] w fun e w' => e = .returned (.bool r) ∧ Below w.heap.size w w' := by
  unfold freshetlaw06_kept.f at h
  by_cases c : l0_1.length = l1_1.length ∧ l0_1.length ≤ 1000000
  · rw [if_pos c] at h
    obtain ⟨t, A60, h⟩ := Option.bind_eq_some_iff.mp h
    by_cases ht : t = true
    · subst ht
      rw [if_pos rfl] at h
      obtain rfl := Option.some.inj h
      clear h
      obtain ⟨g1, g2⟩ := c
      have hlen : (l0_1 ++ [(⟨77, (⟨#[]⟩ : ByteArray), (⟨#[]⟩ : ByteArray)⟩ : S72)]).length = l0_1.length + 1 := by rw [List.length_append, List.length_singleton]
      have hr0' : Kd.C k72 w A0_1 l0_1.length l0_1 := by
        have := Kd.C_take (k := k72) (w := w) (A := A0_1) (xs := l0_1 ++ [(⟨77, (⟨#[]⟩ : ByteArray), (⟨#[]⟩ : ByteArray)⟩ : S72)]) (m := l0_1.length) (by rw [hlen]; exact hr0_1) (by rw [hlen]; omega)
        rw [List.take_left' rfl] at this
        exact this
      have hu58 := Try.underlying58
      have HR0_1 := Aside0.mk hr0'
      have HC0_1 := Aside0.mk (show l0_1.length ≤ c0_1 by omega)
      have HR1_1 := Aside0.mk hr1_1
      have HC1_1 := Aside0.mk hc1_1
      have HB := Aside0.mk (Below.refl w.heap.size w)
      obtain ⟨ji3, hji3⟩ : ∃ j_ : Int, (wrap64 ((l1_1.length : Int) + 1)) = j_ := ⟨_, rfl⟩
      have hji3w : (IntKind.i64.wrap ((l1_1.length : Int) + 1)) = ji3 := (i64_w _).trans hji3
      have hjv : ji3 = (l0_1.length : Int) + 1 := by rw [← hji3, g1]; unfold wrap64; omega
      have HJ := Aside0.mk (show ji3 = (l0_1.length : Int) + 1 ∧ ji3 ≤ (c0_1 : Int) from ⟨hjv, by omega⟩)
      have c4b0 := eq_true (show 0 ≤ ji3 by omega)
      have c4b1 : decide (0 ≤ (ji3)) = true := decide_eq_true (by omega)
      clear hjv
      obtain ⟨y171, hy171⟩ : ∃ y_ : List (S72), y_ = l0_1 ++ [(⟨77, (⟨#[]⟩ : ByteArray), (⟨#[]⟩ : ByteArray)⟩ : S72)] := ⟨_, rfl⟩
      have Ny171 := Aside0.mk hy171
      have HRM := Aside0.mk (show Kd.C k72 w A0_1 y171.length y171 by rw [hy171, hlen]; exact hr0_1)
      have A6 := Aside0.mk A60
      have c8b0 : decide (0 ≤ (l1_1.length : Int)) = true := decide_eq_true (by omega)
      have c8b1 : decide (0 ≤ l1_1.length) = true := decide_eq_true (by omega)
      have c9b0 : decide ((l1_1.length : Int) < (y171.length : Int)) = true := decide_eq_true (by rw [hy171, hlen]; omega)
      have c9b1 : decide (l1_1.length < y171.length) = true := decide_eq_true (by rw [hy171, hlen]; omega)
      have E77 := Aside0.mk (show ((rd_T72 y171 (l1_1.length : Int)).f0 == 77) = true by rw [hy171, ← g1]; simp [rd_T72])
      clear A60 hr0' hr0_1 hc0_1 hr1_1 hc1_1 hlen hy171 g1 g2
      go_enter Try.func39, Try.ntmps39
      go_wp2_with (first | ((with_reducible refine gate_dst (N := 2) rfl ?_); (try (refine gate_guard (by rfl) ?_; dsimp only)); refine box_event ?hg (N := 2) ?hd (cs := #[.int .u64 a0_0, .slice A0_1 l0_1.length c0_1]) (t := 58) ?hr ?_; (case hd => rfl); (case hg => rfl); (case hr => first | (go_simp; done) | (go_simp; rfl)); intro gb169 hg w10 hbox hb; have n0_ := Aside0.mk (below_step (by repeat (first | (with_reducible first | exact HB.out | apply below_alloc | apply pw_below_drewN | apply below_drew1) | exact HB.out)) hb); have n1_ := Aside0.mk (hbox); have n2_ := Aside0.mk ((by rw [hg]; exact (below_size (by repeat (first | (with_reducible first | exact HB.out | apply below_alloc | apply pw_below_drewN | apply below_drew1) | exact HB.out))) : w.heap.size ≤ gb169)); have n3_ := Aside0.mk ((by rw [hg]; exact (below_size (by repeat (first | (with_reducible first | exact HB.out | apply below_alloc | apply pw_below_drewN | apply below_drew1) | exact HB.out))) : w.heap.size ≤ gb169)); clear HB; have HB := n0_; have BK169 := n1_; have GW169 := n2_; have GE169 := n3_; clear n0_ n1_ n2_ n3_; clear hb hbox hg) | ((with_reducible refine gate_dst (N := 3) rfl ?_); (try (refine gate_guard (by rfl) ?_; dsimp only)); refine box_event ?hg (N := 3) ?hd (cs := #[.int .u64 a1_0, .slice A1_1 l1_1.length c1_1]) (t := 58) ?hr ?_; (case hd => rfl); (case hg => rfl); (case hr => first | (go_simp; done) | (go_simp; rfl)); intro gb170 hg w11 hbox hb; have n0_ := Aside0.mk (blk_below (g := gb169) (o := .cells #[.int .u64 a0_0, .slice A0_1 l0_1.length c0_1] 58 (0, 0)) (by (with_reducible repeat (first | refine blk_drewN ?_ _ | refine blk_drew ?_ | refine blk_alloc ?_ _)); exact BK169.out) hb); have n1_ := Aside0.mk (below_step (by repeat (first | (with_reducible first | exact HB.out | apply below_alloc | apply pw_below_drewN | apply below_drew1 | refine below_set ?_ GE169.out) | exact HB.out)) hb); have n2_ := Aside0.mk (hbox); have n3_ := Aside0.mk ((by rw [hg]; exact (below_size (by repeat (first | (with_reducible first | exact HB.out | apply below_alloc | apply pw_below_drewN | apply below_drew1 | refine below_set ?_ GE169.out) | exact HB.out))) : w.heap.size ≤ gb170)); have n4_ := Aside0.mk ((by rw [hg]; exact (below_size (by repeat (first | (with_reducible first | exact HB.out | apply below_alloc | apply pw_below_drewN | apply below_drew1 | refine below_set ?_ GE169.out) | exact HB.out))) : w.heap.size ≤ gb170)); have n5_ := Aside0.mk ((by rw [hg]; exact Nat.ne_of_lt (blk_lt (g := gb169) (o := .cells #[.int .u64 a0_0, .slice A0_1 l0_1.length c0_1] 58 (0, 0)) (by (with_reducible repeat (first | refine blk_drewN ?_ _ | refine blk_drew ?_ | refine blk_alloc ?_ _)); exact BK169.out)) : gb169 ≠ gb170)); have n6_ := Aside0.mk ((by rw [hg]; exact Nat.ne_of_gt (blk_lt (g := gb169) (o := .cells #[.int .u64 a0_0, .slice A0_1 l0_1.length c0_1] 58 (0, 0)) (by (with_reducible repeat (first | refine blk_drewN ?_ _ | refine blk_drew ?_ | refine blk_alloc ?_ _)); exact BK169.out)) : gb170 ≠ gb169)); clear BK169; clear HB; have BK169 := n0_; have HB := n1_; have BK170 := n2_; have GW170 := n3_; have GE170 := n4_; have NB169_170 := n5_; have NB170_169 := n6_; clear n0_ n1_ n2_ n3_ n4_ n5_ n6_; clear hb hbox hg; have hnb12 := NB169_170.out; have hnc12 := NB170_169.out; have hcz13_0 : w11.cell? ⟨gb169, 0, none⟩ = some (.int .u64 a0_0) := (blk_cell BK169.out 0).trans rfl; have hcz13_1 : w11.cell? ⟨gb169, 1, none⟩ = some (.slice A0_1 l0_1.length c0_1) := (blk_cell BK169.out 1).trans rfl; have hfz13_0 := blk_frozen BK169.out 0; have hfz13_1 := blk_frozen BK169.out 1; have hcz14_0 : w11.cell? ⟨gb170, 0, none⟩ = some (.int .u64 a1_0) := (blk_cell BK170.out 0).trans rfl; have hcz14_1 : w11.cell? ⟨gb170, 1, none⟩ = some (.slice A1_1 l1_1.length c1_1) := (blk_cell BK170.out 1).trans rfl; have hfz14_0 := blk_frozen BK170.out 0; have hfz14_1 := blk_frozen BK170.out 1; have q15 : ((ji3) : Int) ≤ ((c0_1 : Nat) : Int) := HJ.out.2; obtain ⟨i015, hi015, _, hsz15, _⟩ := info_parts info72; have hroom15 : l0_1.length ≤ c0_1 := HC0_1.out; have hC15 : Kd.C k72 _ A0_1 y171.length y171 := HRM.out; have hcut15 := cut_past (P := Try.prog) 56 72 .i64 Try.underlying56 hi015 A0_1 l0_1.length c0_1 (ji3) (of_decide_eq_true (by first | (with_reducible assumption) | assumption)) q15; have hr15 := hC15; have hy15 : y171.length = ((ji3) : Int).toNat := (by rw [HJ.out.1, Ny171.out, List.length_append, List.length_singleton]; omega);  rw [← hy15] at hcut15; have HR174 := Aside0.mk hr15; have HC174 := Aside0.mk (show y171.length ≤ c0_1 from by omega); clear hr15 hC15 hroom15 hi015 hsz15; have KY15 := Aside0.mk hy15; clear hy15; replace q15 := eq_true q15) | ((with_reducible refine gate_callee (f := 42) rfl ?_); refine goesL_ (some 15) rfl rfl Try.func42 (by kernel_rfl) rfl #[.agg #[.int .u64 a0_0, .slice A0_1 l0_1.length c0_1], .agg #[.int .u64 a1_0, .slice A1_1 l1_1.length c1_1]] rfl (by (try simp only [List.map_toArray, List.map_cons, List.map_nil]); first | done | rfl | (simp only [List.length_drop, List.length_take]; rfl)) ?_; (with_reducible refine (freshetref06_Same.calls k a0_0 _ _ l0_1 a1_0 _ _ l1_1 true _ ?side1 ?side2 ?side3 ?side4 A6.out).mono ?_); (case side1 => repeat (first | exact (Kd.C_below HR0_1.out HB.out) | (with_reducible refine Kd.C_alloc ?_ _) | (with_reducible refine Kd.C_drewN ?_ _) | (with_reducible refine Kd.C_drew ?_))); (case side2 => exact HC0_1.out); (case side3 => repeat (first | exact (Kd.C_below HR1_1.out HB.out) | (with_reducible refine Kd.C_alloc ?_ _) | (with_reducible refine Kd.C_drewN ?_ _) | (with_reducible refine Kd.C_drew ?_))); (case side4 => exact HC1_1.out); rintro e w16 ⟨rfl, hb⟩; refine ⟨_, rfl, ?_⟩; have n0_ := Aside0.mk (blk_below (g := gb169) (o := .cells #[.int .u64 a0_0, .slice A0_1 l0_1.length c0_1] 58 (0, 0)) (by (with_reducible repeat (first | refine blk_drewN ?_ _ | refine blk_drew ?_ | refine blk_alloc ?_ _)); exact BK169.out) hb); have n1_ := Aside0.mk (blk_below (g := gb170) (o := .cells #[.int .u64 a1_0, .slice A1_1 l1_1.length c1_1] 58 (0, 0)) (by (with_reducible repeat (first | refine blk_drewN ?_ _ | refine blk_drew ?_ | refine blk_alloc ?_ _)); exact BK170.out) hb); have n2_ := Aside0.mk (below_step (by repeat (first | (with_reducible first | exact HB.out | apply below_alloc | apply pw_below_drewN | apply below_drew1 | refine below_set ?_ GE169.out | refine below_set ?_ GE170.out) | exact HB.out)) hb); clear BK169; clear BK170; clear HB; have BK169 := n0_; have BK170 := n1_; have HB := n2_; clear n0_ n1_ n2_; (try clear hb); (try clear hb2); (try clear hk); (try clear hi); have hcz17_0 : w16.cell? ⟨gb170, 0, none⟩ = some (.int .u64 a1_0) := (blk_cell BK170.out 0).trans rfl; have hcz17_1 : w16.cell? ⟨gb170, 1, none⟩ = some (.slice A1_1 l1_1.length c1_1) := (blk_cell BK170.out 1).trans rfl; have hfz17_0 := blk_frozen BK170.out 0; have hfz17_1 := blk_frozen BK170.out 1; have p176 : 0 ≤ ((l1_1.length : Int) : Int) := of_decide_eq_true (by first | (with_reducible assumption) | assumption); have q176 : (l1_1.length : Int) < (y171.length : Int) := of_decide_eq_true (by first | (with_reducible assumption) | assumption); obtain ⟨ad176, e176, hx176_0, hx176_1, hx176_2⟩ := at_T72 HR174.out (l1_1.length : Int) p176 q176; cases e176; replace hx176_0 := (HB.out.cell (World.block_lt_of_cell? w _ hx176_0)).trans hx176_0; replace hx176_1 := (HB.out.cell (World.block_lt_of_cell? w _ hx176_1)).trans hx176_1; replace hx176_2 := (HB.out.cell (World.block_lt_of_cell? w _ hx176_2)).trans hx176_2; (try simp only [Go.IntWalk.toNatUp] at hx176_0); (try simp only [Go.IntWalk.toNatUp] at hx176_1); (try simp only [Go.IntWalk.toNatUp] at hx176_2); replace p176 := eq_true p176; replace q176 := eq_true q176))
      go_ret
      exact ⟨by first | (rw [E77.out]; done) | (simp only [E77.out]; done) | (simp [E77.out]; done) | (simp only [← hji3, E77.out]; done), by repeat (first | (with_reducible first | exact HB.out | apply below_alloc | apply pw_below_drewN | apply below_drew1 | refine below_set ?_ GE169.out | refine below_set ?_ GE170.out) | exact HB.out)⟩
    · rw [if_neg ht] at h
      cases h
  · rw [if_neg c] at h
    cases h
end Go.Proofs.Ytfemebenkbobnaa.PB06
