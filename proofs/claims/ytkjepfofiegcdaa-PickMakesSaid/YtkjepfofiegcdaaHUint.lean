import Derived.Test.YtkjepfofiegcdaaProg
import Derived.Below
import Derived.Deep.Draws
import Derived.Deep.AppendLies
import Derived.Maps.AppendAt
import Derived.OwnWalk
import Derived.Laws.BytesArg
import Derived.Laws.MakeOwn
import Derived.Laws.OwnMore
import Derived.Deep.OwnRows
import Derived.Tactics
import Derived.Lib.ConvBytes
import Derived.Laws.Slices
import Derived.WalkKit
import Derived.KernelRfl
import Derived.RowKit3
import Derived.Deep.LoopGhost
import Derived.Deep.QuietTactic
import Derived.BigQuiet
import Derived.WideLaws
import Derived.Deep.DeepCutAuto
import Derived.Deep.CutBlock
import Derived.Deep.RegionHeld3
import Derived.Laws.Rows
import Derived.Lib.AppendStr
import Derived.ArgAppend
import Derived.Laws.IdiomCopy
import Derived.OrdersHeld
import Derived.Laws.BitsLemmas
import Derived.RowKit
import Derived.Outline
import Derived.Laws.EntriesVeiled
import Derived.Laws.Bits64
import Derived.ScopeJumps
import Derived.Deep.Light
import Derived.Test.YtkjepfofiegcdaaWWords
import Derived.Test.YtkjepfofiegcdaaWLast
import Derived.Test.YtkjepfofiegcdaaWTab
import Derived.Test.YtkjepfofiegcdaaWMore
namespace Go.Proofs.Ytkjepfofiegcdaa.H
open Go.RowKit Go.Proofs.YtkjepfofiegcdaaW.PrintWords Go.Proofs.YtkjepfofiegcdaaW.PrintLast Go.Proofs.YtkjepfofiegcdaaW.PrintMore
theorem isEmpty_bne (l : List UInt8) : l.isEmpty = !(l != []) := by cases l <;> rfl
theorem next_more (g : Nat) (s : ByteArray) (i : Nat) (h : i < s.size) (hi9 : i ≤ 9) (w : World) (hb : w.heap[g]? = some (.cells #[.string s, .int .i64 i] 175 (0, 0))) :
    Calls Try.prog 145 #[.pointer (some ⟨g, 0, none⟩)] w fun e w' => e = .returned (.tuple #[.int .u8 (bt s i), .bool true]) ∧ w'.heap[g]? = some (.cells #[.string s, .int .i64 (i + 1 : Nat)] 175 (0, 0)) ∧ Below g w w' := by
  have hc0 : w.cell? ⟨g, 0, none⟩ = some (.string s) := (blk_cell hb 0).trans rfl
  have hc1 : w.cell? ⟨g, 1, none⟩ = some (.int .i64 i) := (blk_cell hb 1).trans rfl
  have hf0 := blk_frozen hb 0
  have hf1 := blk_frozen hb 1
  have hbt : (s[i].toNat : Int) = bt s i := by simpa using bt_at s i (by omega)
  have hi : 0 ≤ (i : Int) := by omega
  have HH := Aside0.mk hb
  clear hb
  go_enter Try.func145, Try.ntmps145
  go_wp2
  go_quiet (fail)
  go_wp2
  go_quiet (fail)
  go_wp2
  go_ret2
  refine ⟨rfl, blk_drewN (blk_put (blk_drewN HH.out _) 1 _ rfl) _, pw_below_drewN ((pw_below_drewN (Below.refl g w) _).setCell (Nat.le_refl _) _) _⟩
theorem next_none (g : Nat) (s : ByteArray) (i : Nat) (h : s.size ≤ i) (w : World) (hb : w.heap[g]? = some (.cells #[.string s, .int .i64 i] 175 (0, 0))) :
    Calls Try.prog 145 #[.pointer (some ⟨g, 0, none⟩)] w fun e w' => e = .returned (.tuple #[.int .u8 0, .bool false]) ∧ w'.heap[g]? = some (.cells #[.string s, .int .i64 i] 175 (0, 0)) ∧ Below g w w' := by
  have hc0 : w.cell? ⟨g, 0, none⟩ = some (.string s) := (blk_cell hb 0).trans rfl
  have hc1 : w.cell? ⟨g, 1, none⟩ = some (.int .i64 i) := (blk_cell hb 1).trans rfl
  have hf0 := blk_frozen hb 0
  have hf1 := blk_frozen hb 1
  have HH := Aside0.mk hb
  clear hb
  go_enter Try.func145, Try.ntmps145
  go_wp2
  go_quiet (fail)
  go_wp2
  go_ret2
  exact ⟨rfl, blk_drewN HH.out _, pw_below_drewN (Below.refl g w) _⟩
def uintGo (s : ByteArray) : Nat → Nat → Int → Int × Int × Int
  | 0, _, _ => (0, 0, 7)
  | f + 1, i, n =>
    if i < s.size then
      if i = 9 ∧ 1 < bt s i then (0, 0, 7)
      else if bt s i < 128 then
        if bt s i = 0 ∧ 0 < i then (0, 0, 7) else (n + bt s i % 128 * 2 ^ (7 * i), i + 1, 0)
      else uintGo s f (i + 1) (n + bt s i % 128 * 2 ^ (7 * i))
    else (0, 0, 6)
def uintS (s : ByteArray) := uintGo s 10 0 0
theorem wp_scope_fwd {P : Program} {a : Act} {w : World} {Q : Exit → Act → World → Prop} {c rest : Code} (l : Nat) (hf : findLabel c l = some rest)
    (first : c.wp P (Exit.jump l (fun a w => rest.wp P (Exit.noGoto Q) a w) Q) a w) : (Code.scope c).wp P Q a w :=
  wp_scope_jumps l _ (fun _ _ => 0) hf first fun _ _ h => wp_mono h fun e _ _ q => by cases e <;> first | exact q | exact q.elim
theorem bits_or_comm (k : IntKind) (x y : Int) : bits .or k x y = bits .or k y x := by simp only [bits, BitVec.or_comm]
theorem acc_lt (k : Nat) (acc b : Int) (h0 : 0 ≤ acc) (h : acc < 2 ^ (7 * k)) : 0 ≤ acc + b % 128 * 2 ^ (7 * k) ∧ acc + b % 128 * 2 ^ (7 * k) < 2 ^ (7 * (k + 1)) := by
  have hp : (2 : Int) ^ (7 * (k + 1)) = 128 * 2 ^ (7 * k) := by rw [Nat.mul_add, Int.pow_add]; omega
  have hpos : (0 : Int) < 2 ^ (7 * k) := Int.pow_pos (by decide)
  have h1 : 0 ≤ b % 128 := by omega
  have h2 : b % 128 ≤ 127 := by omega
  generalize hP : (2 : Int) ^ (7 * k) = P at *
  rw [hp]
  have h3 := Int.mul_nonneg h1 (Int.le_of_lt hpos)
  have h4 : b % 128 * P ≤ 127 * P := Int.mul_le_mul_of_nonneg_right h2 (Int.le_of_lt hpos)
  omega
theorem or_step (k : Nat) (acc b : Int) (hk : k ≤ 9) (h9 : k = 9 → b ≤ 1) (h0 : 0 ≤ acc) (h : acc < 2 ^ (7 * k)) (hb : 0 ≤ b) (hb2 : b ≤ 255) :
    bits BinOp.or IntKind.u64 acc (IntKind.u64.wrap (IntKind.u64.wrap (bits BinOp.and IntKind.u8 b 127) * 2 ^ (7 * k))) = acc + b % 128 * 2 ^ (7 * k) := by
  have e1 : bits BinOp.and IntKind.u8 b 127 = b % 128 := bits_mask .u8 8 (by decide) wraps_u8 7 (by decide) b hb (by omega)
  have e2 : IntKind.u64.wrap (b % 128) = b % 128 := by rw [IntKind.wrap_u64]; omega
  rw [e1, e2]
  have hx : b % 128 * 2 ^ (7 * k) < 18446744073709551616 ∧ 0 ≤ b % 128 * 2 ^ (7 * k) := by
    have : k = 0 ∨ k = 1 ∨ k = 2 ∨ k = 3 ∨ k = 4 ∨ k = 5 ∨ k = 6 ∨ k = 7 ∨ k = 8 ∨ k = 9 := by omega
    rcases this with rfl | rfl | rfl | rfl | rfl | rfl | rfl | rfl | rfl | rfl <;> simp at h9 ⊢ <;> omega
  have e4 : IntKind.u64.wrap (b % 128 * 2 ^ (7 * k)) = b % 128 * 2 ^ (7 * k) := by rw [IntKind.wrap_u64]; omega
  rw [e4, bits_or_comm, bits_join .u64 64 (by decide) (fun n h0 h1 => by rw [IntKind.wrap_u64]; omega) (7 * k) _ _ hx.2 (Int.mul_emod_left _ _) (by omega) h0 h ?_, Int.add_comm]
  have : k = 0 ∨ k = 1 ∨ k = 2 ∨ k = 3 ∨ k = 4 ∨ k = 5 ∨ k = 6 ∨ k = 7 ∨ k = 8 ∨ k = 9 := by omega
  rcases this with rfl | rfl | rfl | rfl | rfl | rfl | rfl | rfl | rfl | rfl <;> simp at h ⊢ <;> omega
set_option maxHeartbeats 2000000 in
theorem uint_calls (s : ByteArray) (w : World) :
    Calls Try.prog 134 #[.string s] w fun e w' => e = .returned (.tuple #[.int .u64 (uintS s).1, .int .i64 (uintS s).2.1, .int .i64 (uintS s).2.2]) ∧ Below w.heap.size w w' := by
  go_enter Try.func134, Try.ntmps134
  go_wp2
  refine wp_scope_fwd 0 rfl ?_
  go_wp2
  go_loopw [2, 7] (fun n sh wr => ∃ (k : Nat) (acc : Int), k ≤ 10 ∧ sh = .int .i64 ((7 * k : Nat) : Int) ∧ n = .int .u64 acc ∧ Aside0 (uintGo s (10 - k) k acc = uintS s) ∧ Aside0 (0 ≤ acc ∧ acc < 2 ^ (7 * k)) ∧ Aside0 (wr.heap[w.heap.size]? = some (.cells #[.string s, .int .i64 k] 175 (0, 0))) ∧ Aside0 (Below w.heap.size w wr)) (fun _ sh _ => (70 - intOf sh).toNat)
  case atStart => exact ⟨0, 0, by omega, rfl, rfl, ⟨rfl⟩, ⟨by omega, by omega⟩, ⟨blk_new w _⟩, ⟨(Below.refl _ _).alloc (Nat.le_refl _) _⟩⟩
  case round =>
    obtain ⟨k, acc, hk, rfl, rfl, HE, HA, HH, HB⟩ := hrel
    by_cases h10 : k = 10
    · subst h10
      go_wp2_with (fail)
      go_step3
      go_wp2_with (fail)
      simp only [Exit.jump]
      go_ret3
      have hE := HE.out
      rw [show uintGo s (10 - 10) 10 acc = (0, 0, 7) from rfl] at hE
      rw [← hE]
      exact ⟨rfl, HB.out⟩
    · have hk9 : k ≤ 9 := by omega
      clear h10
      have hu : Aside0 (uintGo s (10 - k) k acc = _) := ⟨by rw [show 10 - k = (9 - k) + 1 from by omega, uintGo]⟩
      by_cases hlt : k < s.size
      · have hbr := bt_range s k
        by_cases h9 : k = 9 ∧ 1 < bt s k
        · obtain ⟨h9a, h9b⟩ := h9
          have h9c : 9 ≤ k := by omega
          have hE := HE.out
          rw [hu.out, if_pos hlt, if_pos ⟨h9a, h9b⟩] at hE
          have HE' := Aside0.mk hE
          clear hE HE hu h9a
          go_wp2_with (go_at_call 145; refine (next_more _ s k hlt hk9 _ HH.out).mono ?_; rintro e w1 ⟨rfl, hH', hB'⟩; have HH1 := Aside0.mk hH'; have HB1 := Aside0.mk hB'; clear hH' hB')
          go_step3
          go_wp2_with (fail)
          simp only [Exit.jump]
          go_ret3
          rw [← HE'.out]
          exact ⟨rfl, HB.out.trans HB1.out⟩
        · by_cases h128 : 128 ≤ bt s k
          · have hk8 : k ≤ 8 := by omega
            have hE := HE.out
            rw [hu.out, if_pos hlt, if_neg h9, if_neg (by omega)] at hE
            have HE' := Aside0.mk hE
            have HO := Aside0.mk (or_step k acc (bt s k) hk9 (by omega) HA.out.1 HA.out.2 hbr.1 hbr.2)
            clear hE HE hu h9
            go_wp2_with (go_at_call 145; refine (next_more _ s k hlt hk9 _ HH.out).mono ?_; rintro e w1 ⟨rfl, hH', hB'⟩; have HH1 := Aside0.mk hH'; have HB1 := Aside0.mk hB'; clear hH' hB')
            go_roundw
            case rel => exact ⟨k + 1, _, by omega, by go_num, by rw [HO.out], ⟨by rw [← HE'.out, show 10 - (k + 1) = 9 - k from by omega]⟩, ⟨acc_lt k acc (bt s k) HA.out.1 HA.out.2⟩, HH1, ⟨HB.out.trans HB1.out⟩⟩
            case measure => simp [intOf]; omega
          · have h9k : k = 9 → bt s k ≤ 1 := by omega
            have h128' : bt s k < 128 := by omega
            have HO := Aside0.mk (or_step k acc (bt s k) hk9 h9k HA.out.1 HA.out.2 hbr.1 hbr.2)
            have hE := HE.out
            have t0 : ∃ t, (7 * (k : Int) == 63) = t := ⟨_, rfl⟩
            obtain ⟨t0, ht0⟩ := t0
            have t1 : ∃ t, decide (1 < bt s k) = t := ⟨_, rfl⟩
            obtain ⟨t1, ht1⟩ := t1
            have t2 : ∃ t, (bt s k == 0) = t := ⟨_, rfl⟩
            obtain ⟨t2, ht2⟩ := t2
            have t3 : ∃ t, decide (0 < 7 * (k : Int)) = t := ⟨_, rfl⟩
            obtain ⟨t3, ht3⟩ := t3
            have H01 : Aside0 ((t0 && t1) = false) := ⟨by
              rw [← ht0, ← ht1, Bool.and_eq_false_iff, beq_eq_false_iff_ne, decide_eq_false_iff_not]; omega⟩
            by_cases h0 : bt s k = 0 ∧ 0 < k
            · obtain ⟨h0a, h0b⟩ := h0
              have h2t : t2 = true := by rw [← ht2]; exact beq_iff_eq.2 h0a
              have h3t : t3 = true := by rw [← ht3]; exact decide_eq_true (by omega)
              rw [hu.out, if_pos hlt, if_neg h9, if_pos h128', if_pos ⟨h0a, h0b⟩] at hE
              have HE' := Aside0.mk hE
              subst h2t h3t
              clear hE HE hu h9 h9k h0a h128
              cases t0 <;> cases t1 <;> first | exact Bool.noConfusion (show true = false from H01.out) | skip
              all_goals
                go_wp2_with (go_at_call 145; refine (next_more _ s k hlt hk9 _ HH.out).mono ?_; rintro e w1 ⟨rfl, hH', hB'⟩; have HH1 := Aside0.mk hH'; have HB1 := Aside0.mk hB'; clear hH' hB')
                go_step3
                go_wp2_with (fail)
                simp only [Exit.jump]
                go_ret3
                rw [← HE'.out]
                exact ⟨rfl, HB.out.trans HB1.out⟩
            · have H23 : Aside0 ((t2 && t3) = false) := ⟨by
                rw [← ht2, ← ht3, Bool.and_eq_false_iff, beq_eq_false_iff_ne, decide_eq_false_iff_not]; omega⟩
              rw [hu.out, if_pos hlt, if_neg h9, if_pos h128', if_neg h0] at hE
              have HE' := Aside0.mk hE
              clear hE HE hu h9 h9k h0 h128
              cases t0 <;> cases t1 <;> (first | exact Bool.noConfusion (show true = false from H01.out) | skip) <;> cases t2 <;> cases t3 <;> first | exact Bool.noConfusion (show true = false from H23.out) | skip
              all_goals
                go_wp2_with (go_at_call 145; refine (next_more _ s k hlt hk9 _ HH.out).mono ?_; rintro e w1 ⟨rfl, hH', hB'⟩; have HH1 := Aside0.mk hH'; have HB1 := Aside0.mk hB'; clear hH' hB'; have hc1 : w1.cell? ⟨w.heap.size, 1, none⟩ = some (.int .i64 (k + 1 : Nat)) := (blk_cell HH1.out 1).trans rfl)
                go_quiet (fail)
                go_wp2_with (fail)
                simp only [Exit.jump]
                go_ret3
                rw [← HE'.out, HO.out]
                exact ⟨rfl, pw_below_drewN (HB.out.trans HB1.out) _⟩
      · have hE := HE.out
        rw [hu.out, if_neg hlt] at hE
        have HE' := Aside0.mk hE
        clear hE HE hu
        go_wp2_with (go_at_call 145; refine (next_none _ s k (by omega) _ HH.out).mono ?_; rintro e w1 ⟨rfl, hH', hB'⟩; have HH1 := Aside0.mk hH'; have HB1 := Aside0.mk hB'; clear hH' hB')
        go_step3
        go_wp2_with (fail)
        simp only [Exit.jump]
        refine ⟨trivial, ?_⟩
        go_wp2_with (fail)
        rw [Exit.noGoto_ret]
        go_ret3
        rw [← HE'.out]
        exact ⟨rfl, HB.out.trans HB1.out⟩
end Go.Proofs.Ytkjepfofiegcdaa.H
