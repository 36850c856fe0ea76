import Derived.Test.YtkjepfofiegcdaaPB140
import Derived.Laws.Cover1
import Derived.Maps.OwnOps
import Derived.Maps.Views
import Derived.WalkSpells
import Derived.Deep.MidRow
import Derived.Laws.CopyOwn
import Derived.StillTailTactics
import Derived.BigRegion
/- Texts of the walks joined into one (VB1, VB2, VB3, VB4, VB5, VB6, VB7, VB8, VB9, VB10, VB11, VB12, VB13). Conditions: told at each. -/
namespace Go.Proofs.Ytkjepfofiegcdaa.V
section
/- VB1: Versions in memory; edit.Right, walked. Conditions: none. -/
set_option linter.unusedVariables false
set_option linter.unusedSimpArgs false
open Go.RowKit Go.Proofs.YtkjepfofiegcdaaW.PrintWords Go.Proofs.YtkjepfofiegcdaaW.PrintLast Go.Proofs.YtkjepfofiegcdaaW.PrintMore Go.Proofs.Ytkjepfofiegcdaa.PB14
structure Ver where
  log : Int
  next : Int
  seq : Int
  l0 : List S58
  l1 : List S58
  l2 : List S58
  l3 : List S58
def Ver.lv (v : Ver) : Nat → List S58
  | 0 => v.l0
  | 1 => v.l1
  | 2 => v.l2
  | _ => v.l3
structure Pl where
  a0 : Option Addr
  a1 : Option Addr
  a2 : Option Addr
  a3 : Option Addr
  c0 : Nat
  c1 : Nat
  c2 : Nat
  c3 : Nat
def Pl.a (p : Pl) : Nat → Option Addr
  | 0 => p.a0
  | 1 => p.a1
  | 2 => p.a2
  | _ => p.a3
def Pl.c (p : Pl) : Nat → Nat
  | 0 => p.c0
  | 1 => p.c1
  | 2 => p.c2
  | _ => p.c3
abbrev vCs (v : Ver) (p : Pl) : Array Value := #[.int .u64 v.log, .int .u64 v.next, .int .u64 v.seq, .slice p.a0 v.l0.length p.c0, .slice p.a1 v.l1.length p.c1, .slice p.a2 v.l2.length p.c2, .slice p.a3 v.l3.length p.c3]
abbrev lCs (v : Ver) (p : Pl) : Array Value := #[.slice p.a0 v.l0.length p.c0, .slice p.a1 v.l1.length p.c1, .slice p.a2 v.l2.length p.c2, .slice p.a3 v.l3.length p.c3]
def VC (w : World) (v : Ver) (p : Pl) : Prop := ∀ i, i < 4 → k58.C w (p.a i) (v.lv i).length (v.lv i) ∧ (v.lv i).length ≤ p.c i
theorem VC.below {w w' : World} {v : Ver} {p : Pl} (h : VC w v p) (hb : Below w.heap.size w w') : VC w' v p := fun i hi => ⟨Kd.C_below (h i hi).1 hb, (h i hi).2⟩
theorem ret_bool {a b : Bool} (h : a = b) : Ending.returned (.bool a) = .returned (.bool b) := by rw [h]
def boundsP (v : Ver) : Prop := 1 ≤ v.log ∧ v.log ≤ 99999999 ∧ 1 ≤ v.next ∧ v.next ≤ 99999999 ∧ v.seq < 72057594037927936
instance (v : Ver) : Decidable (boundsP v) := by unfold boundsP; infer_instance
set_option maxRecDepth 100000 in
theorem bounds_calls (w : World) (v : Ver) (p : Pl) : Calls Try.prog 117 #[.agg (vCs v p)] w fun e w' => e = .returned (.bool (decide (boundsP v))) ∧ Below w.heap.size w w' := by
  have HB := Aside0.mk ((Below.refl w.heap.size w).alloc (Nat.le_refl _) (.cells (vCs v p) 143))
  go_enter Try.func117, Try.ntmps117
  go_wp2_with fail
  all_goals
    go_ret
    exact ⟨ret_bool (by first | (symm; rw [decide_eq_false_iff_not]; unfold boundsP; omega) | (rw [decide_eq_decide]; unfold boundsP; omega)), HB.out⟩
def catV (v : Ver) : Nat → List S58
  | 0 => []
  | i + 1 => catV v i ++ v.lv i
def mayP (m : S58) : Prop := 1 ≤ m.f0 ∧ m.f0 < 99999999 ∧ 1 ≤ m.f1 ∧ m.f1 ≤ 262144 ∧ 1 ≤ m.f2 ∧ m.f2 ≤ 262144 ∧ ¬ m.f3.toList = [] ∧ m.f3.size ≤ 520 ∧ m.f4.size ≤ 520 ∧ Op.bytesLess m.f4.toList m.f3.toList = false ∧ 1 ≤ m.f5 ∧ m.f5 ≤ m.f6 ∧ m.f6 < 72057594037927936
instance (m : S58) : Decidable (mayP m) := by unfold mayP; infer_instance
def okP (v : Ver) (m : S58) : Prop := mayP m ∧ m.f0 < v.next ∧ m.f6 ≤ v.seq
instance (v : Ver) (m : S58) : Decidable (okP v m) := by unfold okP; infer_instance
def nums (L : List S58) : List Int := L.map (·.f0)
def PP (v : Ver) (L : List S58) : Prop := (∀ m, m ∈ L → okP v m) ∧ (nums L).Nodup
instance (v : Ver) (L : List S58) : Decidable (PP v L) := by unfold PP; infer_instance
def tabP (v : Ver) : Prop := (∀ i, i < 4 → (v.lv i).length ≤ 64) ∧ PP v (catV v 4)
instance (v : Ver) : Decidable (tabP v) := by unfold tabP; infer_instance
def gapP (i : Nat) (a b : S58) : Prop := if i = 0 then a.f0 < b.f0 else Op.bytesLess a.f4.toList b.f3.toList = true
instance (i : Nat) (a b : S58) : Decidable (gapP i a b) := by unfold gapP; infer_instance
def ordP (v : Ver) : Prop := ∀ i, i < 4 → ∀ k, k < (v.lv i).length - 1 → gapP i ((v.lv i).getD k z58) ((v.lv i).getD (k + 1) z58)
instance (v : Ver) : Decidable (ordP v) := by unfold ordP; infer_instance
def rightP (v : Ver) : Prop := boundsP v ∧ tabP v ∧ ordP v
instance (v : Ver) : Decidable (rightP v) := by unfold rightP; infer_instance
def VW (v : Ver) : Prop := ∀ i, i < 4 → ∀ m, m ∈ v.lv i → 0 ≤ m.f0 ∧ m.f0 ≤ 18446744073709551615
theorem PP.left {v : Ver} {L M : List S58} (h : PP v (L ++ M)) : PP v L := ⟨fun m hm => h.1 m (List.mem_append_left _ hm), by have h2 := h.2; unfold nums at *; rw [List.map_append, List.nodup_append] at h2; exact h2.1⟩
theorem catV_pre (v : Ver) {i : Nat} (hi : i < 4) (k : Nat) : ∃ M, catV v 4 = (catV v i ++ (v.lv i).take k) ++ M := by
  have h : ∀ j, ∃ M, catV v (i + 1 + j) = catV v (i + 1) ++ M := by
    intro j
    induction j with
    | zero => exact ⟨[], by simp⟩
    | succ j ih =>
      obtain ⟨M, hM⟩ := ih
      refine ⟨M ++ v.lv (i + 1 + j), ?_⟩
      show catV v (i + 1 + j) ++ v.lv (i + 1 + j) = _
      rw [hM, List.append_assoc]
  obtain ⟨M, hM⟩ := h (3 - i)
  rw [show i + 1 + (3 - i) = 4 by omega] at hM
  refine ⟨(v.lv i).drop k ++ M, ?_⟩
  rw [List.append_assoc (catV v i), ← List.append_assoc (List.take k _), List.take_append_drop, ← List.append_assoc]
  exact hM
theorem tabP_pre {v : Ver} (h : tabP v) {i : Nat} (hi : i < 4) (k : Nat) : PP v (catV v i ++ (v.lv i).take k) := by
  obtain ⟨M, hM⟩ := catV_pre v hi k
  have := h.2
  rw [hM] at this
  exact this.left
theorem take_snoc {α : Type} (l : List α) (z : α) {k : Nat} (hk : k < l.length) : l.take (k + 1) = l.take k ++ [l.getD k z] := by
  rw [List.take_add_one, List.getElem?_eq_getElem hk, List.getD_eq_getElem?_getD, List.getElem?_eq_getElem hk]
  rfl
theorem getD_mem {α : Type} (l : List α) (z : α) {k : Nat} (hk : k < l.length) : l.getD k z ∈ l := by
  rw [List.getD_eq_getElem?_getD, List.getElem?_eq_getElem hk]
  exact List.getElem_mem _
theorem PP.snoc {v : Ver} {L : List S58} {m : S58} (h : PP v L) (hn : m.f0 ∉ nums L) (ho : okP v m) : PP v (L ++ [m]) := by
  refine ⟨fun x hx => ?_, ?_⟩
  · rcases List.mem_append.mp hx with hx | hx
    · exact h.1 x hx
    · rw [List.mem_singleton.mp hx]; exact ho
  · have h2 := h.2
    unfold nums at *
    rw [List.map_append, List.nodup_append]
    refine ⟨h2, by simp, fun a ha b hb => ?_⟩
    simp at hb
    subst hb
    exact fun e => hn (e ▸ ha)
theorem PP.last {v : Ver} {L : List S58} {m : S58} (h : PP v (L ++ [m])) : m.f0 ∉ nums L ∧ okP v m := by
  refine ⟨fun hm => ?_, h.1 m (by simp)⟩
  have h2 := h.2
  unfold nums at *
  rw [List.map_append, List.nodup_append] at h2
  exact h2.2.2 _ hm m.f0 (by simp) rfl
theorem idx0 (s0 s1 s2 s3 : Value) (w : World) : (Instr.index 24 (.agg #[s0, s1, s2, s3]) (.int .i64 0)).run Try.prog w = .ok s0 w := by kernel_rfl
theorem idx1 (s0 s1 s2 s3 : Value) (w : World) : (Instr.index 24 (.agg #[s0, s1, s2, s3]) (.int .i64 1)).run Try.prog w = .ok s1 w := by kernel_rfl
theorem idx2 (s0 s1 s2 s3 : Value) (w : World) : (Instr.index 24 (.agg #[s0, s1, s2, s3]) (.int .i64 2)).run Try.prog w = .ok s2 w := by kernel_rfl
theorem idx3 (s0 s1 s2 s3 : Value) (w : World) : (Instr.index 24 (.agg #[s0, s1, s2, s3]) (.int .i64 3)).run Try.prog w = .ok s3 w := by kernel_rfl
theorem idx_lv (v : Ver) (p : Pl) (i : Nat) (hi : i < 4) (w : World) : (Instr.index 24 (.agg (lCs v p)) (.int .i64 (i : Int))).run Try.prog w = .ok (.slice (p.a i) (v.lv i).length (p.c i)) w := by
  rcases (by omega : i = 0 ∨ i = 1 ∨ i = 2 ∨ i = 3) with rfl | rfl | rfl | rfl
  · exact idx0 _ _ _ _ w
  · exact idx1 _ _ _ _ w
  · exact idx2 _ _ _ _ w
  · exact idx3 _ _ _ _ w
end
section
/- VB2: The order of the tables of a version, walked (version.order). Conditions: none. -/
set_option linter.unusedVariables false
set_option linter.unusedSimpArgs false
open Go.RowKit Go.Proofs.YtkjepfofiegcdaaW.PrintWords Go.Proofs.YtkjepfofiegcdaaW.PrintLast Go.Proofs.YtkjepfofiegcdaaW.PrintMore Go.Proofs.Ytkjepfofiegcdaa.PB14
set_option maxHeartbeats 4000000 in
set_option maxRecDepth 100000 in
theorem order_calls (w : World) (v : Ver) (p : Pl) (hC : VC w v p) : Calls Try.prog 119 #[.agg (vCs v p)] w fun e w' => e = .returned (.bool (decide (ordP v))) ∧ Below w.heap.size w w' := by
  have HC := Aside0.mk hC
  clear hC
  have HB := Aside0.mk ((Below.refl w.heap.size w).alloc (Nat.le_refl _) (.cells (vCs v p) 143))
  go_enter Try.func119, Try.ntmps119
  go_wp2_with fail
  go_loopg [3, 4, 5, 9] 4 (fun kq v3 v4 v5 v9 w' => ∃ i : Nat, v9 = .int .i64 (i : Int) ∧ Aside0 (kq + i = 4) ∧ Aside0 (Below w.heap.size w w') ∧ Aside0 (∀ j, j < i → ∀ k, k < (v.lv j).length - 1 → gapP j ((v.lv j).getD k z58) ((v.lv j).getD (k + 1) z58)))
  case atStart => exact ⟨0, rfl, ⟨by omega⟩, HB, ⟨fun j hj => by omega⟩⟩
  case round =>
    clear HB
    obtain ⟨i, rfl, HK, HB, HJ⟩ := hrel
    cases gk with
    | zero =>
      have ei : i = 4 := by have := HK.out; omega
      subst ei
      go_wp2_with fail
      go_ret
      exact ⟨ret_bool (by symm; rw [decide_eq_true_iff]; exact HJ.out), HB.out⟩
    | succ q =>
      have hi : i < 4 := by have := HK.out; omega
      have HI := Aside0.mk hi
      have d0 : decide ((i : Int) < 4) = true := decide_eq_true (by omega)
      have HC1 := Aside0.mk (Kd.C_below (HC.out i hi).1 HB.out)
      have HCc := Aside0.mk (HC.out i hi).2
      have hx : ∀ W : World, (Instr.index 24 (.agg #[.slice p.a0 v.l0.length p.c0, .slice p.a1 v.l1.length p.c1, .slice p.a2 v.l2.length p.c2, .slice p.a3 v.l3.length p.c3]) (.int .i64 (i : Int))).run Try.prog W = .ok (.slice (p.a i) (v.lv i).length (p.c i)) W := fun W => idx_lv v p i hi W
      obtain ⟨l, hl⟩ : ∃ l, v.lv i = l := ⟨_, rfl⟩
      rw [hl] at HC1 HCc hx
      have HE := Aside0.mk hl
      clear hl
      clear hi
      go_wp2_with fail
      go_loopg [5] l.length (fun kq v5 w' => ∃ x : Int, v5 = .int .i64 x ∧ 1 ≤ x ∧ Aside0 ((l.length : Int) + 1 ≤ x + (kq : Int)) ∧ Aside0 (Below w.heap.size w w') ∧ Aside0 (∀ k : Nat, (k : Int) + 1 < x → k < l.length - 1 → gapP i (l.getD k z58) (l.getD (k + 1) z58)))
      case atStart => exact ⟨1, rfl, by omega, ⟨by omega⟩, HB, ⟨fun k hk => by omega⟩⟩
      case round =>
        have HC0 := HC1
        clear HB HC1
        obtain ⟨x, rfl, hx1, HL, HB, HG⟩ := hrel
        by_cases hlt : x < (l.length : Int)
        · have HC1 := Aside0.mk (Kd.C_below (HC.out i HI.out).1 HB.out)
          rw [HE.out] at HC1
          have e0 : decide (x < (l.length : Int)) = true := decide_eq_true hlt
          have HLT := Aside0.mk hlt
          have HX1 := Aside0.mk hx1
          have HM := Aside0.mk (show l.length ≤ 9223372036854775807 from HC1.out.2.1)
          have p0 : 0 ≤ x := by omega
          obtain ⟨y, hy⟩ : ∃ y, y = x - 1 := ⟨_, rfl⟩
          have p1 : 0 ≤ y := by omega
          have p2 : y < (l.length : Int) := by omega
          obtain ⟨ad, ea, ha0, _, _, ha3, ha4, _, _⟩ := at_T58 HC1.out y p1 p2
          obtain ⟨ad', eb, hb0, _, _, hb3, hb4, _, _⟩ := at_T58 HC1.out x p0 hlt
          rw [ea] at eb
          cases eb
          obtain ⟨k, hk⟩ : ∃ k : Nat, x = (k : Int) + 1 := ⟨(x - 1).toNat, by omega⟩
          have EA := Aside0.mk (show rd_T58 l y = l.getD k z58 by unfold rd_T58; rw [hy, hk]; congr 1; omega)
          have EB := Aside0.mk (show rd_T58 l x = l.getD (k + 1) z58 by unfold rd_T58; rw [hk]; congr 1)
          generalize rd_T58 l y = a at *
          generalize rd_T58 l x = b at *
          have KX := Aside0.mk hk
          have ew : IntKind.i64.wrap (x - 1) = y := by have := HM.out; rw [IntKind.wrap_i64]; omega
          have ew2 : wrap64 (x - 1) = y := by have := HM.out; unfold wrap64; omega
          have ew1 : wrap64 (x + 1) = x + 1 := by have := HM.out; unfold wrap64; omega
          have hax : p.a i = some ad := ea
          rw [hax]
          have HAX := Aside0.mk hax
          clear hk hx1 ea hax hy
          by_cases hg : gapP i a b
          · have GG := Aside0.mk hg
            by_cases h0 : i = 0
            · have t0 : ((i : Int) == 0) = true := by rw [h0]; rfl
              have t1 : decide (0 < (i : Int)) = false := decide_eq_false (by omega)
              have t3 : decide (0 < i) = false := decide_eq_false (by omega)
              have t2 : decide (b.f0 ≤ a.f0) = false := by unfold gapP at hg; rw [if_pos h0] at hg; exact decide_eq_false (by omega)
              clear h0 hg
              go_wp2_with fail
              go_quiet (fail)
              go_wp2_with fail
              try rw [ew1]
              rw [← HAX.out]
              go_roundg (gk - 1)
              case measure => (have := HL.out; have := HLT.out; omega)
              case rel => exact ⟨x + 1, rfl, by have := HX1.out; omega, ⟨by have := HL.out; have := HLT.out; omega⟩, ⟨pw_below_drewN HB.out nq⟩, ⟨fun k' hk' hk2 => by
                by_cases e : (k' : Int) + 1 = x
                · have e2 : k' = k := by have := KX.out; omega
                  subst e2
                  rw [← EA.out, ← EB.out]; exact GG.out
                · exact HG.out k' (by omega) hk2⟩⟩
            · have t0 : ((i : Int) == 0) = false := by rw [beq_eq_false_iff_ne]; omega
              have t1 : decide (0 < (i : Int)) = true := decide_eq_true (by omega)
              have t3 : decide (0 < i) = true := decide_eq_true (by omega)
              have t2 : Op.bytesLess a.f4.toList b.f3.toList = true := by unfold gapP at hg; rw [if_neg h0] at hg; exact hg
              clear h0 hg
              go_wp2_with fail
              go_quiet (fail)
              go_wp2_with fail
              try rw [ew1]
              rw [← HAX.out]
              go_roundg (gk - 1)
              case measure => (have := HL.out; have := HLT.out; omega)
              case rel => exact ⟨x + 1, rfl, by have := HX1.out; omega, ⟨by have := HL.out; have := HLT.out; omega⟩, ⟨pw_below_drewN HB.out nq⟩, ⟨fun k' hk' hk2 => by
                by_cases e : (k' : Int) + 1 = x
                · have e2 : k' = k := by have := KX.out; omega
                  subst e2
                  rw [← EA.out, ← EB.out]; exact GG.out
                · exact HG.out k' (by omega) hk2⟩⟩
          · have GG := Aside0.mk hg
            by_cases h0 : i = 0
            · have t0 : ((i : Int) == 0) = true := by rw [h0]; rfl
              have t1 : decide (0 < (i : Int)) = false := decide_eq_false (by omega)
              have t3 : decide (0 < i) = false := decide_eq_false (by omega)
              have t2 : decide (b.f0 ≤ a.f0) = true := by unfold gapP at hg; rw [if_pos h0] at hg; exact decide_eq_true (by omega)
              clear h0 hg
              go_wp2_with fail
              go_quiet (fail)
              go_wp2_with fail
              go_ret
              exact ⟨ret_bool (by symm; rw [decide_eq_false_iff_not]; intro ho; exact GG.out (by rw [EA.out, EB.out]; have h1 := ho i HI.out k; rw [HE.out] at h1; exact h1 (by have := KX.out; have := HLT.out; omega))), pw_below_drewN HB.out nq⟩
            · have t0 : ((i : Int) == 0) = false := by rw [beq_eq_false_iff_ne]; omega
              have t1 : decide (0 < (i : Int)) = true := decide_eq_true (by omega)
              have t3 : decide (0 < i) = true := decide_eq_true (by omega)
              have t2 : Op.bytesLess a.f4.toList b.f3.toList = false := by unfold gapP at hg; rw [if_neg h0] at hg; simpa using hg
              clear h0 hg
              go_wp2_with fail
              go_quiet (fail)
              go_wp2_with fail
              go_ret
              exact ⟨ret_bool (by symm; rw [decide_eq_false_iff_not]; intro ho; exact GG.out (by rw [EA.out, EB.out]; have h1 := ho i HI.out k; rw [HE.out] at h1; exact h1 (by have := KX.out; have := HLT.out; omega))), pw_below_drewN HB.out nq⟩
        · have e0 : decide (x < (l.length : Int)) = false := decide_eq_false hlt
          have HLT := Aside0.mk hlt
          clear hlt
          go_wp2_with fail
          have ew : wrap64 ((i : Int) + 1) = ((i + 1 : Nat) : Int) := by have h1 := HI.out; unfold wrap64; omega
          try rw [ew]
          go_roundg q
          case measure => omega
          case rel => exact ⟨i + 1, rfl, ⟨by have := HK.out; omega⟩, HB, ⟨fun j hj k hk => by
            by_cases e : j = i
            · subst e; rw [HE.out] at hk ⊢; exact HG.out k (by have := HLT.out; omega) hk
            · exact HJ.out j (by omega) k hk⟩⟩
end
section
/- VB3: The order of bytes; edit.may walked. Conditions: none. -/
set_option linter.unusedVariables false
set_option linter.unusedSimpArgs false
open Go.RowKit Go.Proofs.YtkjepfofiegcdaaW.PrintWords Go.Proofs.YtkjepfofiegcdaaW.PrintLast Go.Proofs.YtkjepfofiegcdaaW.PrintMore Go.Proofs.Ytkjepfofiegcdaa.PB14
theorem less_irr : ∀ x : List UInt8, Op.bytesLess x x = false
  | [] => rfl
  | a :: x => by simp [Op.bytesLess, less_irr x]
theorem less_trans : ∀ {x y z : List UInt8}, Op.bytesLess x y = true → Op.bytesLess y z = true → Op.bytesLess x z = true
  | _, _, [], _, h => by cases ‹List UInt8› <;> simp [Op.bytesLess] at h
  | [], _, _ :: _, _, _ => by simp [Op.bytesLess]
  | a :: x, [], c :: z, h, _ => by simp [Op.bytesLess] at h
  | a :: x, b :: y, c :: z, h1, h2 => by
    simp only [Op.bytesLess, Bool.or_eq_true, Bool.and_eq_true, decide_eq_true_eq, beq_iff_eq] at h1 h2 ⊢
    rcases h1 with h1 | ⟨rfl, h1⟩
    · rcases h2 with h2 | ⟨rfl, h2⟩
      · exact .inl (UInt8.lt_trans h1 h2)
      · exact .inl h1
    · rcases h2 with h2 | ⟨rfl, h2⟩
      · exact .inl h2
      · exact .inr ⟨rfl, less_trans h1 h2⟩
theorem less_total : ∀ {x y : List UInt8}, Op.bytesLess x y = false → x ≠ y → Op.bytesLess y x = true
  | [], [], _, h => absurd rfl h
  | [], _ :: _, h, _ => by simp [Op.bytesLess] at h
  | _ :: _, [], _, _ => by simp [Op.bytesLess]
  | a :: x, b :: y, h, hne => by
    simp only [Op.bytesLess, Bool.or_eq_false_iff, Bool.and_eq_false_iff, decide_eq_false_iff_not, beq_eq_false_iff_ne] at h
    simp only [Op.bytesLess, Bool.or_eq_true, Bool.and_eq_true, decide_eq_true_eq, beq_iff_eq]
    obtain ⟨h1, h2⟩ := h
    by_cases c : a = b
    · subst c
      refine .inr ⟨rfl, less_total (h2.resolve_left (fun h => h rfl)) (fun e => hne (by rw [e]))⟩
    · left
      have := UInt8.lt_or_lt_of_ne c
      exact this.resolve_left h1
theorem le_less {a b : List UInt8} : (Op.bytesLess a b = true ∨ a = b) ↔ Op.bytesLess b a = false := by
  constructor
  · rintro (h | rfl)
    · cases hq : Op.bytesLess b a with
      | false => rfl
      | true => have := less_trans h hq; rw [less_irr] at this; cases this
    · exact less_irr _
  · intro h
    by_cases e : a = b
    · exact .inr e
    · exact .inl (less_total h (fun e2 => e e2.symm))
set_option maxHeartbeats 4000000 in
set_option maxRecDepth 100000 in
theorem may_calls (w : World) (m : S58) : Calls Try.prog 138 #[.agg #[.int .u64 m.f0, .int .i64 m.f1, .int .i64 m.f2, .string m.f3, .string m.f4, .int .u64 m.f5, .int .u64 m.f6]] w fun e w' => e = .returned (.bool (decide (mayP m))) ∧ Below w.heap.size w w' := by
  have HB := Aside0.mk ((Below.refl w.heap.size w).alloc (Nat.le_refl _) (.cells #[.int .u64 m.f0, .int .i64 m.f1, .int .i64 m.f2, .string m.f3, .string m.f4, .int .u64 m.f5, .int .u64 m.f6] 58))
  go_enter Try.func138, Try.ntmps138
  go_wp2_with fail
  all_goals
    go_ret
    refine ⟨ret_bool ?_, HB.out⟩
    first
      | (symm; rw [decide_eq_false_iff_not]; rintro ⟨a1, a2, a3, a4, a5, a6, a7, a8, a9, b1, b2, b3, b4⟩; first | omega | contradiction | (rw [← le_less] at b1; contradiction))
      | (rw [Bool.eq_iff_iff]; simp only [Bool.and_eq_true, Bool.or_eq_true, decide_eq_true_eq, beq_iff_eq, Bool.not_eq_true', List.isEmpty_eq_false_iff]; refine ⟨fun h => ⟨by assumption, by assumption, by assumption, by assumption, by assumption, by assumption, by assumption, by omega, by omega, le_less.mp (by assumption), by assumption, by assumption, h.2⟩, fun h => ⟨⟨by assumption, by assumption⟩, h.2.2.2.2.2.2.2.2.2.2.2.2⟩⟩)
end
section
/- VB4: A map of counts (of type map[uint64]int). Conditions: none. -/
set_option linter.unusedVariables false
set_option linter.unusedSimpArgs false
open Go.RowKit Go.Proofs.YtkjepfofiegcdaaW.PrintWords Go.Proofs.YtkjepfofiegcdaaW.PrintLast Go.Proofs.YtkjepfofiegcdaaW.PrintMore Go.Proofs.Ytkjepfofiegcdaa.PB14
open Go.WideMaps Go.Maps
theorem law22 : Keyed Try.prog 22 := int_keyed Try.underlying22
theorem zero3 (w : World) : (zeroValue 3).run Try.prog w = .ok (.int .i64 0) w := by kernel_rfl
def Cnt (w : World) (b n : Nat) (F : Int → Int) : Prop := ∃ D : DataW Unit, IsMap D ∧ w.ownsMap Try.prog 22 (plainElem Try.prog 3) b n D ∧ ∀ k : Int, D.atKey (.int .u64 k) (.lit (.int .i64 0)) = .lit (.int .i64 (F k))
theorem Cnt.made (w : World) : Cnt (w.alloc (.map #[] 0)) w.heap.size 0 (fun _ => 0) := ⟨.map [], isMap_empty, World.ownsMap_made _ _ _ _, fun k => rfl⟩
theorem wf_u64 {k : Int} (h0 : 0 ≤ k) (h1 : k ≤ 18446744073709551615) : (Lit.int .u64 k).wf = true := by
  have a : IntKind.u64.min = 0 := by decide
  have b : IntKind.u64.max = 18446744073709551615 := by decide
  simp [Lit.wf, a, b]
  omega
theorem wf_i64 {k : Int} (h0 : -9223372036854775808 ≤ k) (h1 : k ≤ 9223372036854775807) : (Lit.int .i64 k).wf = true := by
  have a : IntKind.i64.min = -9223372036854775808 := by decide
  have b : IntKind.i64.max = 9223372036854775807 := by decide
  simp [Lit.wf, a, b]
  omega
section
variable {w w' : World} {b n : Nat} {F : Int → Int}
theorem Cnt.look (h : Cnt w b n F) {k : Int} (hk : (Lit.int .u64 k).wf = true) : (Instr.lookup 124 (.map (some b)) (.int .u64 k) false).run Try.prog w = .ok (.int .i64 (F k)) w := by
  obtain ⟨D, _, ho, hF⟩ := h
  obtain ⟨c, hrun, hat, _⟩ := ho.lookup_int law22 Try.underlying124 Try.underlying3 (zero3 w) (keyOf_int_mk Try.underlying22 hk)
  rw [hF] at hat
  have e := (Lit.int.inj (DataW.lit.inj hat)).2
  subst e
  exact hrun
theorem Cnt.kept {row : Option Nat} (h : Cnt w b n F) (hg : w.grownBy w' row) (hne : some b ≠ row) : Cnt w' b n F := by
  obtain ⟨D, h1, h2, h3⟩ := h
  exact ⟨D, h1, h2.kept hg hne, h3⟩
theorem Cnt.below (h : Cnt w b n F) (hb : Below w.heap.size w w') : Cnt w' b n F := h.kept (grown_of_below hb none) (by simp)
theorem Cnt.lt (h : Cnt w b n F) : b < w.heap.size := by
  obtain ⟨D, _, h2, _⟩ := h
  exact h2.lt
end
section
variable {ops : Array Oper} {rest : List Oper} {o : Oper} {a : Act} {Q : Exit → Act → World → Prop}
theorem cnt_put (w : World) (hg : o.guard = none) (m x v : Operand) (hop : o.op = Op.mapUpdate 124 m x v) {b n : Nat} {F : Int → Int} (hm : a.eval m = .map (some b)) (h : Cnt w b n F) (hn : n < maxLen) (k u : Int) (hx : a.eval x = .int .u64 k) (hv : a.eval v = .int .i64 u) (hk : (Lit.int .u64 k).wf = true) (u0 : -9223372036854775808 ≤ u) (u1 : u ≤ 9223372036854775807)
    (hK : ∀ w', Cnt w' b (n + 1) (fun j => if j = k then u else F j) → w.grownBy w' (some b) → wpList Try.prog ops Q rest (a.put o.dst undef) w') : wpList Try.prog ops Q (o :: rest) a w := by
  obtain ⟨D, h1, h2, h3⟩ := h
  refine wpList_mapUpdate_own w hg m x v 124 hop 22 3 law22 Try.underlying124 _ b n D hm h2 hn _ _ _ hx hv (keyOf_int_mk Try.underlying22 hk) _ [] (plainElem_int Try.underlying3 (wf_i64 u0 u1)) ?_
  intro w' ho hgr
  refine hK w' ⟨_, h1.put _ _, ho, fun j => ?_⟩ hgr
  by_cases e : j = k
  · subst e
    show DataW.atKey _ _ _ = .lit (.int .i64 (if j = j then u else F j))
    rw [if_pos rfl]
    exact atKey_put_same h1 (show WideAt.IsKeyLit (.int .u64 j) from trivial) _ _
  · show DataW.atKey _ _ _ = .lit (.int .i64 (if j = k then u else F j))
    rw [if_neg e, atKey_put_other (fun hc => e (by injection hc)), h3]
end
end
section
/- VB5: The tables of a version, walked (version.tables). Conditions: none. -/
set_option linter.unusedVariables false
set_option linter.unusedSimpArgs false
open Go.RowKit Go.Proofs.YtkjepfofiegcdaaW.PrintWords Go.Proofs.YtkjepfofiegcdaaW.PrintLast Go.Proofs.YtkjepfofiegcdaaW.PrintMore Go.Proofs.Ytkjepfofiegcdaa.PB14
def cntF (L : List S58) : Int → Int := fun j => ((nums L).count j : Int)
theorem cnt_snoc (L : List S58) (m : S58) : (fun j : Int => if j = m.f0 then cntF L m.f0 + 1 else cntF L j) = cntF (L ++ [m]) := by
  funext j
  unfold cntF nums
  rw [List.map_append, List.count_append]
  by_cases e : j = m.f0
  · subst e
    rw [if_pos rfl]
    simp
  · rw [if_neg e]
    have : List.count j (List.map (fun x : S58 => x.f0) [m]) = 0 := by
      rw [List.count_eq_zero]
      simpa using e
    omega
theorem cntF_le (L : List S58) (k : Int) : 0 ≤ cntF L k ∧ cntF L k ≤ (L.length : Int) := by
  unfold cntF
  have h := List.count_le_length (a := k) (l := nums L)
  rw [nums, List.length_map] at h
  unfold nums
  omega
theorem cntF_pos (L : List S58) (k : Int) : 1 ≤ cntF L k ↔ k ∈ nums L := by
  unfold cntF
  rw [← List.count_pos_iff]
  omega
theorem cntF_zero {v : Ver} {L : List S58} (h : PP v L) : cntF L 0 = 0 := by
  unfold cntF
  have : (nums L).count 0 = 0 := by
    rw [List.count_eq_zero]
    intro hm
    obtain ⟨m, hm, e⟩ := List.mem_map.mp hm
    have := (h.1 m hm).1.1
    omega
  omega
theorem catV_len {v : Ver} {i : Nat} (h : ∀ j, j < i → (v.lv j).length ≤ 64) : (catV v i).length ≤ 64 * i := by
  induction i with
  | zero => simp [catV]
  | succ i ih =>
    have h1 := ih (fun j hj => h j (by omega))
    have h2 := h i (by omega)
    rw [catV, List.length_append]
    omega
set_option maxHeartbeats 8000000 in
set_option maxRecDepth 100000 in
theorem tables_calls (w : World) (v : Ver) (p : Pl) (hC : VC w v p) (hW : VW v) : Calls Try.prog 118 #[.agg (vCs v p)] w fun e w' => e = .returned (.bool (decide (tabP v))) ∧ Below w.heap.size w w' := by
  have HC := Aside0.mk hC
  have HW := Aside0.mk hW
  clear hC hW
  have HB := Aside0.mk ((Below.refl w.heap.size w).alloc (Nat.le_refl _) (.cells (vCs v p) 143))
  have BX := Aside0.mk (blk_new w (.cells (vCs v p) 143))
  have hmm := @run_makeMap Try.prog
  have CM := Aside0.mk (Cnt.made (w.alloc (.cells (vCs v p) 143)))
  have n0_ := Aside0.mk (below_alloc HB.out (.map #[] 0))
  have n1_ := Aside0.mk (blk_alloc BX.out (.map #[] 0))
  have NE := Aside0.mk (show w.heap.size ≠ (w.alloc (.cells (vCs v p) 143)).heap.size from Nat.ne_of_lt (blk_lt BX.out))
  have GM := Aside0.mk HB.out.size
  clear HB BX
  have HB := n0_
  have BX := n1_
  clear n0_ n1_
  go_enter Try.func118, Try.ntmps118
  go_wp2_with fail
  go_step3
  go_wp2_with fail
  have GB := Aside0.mk (Nat.le_refl w.heap.size)
  generalize hgm : (w.alloc (.cells (vCs v p) 143)).heap.size = gm at *
  have e7 : w.heap.size + 1 = gm := by rw [← hgm]; simp
  try rw [e7]
  clear hgm e7
  generalize (w.alloc (.cells (vCs v p) 143)).alloc (.map #[] 0) = w1 at *
  have b3 : w1.cell? ⟨w.heap.size, 3, none⟩ = some (.slice p.a0 v.l0.length p.c0) := (blk_cell BX.out 3).trans rfl
  have b4 : w1.cell? ⟨w.heap.size, 4, none⟩ = some (.slice p.a1 v.l1.length p.c1) := (blk_cell BX.out 4).trans rfl
  have b5 : w1.cell? ⟨w.heap.size, 5, none⟩ = some (.slice p.a2 v.l2.length p.c2) := (blk_cell BX.out 5).trans rfl
  have b6 : w1.cell? ⟨w.heap.size, 6, none⟩ = some (.slice p.a3 v.l3.length p.c3) := (blk_cell BX.out 6).trans rfl
  go_step3
  go_wp2_with fail
  clear b3 b4 b5 b6
  go_loopg [5, 7, 12] 4 (fun kq v5 v7 v12 w' => ∃ i : Nat, v12 = .int .i64 (i : Int) ∧ Aside0 (kq + i = 4) ∧ Aside0 (Below w.heap.size w w') ∧ Aside0 (w'.heap[w.heap.size]? = some (.cells (vCs v p) 143 (0, 0))) ∧ Aside0 (Cnt w' gm (catV v i).length (cntF (catV v i))) ∧ Aside0 (PP v (catV v i)) ∧ Aside0 (∀ j, j < i → (v.lv j).length ≤ 64))
  case atStart => exact ⟨0, rfl, ⟨by omega⟩, HB, BX, CM, ⟨⟨fun m hm => by simp [catV] at hm, by simp [catV, nums]⟩⟩, ⟨fun j hj => by omega⟩⟩
  case round =>
    clear HB BX CM
    obtain ⟨i, rfl, HK, HB, BX, CM, PC, H64⟩ := hrel
    cases gk with
    | zero =>
      have ei : i = 4 := by have := HK.out; omega
      subst ei
      have hl := CM.out.look (k := 0) (by decide)
      rw [cntF_zero PC.out] at hl
      go_wp2_with fail
      try rw [Exit.noGoto_ret]
      go_ret
      exact ⟨ret_bool (by symm; rw [decide_eq_true_iff]; exact ⟨H64.out, PC.out⟩), HB.out⟩
    | succ q =>
      have hi : i < 4 := by have := HK.out; omega
      have HI := Aside0.mk hi
      have d0 : decide ((i : Int) < 4) = true := decide_eq_true (by omega)
      have HCc := Aside0.mk (HC.out i hi).2
      have hx : ∀ W : World, (Instr.index 24 (.agg #[.slice p.a0 v.l0.length p.c0, .slice p.a1 v.l1.length p.c1, .slice p.a2 v.l2.length p.c2, .slice p.a3 v.l3.length p.c3]) (.int .i64 (i : Int))).run Try.prog W = .ok (.slice (p.a i) (v.lv i).length (p.c i)) W := fun W => idx_lv v p i hi W
      obtain ⟨l, hl⟩ : ∃ l, v.lv i = l := ⟨_, rfl⟩
      rw [hl] at HCc hx
      have HE := Aside0.mk hl
      clear hl hi
      by_cases h64 : (l.length : Int) > 64
      · have t0 : decide (64 < (l.length : Int)) = true := decide_eq_true h64
        have t1 : decide (64 < l.length) = true := decide_eq_true (by omega)
        have BAD := Aside0.mk (show ¬ tabP v from fun h => by have := h.1 i HI.out; rw [HE.out] at this; omega)
        clear h64
        go_wp2_with (first | (at_mapUpdate; refine cnt_put _ rfl _ _ _ rfl rfl CM.out (by have h1 := catV_len H64.out; have h2 := HI.out; unfold maxLen; omega) 0 2 rfl rfl (by decide) (by omega) (by omega) ?_; intro wz ho hg; have n0_ := Aside0.mk (pw_below_grown HB.out (some gm) HB.out.size hg (fun k hk => by cases hk; exact GM.out)); have hl0 := ho.look (k := 0) (by decide); clear hg ho) | fail)
        try rw [Exit.noGoto_ret]
        go_ret
        exact ⟨ret_bool (by symm; rw [decide_eq_false_iff_not]; exact BAD.out), n0_.out⟩
      · have t0 : decide (64 < (l.length : Int)) = false := decide_eq_false h64
        have t1 : decide (64 < l.length) = false := decide_eq_false (by omega)
        have L64 := Aside0.mk (show l.length ≤ 64 by omega)
        clear h64
        go_wp2_with fail
        go_loopg [7, 21] l.length (fun kq v7 v21 w' => ∃ k : Nat, v21 = .int .i64 (k : Int) ∧ Aside0 (kq + k = l.length) ∧ Aside0 (Below w.heap.size w w') ∧ Aside0 (w'.heap[w.heap.size]? = some (.cells (vCs v p) 143 (0, 0))) ∧ Aside0 (Cnt w' gm (catV v i ++ l.take k).length (cntF (catV v i ++ l.take k))) ∧ Aside0 (PP v (catV v i ++ l.take k)))
        case atStart => exact ⟨0, rfl, ⟨by omega⟩, HB, BX, by rw [List.take_zero, List.append_nil]; exact CM, by rw [List.take_zero, List.append_nil]; exact PC⟩
        case round =>
          clear HB BX CM PC
          obtain ⟨k, rfl, HKK, HB, BX, CM, PC⟩ := hrel
          cases gk with
          | zero =>
            have ek : k = l.length := by have := HKK.out; omega
            subst ek
            have d0 : decide ((l.length : Int) < (l.length : Int)) = false := by simp
            rw [List.take_length] at CM PC
            go_wp2_with fail
            have ew : wrap64 ((i : Int) + 1) = ((i + 1 : Nat) : Int) := by have h1 := HI.out; unfold wrap64; omega
            try rw [ew]
            go_roundg q
            case measure => omega
            case rel => exact ⟨i + 1, rfl, ⟨by have := HK.out; omega⟩, HB, BX, by rw [catV, HE.out]; exact CM, by rw [catV, HE.out]; exact PC, ⟨fun j hj => by
              by_cases e : j = i
              · subst e; rw [HE.out]; exact L64.out
              · exact H64.out j (by omega)⟩⟩
          | succ g =>
            have hk : k < l.length := by have := HKK.out; omega
            have HKL := Aside0.mk hk
            have d0 : decide ((k : Int) < (l.length : Int)) = true := decide_eq_true (by omega)
            have d1 : decide (k < l.length) = true := decide_eq_true hk
            have p0 : 0 ≤ (k : Int) := Int.natCast_nonneg _
            have p1 : (k : Int) < (l.length : Int) := by omega
            have HC1 := Aside0.mk (Kd.C_below (HC.out i HI.out).1 HB.out)
            rw [HE.out] at HC1
            obtain ⟨ad, ea, ha0, ha1, ha2, ha3, ha4, ha5, ha6⟩ := at_T58 HC1.out (k : Int) p0 p1
            rw [Int.toNat_natCast] at ha0 ha1 ha2 ha3 ha4 ha5 ha6
            have EM := Aside0.mk (show rd_T58 l (k : Int) = l.getD k z58 by unfold rd_T58; rw [Int.toNat_natCast])
            generalize rd_T58 l (k : Int) = m at *
            have MW := Aside0.mk (show 0 ≤ m.f0 ∧ m.f0 ≤ 18446744073709551615 from HW.out i HI.out m (by rw [HE.out, EM.out]; exact getD_mem l z58 hk))
            have TS := Aside0.mk (show l.take (k + 1) = l.take k ++ [m] by rw [EM.out]; exact take_snoc l z58 hk)
            obtain ⟨L, hL⟩ : ∃ L, L = catV v i ++ l.take k := ⟨_, rfl⟩
            rw [← hL] at CM PC
            have LE := Aside0.mk hL
            have LN := Aside0.mk (show L.length ≤ 320 by have h1 := catV_len H64.out; have h2 := HI.out; have h3 := L64.out; rw [hL, List.length_append, List.length_take]; omega)
            clear hL hk
            rw [ea]
            have HAX := Aside0.mk ea
            clear ea
            have hb1 := Aside0.mk ((Below.refl wr.heap.size wr).alloc (Nat.le_refl _) (.cells #[.int .u64 m.f0, .int .i64 m.f1, .int .i64 m.f2, .string m.f3, .string m.f4, .int .u64 m.f5, .int .u64 m.f6] 58))
            have HB1 := Aside0.mk (below_step HB.out hb1.out)
            have CM1 := Aside0.mk (CM.out.below hb1.out)
            have BM := Aside0.mk (blk_new wr (.cells #[.int .u64 m.f0, .int .i64 m.f1, .int .i64 m.f2, .string m.f3, .string m.f4, .int .u64 m.f5, .int .u64 m.f6] 58))
            have BX1 := Aside0.mk (blk_below BX.out hb1.out)
            have NM := Aside0.mk (show some wr.heap.size ≠ some gm from fun e => by injection e with e; have := CM.out.lt; omega)
            have NB := Aside0.mk (show some w.heap.size ≠ some gm from fun e => by injection e with e; exact NE.out e)
            have hlk := CM1.out.look (k := m.f0) (wf_u64 MW.out.1 MW.out.2)
            have c0 := (cntF_le L m.f0).1
            have c1 : cntF L m.f0 ≤ 320 := by have := (cntF_le L m.f0).2; have := LN.out; omega
            have CE := Aside0.mk (cnt_snoc L m)
            have CP := Aside0.mk (cntF_pos L m.f0)
            obtain ⟨cc, hcc⟩ : ∃ c, cntF L m.f0 = c := ⟨_, rfl⟩
            rw [hcc] at hlk c0 c1 CE CP
            have ew1 : wrap64 (cc + 1) = cc + 1 := by unfold wrap64; omega
            have ew2 : IntKind.i64.wrap (cc + 1) = cc + 1 := by rw [IntKind.wrap_i64]; omega
            have F2 := Aside0.mk (show cntF (L ++ [m]) m.f0 = cc + 1 by rw [← CE.out]; exact if_pos rfl)
            clear hcc hb1
            by_cases hin : 1 ≤ cc
            · have t3 : decide (1 < cc + 1) = true := decide_eq_true (by omega)
              have t4 : decide (0 < cc) = true := decide_eq_true (by omega)
              have BAD := Aside0.mk (show ¬ tabP v from fun h => by have h1 := tabP_pre h HI.out (k + 1); rw [HE.out, TS.out, ← List.append_assoc, ← LE.out] at h1; exact h1.last.1 (CP.out.mp hin))
              have TOK := Aside0.mk trivial
              clear hin
              go_wp2_with (first | (at_mapUpdate; refine cnt_put _ rfl _ _ _ rfl rfl CM1.out (by have := LN.out; unfold maxLen; omega) m.f0 (cc + 1) rfl rfl (wf_u64 MW.out.1 MW.out.2) (by omega) (by omega) ?_; intro w2 ho hg; rw [CE.out] at ho; have HB2 := Aside0.mk (pw_below_grown HB1.out (some gm) HB1.out.size hg (fun k hk => by cases hk; exact GM.out)); have BM2 := Aside0.mk (blk_grown BM.out hg NM.out); have BX2 := Aside0.mk (blk_grown BX1.out hg NB.out); have CM2 := Aside0.mk ho; clear hg ho hlk CM1 HB1 BM BX1; have m0 : w2.cell? ⟨wr.heap.size, 0, none⟩ = some (.int .u64 m.f0) := (blk_cell BM2.out 0).trans rfl; have m1 : w2.cell? ⟨wr.heap.size, 1, none⟩ = some (.int .i64 m.f1) := (blk_cell BM2.out 1).trans rfl; have m2 : w2.cell? ⟨wr.heap.size, 2, none⟩ = some (.int .i64 m.f2) := (blk_cell BM2.out 2).trans rfl; have m3 : w2.cell? ⟨wr.heap.size, 3, none⟩ = some (.string m.f3) := (blk_cell BM2.out 3).trans rfl; have m4 : w2.cell? ⟨wr.heap.size, 4, none⟩ = some (.string m.f4) := (blk_cell BM2.out 4).trans rfl; have m5 : w2.cell? ⟨wr.heap.size, 5, none⟩ = some (.int .u64 m.f5) := (blk_cell BM2.out 5).trans rfl; have m6 : w2.cell? ⟨wr.heap.size, 6, none⟩ = some (.int .u64 m.f6) := (blk_cell BM2.out 6).trans rfl; have v1 : w2.cell? ⟨w.heap.size, 1, none⟩ = some (.int .u64 v.next) := (blk_cell BX2.out 1).trans rfl; have v2 : w2.cell? ⟨w.heap.size, 2, none⟩ = some (.int .u64 v.seq) := (blk_cell BX2.out 2).trans rfl; have hlk2 : (Instr.lookup 124 (.map (some gm)) (.int .u64 m.f0) false).run Try.prog w2 = .ok (.int .i64 (cc + 1)) w2 := by have h1 := CM2.out.look (k := m.f0) (wf_u64 MW.out.1 MW.out.2); rw [F2.out] at h1; exact h1) | (at_mapUpdate; refine cnt_put _ rfl _ _ _ rfl rfl CM2.out (by have := LN.out; unfold maxLen; omega) 0 2 rfl rfl (by decide) (by omega) (by omega) ?_; intro wz ho hg; have n0_ := Aside0.mk (pw_below_grown HB2.out (some gm) HB2.out.size hg (fun k hk => by cases hk; exact GM.out)); have hl0 := ho.look (k := 0) (by decide); clear hg ho) | fail)
              try rw [Exit.noGoto_ret]
              go_ret
              exact ⟨ret_bool (by symm; rw [decide_eq_false_iff_not]; exact BAD.out), n0_.out⟩
            · have t3 : decide (1 < cc + 1) = false := decide_eq_false (by omega)
              have t4 : decide (0 < cc) = false := decide_eq_false (by omega)
              have NIN := Aside0.mk (show m.f0 ∉ nums L from fun h => hin (CP.out.mpr h))
              have LAST := Aside0.mk (show tabP v → okP v m from fun h => by have h1 := tabP_pre h HI.out (k + 1); rw [HE.out, TS.out, ← List.append_assoc, ← LE.out] at h1; exact h1.last.2)
              clear hin
              go_wp2_with (first | (at_mapUpdate; refine cnt_put _ rfl _ _ _ rfl rfl CM1.out (by have := LN.out; unfold maxLen; omega) m.f0 (cc + 1) rfl rfl (wf_u64 MW.out.1 MW.out.2) (by omega) (by omega) ?_; intro w2 ho hg; rw [CE.out] at ho; have HB2 := Aside0.mk (pw_below_grown HB1.out (some gm) HB1.out.size hg (fun k hk => by cases hk; exact GM.out)); have BM2 := Aside0.mk (blk_grown BM.out hg NM.out); have BX2 := Aside0.mk (blk_grown BX1.out hg NB.out); have CM2 := Aside0.mk ho; clear hg ho hlk CM1 HB1 BM BX1; have m0 : w2.cell? ⟨wr.heap.size, 0, none⟩ = some (.int .u64 m.f0) := (blk_cell BM2.out 0).trans rfl; have m1 : w2.cell? ⟨wr.heap.size, 1, none⟩ = some (.int .i64 m.f1) := (blk_cell BM2.out 1).trans rfl; have m2 : w2.cell? ⟨wr.heap.size, 2, none⟩ = some (.int .i64 m.f2) := (blk_cell BM2.out 2).trans rfl; have m3 : w2.cell? ⟨wr.heap.size, 3, none⟩ = some (.string m.f3) := (blk_cell BM2.out 3).trans rfl; have m4 : w2.cell? ⟨wr.heap.size, 4, none⟩ = some (.string m.f4) := (blk_cell BM2.out 4).trans rfl; have m5 : w2.cell? ⟨wr.heap.size, 5, none⟩ = some (.int .u64 m.f5) := (blk_cell BM2.out 5).trans rfl; have m6 : w2.cell? ⟨wr.heap.size, 6, none⟩ = some (.int .u64 m.f6) := (blk_cell BM2.out 6).trans rfl; have v1 : w2.cell? ⟨w.heap.size, 1, none⟩ = some (.int .u64 v.next) := (blk_cell BX2.out 1).trans rfl; have v2 : w2.cell? ⟨w.heap.size, 2, none⟩ = some (.int .u64 v.seq) := (blk_cell BX2.out 2).trans rfl; have hlk2 : (Instr.lookup 124 (.map (some gm)) (.int .u64 m.f0) false).run Try.prog w2 = .ok (.int .i64 (cc + 1)) w2 := by have h1 := CM2.out.look (k := m.f0) (wf_u64 MW.out.1 MW.out.2); rw [F2.out] at h1; exact h1) | fail)
              refine (may_calls _ m).mono ?_
              rintro e w3 ⟨rfl, hb⟩
              have HB3 := Aside0.mk (below_step HB2.out hb)
              have BM3 := Aside0.mk (blk_below BM2.out hb)
              have BX3 := Aside0.mk (blk_below BX2.out hb)
              have CM3 := Aside0.mk (CM2.out.below hb)
              clear hb HB2 BM2 BX2 CM2 hlk2 m0 m1 m2 m3 m4 m5 m6 v1 v2
              have m0 : w3.cell? ⟨wr.heap.size, 0, none⟩ = some (.int .u64 m.f0) := (blk_cell BM3.out 0).trans rfl
              have m6 : w3.cell? ⟨wr.heap.size, 6, none⟩ = some (.int .u64 m.f6) := (blk_cell BM3.out 6).trans rfl
              have v1 : w3.cell? ⟨w.heap.size, 1, none⟩ = some (.int .u64 v.next) := (blk_cell BX3.out 1).trans rfl
              have v2 : w3.cell? ⟨w.heap.size, 2, none⟩ = some (.int .u64 v.seq) := (blk_cell BX3.out 2).trans rfl
              by_cases hm : mayP m
              · rw [decide_eq_true hm]
                have OKM := Aside0.mk hm
                clear hm
                by_cases hn : m.f0 < v.next
                · have t5 : decide (v.next ≤ m.f0) = false := decide_eq_false (by omega)
                  have OKN := Aside0.mk hn
                  clear hn
                  by_cases hs : m.f6 ≤ v.seq
                  · have t6 : decide (v.seq < m.f6) = false := decide_eq_false (by omega)
                    have OKS := Aside0.mk hs
                    clear hs
                    go_wp2_with fail
                    have ew : wrap64 ((k : Int) + 1) = ((k + 1 : Nat) : Int) := by have h1 := HKL.out; have h2 := L64.out; unfold wrap64; omega
                    try rw [ew]
                    rw [← HAX.out]
                    go_roundg g
                    case measure => omega
                    case rel => exact ⟨k + 1, rfl, ⟨by have := HKK.out; omega⟩, HB3, BX3, by rw [TS.out, ← List.append_assoc, ← LE.out, List.length_append]; exact CM3, by rw [TS.out, ← List.append_assoc, ← LE.out]; exact ⟨PC.out.snoc NIN.out ⟨OKM.out, OKN.out, OKS.out⟩⟩⟩
                  · have t6 : decide (v.seq < m.f6) = true := decide_eq_true (by omega)
                    have BAD := Aside0.mk (show ¬ tabP v from fun h => hs (LAST.out h).2.2)
                    clear hs
                    go_wp2_with (first | (at_mapUpdate; refine cnt_put _ rfl _ _ _ rfl rfl CM3.out (by have := LN.out; unfold maxLen; omega) 0 2 rfl rfl (by decide) (by omega) (by omega) ?_; intro wz ho hg; have n0_ := Aside0.mk (pw_below_grown HB3.out (some gm) HB3.out.size hg (fun k hk => by cases hk; exact GM.out)); have hl0 := ho.look (k := 0) (by decide); clear hg ho) | fail)
                    try rw [Exit.noGoto_ret]
                    go_ret
                    exact ⟨ret_bool (by symm; rw [decide_eq_false_iff_not]; exact BAD.out), n0_.out⟩
                · have t5 : decide (v.next ≤ m.f0) = true := decide_eq_true (by omega)
                  have BAD := Aside0.mk (show ¬ tabP v from fun h => hn (LAST.out h).2.1)
                  clear hn
                  go_wp2_with (first | (at_mapUpdate; refine cnt_put _ rfl _ _ _ rfl rfl CM3.out (by have := LN.out; unfold maxLen; omega) 0 2 rfl rfl (by decide) (by omega) (by omega) ?_; intro wz ho hg; have n0_ := Aside0.mk (pw_below_grown HB3.out (some gm) HB3.out.size hg (fun k hk => by cases hk; exact GM.out)); have hl0 := ho.look (k := 0) (by decide); clear hg ho) | fail)
                  try rw [Exit.noGoto_ret]
                  go_ret
                  exact ⟨ret_bool (by symm; rw [decide_eq_false_iff_not]; exact BAD.out), n0_.out⟩
              · rw [decide_eq_false hm]
                have BAD := Aside0.mk (show ¬ tabP v from fun h => hm (LAST.out h).1)
                clear hm
                go_wp2_with (first | (at_mapUpdate; refine cnt_put _ rfl _ _ _ rfl rfl CM3.out (by have := LN.out; unfold maxLen; omega) 0 2 rfl rfl (by decide) (by omega) (by omega) ?_; intro wz ho hg; have n0_ := Aside0.mk (pw_below_grown HB3.out (some gm) HB3.out.size hg (fun k hk => by cases hk; exact GM.out)); have hl0 := ho.look (k := 0) (by decide); clear hg ho) | fail)
                try rw [Exit.noGoto_ret]
                go_ret
                exact ⟨ret_bool (by symm; rw [decide_eq_false_iff_not]; exact BAD.out), n0_.out⟩
end
section
/- VB6: edit.Right, walked. Conditions: none. -/
set_option linter.unusedVariables false
set_option linter.unusedSimpArgs false
open Go.RowKit Go.Proofs.YtkjepfofiegcdaaW.PrintWords Go.Proofs.YtkjepfofiegcdaaW.PrintLast Go.Proofs.YtkjepfofiegcdaaW.PrintMore Go.Proofs.Ytkjepfofiegcdaa.PB14
def partP (v : Ver) : Nat → Prop
  | 0 => boundsP v
  | 1 => tabP v
  | _ => ordP v
instance (v : Ver) (i : Nat) : Decidable (partP v i) := by unfold partP; split <;> infer_instance
theorem partP_all {v : Ver} (h : ∀ i, i < 3 → partP v i) : rightP v := ⟨h 0 (by omega), h 1 (by omega), h 2 (by omega)⟩
theorem partP_of {v : Ver} (h : rightP v) : ∀ i, i < 3 → partP v i := fun i hi => by
  rcases (by omega : i = 0 ∨ i = 1 ∨ i = 2) with rfl | rfl | rfl
  · exact h.1
  · exact h.2.1
  · exact h.2.2
set_option maxHeartbeats 4000000 in
set_option maxRecDepth 100000 in
theorem right_calls (w : World) (v : Ver) (p : Pl) (hC : VC w v p) (hW : VW v) : Calls Try.prog 62 #[.agg (vCs v p)] w fun e w' => e = .returned (.bool (decide (rightP v))) ∧ Below w.heap.size w w' := by
  have HC := Aside0.mk hC
  have HW := Aside0.mk hW
  clear hC hW
  have HB := Aside0.mk (below_alloc ((Below.refl w.heap.size w).alloc (Nat.le_refl _) (.cells (vCs v p) 26)) (.cells #[.func (.func 117) #[] #[], .func (.func 118) #[] #[], .func (.func 119) #[] #[]] 141))
  have BX := Aside0.mk (blk_alloc (blk_new w (.cells (vCs v p) 26)) (.cells #[.func (.func 117) #[] #[], .func (.func 118) #[] #[], .func (.func 119) #[] #[]] 141))
  have BF := Aside0.mk (blk_new (w.alloc (.cells (vCs v p) 26)) (.cells #[.func (.func 117) #[] #[], .func (.func 118) #[] #[], .func (.func 119) #[] #[]] 141))
  go_enter Try.func62, Try.ntmps62
  go_wp2_with fail
  generalize hgf : (w.alloc (.cells (vCs v p) 26)).heap.size = gf at *
  have e7 : w.heap.size + 1 = gf := by rw [← hgf]; simp
  try rw [e7]
  clear hgf e7
  generalize (w.alloc (.cells (vCs v p) 26)).alloc (.cells #[.func (.func 117) #[] #[], .func (.func 118) #[] #[], .func (.func 119) #[] #[]] 141) = w1 at *
  go_loopg [4, 7] 3 (fun kq v4 v7 w' => ∃ i : Nat, v7 = .int .i64 (i : Int) ∧ Aside0 (kq + i = 3) ∧ Aside0 (Below w.heap.size w w') ∧ Aside0 (w'.heap[w.heap.size]? = some (.cells (vCs v p) 26 (0, 0))) ∧ Aside0 (w'.heap[gf]? = some (.cells #[.func (.func 117) #[] #[], .func (.func 118) #[] #[], .func (.func 119) #[] #[]] 141 (0, 0))) ∧ Aside0 (∀ j, j < i → partP v j))
  case atStart => exact ⟨0, rfl, ⟨by omega⟩, HB, BX, BF, ⟨fun j hj => by omega⟩⟩
  case round =>
    clear HB BX BF
    obtain ⟨i, rfl, HK, HB, BX, BF, HP⟩ := hrel
    have HI := Aside0.mk (show i ≤ 3 by have := HK.out; omega)
    cases gk with
    | zero =>
      have ei : i = 3 := by have := HK.out; omega
      subst ei
      go_wp2_with fail
      go_ret
      exact ⟨ret_bool (by symm; rw [decide_eq_true_iff]; exact partP_all HP.out), HB.out⟩
    | succ q =>
      have d0 : decide ((i : Int) < 3) = true := decide_eq_true (by have := HK.out; omega)
      have i0 : 0 ≤ (i : Int) := Int.natCast_nonneg _
      have i1 : (i : Int) < 3 := by have := HK.out; omega
      have b0 : wr.cell? ⟨w.heap.size, 0, none⟩ = some (.int .u64 v.log) := (blk_cell BX.out 0).trans rfl
      have b1 : wr.cell? ⟨w.heap.size, 1, none⟩ = some (.int .u64 v.next) := (blk_cell BX.out 1).trans rfl
      have b2 : wr.cell? ⟨w.heap.size, 2, none⟩ = some (.int .u64 v.seq) := (blk_cell BX.out 2).trans rfl
      have b3 : wr.cell? ⟨w.heap.size, 3, none⟩ = some (.slice p.a0 v.l0.length p.c0) := (blk_cell BX.out 3).trans rfl
      have b4 : wr.cell? ⟨w.heap.size, 4, none⟩ = some (.slice p.a1 v.l1.length p.c1) := (blk_cell BX.out 4).trans rfl
      have b5 : wr.cell? ⟨w.heap.size, 5, none⟩ = some (.slice p.a2 v.l2.length p.c2) := (blk_cell BX.out 5).trans rfl
      have b6 : wr.cell? ⟨w.heap.size, 6, none⟩ = some (.slice p.a3 v.l3.length p.c3) := (blk_cell BX.out 6).trans rfl
      have hi3 := HK.out
      rcases (by omega : i = 0 ∨ i = 1 ∨ i = 2) with rfl | rfl | rfl
      · have f0 : wr.cell? ⟨gf, 0, none⟩ = some (.func (.func 117) #[] #[]) := (blk_cell BF.out 0).trans rfl
        go_wp2_with fail
        refine (bounds_calls _ v p).mono ?_
        rintro e w3 ⟨rfl, hb⟩
        have HB3 := Aside0.mk (below_step HB.out hb)
        have BX3 := Aside0.mk (blk_below BX.out hb)
        have BF3 := Aside0.mk (blk_below BF.out hb)
        clear hb HB BX BF b0 b1 b2 b3 b4 b5 b6 f0
        by_cases hp : boundsP v
        · rw [decide_eq_true hp]
          have OKP := Aside0.mk hp
          clear hp
          go_wp2_with fail
          go_roundg q
          case measure => omega
          case rel => exact ⟨1, rfl, ⟨by have := HK.out; omega⟩, HB3, BX3, BF3, ⟨fun j hj => by
            by_cases e : j = 0
            · subst e; exact OKP.out
            · exact HP.out j (by omega)⟩⟩
        · rw [decide_eq_false hp]
          have BAD := Aside0.mk (show ¬ rightP v from fun h => hp (partP_of h 0 (by omega)))
          clear hp
          go_wp2_with fail
          go_ret
          exact ⟨ret_bool (by symm; rw [decide_eq_false_iff_not]; exact BAD.out), HB3.out⟩
      · have f0 : wr.cell? ⟨gf, 1, none⟩ = some (.func (.func 118) #[] #[]) := (blk_cell BF.out 1).trans rfl
        go_wp2_with fail
        refine (tables_calls _ v p (HC.out.below HB.out) HW.out).mono ?_
        rintro e w3 ⟨rfl, hb⟩
        have HB3 := Aside0.mk (below_step HB.out hb)
        have BX3 := Aside0.mk (blk_below BX.out hb)
        have BF3 := Aside0.mk (blk_below BF.out hb)
        clear hb HB BX BF b0 b1 b2 b3 b4 b5 b6 f0
        by_cases hp : tabP v
        · rw [decide_eq_true hp]
          have OKP := Aside0.mk hp
          clear hp
          go_wp2_with fail
          go_roundg q
          case measure => omega
          case rel => exact ⟨2, rfl, ⟨by have := HK.out; omega⟩, HB3, BX3, BF3, ⟨fun j hj => by
            by_cases e : j = 1
            · subst e; exact OKP.out
            · exact HP.out j (by omega)⟩⟩
        · rw [decide_eq_false hp]
          have BAD := Aside0.mk (show ¬ rightP v from fun h => hp (partP_of h 1 (by omega)))
          clear hp
          go_wp2_with fail
          go_ret
          exact ⟨ret_bool (by symm; rw [decide_eq_false_iff_not]; exact BAD.out), HB3.out⟩
      · have f0 : wr.cell? ⟨gf, 2, none⟩ = some (.func (.func 119) #[] #[]) := (blk_cell BF.out 2).trans rfl
        go_wp2_with fail
        refine (order_calls _ v p (HC.out.below HB.out)).mono ?_
        rintro e w3 ⟨rfl, hb⟩
        have HB3 := Aside0.mk (below_step HB.out hb)
        have BX3 := Aside0.mk (blk_below BX.out hb)
        have BF3 := Aside0.mk (blk_below BF.out hb)
        clear hb HB BX BF b0 b1 b2 b3 b4 b5 b6 f0
        by_cases hp : ordP v
        · rw [decide_eq_true hp]
          have OKP := Aside0.mk hp
          clear hp
          go_wp2_with fail
          go_roundg q
          case measure => omega
          case rel => exact ⟨3, rfl, ⟨by have := HK.out; omega⟩, HB3, BX3, BF3, ⟨fun j hj => by
            by_cases e : j = 2
            · subst e; exact OKP.out
            · exact HP.out j (by omega)⟩⟩
        · rw [decide_eq_false hp]
          have BAD := Aside0.mk (show ¬ rightP v from fun h => hp (partP_of h 2 (by omega)))
          clear hp
          go_wp2_with fail
          go_ret
          exact ⟨ret_bool (by symm; rw [decide_eq_false_iff_not]; exact BAD.out), HB3.out⟩
end
section
/- VB7: Options, levels, sizes, whether two tables overlap: walked. Conditions: none. -/
set_option linter.unusedVariables false
set_option linter.unusedSimpArgs false
open Go.RowKit Go.Proofs.YtkjepfofiegcdaaW.PrintWords Go.Proofs.YtkjepfofiegcdaaW.PrintLast Go.Proofs.YtkjepfofiegcdaaW.PrintMore Go.Proofs.Ytkjepfofiegcdaa.PB14
abbrev mCs (m : S58) : Array Value := #[.int .u64 m.f0, .int .i64 m.f1, .int .i64 m.f2, .string m.f3, .string m.f4, .int .u64 m.f5, .int .u64 m.f6]
def overB (a b : S58) : Bool := !Op.bytesLess a.f4.toList b.f3.toList && !Op.bytesLess b.f4.toList a.f3.toList
def optP (many base times : Int) : Prop := 1 ≤ many ∧ many ≤ 64 ∧ 1 ≤ base ∧ base ≤ 1073741824 ∧ 1 ≤ times ∧ times ≤ 1000
instance (a b c : Int) : Decidable (optP a b c) := by unfold optP; infer_instance
def optE (a b c : Int) : Int := if optP a b c then 0 else 2
theorem optE_zero {a b c : Int} (h : optP a b c) : 0 = optE a b c := by rw [optE, if_pos h]
theorem optE_two {a b c : Int} (h : ¬ optP a b c) : 2 = optE a b c := by rw [optE, if_neg h]
theorem ret_int {k : IntKind} {a b : Int} (h : a = b) : Ending.returned (.int k a) = .returned (.int k b) := by rw [h]
set_option maxRecDepth 100000 in
theorem check_calls (w : World) (a b c : Int) : Calls Try.prog 39 #[.agg #[.int .i64 a, .int .i64 b, .int .i64 c]] w fun e w' => e = .returned (.int .i64 (optE a b c)) ∧ Below w.heap.size w w' := by
  have HB := Aside0.mk ((Below.refl w.heap.size w).alloc (Nat.le_refl _) (.cells #[.int .i64 a, .int .i64 b, .int .i64 c] 48))
  go_enter Try.func39, Try.ntmps39
  go_wp2_with fail
  all_goals
    go_ret
    exact ⟨ret_int (by first | exact optE_zero (by unfold optP; omega) | exact optE_two (by unfold optP; omega)), HB.out⟩
set_option maxRecDepth 100000 in
theorem level_calls (w : World) (n : Int) : Calls Try.prog 121 #[.int .i64 n] w fun e w' => e = .returned (.bool (decide (0 ≤ n ∧ n < 4))) ∧ Below w.heap.size w w' := by
  by_cases h1 : 0 ≤ n
  · by_cases h2 : n < 4
    · rw [decide_eq_true (And.intro h1 h2)]
      go_enter Try.func121, Try.ntmps121
      go_wp2_with fail
      go_ret
      exact ⟨rfl, Below.refl _ _⟩
    · rw [decide_eq_false (fun h => h2 h.2)]
      go_enter Try.func121, Try.ntmps121
      go_wp2_with fail
      go_ret
      exact ⟨rfl, Below.refl _ _⟩
  · rw [decide_eq_false (fun h => h1 h.1)]
    go_enter Try.func121, Try.ntmps121
    go_wp2_with fail
    go_ret
    exact ⟨rfl, Below.refl _ _⟩
set_option maxHeartbeats 4000000 in
set_option maxRecDepth 100000 in
theorem over_calls (w : World) (a b : S58) : Calls Try.prog 42 #[.agg (mCs a), .agg (mCs b)] w fun e w' => e = .returned (.bool (overB a b)) ∧ Below w.heap.size w w' := by
  have HB := Aside0.mk (below_alloc ((Below.refl w.heap.size w).alloc (Nat.le_refl _) (.cells (mCs a) 58)) (.cells (mCs b) 58))
  obtain ⟨r, hr⟩ : ∃ r, r = overB a b := ⟨_, rfl⟩
  rw [← hr]
  have HR := Aside0.mk hr
  clear hr
  cases h1 : Op.bytesLess a.f4.toList b.f3.toList with
  | true =>
    have HQ := Aside0.mk (show false = r by rw [HR.out]; unfold overB; rw [h1]; rfl)
    go_enter Try.func42, Try.ntmps42
    go_wp2_with fail
    go_ret
    exact ⟨ret_bool HQ.out, HB.out⟩
  | false =>
    cases h2 : Op.bytesLess b.f4.toList a.f3.toList with
    | true =>
      have HQ := Aside0.mk (show false = r by rw [HR.out]; unfold overB; rw [h1, h2]; rfl)
      go_enter Try.func42, Try.ntmps42
      go_wp2_with fail
      all_goals
        go_ret
        exact ⟨ret_bool HQ.out, HB.out⟩
    | false =>
      have HQ := Aside0.mk (show true = r by rw [HR.out]; unfold overB; rw [h1, h2]; rfl)
      go_enter Try.func42, Try.ntmps42
      go_wp2_with fail
      all_goals
        go_ret
        exact ⟨ret_bool HQ.out, HB.out⟩
end
section
/- VB8: The size of a level, walked. Conditions: none. -/
set_option linter.unusedVariables false
set_option linter.unusedSimpArgs false
open Go.RowKit Go.Proofs.YtkjepfofiegcdaaW.PrintWords Go.Proofs.YtkjepfofiegcdaaW.PrintLast Go.Proofs.YtkjepfofiegcdaaW.PrintMore Go.Proofs.Ytkjepfofiegcdaa.PB14
def sizeL (L : List S58) : Int := L.foldl (fun acc m => wrap64 (acc + m.f1)) 0
theorem sizeL_snoc (L : List S58) (m : S58) : sizeL (L ++ [m]) = wrap64 (sizeL L + m.f1) := by unfold sizeL; rw [List.foldl_append]; rfl
def sizeV (v : Ver) (n : Int) : Int := if 0 ≤ n ∧ n < 4 then sizeL (v.lv n.toNat) else 0
theorem vcell {w : World} {g : Nat} {v : Ver} {p : Pl} {t : Nat} (h : w.heap[g]? = some (.cells (vCs v p) t (0, 0))) (i : Nat) (hi : i < 4) : w.cell? ⟨g, 3 + i, none⟩ = some (.slice (p.a i) (v.lv i).length (p.c i)) := by
  rcases (by omega : i = 0 ∨ i = 1 ∨ i = 2 ∨ i = 3) with rfl | rfl | rfl | rfl
  · exact (blk_cell h 3).trans rfl
  · exact (blk_cell h 4).trans rfl
  · exact (blk_cell h 5).trans rfl
  · exact (blk_cell h 6).trans rfl
set_option maxHeartbeats 4000000 in
set_option maxRecDepth 100000 in
theorem size_calls (w : World) (v : Ver) (p : Pl) (hC : VC w v p) (n : Int) : Calls Try.prog 64 #[.agg (vCs v p), .int .i64 n] w fun e w' => e = .returned (.int .i64 (sizeV v n)) ∧ Below w.heap.size w w' := by
  have HC := Aside0.mk hC
  clear hC
  have HB := Aside0.mk ((Below.refl w.heap.size w).alloc (Nat.le_refl _) (.cells (vCs v p) 26))
  have BX := Aside0.mk (blk_new w (.cells (vCs v p) 26))
  by_cases hn : 0 ≤ n ∧ n < 4
  · obtain ⟨i, rfl⟩ := Int.eq_ofNat_of_zero_le hn.1
    have HS := Aside0.mk (show sizeV v (i : Int) = sizeL (v.lv i) by unfold sizeV; rw [if_pos hn, Int.toNat_natCast])
    have hi : i < 4 := by omega
    have HI := Aside0.mk hi
    have HD := Aside0.mk (show decide (0 ≤ (i : Int) ∧ (i : Int) < 4) = true from decide_eq_true hn)
    rw [HS.out]
    have hv := vcell BX.out i hi
    have hw1 := (HC.out.below HB.out i hi).1
    obtain ⟨l, hl⟩ : ∃ l, v.lv i = l := ⟨_, rfl⟩
    rw [hl] at hw1 hv ⊢
    have HE := Aside0.mk hl
    have HC1 := Aside0.mk hw1
    have i0 : 0 ≤ (i : Int) := Int.natCast_nonneg _
    have i1 : (i : Int) < 4 := hn.2
    clear hl hn hw1
    go_enter Try.func64, Try.ntmps64
    go_wp2_with fail
    refine (level_calls _ _).mono ?_
    rintro e w2 ⟨rfl, hb⟩
    rw [HD.out]
    have HB2 := Aside0.mk (below_step HB.out hb)
    have hv2 := (hb.cell (World.block_lt_of_cell? _ _ hv)).trans hv
    have HC2 := Aside0.mk (Kd.C_below HC1.out hb)
    clear hb hv HB HC1 BX
    go_wp2_with fail
    have HC0 := HC2
    clear HC2 hv2
    go_loopg [5, 7, 15] l.length (fun kq v5 v7 v15 w' => ∃ k : Nat, v5 = .int .i64 (sizeL (l.take k)) ∧ v15 = .int .i64 (k : Int) ∧ Aside0 (kq + k = l.length) ∧ Aside0 (Below w.heap.size w w'))
    case atStart => exact ⟨0, rfl, rfl, ⟨by omega⟩, HB2⟩
    case round =>
      clear HB2
      obtain ⟨k, rfl, rfl, HK, HB⟩ := hrel
      cases gk with
      | zero =>
        have ek : k = l.length := by have := HK.out; omega
        subst ek
        have d0 : decide ((l.length : Int) < (l.length : Int)) = false := by simp
        rw [List.take_length]
        go_wp2_with fail
        go_ret
        exact ⟨rfl, HB.out⟩
      | succ q =>
        have hk : k < l.length := by have := HK.out; omega
        have d0 : decide ((k : Int) < (l.length : Int)) = true := decide_eq_true (by omega)
        have d1 : decide (k < l.length) = true := decide_eq_true hk
        have p0 : 0 ≤ (k : Int) := Int.natCast_nonneg _
        have p1 : (k : Int) < (l.length : Int) := by omega
        have HC1 := Aside0.mk (Kd.C_below (HC.out i HI.out).1 HB.out)
        rw [HE.out] at HC1
        have HM := Aside0.mk (show l.length ≤ 9223372036854775807 from HC1.out.2.1)
        obtain ⟨ad, ea, ha0, ha1, ha2, ha3, ha4, ha5, ha6⟩ := at_T58 HC1.out (k : Int) p0 p1
        rw [Int.toNat_natCast] at ha0 ha1 ha2 ha3 ha4 ha5 ha6
        have EM := Aside0.mk (show rd_T58 l (k : Int) = l.getD k z58 by unfold rd_T58; rw [Int.toNat_natCast])
        generalize rd_T58 l (k : Int) = m at *
        have TS := Aside0.mk (show sizeL (l.take (k + 1)) = wrap64 (sizeL (l.take k) + m.f1) by rw [take_snoc l z58 hk, sizeL_snoc, EM.out])
        obtain ⟨sz, hsz⟩ : ∃ s, s = sizeL (l.take k) := ⟨_, rfl⟩
        rw [← hsz] at TS ⊢
        obtain ⟨s2, hs2⟩ : ∃ s, s = wrap64 (sz + m.f1) := ⟨_, rfl⟩
        have ew2 : IntKind.i64.wrap (sz + m.f1) = s2 := by rw [hs2]; first | rfl | (simp only [i64_w]; done) | (rw [IntKind.wrap_i64]; unfold wrap64; omega)
        have ew3 : wrap64 (sz + m.f1) = s2 := hs2.symm
        rw [← hs2] at TS
        clear hsz hs2
        rw [ea]
        have HAX := Aside0.mk ea
        have n0_ := Aside0.mk (below_step HB.out ((Below.refl wr.heap.size wr).alloc (Nat.le_refl _) (.cells (mCs m) 58)))
        clear ea hk
        go_wp2_with fail
        have ew : wrap64 ((k : Int) + 1) = ((k + 1 : Nat) : Int) := by have h1 := HM.out; unfold wrap64; omega
        try rw [ew]
        rw [← HAX.out]
        go_roundg q
        case measure => omega
        case rel => exact ⟨k + 1, by rw [TS.out], rfl, ⟨by have := HK.out; omega⟩, n0_⟩
  · have HD := Aside0.mk (show decide (0 ≤ n ∧ n < 4) = false from decide_eq_false hn)
    have HS := Aside0.mk (show sizeV v n = 0 by unfold sizeV; rw [if_neg hn])
    rw [HS.out]
    clear hn
    go_enter Try.func64, Try.ntmps64
    go_wp2_with fail
    refine (level_calls _ _).mono ?_
    rintro e w2 ⟨rfl, hb⟩
    rw [HD.out]
    have HB2 := Aside0.mk (below_step HB.out hb)
    clear hb HB
    go_wp2_with fail
    go_ret
    exact ⟨rfl, HB2.out⟩
end
section
/- VB9: slices.Clone at tables, walked. Conditions: at most 10 to the 9th rows. -/
set_option linter.unusedVariables false
set_option linter.unusedSimpArgs false
open Go.RowKit Go.Proofs.YtkjepfofiegcdaaW.PrintWords Go.Proofs.YtkjepfofiegcdaaW.PrintLast Go.Proofs.YtkjepfofiegcdaaW.PrintMore Go.Proofs.Ytkjepfofiegcdaa.PB14
set_option maxHeartbeats 4000000 in
set_option maxRecDepth 100000 in
theorem clone_calls (w : World) (A : Option Addr) (c : Nat) (xs : List S58) (hC : k58.C w A xs.length xs) (hc : xs.length ≤ c) (hl : xs.length ≤ 1000000000) : Calls Try.prog 101 #[.slice A xs.length c] w fun e w' => ∃ v, e = .returned v ∧ Kd.R k58 58 w' w.heap.size (fun _ => True) v xs ∧ Below w.heap.size w w' := by
  have HC := Aside0.mk hC
  have HL := Aside0.mk hl
  have HCc := Aside0.mk hc
  clear hC hl hc
  have HB := Aside0.mk (Below.refl w.heap.size w)
  have hnil := Lib.run_eql_slice_nil (P := Try.prog) w 23 58 A xs.length c 0 0 Try.underlying23
  cases A with
  | none =>
    have h0 : xs = [] := by
      rcases Nat.eq_zero_or_pos xs.length with h | h
      · exact List.eq_nil_of_length_eq_zero h
      · obtain ⟨ad, hh, _⟩ := HC.out.2.2 h
        cases hh
    subst h0
    have hnil0 := Lib.run_eql_slice_nil (P := Try.prog) w 23 58 none 0 c 0 0 Try.underlying23
    go_enter Try.func101, Try.ntmps101
    go_wp2_with fail
    go_ret
    exact ⟨_, rfl, Kd.R_nil _ _ _ _ _, Below.refl _ _⟩
  | some ad =>
    go_enter Try.func101, Try.ntmps101
    go_wp2_with (first | ((with_reducible refine gate_dst (N := 5) rfl ?_); refine Kd.R_lit k58 (w0 := w) w.heap.size 58 ?hgd (N := 5) ?hd (xs := ([] : List S58)) (inner := []) (ok := fun _ => True) (okp := fun _ => True) ?hr ?hp (fun _ hk => hk) trivial HB.out (Nat.le_refl _) (by simp) ?_; (case hd => rfl); (case hgd => rfl); (case hr => first | (go_simp; done) | (go_simp; rfl)); (case hp => exact (Reps.none _ _)); intro v5 w5 ho hb hg_ hnew_; have HO := Aside0.mk ho; have n0_ := Aside0.mk (Kd.C_below HC.out hb); clear HB HC hg_ hnew_; have HB := Aside0.mk hb; have HC := n0_; clear ho hb n0_) | ((with_reducible refine gate_builtin (b := .append) (xs := #[.tmp 5, .tmp 6]) rfl ?_); at_builtin; refine Kd.R_append_rows k58 (Rr := k58.K w5) (w0 := w) w.heap.size rfl (.tmp 5) (.tmp 6) 23 58 (.agg #[(.int .u64 0), (.int .i64 0), (.int .i64 0), (.string ⟨#[]⟩), (.string ⟨#[]⟩), (.int .u64 0), (.int .u64 0)]) 72 rfl Try.underlying23 info58 rfl (show 0 < 7 by decide) (show 0 < 72 by decide) v5 [] xs (some ad) xs.length c (fun _ => True) (fun _ => False) rfl rfl ?aO ?aR ?aM (fun _ h => h.elim) ?aF ?aB ?aS ?aL ?_; (case aR => exact HC.out); (case aM => (intro x cs hk; obtain rfl := k58_open hk; exact k58_mkM _ _ _ x)); (case aB => exact HB.out); (case aF => exact (fun _ _ => trivial)); (case aO => exact HO.out); (case aS => exact HB.out.size); (case aL => (have h1 := HL.out; simp; omega)); intro v7 w7 ho hb hg hat; rw [List.nil_append] at ho; clear HO HB hg hat; have HO := Aside0.mk ho; have HB := Aside0.mk hb; clear ho hb) | fail)
    go_ret
    exact ⟨_, rfl, HO.out, HB.out⟩
end
section
/- VB10: Whole structs loaded and stored; slices.MinFunc at tables, walked. Conditions: at least one row. -/
set_option linter.unusedVariables false
set_option linter.unusedSimpArgs false
open Go.RowKit Go.Proofs.YtkjepfofiegcdaaW.PrintWords Go.Proofs.YtkjepfofiegcdaaW.PrintLast Go.Proofs.YtkjepfofiegcdaaW.PrintMore Go.Proofs.Ytkjepfofiegcdaa.PB14
section
variable {P : Program} {ops : Array Oper} {rest : List Oper} {o : Oper} {a : Act} {Q : Exit → Act → World → Prop} {W : World}
theorem st_arr (hgd : o.guard = none) (ty : TypeId) (x y : Operand) (ho : o.op = .store ty x y) (g t : Nat) (hx : a.eval x = .pointer (some ⟨g, 0, none⟩)) (cells : Array Value) (hy : a.eval y = .agg cells) (old : Array Value) (hg : W.heap[g]? = some (.cells old t (0, 0)))
    (hi : (P.info? ty).map (·.size) = some cells.size) (hs : old.size = cells.size) (h1 : cells.all (·.oneCell') = true)
    (h : ∀ w1 : World, w1.heap[g]? = some (.cells cells t (0, 0)) → (∀ B w0, Below B w0 W → B ≤ g → Below B w0 w1) → (∀ k, k ≠ g → w1.heap[k]? = W.heap[k]?) → w1.heap.size = W.heap.size → wpList P ops Q rest (a.put o.dst undef) w1) : wpList P ops Q (o :: rest) a W :=
  wpList_plain hgd fun _ hK => by
    unfold Oper.wp execOp
    simp only [ho, hx, hy, Instr.storeAt, Instr.sureAddr, Sem.run_bind, Sem.run_pure, Result.andThen_ok, run_storeVar_row W g t ty old cells hg hi hs h1]
    exact hK _ _ (h _ (setRow_heap W g old cells t (0, 0) hg) (fun B w0 hb hle => below_setRow hb hle cells) (fun k hk => setRow_other W g k cells hk) (setRow_size W g cells))
end
theorem size58 : (Try.prog.info? 58).map (·.size) = some 7 := by kernel_rfl
theorem mCs_one (m : S58) : (mCs m).all (·.oneCell') = true := by simp [Value.oneCell']
def minK (xs : List S58) : Nat → S58
  | 0 => xs.getD 0 z58
  | k + 1 => if (xs.getD k z58).f0 < (minK xs k).f0 then xs.getD k z58 else minK xs k
set_option maxRecDepth 100000 in
theorem cmp_calls (w : World) (a b : S58) : Calls Try.prog 136 #[.agg (mCs a), .agg (mCs b)] w fun e w' => e = .returned (.int .i64 (if a.f0 < b.f0 then -1 else 1)) ∧ Below w.heap.size w w' := by
  have HB := Aside0.mk (below_alloc ((Below.refl w.heap.size w).alloc (Nat.le_refl _) (.cells (mCs a) 58)) (.cells (mCs b) 58))
  by_cases h : a.f0 < b.f0
  · rw [if_pos h]
    have h1 : decide (a.f0 < b.f0) = true := decide_eq_true h
    go_enter Try.func136, Try.ntmps136
    go_wp2_with fail
    go_ret
    exact ⟨rfl, HB.out⟩
  · rw [if_neg h]
    have h1 : decide (a.f0 < b.f0) = false := decide_eq_false h
    clear h
    go_enter Try.func136, Try.ntmps136
    go_wp2_with fail
    go_ret
    exact ⟨rfl, HB.out⟩
set_option maxHeartbeats 4000000 in
set_option maxRecDepth 100000 in
theorem min_calls (w : World) (A : Option Addr) (c : Nat) (xs : List S58) (hC : k58.C w A xs.length xs) (h0 : 0 < xs.length) : Calls Try.prog 135 #[.slice A xs.length c, .func (.func 136) #[] #[]] w fun e w' => e = .returned (.agg (mCs (minK xs xs.length))) ∧ Below w.heap.size w w' := by
  have HC := Aside0.mk hC
  have H0 := Aside0.mk h0
  have HM := Aside0.mk (show xs.length ≤ 9223372036854775807 from hC.2.1)
  have d1 : decide ((xs.length : Int) < 1) = false := decide_eq_false (by omega)
  have d2 : decide (xs.length < 1) = false := decide_eq_false (by omega)
  obtain ⟨ad, ea, ha0, ha1, ha2, ha3, ha4, ha5, ha6⟩ := at_T58 hC 0 (by omega) (by omega)
  have hb1 := (Below.refl w.heap.size w).alloc (Nat.le_refl _) (.cells #[.int .u64 0, .int .i64 0, .int .i64 0, .string ⟨#[]⟩, .string ⟨#[]⟩, .int .u64 0, .int .u64 0] 58)
  have HB := Aside0.mk hb1
  have E0 := Aside0.mk (show rd_T58 xs 0 = minK xs 1 by
    show xs.getD 0 z58 = if (xs.getD 0 z58).f0 < (xs.getD 0 z58).f0 then xs.getD 0 z58 else xs.getD 0 z58
    split <;> rfl)
  generalize rd_T58 xs 0 = m at *
  subst ea
  have q0 : decide ((0 : Int) < (xs.length : Int)) = true := decide_eq_true (by omega)
  have q1 : (0 : Int) < (xs.length : Int) := by omega
  have az : ad.add (Int.toNat 0 * 7) = ad := by show ad.add 0 = ad; unfold Addr.add; rw [if_pos rfl]
  rw [az] at ha0 ha1 ha2 ha3 ha4 ha5 ha6
  have hz0 := (hb1.cell (World.block_lt_of_cell? w _ ha0)).trans ha0
  have hz1 := (hb1.cell (World.block_lt_of_cell? w _ ha1)).trans ha1
  have hz2 := (hb1.cell (World.block_lt_of_cell? w _ ha2)).trans ha2
  have hz3 := (hb1.cell (World.block_lt_of_cell? w _ ha3)).trans ha3
  have hz4 := (hb1.cell (World.block_lt_of_cell? w _ ha4)).trans ha4
  have hz5 := (hb1.cell (World.block_lt_of_cell? w _ ha5)).trans ha5
  have hz6 := (hb1.cell (World.block_lt_of_cell? w _ ha6)).trans ha6
  clear hC az ha0 ha1 ha2 ha3 ha4 ha5 ha6 h0
  go_enter Try.func135, Try.ntmps135
  go_wp2_with fail
  have X5 := Aside0.mk (blk_new (w.alloc (.cells #[.int .u64 0, .int .i64 0, .int .i64 0, .string ⟨#[]⟩, .string ⟨#[]⟩, .int .u64 0, .int .u64 0] 58)) (.cells (mCs m) 58))
  have X4 := Aside0.mk (blk_alloc (blk_new w (.cells #[.int .u64 0, .int .i64 0, .int .i64 0, .string ⟨#[]⟩, .string ⟨#[]⟩, .int .u64 0, .int .u64 0] 58)) (.cells (mCs m) 58))
  have HB2 := Aside0.mk (below_alloc HB.out (.cells (mCs m) 58))
  have G5 := Aside0.mk HB.out.size
  clear hz0 hz1 hz2 hz3 hz4 hz5 hz6 hb1 HB
  generalize hg5 : (w.alloc (.cells #[.int .u64 0, .int .i64 0, .int .i64 0, .string ⟨#[]⟩, .string ⟨#[]⟩, .int .u64 0, .int .u64 0] 58)).heap.size = g5 at *
  have e7 : w.heap.size + 1 = g5 := by rw [← hg5]; simp
  have N45 := Aside0.mk (show w.heap.size ≠ g5 by omega)
  try rw [e7]
  clear hg5 e7
  generalize (w.alloc (.cells #[.int .u64 0, .int .i64 0, .int .i64 0, .string ⟨#[]⟩, .string ⟨#[]⟩, .int .u64 0, .int .u64 0] 58)).alloc (.cells (mCs m) 58) = w1 at *
  go_loopg [6] (xs.length - 1) (fun kq v6 w' => ∃ k : Nat, v6 = .int .i64 (k : Int) ∧ 1 ≤ k ∧ Aside0 (kq + k = xs.length) ∧ Aside0 (Below w.heap.size w w') ∧ Aside0 (w'.heap[g5]? = some (.cells (mCs (minK xs k)) 58 (0, 0))) ∧ Aside0 (w'.heap[w.heap.size]? = some (.cells #[.int .u64 0, .int .i64 0, .int .i64 0, .string ⟨#[]⟩, .string ⟨#[]⟩, .int .u64 0, .int .u64 0] 58 (0, 0))))
  case atStart => exact ⟨1, rfl, by omega, ⟨by have := H0.out; omega⟩, HB2, by rw [← E0.out]; exact X5, X4⟩
  case round =>
    clear HB2 X5 X4
    obtain ⟨k, rfl, hk1, HK, HB, X5, X4⟩ := hrel
    cases gk with
    | zero =>
      have ek : k = xs.length := by have := HK.out; omega
      subst ek
      have d0 : decide ((xs.length : Int) < (xs.length : Int)) = false := by simp
      have y0 : wr.cell? ⟨g5, 0, none⟩ = some (.int .u64 (minK xs xs.length).f0) := (blk_cell X5.out 0).trans rfl
      have y1 : wr.cell? ⟨g5, 1, none⟩ = some (.int .i64 (minK xs xs.length).f1) := (blk_cell X5.out 1).trans rfl
      have y2 : wr.cell? ⟨g5, 2, none⟩ = some (.int .i64 (minK xs xs.length).f2) := (blk_cell X5.out 2).trans rfl
      have y3 : wr.cell? ⟨g5, 3, none⟩ = some (.string (minK xs xs.length).f3) := (blk_cell X5.out 3).trans rfl
      have y4 : wr.cell? ⟨g5, 4, none⟩ = some (.string (minK xs xs.length).f4) := (blk_cell X5.out 4).trans rfl
      have y5 : wr.cell? ⟨g5, 5, none⟩ = some (.int .u64 (minK xs xs.length).f5) := (blk_cell X5.out 5).trans rfl
      have y6 : wr.cell? ⟨g5, 6, none⟩ = some (.int .u64 (minK xs xs.length).f6) := (blk_cell X5.out 6).trans rfl
      go_wp2_with (first | (refine st_arr rfl 58 _ _ rfl w.heap.size 58 ?hx (mCs (minK xs xs.length)) ?hy _ X4.out (by rw [size58]; rfl) rfl (mCs_one _) ?_; (case hx => rfl); (case hy => rfl); intro w5 hb5 hbb hk5 hs5; have n0_ := Aside0.mk (hbb _ _ HB.out (Nat.le_refl _)); have X6 := Aside0.mk hb5; clear hb5 hbb hk5 hs5; have HB5 := n0_) | fail)
      have r0 : w5.cell? ⟨w.heap.size, 0, none⟩ = some (.int .u64 (minK xs xs.length).f0) := (blk_cell X6.out 0).trans rfl
      have r1 : w5.cell? ⟨w.heap.size, 1, none⟩ = some (.int .i64 (minK xs xs.length).f1) := (blk_cell X6.out 1).trans rfl
      have r2 : w5.cell? ⟨w.heap.size, 2, none⟩ = some (.int .i64 (minK xs xs.length).f2) := (blk_cell X6.out 2).trans rfl
      have r3 : w5.cell? ⟨w.heap.size, 3, none⟩ = some (.string (minK xs xs.length).f3) := (blk_cell X6.out 3).trans rfl
      have r4 : w5.cell? ⟨w.heap.size, 4, none⟩ = some (.string (minK xs xs.length).f4) := (blk_cell X6.out 4).trans rfl
      have r5 : w5.cell? ⟨w.heap.size, 5, none⟩ = some (.int .u64 (minK xs xs.length).f5) := (blk_cell X6.out 5).trans rfl
      have r6 : w5.cell? ⟨w.heap.size, 6, none⟩ = some (.int .u64 (minK xs xs.length).f6) := (blk_cell X6.out 6).trans rfl
      exact bodyPost_ret (v := .agg (mCs (minK xs xs.length))) (by simp [results, Try.results135, go_sem, r0, r1, r2, r3, r4, r5, r6]) rfl ⟨rfl, HB5.out⟩
    | succ q =>
      have hk : k < xs.length := by have := HK.out; omega
      have d0 : decide ((k : Int) < (xs.length : Int)) = true := decide_eq_true (by omega)
      have d3 : decide (k < xs.length) = true := decide_eq_true hk
      have p0 : 0 ≤ (k : Int) := Int.natCast_nonneg _
      have p1 : (k : Int) < (xs.length : Int) := by omega
      obtain ⟨ad', eb, ha0, ha1, ha2, ha3, ha4, ha5, ha6⟩ := at_T58 HC.out (k : Int) p0 p1
      cases eb
      rw [Int.toNat_natCast] at ha0 ha1 ha2 ha3 ha4 ha5 ha6
      have EM := Aside0.mk (show rd_T58 xs (k : Int) = xs.getD k z58 by unfold rd_T58; rw [Int.toNat_natCast])
      generalize rd_T58 xs (k : Int) = a at *
      obtain ⟨b, hb⟩ : ∃ b, b = minK xs k := ⟨_, rfl⟩
      rw [← hb] at X5
      have BE := Aside0.mk (show minK xs (k + 1) = if a.f0 < b.f0 then a else b by rw [hb, EM.out]; rfl)
      clear hb hk
      have c0 := (HB.out.cell (World.block_lt_of_cell? w _ ha0)).trans ha0
      have c1 := (HB.out.cell (World.block_lt_of_cell? w _ ha1)).trans ha1
      have c2 := (HB.out.cell (World.block_lt_of_cell? w _ ha2)).trans ha2
      have c3 := (HB.out.cell (World.block_lt_of_cell? w _ ha3)).trans ha3
      have c4 := (HB.out.cell (World.block_lt_of_cell? w _ ha4)).trans ha4
      have c5 := (HB.out.cell (World.block_lt_of_cell? w _ ha5)).trans ha5
      have c6 := (HB.out.cell (World.block_lt_of_cell? w _ ha6)).trans ha6
      clear ha0 ha1 ha2 ha3 ha4 ha5 ha6
      have y0 : wr.cell? ⟨g5, 0, none⟩ = some (.int .u64 b.f0) := (blk_cell X5.out 0).trans rfl
      have y1 : wr.cell? ⟨g5, 1, none⟩ = some (.int .i64 b.f1) := (blk_cell X5.out 1).trans rfl
      have y2 : wr.cell? ⟨g5, 2, none⟩ = some (.int .i64 b.f2) := (blk_cell X5.out 2).trans rfl
      have y3 : wr.cell? ⟨g5, 3, none⟩ = some (.string b.f3) := (blk_cell X5.out 3).trans rfl
      have y4 : wr.cell? ⟨g5, 4, none⟩ = some (.string b.f4) := (blk_cell X5.out 4).trans rfl
      have y5 : wr.cell? ⟨g5, 5, none⟩ = some (.int .u64 b.f5) := (blk_cell X5.out 5).trans rfl
      have y6 : wr.cell? ⟨g5, 6, none⟩ = some (.int .u64 b.f6) := (blk_cell X5.out 6).trans rfl
      go_wp2_with fail
      go_still_tail 6, (by kernel_rfl)
      go_wp2_with fail
      refine (cmp_calls _ a b).mono ?_
      rintro e w3 ⟨rfl, hb⟩
      replace hb : Below wr.heap.size wr w3 := (below_drew (Below.refl wr.heap.size wr)).trans hb
      have HB3 := Aside0.mk (below_step HB.out hb)
      have X53 := Aside0.mk (blk_below X5.out hb)
      have X43 := Aside0.mk (blk_below X4.out hb)
      have e0_ := (hb.cell (World.block_lt_of_cell? _ _ c0)).trans c0
      have e1_ := (hb.cell (World.block_lt_of_cell? _ _ c1)).trans c1
      have e2_ := (hb.cell (World.block_lt_of_cell? _ _ c2)).trans c2
      have e3_ := (hb.cell (World.block_lt_of_cell? _ _ c3)).trans c3
      have e4_ := (hb.cell (World.block_lt_of_cell? _ _ c4)).trans c4
      have e5_ := (hb.cell (World.block_lt_of_cell? _ _ c5)).trans c5
      have e6_ := (hb.cell (World.block_lt_of_cell? _ _ c6)).trans c6
      clear hb HB X5 X4 c0 c1 c2 c3 c4 c5 c6 y0 y1 y2 y3 y4 y5 y6
      have ew : wrap64 ((k : Int) + 1) = ((k + 1 : Nat) : Int) := by have h1 := HM.out; unfold wrap64; omega
      by_cases hlt : a.f0 < b.f0
      · rw [if_pos hlt]
        have BE2 := Aside0.mk (show minK xs (k + 1) = a by rw [BE.out, if_pos hlt])
        clear hlt
        go_wp2_with (first | (refine st_arr rfl 58 _ _ rfl g5 58 ?hx (mCs a) ?hy _ X53.out (by rw [size58]; rfl) rfl (mCs_one a) ?_; (case hx => rfl); (case hy => rfl); intro w5 hb5 hbb hk5 hs5; have HB5 := Aside0.mk (hbb _ _ HB3.out G5.out); have X55 := Aside0.mk hb5; have X45 := Aside0.mk ((hk5 _ N45.out).trans X43.out); clear hb5 hbb hk5 hs5) | fail)
        try rw [ew]
        go_roundg q
        case measure => omega
        case rel => exact ⟨k + 1, rfl, by omega, ⟨by have := HK.out; omega⟩, HB5, by rw [BE2.out]; exact X55, X45⟩
      · rw [if_neg hlt]
        have BE2 := Aside0.mk (show minK xs (k + 1) = b by rw [BE.out, if_neg hlt])
        clear hlt
        go_wp2_with fail
        try rw [ew]
        go_roundg q
        case measure => omega
        case rel => exact ⟨k + 1, rfl, by omega, ⟨by have := HK.out; omega⟩, HB3, by rw [BE2.out]; exact X53, X43⟩
end
section
/- VB11: The tables of a list that overlap a span (pick.chosen with pick's functions), walked. Conditions: at most 10 to the 9th rows. -/
set_option linter.unusedVariables false
set_option linter.unusedSimpArgs false
open Go.RowKit Go.Proofs.YtkjepfofiegcdaaW.PrintWords Go.Proofs.YtkjepfofiegcdaaW.PrintLast Go.Proofs.YtkjepfofiegcdaaW.PrintMore Go.Proofs.Ytkjepfofiegcdaa.PB14
def Tb (w : World) (g : Nat) (m : S58) : Prop := w.heap[g]? = some (.cells (mCs m) 58 (0, 0))
theorem Tb.below {w w' : World} {g : Nat} {m : S58} (h : Tb w g m) (hb : Below w.heap.size w w') : Tb w' g m := blk_below h hb
set_option maxRecDepth 100000 in
theorem pred93_calls (w : World) (m s : S58) (gs : Nat) (hs : Tb w gs s) : Calls Try.prog 93 #[.agg (mCs m), .pointer (some ⟨gs, 0, none⟩)] w fun e w' => e = .returned (.bool (overB m s)) ∧ Below w.heap.size w w' := by
  have hb1 := (Below.refl w.heap.size w).alloc (Nat.le_refl _) (.cells (mCs m) 58)
  have HB := Aside0.mk hb1
  have HS := Aside0.mk (hs.below hb1)
  have z0 : (w.alloc (.cells (mCs m) 58)).cell? ⟨gs, 0, none⟩ = some (.int .u64 s.f0) := (blk_cell HS.out 0).trans rfl
  have z1 : (w.alloc (.cells (mCs m) 58)).cell? ⟨gs, 1, none⟩ = some (.int .i64 s.f1) := (blk_cell HS.out 1).trans rfl
  have z2 : (w.alloc (.cells (mCs m) 58)).cell? ⟨gs, 2, none⟩ = some (.int .i64 s.f2) := (blk_cell HS.out 2).trans rfl
  have z3 : (w.alloc (.cells (mCs m) 58)).cell? ⟨gs, 3, none⟩ = some (.string s.f3) := (blk_cell HS.out 3).trans rfl
  have z4 : (w.alloc (.cells (mCs m) 58)).cell? ⟨gs, 4, none⟩ = some (.string s.f4) := (blk_cell HS.out 4).trans rfl
  have z5 : (w.alloc (.cells (mCs m) 58)).cell? ⟨gs, 5, none⟩ = some (.int .u64 s.f5) := (blk_cell HS.out 5).trans rfl
  have z6 : (w.alloc (.cells (mCs m) 58)).cell? ⟨gs, 6, none⟩ = some (.int .u64 s.f6) := (blk_cell HS.out 6).trans rfl
  clear hs hb1
  go_enter Try.func93, Try.ntmps93
  go_wp2_with fail
  refine (over_calls _ m s).mono ?_
  rintro e w3 ⟨rfl, hb⟩
  have HB3 := Aside0.mk (below_step HB.out hb)
  clear hb HB
  go_wp2_with fail
  go_ret
  exact ⟨rfl, HB3.out⟩
set_option maxRecDepth 100000 in
theorem pred97_calls (w : World) (m s : S58) (gs : Nat) (hs : Tb w gs s) : Calls Try.prog 97 #[.agg (mCs m), .pointer (some ⟨gs, 0, none⟩)] w fun e w' => e = .returned (.bool (overB m s)) ∧ Below w.heap.size w w' := by
  have hb1 := (Below.refl w.heap.size w).alloc (Nat.le_refl _) (.cells (mCs m) 58)
  have HB := Aside0.mk hb1
  have HS := Aside0.mk (hs.below hb1)
  have z0 : (w.alloc (.cells (mCs m) 58)).cell? ⟨gs, 0, none⟩ = some (.int .u64 s.f0) := (blk_cell HS.out 0).trans rfl
  have z1 : (w.alloc (.cells (mCs m) 58)).cell? ⟨gs, 1, none⟩ = some (.int .i64 s.f1) := (blk_cell HS.out 1).trans rfl
  have z2 : (w.alloc (.cells (mCs m) 58)).cell? ⟨gs, 2, none⟩ = some (.int .i64 s.f2) := (blk_cell HS.out 2).trans rfl
  have z3 : (w.alloc (.cells (mCs m) 58)).cell? ⟨gs, 3, none⟩ = some (.string s.f3) := (blk_cell HS.out 3).trans rfl
  have z4 : (w.alloc (.cells (mCs m) 58)).cell? ⟨gs, 4, none⟩ = some (.string s.f4) := (blk_cell HS.out 4).trans rfl
  have z5 : (w.alloc (.cells (mCs m) 58)).cell? ⟨gs, 5, none⟩ = some (.int .u64 s.f5) := (blk_cell HS.out 5).trans rfl
  have z6 : (w.alloc (.cells (mCs m) 58)).cell? ⟨gs, 6, none⟩ = some (.int .u64 s.f6) := (blk_cell HS.out 6).trans rfl
  clear hs hb1
  go_enter Try.func97, Try.ntmps97
  go_wp2_with fail
  refine (over_calls _ m s).mono ?_
  rintro e w3 ⟨rfl, hb⟩
  have HB3 := Aside0.mk (below_step HB.out hb)
  clear hb HB
  go_wp2_with fail
  go_ret
  exact ⟨rfl, HB3.out⟩
def flt (xs : List S58) (s : S58) (k : Nat) : List S58 := (xs.take k).filter fun m => overB m s
theorem flt_snoc (xs : List S58) (s : S58) {k : Nat} (hk : k < xs.length) : flt xs s (k + 1) = if overB (xs.getD k z58) s = true then flt xs s k ++ [xs.getD k z58] else flt xs s k := by
  unfold flt
  rw [take_snoc xs z58 hk, List.filter_append]
  by_cases h : overB (xs.getD k z58) s = true
  · rw [if_pos h, List.filter_cons_of_pos (p := fun m => overB m s) h, List.filter_nil]
  · rw [if_neg h, List.filter_cons_of_neg (p := fun m => overB m s) h, List.filter_nil, List.append_nil]
theorem flt_len (xs : List S58) (s : S58) (k : Nat) : (flt xs s k).length ≤ xs.length := Nat.le_trans (List.length_filter_le _ _) (by rw [List.length_take]; omega)
theorem flt_all (xs : List S58) (s : S58) : flt xs s xs.length = xs.filter fun m => overB m s := by unfold flt; rw [List.take_length]
set_option maxHeartbeats 8000000 in
set_option maxRecDepth 100000 in
theorem chosen93_calls (w : World) (A : Option Addr) (c : Nat) (xs : List S58) (hC : k58.C w A xs.length xs) (hl : xs.length ≤ 1000000000) (s : S58) (gs : Nat) (hs : Tb w gs s) :
    Calls Try.prog 92 #[.slice A xs.length c, .func (.func 93) #[] #[.pointer (some ⟨gs, 0, none⟩)]] w fun e w' => ∃ v, e = .returned v ∧ Kd.R k58 58 w' w.heap.size (fun _ => True) v (xs.filter fun m => overB m s) ∧ Below w.heap.size w w' := by
  have HC := Aside0.mk hC
  have HL := Aside0.mk hl
  have HS0 := Aside0.mk hs
  have GS := Aside0.mk (show gs < w.heap.size from blk_lt hs)
  have HX := Aside0.mk (flt_all xs s)
  have HR0 := Aside0.mk (show Kd.R k58 58 w w.heap.size (fun _ => True) (.slice none (flt xs s 0).length 0) (flt xs s 0) from Kd.R_nil _ _ _ _ _)
  rw [← HX.out]
  clear hC hl hs HX
  go_enter Try.func92, Try.ntmps92
  go_wp2_with fail
  go_loopg [5, 7, 10] xs.length (fun kq v5 v7 v10 w' => ∃ (k : Nat) (B : Option Addr) (cb : Nat), v5 = .slice B (flt xs s k).length cb ∧ v10 = .int .i64 (k : Int) ∧ Aside0 (kq + k = xs.length) ∧ Aside0 (Below w.heap.size w w') ∧ Aside0 (Kd.R k58 58 w' w.heap.size (fun _ => True) (.slice B (flt xs s k).length cb) (flt xs s k)))
  case atStart => exact ⟨0, none, 0, rfl, rfl, ⟨by omega⟩, ⟨Below.refl _ _⟩, HR0⟩
  case round =>
    clear HR0
    obtain ⟨k, B, cb, rfl, rfl, HK, HB, HR⟩ := hrel
    cases gk with
    | zero =>
      have ek : k = xs.length := by have := HK.out; omega
      subst ek
      have d0 : decide ((xs.length : Int) < (xs.length : Int)) = false := by simp
      go_wp2_with fail
      go_ret
      exact ⟨_, rfl, HR.out, HB.out⟩
    | succ q =>
      have hk : k < xs.length := by have := HK.out; omega
      have d0 : decide ((k : Int) < (xs.length : Int)) = true := decide_eq_true (by omega)
      have d1 : decide (k < xs.length) = true := decide_eq_true hk
      have p0 : 0 ≤ (k : Int) := Int.natCast_nonneg _
      have p1 : (k : Int) < (xs.length : Int) := by omega
      have HC1 := Aside0.mk (Kd.C_below HC.out HB.out)
      obtain ⟨ad, ea, ha0, ha1, ha2, ha3, ha4, ha5, ha6⟩ := at_T58 HC1.out (k : Int) p0 p1
      rw [Int.toNat_natCast] at ha0 ha1 ha2 ha3 ha4 ha5 ha6
      have FS := Aside0.mk (flt_snoc xs s hk)
      have EM := Aside0.mk (show rd_T58 xs (k : Int) = xs.getD k z58 by unfold rd_T58; rw [Int.toNat_natCast])
      rw [← EM.out] at FS
      generalize rd_T58 xs (k : Int) = m at *
      have FL := Aside0.mk (show (flt xs s k).length ≤ 1000000000 from Nat.le_trans (flt_len xs s k) HL.out)
      have ew : wrap64 ((k : Int) + 1) = ((k + 1 : Nat) : Int) := by have h1 := HL.out; unfold wrap64; omega
      have KL := Aside0.mk hk
      have hb1 := (Below.refl wr.heap.size wr).alloc (Nat.le_refl _) (.cells (mCs m) 58)
      have HB1 := Aside0.mk (below_step HB.out hb1)
      have HR1 := Aside0.mk (Kd.R_below HR.out hb1)
      have HS1 := Aside0.mk ((HS0.out.below HB.out).below hb1)
      have X1 := Aside0.mk (blk_new wr (.cells (mCs m) 58))
      rw [ea]
      have HAX := Aside0.mk ea
      clear ea hk hb1 HB HR
      go_wp2_with fail
      refine (pred93_calls _ m s gs HS1.out).mono ?_
      rintro e w3 ⟨rfl, hb⟩
      have HB3 := Aside0.mk (below_step HB1.out hb)
      have HR3 := Aside0.mk (Kd.R_below HR1.out hb)
      have X3 := Aside0.mk (blk_below X1.out hb)
      have y0 : w3.cell? ⟨wr.heap.size, 0, none⟩ = some (.int .u64 m.f0) := (blk_cell X3.out 0).trans rfl
      have y1 : w3.cell? ⟨wr.heap.size, 1, none⟩ = some (.int .i64 m.f1) := (blk_cell X3.out 1).trans rfl
      have y2 : w3.cell? ⟨wr.heap.size, 2, none⟩ = some (.int .i64 m.f2) := (blk_cell X3.out 2).trans rfl
      have y3 : w3.cell? ⟨wr.heap.size, 3, none⟩ = some (.string m.f3) := (blk_cell X3.out 3).trans rfl
      have y4 : w3.cell? ⟨wr.heap.size, 4, none⟩ = some (.string m.f4) := (blk_cell X3.out 4).trans rfl
      have y5 : w3.cell? ⟨wr.heap.size, 5, none⟩ = some (.int .u64 m.f5) := (blk_cell X3.out 5).trans rfl
      have y6 : w3.cell? ⟨wr.heap.size, 6, none⟩ = some (.int .u64 m.f6) := (blk_cell X3.out 6).trans rfl
      clear hb HB1 HR1 HS1 X1
      by_cases hov : overB m s = true
      · rw [hov]
        have FS2 := Aside0.mk (show flt xs s (k + 1) = flt xs s k ++ [m] by rw [FS.out, if_pos hov])
        clear hov
        go_wp2_with (first | ((with_reducible refine gate_builtin (b := .append) (xs := #[.tmp 17, .tmp 19]) rfl ?_); at_builtin; refine Kd.R_append k58 (w0 := w) w.heap.size rfl (.tmp 17) (.tmp 19) 23 58 (.agg #[(.int .u64 0), (.int .i64 0), (.int .i64 0), (.string ⟨#[]⟩), (.string ⟨#[]⟩), (.int .u64 0), (.int .u64 0)]) 72 rfl Try.underlying23 info58 rfl (show 0 < 7 by decide) (show 0 < 72 by decide) (.slice B (flt xs s k).length cb) (flt xs s k) m [.int .u64 m.f0, .int .i64 m.f1, .int .i64 m.f2, .string m.f3, .string m.f4, .int .u64 m.f5, .int .u64 m.f6] (fun _ => True) (fun _ => False) rfl rfl ?aP (fun _ hk => hk.elim) ?aF ?aO ?aB ?aS ?aL ?_; (case aP => exact k58_mkM _ _ _ m); (case aB => exact HB3.out); (case aF => exact (fun _ _ => trivial)); (case aO => exact HR3.out); (case aS => exact HB3.out.size); (case aL => (have h1 := FL.out; omega)); intro va wa ho hb hg hat; have HBa := Aside0.mk hb; obtain ⟨B', cb', hv⟩ := Kd.R_slice ho; subst hv; have HRa := Aside0.mk ho; clear ho hb hg hat) | fail)
        try rw [ew]
        rw [← HAX.out]
        rw [← FS2.out] at HRa
        go_roundg q
        case measure => omega
        case rel => exact ⟨k + 1, B', cb', by rw [FS2.out, List.length_append]; rfl, rfl, ⟨by have := HK.out; omega⟩, HBa, HRa⟩
      · rw [eq_false_of_ne_true hov]
        have FS2 := Aside0.mk (show flt xs s (k + 1) = flt xs s k by rw [FS.out, if_neg hov])
        clear hov
        go_wp2_with fail
        try rw [ew]
        rw [← HAX.out]
        go_roundg q
        case measure => omega
        case rel => exact ⟨k + 1, B, cb, by (show Value.slice B (flt xs s k).length cb = _; rw [FS2.out]), rfl, ⟨by have := HK.out; omega⟩, HB3, by rw [FS2.out]; exact HR3⟩
set_option maxHeartbeats 8000000 in
set_option maxRecDepth 100000 in
theorem chosen97_calls (w : World) (A : Option Addr) (c : Nat) (xs : List S58) (hC : k58.C w A xs.length xs) (hl : xs.length ≤ 1000000000) (s : S58) (gs : Nat) (hs : Tb w gs s) :
    Calls Try.prog 92 #[.slice A xs.length c, .func (.func 97) #[] #[.pointer (some ⟨gs, 0, none⟩)]] w fun e w' => ∃ v, e = .returned v ∧ Kd.R k58 58 w' w.heap.size (fun _ => True) v (xs.filter fun m => overB m s) ∧ Below w.heap.size w w' := by
  have HC := Aside0.mk hC
  have HL := Aside0.mk hl
  have HS0 := Aside0.mk hs
  have GS := Aside0.mk (show gs < w.heap.size from blk_lt hs)
  have HX := Aside0.mk (flt_all xs s)
  have HR0 := Aside0.mk (show Kd.R k58 58 w w.heap.size (fun _ => True) (.slice none (flt xs s 0).length 0) (flt xs s 0) from Kd.R_nil _ _ _ _ _)
  rw [← HX.out]
  clear hC hl hs HX
  go_enter Try.func92, Try.ntmps92
  go_wp2_with fail
  go_loopg [5, 7, 10] xs.length (fun kq v5 v7 v10 w' => ∃ (k : Nat) (B : Option Addr) (cb : Nat), v5 = .slice B (flt xs s k).length cb ∧ v10 = .int .i64 (k : Int) ∧ Aside0 (kq + k = xs.length) ∧ Aside0 (Below w.heap.size w w') ∧ Aside0 (Kd.R k58 58 w' w.heap.size (fun _ => True) (.slice B (flt xs s k).length cb) (flt xs s k)))
  case atStart => exact ⟨0, none, 0, rfl, rfl, ⟨by omega⟩, ⟨Below.refl _ _⟩, HR0⟩
  case round =>
    clear HR0
    obtain ⟨k, B, cb, rfl, rfl, HK, HB, HR⟩ := hrel
    cases gk with
    | zero =>
      have ek : k = xs.length := by have := HK.out; omega
      subst ek
      have d0 : decide ((xs.length : Int) < (xs.length : Int)) = false := by simp
      go_wp2_with fail
      go_ret
      exact ⟨_, rfl, HR.out, HB.out⟩
    | succ q =>
      have hk : k < xs.length := by have := HK.out; omega
      have d0 : decide ((k : Int) < (xs.length : Int)) = true := decide_eq_true (by omega)
      have d1 : decide (k < xs.length) = true := decide_eq_true hk
      have p0 : 0 ≤ (k : Int) := Int.natCast_nonneg _
      have p1 : (k : Int) < (xs.length : Int) := by omega
      have HC1 := Aside0.mk (Kd.C_below HC.out HB.out)
      obtain ⟨ad, ea, ha0, ha1, ha2, ha3, ha4, ha5, ha6⟩ := at_T58 HC1.out (k : Int) p0 p1
      rw [Int.toNat_natCast] at ha0 ha1 ha2 ha3 ha4 ha5 ha6
      have FS := Aside0.mk (flt_snoc xs s hk)
      have EM := Aside0.mk (show rd_T58 xs (k : Int) = xs.getD k z58 by unfold rd_T58; rw [Int.toNat_natCast])
      rw [← EM.out] at FS
      generalize rd_T58 xs (k : Int) = m at *
      have FL := Aside0.mk (show (flt xs s k).length ≤ 1000000000 from Nat.le_trans (flt_len xs s k) HL.out)
      have ew : wrap64 ((k : Int) + 1) = ((k + 1 : Nat) : Int) := by have h1 := HL.out; unfold wrap64; omega
      have KL := Aside0.mk hk
      have hb1 := (Below.refl wr.heap.size wr).alloc (Nat.le_refl _) (.cells (mCs m) 58)
      have HB1 := Aside0.mk (below_step HB.out hb1)
      have HR1 := Aside0.mk (Kd.R_below HR.out hb1)
      have HS1 := Aside0.mk ((HS0.out.below HB.out).below hb1)
      have X1 := Aside0.mk (blk_new wr (.cells (mCs m) 58))
      rw [ea]
      have HAX := Aside0.mk ea
      clear ea hk hb1 HB HR
      go_wp2_with fail
      refine (pred97_calls _ m s gs HS1.out).mono ?_
      rintro e w3 ⟨rfl, hb⟩
      have HB3 := Aside0.mk (below_step HB1.out hb)
      have HR3 := Aside0.mk (Kd.R_below HR1.out hb)
      have X3 := Aside0.mk (blk_below X1.out hb)
      have y0 : w3.cell? ⟨wr.heap.size, 0, none⟩ = some (.int .u64 m.f0) := (blk_cell X3.out 0).trans rfl
      have y1 : w3.cell? ⟨wr.heap.size, 1, none⟩ = some (.int .i64 m.f1) := (blk_cell X3.out 1).trans rfl
      have y2 : w3.cell? ⟨wr.heap.size, 2, none⟩ = some (.int .i64 m.f2) := (blk_cell X3.out 2).trans rfl
      have y3 : w3.cell? ⟨wr.heap.size, 3, none⟩ = some (.string m.f3) := (blk_cell X3.out 3).trans rfl
      have y4 : w3.cell? ⟨wr.heap.size, 4, none⟩ = some (.string m.f4) := (blk_cell X3.out 4).trans rfl
      have y5 : w3.cell? ⟨wr.heap.size, 5, none⟩ = some (.int .u64 m.f5) := (blk_cell X3.out 5).trans rfl
      have y6 : w3.cell? ⟨wr.heap.size, 6, none⟩ = some (.int .u64 m.f6) := (blk_cell X3.out 6).trans rfl
      clear hb HB1 HR1 HS1 X1
      by_cases hov : overB m s = true
      · rw [hov]
        have FS2 := Aside0.mk (show flt xs s (k + 1) = flt xs s k ++ [m] by rw [FS.out, if_pos hov])
        clear hov
        go_wp2_with (first | ((with_reducible refine gate_builtin (b := .append) (xs := #[.tmp 17, .tmp 19]) rfl ?_); at_builtin; refine Kd.R_append k58 (w0 := w) w.heap.size rfl (.tmp 17) (.tmp 19) 23 58 (.agg #[(.int .u64 0), (.int .i64 0), (.int .i64 0), (.string ⟨#[]⟩), (.string ⟨#[]⟩), (.int .u64 0), (.int .u64 0)]) 72 rfl Try.underlying23 info58 rfl (show 0 < 7 by decide) (show 0 < 72 by decide) (.slice B (flt xs s k).length cb) (flt xs s k) m [.int .u64 m.f0, .int .i64 m.f1, .int .i64 m.f2, .string m.f3, .string m.f4, .int .u64 m.f5, .int .u64 m.f6] (fun _ => True) (fun _ => False) rfl rfl ?aP (fun _ hk => hk.elim) ?aF ?aO ?aB ?aS ?aL ?_; (case aP => exact k58_mkM _ _ _ m); (case aB => exact HB3.out); (case aF => exact (fun _ _ => trivial)); (case aO => exact HR3.out); (case aS => exact HB3.out.size); (case aL => (have h1 := FL.out; omega)); intro va wa ho hb hg hat; have HBa := Aside0.mk hb; obtain ⟨B', cb', hv⟩ := Kd.R_slice ho; subst hv; have HRa := Aside0.mk ho; clear ho hb hg hat) | fail)
        try rw [ew]
        rw [← HAX.out]
        rw [← FS2.out] at HRa
        go_roundg q
        case measure => omega
        case rel => exact ⟨k + 1, B', cb', by rw [FS2.out, List.length_append]; rfl, rfl, ⟨by have := HK.out; omega⟩, HBa, HRa⟩
      · rw [eq_false_of_ne_true hov]
        have FS2 := Aside0.mk (show flt xs s (k + 1) = flt xs s k by rw [FS.out, if_neg hov])
        clear hov
        go_wp2_with fail
        try rw [ew]
        rw [← HAX.out]
        go_roundg q
        case measure => omega
        case rel => exact ⟨k + 1, B, cb, by (show Value.slice B (flt xs s k).length cb = _; rw [FS2.out]), rfl, ⟨by have := HK.out; omega⟩, HB3, by rw [FS2.out]; exact HR3⟩
end
section
/- VB12: The span of tables (pick.span), walked. Conditions: none. -/
set_option linter.unusedVariables false
set_option linter.unusedSimpArgs false
open Go.RowKit Go.Proofs.YtkjepfofiegcdaaW.PrintWords Go.Proofs.YtkjepfofiegcdaaW.PrintLast Go.Proofs.YtkjepfofiegcdaaW.PrintMore Go.Proofs.Ytkjepfofiegcdaa.PB14
def smn (x y : ByteArray) : ByteArray := if Op.bytesLess y.toList x.toList = true then y else x
def smx (x y : ByteArray) : ByteArray := if Op.bytesLess x.toList y.toList = true then y else x
theorem smn_self (x : ByteArray) : smn x x = x := by unfold smn; split <;> rfl
theorem smx_self (x : ByteArray) : smx x x = x := by unfold smx; split <;> rfl
theorem min2_str (x y : ByteArray) : Builtin.min2 (.string x) (.string y) = pure (.string (smn x y)) := by
  unfold smn
  cases h : Op.bytesLess y.toList x.toList with
  | true =>
    have h2 : ¬ (Op.bytesLess x.toList y.toList = true ∨ x.toList = y.toList) := fun hq => by rw [le_less] at hq; rw [h] at hq; cases hq
    simp [Builtin.min2, Op.stringOp, asBool, h2]
  | false =>
    have h2 : Op.bytesLess x.toList y.toList = true ∨ x.toList = y.toList := le_less.mpr h
    simp [Builtin.min2, Op.stringOp, asBool, h2]
theorem max2_str (x y : ByteArray) : Builtin.max2 (.string x) (.string y) = pure (.string (smx x y)) := by
  unfold smx
  cases h : Op.bytesLess x.toList y.toList with
  | true => simp [Builtin.max2, Op.stringOp, asBool, h]
  | false => simp [Builtin.max2, Op.stringOp, asBool, h]
def spanS (st : Option (ByteArray × ByteArray)) (m : S58) : Option (ByteArray × ByteArray) := some (match st with
  | none => (m.f3, m.f4)
  | some q => (smn q.1 m.f3, smx q.2 m.f4))
def spanO (L : List S58) : Option (ByteArray × ByteArray) := L.foldl spanS none
theorem spanO_snoc (L : List S58) (m : S58) : spanO (L ++ [m]) = spanS (spanO L) m := by unfold spanO; rw [List.foldl_append]; rfl
def spF (st : Option (ByteArray × ByteArray)) : ByteArray := (st.getD (⟨#[]⟩, ⟨#[]⟩)).1
def spL (st : Option (ByteArray × ByteArray)) : ByteArray := (st.getD (⟨#[]⟩, ⟨#[]⟩)).2
def spanM (L : List S58) : S58 := ⟨0, 0, 0, spF (spanO L), spL (spanO L), 0, 0⟩
attribute [local go_sem] max_two min_two min2_str max2_str
def k23 : Kd (List S58) := Kd.slice 58 k58
theorem at_K23 {w : World} {A : Option Addr} {n : Nat} {xs : List (List S58)} (h : Kd.C k23 w A n xs) (i : Nat) (hi : i < n) : ∃ ad X c, A = some ad ∧ w.cell? (ad.add i) = some (.slice X (xs.getD i []).length c) ∧ (xs.getD i []).length ≤ c ∧ k58.C w X (xs.getD i []).length (xs.getD i []) := by
  obtain ⟨ad, c, e, _, hK, hc0⟩ := Kd.C_get h [] (i : Int) (by omega) (by omega)
  obtain ⟨X, c, rfl, l1, g1⟩ := hK
  refine ⟨ad, X, c, e, ?_, l1, g1⟩
  have := hc0 0 _ rfl
  rw [Int.toNat_natCast, show i * k23.sz + 0 = i from by show i * 1 + 0 = i; omega] at this
  exact this
theorem two_set {w : World} {g t : Nat} {a b a' b' : ByteArray} (h : w.heap[g]? = some (.cells #[.int .u64 0, .int .i64 0, .int .i64 0, .string a, .string b, .int .u64 0, .int .u64 0] t (0, 0))) : ((w.setCell ⟨g, 3, none⟩ (.string a')).setCell ⟨g, 4, none⟩ (.string b')).heap[g]? = some (.cells #[.int .u64 0, .int .i64 0, .int .i64 0, .string a', .string b', .int .u64 0, .int .u64 0] t (0, 0)) :=
  blk_put (cs' := #[.int .u64 0, .int .i64 0, .int .i64 0, .string a', .string b', .int .u64 0, .int .u64 0]) (blk_put (cs' := #[.int .u64 0, .int .i64 0, .int .i64 0, .string a', .string b, .int .u64 0, .int .u64 0]) h 3 (.string a') rfl) 4 (.string b') rfl
set_option maxHeartbeats 8000000 in
set_option maxRecDepth 100000 in
theorem span_calls (w : World) (A : Option Addr) (c : Nat) (Ls : List (List S58)) (hC : k23.C w A Ls.length Ls) : Calls Try.prog 91 #[.slice A Ls.length c] w fun e w' => e = .returned (.tuple #[.agg (mCs (spanM Ls.flatten)), .bool (spanO Ls.flatten).isSome]) ∧ Below w.heap.size w w' := by
  have HC := Aside0.mk hC
  have HB := Aside0.mk ((Below.refl w.heap.size w).alloc (Nat.le_refl _) (.cells #[.int .u64 0, .int .i64 0, .int .i64 0, .string ⟨#[]⟩, .string ⟨#[]⟩, .int .u64 0, .int .u64 0] 58))
  have X2 := Aside0.mk (blk_new w (.cells #[.int .u64 0, .int .i64 0, .int .i64 0, .string ⟨#[]⟩, .string ⟨#[]⟩, .int .u64 0, .int .u64 0] 58))
  clear hC
  go_enter Try.func91, Try.ntmps91
  go_wp2_with fail
  generalize w.alloc (.cells #[.int .u64 0, .int .i64 0, .int .i64 0, .string ⟨#[]⟩, .string ⟨#[]⟩, .int .u64 0, .int .u64 0] 58) = w1 at *
  go_loopg [3, 5, 7, 10] Ls.length (fun kq v3 v5 v7 v10 w' => ∃ (i : Nat) (st : Option (ByteArray × ByteArray)), v3 = .bool st.isSome ∧ v10 = .int .i64 (i : Int) ∧ Aside0 (kq + i = Ls.length) ∧ Aside0 (st = spanO (Ls.take i).flatten) ∧ Aside0 (Below w.heap.size w w') ∧ Aside0 (w'.heap[w.heap.size]? = some (.cells #[.int .u64 0, .int .i64 0, .int .i64 0, .string (spF st), .string (spL st), .int .u64 0, .int .u64 0] 58 (0, 0))))
  case atStart => exact ⟨0, none, rfl, rfl, ⟨by omega⟩, ⟨rfl⟩, HB, X2⟩
  case round =>
    clear HB X2
    obtain ⟨i, st, rfl, rfl, HK, HST, HB, X2⟩ := hrel
    cases gk with
    | zero =>
      have ei : i = Ls.length := by have := HK.out; omega
      subst ei
      have d0 : decide ((Ls.length : Int) < (Ls.length : Int)) = false := by simp
      rw [List.take_length] at HST
      have HBR := Aside0.mk HST.out.symm
      have z0 : wr.cell? ⟨w.heap.size, 0, none⟩ = some (.int .u64 0) := (blk_cell X2.out 0).trans rfl
      have z1 : wr.cell? ⟨w.heap.size, 1, none⟩ = some (.int .i64 0) := (blk_cell X2.out 1).trans rfl
      have z2 : wr.cell? ⟨w.heap.size, 2, none⟩ = some (.int .i64 0) := (blk_cell X2.out 2).trans rfl
      have z3 : wr.cell? ⟨w.heap.size, 3, none⟩ = some (.string (spF st)) := (blk_cell X2.out 3).trans rfl
      have z4 : wr.cell? ⟨w.heap.size, 4, none⟩ = some (.string (spL st)) := (blk_cell X2.out 4).trans rfl
      have z5 : wr.cell? ⟨w.heap.size, 5, none⟩ = some (.int .u64 0) := (blk_cell X2.out 5).trans rfl
      have z6 : wr.cell? ⟨w.heap.size, 6, none⟩ = some (.int .u64 0) := (blk_cell X2.out 6).trans rfl
      have SM := Aside0.mk (show spanM Ls.flatten = ⟨0, 0, 0, spF st, spL st, 0, 0⟩ by unfold spanM; rw [HST.out])
      go_wp2_with (first | (refine st_arr rfl 58 _ _ rfl w.heap.size 58 ?hx (mCs ⟨0, 0, 0, spF st, spL st, 0, 0⟩) ?hy _ X2.out (by rw [size58]; rfl) rfl (mCs_one _) ?_; (case hx => rfl); (case hy => rfl); intro w5 hb5 hbb hk5 hs5; have HB5 := Aside0.mk (hbb _ _ HB.out (Nat.le_refl _)); have X5 := Aside0.mk hb5; clear hb5 hbb hk5 hs5) | fail)
      have r0 : w5.cell? ⟨w.heap.size, 0, none⟩ = some (.int .u64 0) := (blk_cell X5.out 0).trans rfl
      have r1 : w5.cell? ⟨w.heap.size, 1, none⟩ = some (.int .i64 0) := (blk_cell X5.out 1).trans rfl
      have r2 : w5.cell? ⟨w.heap.size, 2, none⟩ = some (.int .i64 0) := (blk_cell X5.out 2).trans rfl
      have r3 : w5.cell? ⟨w.heap.size, 3, none⟩ = some (.string (spF st)) := (blk_cell X5.out 3).trans rfl
      have r4 : w5.cell? ⟨w.heap.size, 4, none⟩ = some (.string (spL st)) := (blk_cell X5.out 4).trans rfl
      have r5 : w5.cell? ⟨w.heap.size, 5, none⟩ = some (.int .u64 0) := (blk_cell X5.out 5).trans rfl
      have r6 : w5.cell? ⟨w.heap.size, 6, none⟩ = some (.int .u64 0) := (blk_cell X5.out 6).trans rfl
      exact bodyPost_ret (v := .tuple #[.agg (mCs ⟨0, 0, 0, spF st, spL st, 0, 0⟩), .bool st.isSome]) (by simp [results, Try.results91, go_sem, r0, r1, r2, r3, r4, r5, r6]) rfl ⟨by rw [SM.out, ← HST.out], HB5.out⟩
    | succ q =>
      have hi : i < Ls.length := by have := HK.out; omega
      have d0 : decide ((i : Int) < (Ls.length : Int)) = true := decide_eq_true (by omega)
      have d1 : decide (i < Ls.length) = true := decide_eq_true hi
      have p0 : 0 ≤ (i : Int) := Int.natCast_nonneg _
      have p1 : (i : Int) < (Ls.length : Int) := by omega
      have HM := Aside0.mk (show Ls.length ≤ 9223372036854775807 from HC.out.2.1)
      have TK := Aside0.mk (show (Ls.take (i + 1)).flatten = (Ls.take i).flatten ++ Ls.getD i [] by rw [take_snoc Ls [] hi, List.flatten_append]; simp)
      obtain ⟨ad, X, d, ea, hx0, hxc, hxC⟩ := at_K23 HC.out i hi
      rw [ea]
      have HAX := Aside0.mk ea
      obtain ⟨l, hl⟩ : ∃ l, l = Ls.getD i [] := ⟨_, rfl⟩
      rw [← hl] at hx0 hxc hxC TK
      have hx1 := (HB.out.cell (World.block_lt_of_cell? w _ hx0)).trans hx0
      have HX := Aside0.mk hxC
      clear ea hi hxc hxC hl hx0
      go_wp2_with fail
      go_loopg [3, 7, 16] l.length (fun kq v3 v7 v16 w' => ∃ (k : Nat) (st : Option (ByteArray × ByteArray)), v3 = .bool st.isSome ∧ v16 = .int .i64 (k : Int) ∧ Aside0 (kq + k = l.length) ∧ Aside0 (st = spanO ((Ls.take i).flatten ++ l.take k)) ∧ Aside0 (Below w.heap.size w w') ∧ Aside0 (w'.heap[w.heap.size]? = some (.cells #[.int .u64 0, .int .i64 0, .int .i64 0, .string (spF st), .string (spL st), .int .u64 0, .int .u64 0] 58 (0, 0))))
      case atStart => exact ⟨0, st, rfl, rfl, ⟨by omega⟩, by rw [List.take_zero, List.append_nil]; exact HST, HB, X2⟩
      case round =>
        clear HB X2 HST hx1
        obtain ⟨k, st, rfl, rfl, HKK, HST, HB, X2⟩ := hrel
        cases gk with
        | zero =>
          have ek : k = l.length := by have := HKK.out; omega
          subst ek
          have d0 : decide ((l.length : Int) < (l.length : Int)) = false := by simp
          rw [List.take_length, ← TK.out] at HST
          go_wp2_with fail
          have ew : wrap64 ((i : Int) + 1) = ((i + 1 : Nat) : Int) := by have h1 := HM.out; have h2 := HK.out; unfold wrap64; omega
          try rw [ew]
          rw [← HAX.out]
          go_roundg q
          case measure => omega
          case rel => exact ⟨i + 1, st, rfl, rfl, ⟨by have := HK.out; omega⟩, HST, HB, X2⟩
        | succ g =>
          have hk : k < l.length := by have := HKK.out; omega
          have d0 : decide ((k : Int) < (l.length : Int)) = true := decide_eq_true (by omega)
          have d1 : decide (k < l.length) = true := decide_eq_true hk
          have p0 : 0 ≤ (k : Int) := Int.natCast_nonneg _
          have p1 : (k : Int) < (l.length : Int) := by omega
          have HML := Aside0.mk (show l.length ≤ 9223372036854775807 from HX.out.2.1)
          obtain ⟨ax, eb, ha0, ha1, ha2, ha3, ha4, ha5, ha6⟩ := at_T58 HX.out (k : Int) p0 p1
          rw [Int.toNat_natCast] at ha0 ha1 ha2 ha3 ha4 ha5 ha6
          have EM := Aside0.mk (show rd_T58 l (k : Int) = l.getD k z58 by unfold rd_T58; rw [Int.toNat_natCast])
          generalize rd_T58 l (k : Int) = m at *
          have TS := Aside0.mk (show spanO ((Ls.take i).flatten ++ l.take (k + 1)) = spanS st m by rw [take_snoc l z58 hk, ← List.append_assoc, spanO_snoc, HST.out, EM.out])
          have HAY := Aside0.mk eb
          rw [eb]
          have c0 := (HB.out.cell (World.block_lt_of_cell? w _ ha0)).trans ha0
          have c1 := (HB.out.cell (World.block_lt_of_cell? w _ ha1)).trans ha1
          have c2 := (HB.out.cell (World.block_lt_of_cell? w _ ha2)).trans ha2
          have c3 := (HB.out.cell (World.block_lt_of_cell? w _ ha3)).trans ha3
          have c4 := (HB.out.cell (World.block_lt_of_cell? w _ ha4)).trans ha4
          have c5 := (HB.out.cell (World.block_lt_of_cell? w _ ha5)).trans ha5
          have c6 := (HB.out.cell (World.block_lt_of_cell? w _ ha6)).trans ha6
          clear ha0 ha1 ha2 ha3 ha4 ha5 ha6
          have ew : wrap64 ((k : Int) + 1) = ((k + 1 : Nat) : Int) := by have h1 := HML.out; have h2 := HKK.out; unfold wrap64; omega
          have hb1 := (Below.refl wr.heap.size wr).alloc (Nat.le_refl _) (.cells (mCs m) 58)
          have HB1 := Aside0.mk (below_step HB.out hb1)
          have X21 := Aside0.mk (blk_below X2.out hb1)
          have XM := Aside0.mk (blk_new wr (.cells (mCs m) 58))
          have NE := Aside0.mk (show w.heap.size ≠ wr.heap.size from Nat.ne_of_lt (blk_lt X2.out))
          clear eb hk hb1 HB X2 HST
          cases st with
          | none =>
            go_upto_region 8 with (fail)
            generalize wr.heap.size = gm at *
            generalize wr.alloc (.cells #[.int .u64 m.f0, .int .i64 m.f1, .int .i64 m.f2, .string m.f3, .string m.f4, .int .u64 m.f5, .int .u64 m.f6] 58) = w4 at *
            have m3 : w4.cell? ⟨gm, 3, none⟩ = some (.string m.f3) := (blk_cell XM.out 3).trans rfl
            have m4 : w4.cell? ⟨gm, 4, none⟩ = some (.string m.f4) := (blk_cell XM.out 4).trans rfl
            have f3 := blk_frozen X21.out 3
            have f4 := blk_frozen X21.out 4
            have s3 : w4.cell? ⟨w.heap.size, 3, none⟩ = some (.string ⟨#[]⟩) := (blk_cell X21.out 3).trans rfl
            have s4 : w4.cell? ⟨w.heap.size, 4, none⟩ = some (.string ⟨#[]⟩) := (blk_cell X21.out 4).trans rfl
            go_region
            have HB5 := Aside0.mk (below_drew (below_set (j := 4) (v := .string m.f4) (below_set (j := 3) (v := .string m.f3) HB1.out (Nat.le_refl _)) (Nat.le_refl _)))
            have X25 := Aside0.mk (blk_drew (two_set (a' := m.f3) (b' := m.f4) X21.out))
            have XM5 := Aside0.mk (blk_drew (blk_far (blk_far XM.out (p := ⟨w.heap.size, 3, none⟩) (Ne.symm NE.out) (.string m.f3)) (p := ⟨w.heap.size, 4, none⟩) (Ne.symm NE.out) (.string m.f4)))
            clear m3 m4 f3 f4 s3 s4
            go_upto_region 9 with (fail)
            generalize ((w4.setCell ⟨w.heap.size, 3, none⟩ (.string m.f3)).setCell ⟨w.heap.size, 4, none⟩ (.string m.f4)).drew = w5 at *
            have m3 : w5.cell? ⟨gm, 3, none⟩ = some (.string m.f3) := (blk_cell XM5.out 3).trans rfl
            have m4 : w5.cell? ⟨gm, 4, none⟩ = some (.string m.f4) := (blk_cell XM5.out 4).trans rfl
            have f3 := blk_frozen X25.out 3
            have f4 := blk_frozen X25.out 4
            have s3 : w5.cell? ⟨w.heap.size, 3, none⟩ = some (.string m.f3) := (blk_cell X25.out 3).trans rfl
            have s4 : w5.cell? ⟨w.heap.size, 4, none⟩ = some (.string m.f4) := (blk_cell X25.out 4).trans rfl
            go_region
            have HB6 := Aside0.mk (below_drew (below_set (j := 4) (v := .string (smx m.f4 m.f4)) (below_set (j := 3) (v := .string (smn m.f3 m.f3)) HB5.out (Nat.le_refl _)) (Nat.le_refl _)))
            have X26 := Aside0.mk (blk_drew (two_set (a' := smn m.f3 m.f3) (b' := smx m.f4 m.f4) X25.out))
            clear m3 m4 f3 f4 s3 s4
            go_wp2_with fail
            try rw [ew]
            rw [← HAY.out]
            go_roundg g
            case measure => omega
            case rel => exact ⟨k + 1, some (smn m.f3 m.f3, smx m.f4 m.f4), rfl, rfl, ⟨by have := HKK.out; omega⟩, ⟨by rw [TS.out, smn_self, smx_self]; rfl⟩, HB6, X26⟩
          | some ab =>
            obtain ⟨a, b⟩ := ab
            go_upto_region 9 with (fail)
            generalize wr.heap.size = gm at *
            generalize wr.alloc (.cells #[.int .u64 m.f0, .int .i64 m.f1, .int .i64 m.f2, .string m.f3, .string m.f4, .int .u64 m.f5, .int .u64 m.f6] 58) = w4 at *
            have m3 : w4.cell? ⟨gm, 3, none⟩ = some (.string m.f3) := (blk_cell XM.out 3).trans rfl
            have m4 : w4.cell? ⟨gm, 4, none⟩ = some (.string m.f4) := (blk_cell XM.out 4).trans rfl
            have f3 := blk_frozen X21.out 3
            have f4 := blk_frozen X21.out 4
            have s3 : w4.cell? ⟨w.heap.size, 3, none⟩ = some (.string a) := (blk_cell X21.out 3).trans rfl
            have s4 : w4.cell? ⟨w.heap.size, 4, none⟩ = some (.string b) := (blk_cell X21.out 4).trans rfl
            go_region
            have HB6 := Aside0.mk (below_drew (below_set (j := 4) (v := .string (smx b m.f4)) (below_set (j := 3) (v := .string (smn a m.f3)) HB1.out (Nat.le_refl _)) (Nat.le_refl _)))
            have X26 := Aside0.mk (blk_drew (two_set (a' := smn a m.f3) (b' := smx b m.f4) X21.out))
            clear m3 m4 f3 f4 s3 s4
            go_wp2_with fail
            try rw [ew]
            rw [← HAY.out]
            go_roundg g
            case measure => omega
            case rel => exact ⟨k + 1, some (smn a m.f3, smx b m.f4), rfl, rfl, ⟨by have := HKK.out; omega⟩, ⟨TS.out.symm⟩, HB6, X26⟩
end
section
/- VB13: What is due of a level (pick.due), walked. Conditions: options that may be, sizes of at most 2 to the 18th, at most 64 tables. -/
set_option linter.unusedVariables false
set_option linter.unusedSimpArgs false
open Go.RowKit Go.Proofs.YtkjepfofiegcdaaW.PrintWords Go.Proofs.YtkjepfofiegcdaaW.PrintLast Go.Proofs.YtkjepfofiegcdaaW.PrintMore Go.Proofs.Ytkjepfofiegcdaa.PB14
theorem R_one (W : World) (base : Nat) (m : S58) (hb : base ≤ W.heap.size) : Kd.R k58 58 (W.alloc (.cells (mCs m) 58)) base (fun _ => True) (.slice (some ⟨W.heap.size, 0, none⟩) 1 1) [m] := by
  refine ⟨fun _ _ => trivial, (mCs m).toList, ?_, ?_⟩
  · have h2 := World.ownsRow_lit (base := base) (e := 58) (size := 7) W (mCs m) 1 hb (by decide) rfl
    exact h2
  · exact (Reps.none _ _).snoc (k58_mkM _ _ _ m) rfl
def dueL (v : Ver) (many base times : Int) : Nat → List S58
  | 0 => if (v.l0.length : Int) < many then [] else v.l0
  | 1 => if sizeL v.l1 ≤ base then [] else [minK v.l1 v.l1.length]
  | _ => if sizeL v.l2 ≤ base * times then [] else [minK v.l2 v.l2.length]
theorem sizeL_pos {l : List S58} {b : Int} (h : ¬ sizeL l ≤ b) (hb : 1 ≤ b) : 0 < l.length := by
  cases l with
  | nil => exact absurd (show sizeL [] ≤ b from by show (0 : Int) ≤ b; omega) h
  | cons x r => simp
set_option maxHeartbeats 4000000 in
set_option maxRecDepth 100000 in
theorem due0_calls (w : World) (v : Ver) (p : Pl) (hC : VC w v p) (many base times : Int) (hO : optP many base times) (hl : v.l0.length ≤ 64) : Calls Try.prog 90 #[.agg (vCs v p), .agg #[.int .i64 many, .int .i64 base, .int .i64 times], .int .i64 0] w fun e w' => ∃ x, e = .returned x ∧ Kd.R k58 58 w' w.heap.size (fun _ => True) x (dueL v many base times 0) ∧ Below w.heap.size w w' := by
  have HC := Aside0.mk hC
  have HO := Aside0.mk hO
  have HL := Aside0.mk hl
  have HB := Aside0.mk (below_alloc ((Below.refl w.heap.size w).alloc (Nat.le_refl _) (.cells (vCs v p) 26)) (.cells #[.int .i64 many, .int .i64 base, .int .i64 times] 48))
  clear hC hO hl
  by_cases hm : (v.l0.length : Int) < many
  · have d0 : decide ((v.l0.length : Int) < many) = true := decide_eq_true hm
    have E := Aside0.mk (show dueL v many base times 0 = [] from if_pos hm)
    rw [E.out]
    clear hm
    go_enter Try.func90, Try.ntmps90
    go_wp2_with fail
    go_ret
    exact ⟨_, rfl, Kd.R_nil _ _ _ _ _, HB.out⟩
  · have d0 : decide ((v.l0.length : Int) < many) = false := decide_eq_false hm
    have E := Aside0.mk (show dueL v many base times 0 = v.l0 from if_neg hm)
    rw [E.out]
    clear hm
    go_enter Try.func90, Try.ntmps90
    go_wp2_with fail
    have hc := (HC.out.below HB.out) 0 (by omega)
    refine (clone_calls _ p.a0 p.c0 v.l0 hc.1 hc.2 (by have := HL.out; omega)).mono ?_
    clear hc
    rintro e w3 ⟨x, rfl, hR, hb⟩
    have HR := Aside0.mk (Kd.R_lower hR HB.out.size)
    have HB3 := Aside0.mk (below_step HB.out hb)
    clear hR hb
    go_wp2_with fail
    go_ret
    exact ⟨_, rfl, HR.out, HB3.out⟩
set_option maxHeartbeats 4000000 in
set_option maxRecDepth 100000 in
theorem due1_calls (w : World) (v : Ver) (p : Pl) (hC : VC w v p) (many base times : Int) (hO : optP many base times) (hl : v.l1.length ≤ 64) : Calls Try.prog 90 #[.agg (vCs v p), .agg #[.int .i64 many, .int .i64 base, .int .i64 times], .int .i64 1] w fun e w' => ∃ x, e = .returned x ∧ Kd.R k58 58 w' w.heap.size (fun _ => True) x (dueL v many base times 1) ∧ Below w.heap.size w w' := by
  have HC := Aside0.mk hC
  have HO := Aside0.mk hO
  have HL := Aside0.mk hl
  have HB := Aside0.mk (below_alloc ((Below.refl w.heap.size w).alloc (Nat.le_refl _) (.cells (vCs v p) 26)) (.cells #[.int .i64 many, .int .i64 base, .int .i64 times] 48))
  clear hC hO hl
  have PL := Aside0.mk (show 1 ≤ base from HO.out.2.2.1)
  have SV := Aside0.mk (show sizeV v 1 = sizeL v.l1 from rfl)
  by_cases hm : sizeL v.l1 ≤ base
  · have d0 : decide (sizeL v.l1 ≤ base) = true := decide_eq_true hm
    have E := Aside0.mk (show dueL v many base times 1 = [] from if_pos hm)
    rw [E.out]
    clear hm
    go_enter Try.func90, Try.ntmps90
    go_wp2_with fail
    refine (size_calls _ v p (HC.out.below HB.out) 1).mono ?_
    rw [SV.out]
    rintro e w3 ⟨rfl, hb⟩
    have HB3 := Aside0.mk (below_step HB.out hb)
    clear hb
    go_wp2_with fail
    go_ret
    exact ⟨_, rfl, Kd.R_nil _ _ _ _ _, HB3.out⟩
  · have d0 : decide (sizeL v.l1 ≤ base) = false := decide_eq_false hm
    have E := Aside0.mk (show dueL v many base times 1 = [minK v.l1 v.l1.length] from if_neg hm)
    have PS := Aside0.mk (sizeL_pos hm PL.out)
    obtain ⟨m, hmm⟩ : ∃ m, m = minK v.l1 v.l1.length := ⟨_, rfl⟩
    have MM := Aside0.mk hmm
    rw [E.out, ← hmm]
    clear hmm
    clear hm
    go_enter Try.func90, Try.ntmps90
    go_wp2_with fail
    refine (size_calls _ v p (HC.out.below HB.out) 1).mono ?_
    rw [SV.out]
    rintro e w3 ⟨rfl, hb⟩
    have HB3 := Aside0.mk (below_step HB.out hb)
    clear hb
    go_wp2_with fail
    have hc := (HC.out.below HB3.out) 1 (by omega)
    have hmin := min_calls _ p.a1 p.c1 v.l1 hc.1 PS.out
    rw [← MM.out] at hmin
    refine hmin.mono ?_
    clear hc hmin
    rintro e w4 ⟨rfl, hb⟩
    have HB4 := Aside0.mk (below_alloc (below_step HB3.out hb) (.cells (mCs m) 58))
    have HR := Aside0.mk (R_one (w4.alloc (.cells (mCs m) 58)) w.heap.size m HB4.out.size)
    have HB5 := Aside0.mk (below_alloc HB4.out (.cells (mCs m) 58))
    clear hb
    go_wp2_with fail
    go_ret
    exact ⟨_, rfl, by first | exact HR.out | simpa using HR.out, HB5.out⟩
set_option maxHeartbeats 4000000 in
set_option maxRecDepth 100000 in
theorem due2_calls (w : World) (v : Ver) (p : Pl) (hC : VC w v p) (many base times : Int) (hO : optP many base times) (hl : v.l2.length ≤ 64) : Calls Try.prog 90 #[.agg (vCs v p), .agg #[.int .i64 many, .int .i64 base, .int .i64 times], .int .i64 2] w fun e w' => ∃ x, e = .returned x ∧ Kd.R k58 58 w' w.heap.size (fun _ => True) x (dueL v many base times 2) ∧ Below w.heap.size w w' := by
  have HC := Aside0.mk hC
  have HO := Aside0.mk hO
  have HL := Aside0.mk hl
  have HB := Aside0.mk (below_alloc ((Below.refl w.heap.size w).alloc (Nat.le_refl _) (.cells (vCs v p) 26)) (.cells #[.int .i64 many, .int .i64 base, .int .i64 times] 48))
  clear hC hO hl
  obtain ⟨lm, hlm⟩ : ∃ x, x = base * times := ⟨_, rfl⟩
  have LM := Aside0.mk hlm
  have hb1 := Int.mul_le_mul HO.out.2.2.2.1 HO.out.2.2.2.2.2 (by have := HO.out.2.2.2.2.1; omega) (by decide : (0 : Int) ≤ 1073741824)
  have hb2 := Int.mul_le_mul HO.out.2.2.1 HO.out.2.2.2.2.1 (by decide : (0 : Int) ≤ 1) (by have := HO.out.2.2.1; omega)
  rw [← hlm] at hb1 hb2
  have PL := Aside0.mk (show 1 ≤ lm by omega)
  have ew : wrap64 (base * times) = lm := by rw [← hlm]; unfold wrap64; omega
  have ew2 : IntKind.i64.wrap (base * times) = lm := by rw [← hlm, IntKind.wrap_i64]; omega
  clear hlm hb1 hb2
  have SV := Aside0.mk (show sizeV v 2 = sizeL v.l2 from rfl)
  by_cases hm : sizeL v.l2 ≤ lm
  · have d0 : decide (sizeL v.l2 ≤ lm) = true := decide_eq_true hm
    have E := Aside0.mk (show dueL v many base times 2 = [] from if_pos (by rw [← LM.out]; exact hm))
    rw [E.out]
    clear hm
    go_enter Try.func90, Try.ntmps90
    go_wp2_with fail
    refine (size_calls _ v p (HC.out.below HB.out) 2).mono ?_
    rw [SV.out]
    rintro e w3 ⟨rfl, hb⟩
    have HB3 := Aside0.mk (below_step HB.out hb)
    clear hb
    go_wp2_with fail
    go_ret
    exact ⟨_, rfl, Kd.R_nil _ _ _ _ _, HB3.out⟩
  · have d0 : decide (sizeL v.l2 ≤ lm) = false := decide_eq_false hm
    have E := Aside0.mk (show dueL v many base times 2 = [minK v.l2 v.l2.length] from if_neg (by rw [← LM.out]; exact hm))
    have PS := Aside0.mk (sizeL_pos hm PL.out)
    obtain ⟨m, hmm⟩ : ∃ m, m = minK v.l2 v.l2.length := ⟨_, rfl⟩
    have MM := Aside0.mk hmm
    rw [E.out, ← hmm]
    clear hmm
    clear hm
    go_enter Try.func90, Try.ntmps90
    go_wp2_with fail
    refine (size_calls _ v p (HC.out.below HB.out) 2).mono ?_
    rw [SV.out]
    rintro e w3 ⟨rfl, hb⟩
    have HB3 := Aside0.mk (below_step HB.out hb)
    clear hb
    go_wp2_with fail
    have hc := (HC.out.below HB3.out) 2 (by omega)
    have hmin := min_calls _ p.a2 p.c2 v.l2 hc.1 PS.out
    rw [← MM.out] at hmin
    refine hmin.mono ?_
    clear hc hmin
    rintro e w4 ⟨rfl, hb⟩
    have HB4 := Aside0.mk (below_alloc (below_step HB3.out hb) (.cells (mCs m) 58))
    have HR := Aside0.mk (R_one (w4.alloc (.cells (mCs m) 58)) w.heap.size m HB4.out.size)
    have HB5 := Aside0.mk (below_alloc HB4.out (.cells (mCs m) 58))
    clear hb
    go_wp2_with fail
    go_ret
    exact ⟨_, rfl, by first | exact HR.out | simpa using HR.out, HB5.out⟩
end
end Go.Proofs.Ytkjepfofiegcdaa.V
