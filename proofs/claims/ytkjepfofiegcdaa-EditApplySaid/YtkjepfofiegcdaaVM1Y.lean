import Derived.Test.YtkjepfofiegcdaaPB140
import Derived.Laws.Cover1
import Derived.Maps.OwnOps
import Derived.Maps.Views
import Derived.WalkSpells
import Derived.Deep.MidRow
import Derived.Laws.CopyOwn
import Derived.StillTailTactics
import Derived.BigRegion
import Derived.Test.YtkjepfofiegcdaaHOpen
import Derived.OpenShut
import Derived.Test.YtkjepfofiegcdaaWEqStruct
/- Texts of the walks joined into one (VB1, VB2, VB3, VB4, VB5, VB6, VB7, VB8, VB9, VB10, VB11, VB12, VB13). Conditions: told at each. -/
namespace Go.Proofs.Ytkjepfofiegcdaa.V
section
/- VB1: Versions in memory; edit.Right, walked. Conditions: none. -/
set_option linter.unusedVariables false
set_option linter.unusedSimpArgs false
open Go.RowKit Go.Proofs.YtkjepfofiegcdaaW.PrintWords Go.Proofs.YtkjepfofiegcdaaW.PrintLast Go.Proofs.YtkjepfofiegcdaaW.PrintMore Go.Proofs.Ytkjepfofiegcdaa.PB14
/-- A version: its numbers, its levels. -/
structure Ver where
  log : Int
  next : Int
  seq : Int
  l0 : List S58
  l1 : List S58
  l2 : List S58
  l3 : List S58
def Ver.lv (v : Ver) : Nat → List S58
  | 0 => v.l0
  | 1 => v.l1
  | 2 => v.l2
  | _ => v.l3
/-- Where its levels lie. -/
structure Pl where
  a0 : Option Addr
  a1 : Option Addr
  a2 : Option Addr
  a3 : Option Addr
  c0 : Nat
  c1 : Nat
  c2 : Nat
  c3 : Nat
def Pl.a (p : Pl) : Nat → Option Addr
  | 0 => p.a0
  | 1 => p.a1
  | 2 => p.a2
  | _ => p.a3
def Pl.c (p : Pl) : Nat → Nat
  | 0 => p.c0
  | 1 => p.c1
  | 2 => p.c2
  | _ => p.c3
abbrev vCs (v : Ver) (p : Pl) : Array Value := #[.int .u64 v.log, .int .u64 v.next, .int .u64 v.seq, .slice p.a0 v.l0.length p.c0, .slice p.a1 v.l1.length p.c1, .slice p.a2 v.l2.length p.c2, .slice p.a3 v.l3.length p.c3]
abbrev lCs (v : Ver) (p : Pl) : Array Value := #[.slice p.a0 v.l0.length p.c0, .slice p.a1 v.l1.length p.c1, .slice p.a2 v.l2.length p.c2, .slice p.a3 v.l3.length p.c3]
/-- The levels are read. -/
def VC (w : World) (v : Ver) (p : Pl) : Prop := ∀ i, i < 4 → k58.C w (p.a i) (v.lv i).length (v.lv i) ∧ (v.lv i).length ≤ p.c i
theorem VC.below {w w' : World} {v : Ver} {p : Pl} (h : VC w v p) (hb : Below w.heap.size w w') : VC w' v p := fun i hi => ⟨Kd.C_below (h i hi).1 hb, (h i hi).2⟩
theorem ret_bool {a b : Bool} (h : a = b) : Ending.returned (.bool a) = .returned (.bool b) := by rw [h]
def boundsP (v : Ver) : Prop := 1 ≤ v.log ∧ v.log ≤ 99999999 ∧ 1 ≤ v.next ∧ v.next ≤ 99999999 ∧ v.seq < 72057594037927936
instance (v : Ver) : Decidable (boundsP v) := by unfold boundsP; infer_instance
set_option maxRecDepth 100000 in
theorem bounds_calls (w : World) (v : Ver) (p : Pl) : Calls Try.prog 117 #[.agg (vCs v p)] w fun e w' => e = .returned (.bool (decide (boundsP v))) ∧ Below w.heap.size w w' := by
  have HB := Aside0.mk ((Below.refl w.heap.size w).alloc (Nat.le_refl _) (.cells (vCs v p) 143))
  go_enter Try.func117, Try.ntmps117
  go_wp2_with fail
  all_goals
    go_ret
    exact ⟨ret_bool (by first | (symm; rw [decide_eq_false_iff_not]; unfold boundsP; omega) | (rw [decide_eq_decide]; unfold boundsP; omega)), HB.out⟩
def catV (v : Ver) : Nat → List S58
  | 0 => []
  | i + 1 => catV v i ++ v.lv i
def mayP (m : S58) : Prop := 1 ≤ m.f0 ∧ m.f0 < 99999999 ∧ 1 ≤ m.f1 ∧ m.f1 ≤ 262144 ∧ 1 ≤ m.f2 ∧ m.f2 ≤ 262144 ∧ ¬ m.f3.toList = [] ∧ m.f3.size ≤ 520 ∧ m.f4.size ≤ 520 ∧ Op.bytesLess m.f4.toList m.f3.toList = false ∧ 1 ≤ m.f5 ∧ m.f5 ≤ m.f6 ∧ m.f6 < 72057594037927936
instance (m : S58) : Decidable (mayP m) := by unfold mayP; infer_instance
def okP (v : Ver) (m : S58) : Prop := mayP m ∧ m.f0 < v.next ∧ m.f6 ≤ v.seq
instance (v : Ver) (m : S58) : Decidable (okP v m) := by unfold okP; infer_instance
def nums (L : List S58) : List Int := L.map (·.f0)
def PP (v : Ver) (L : List S58) : Prop := (∀ m, m ∈ L → okP v m) ∧ (nums L).Nodup
instance (v : Ver) (L : List S58) : Decidable (PP v L) := by unfold PP; infer_instance
def tabP (v : Ver) : Prop := (∀ i, i < 4 → (v.lv i).length ≤ 64) ∧ PP v (catV v 4)
instance (v : Ver) : Decidable (tabP v) := by unfold tabP; infer_instance
def gapP (i : Nat) (a b : S58) : Prop := if i = 0 then a.f0 < b.f0 else Op.bytesLess a.f4.toList b.f3.toList = true
instance (i : Nat) (a b : S58) : Decidable (gapP i a b) := by unfold gapP; infer_instance
def ordP (v : Ver) : Prop := ∀ i, i < 4 → ∀ k, k < (v.lv i).length - 1 → gapP i ((v.lv i).getD k z58) ((v.lv i).getD (k + 1) z58)
instance (v : Ver) : Decidable (ordP v) := by unfold ordP; infer_instance
def rightP (v : Ver) : Prop := boundsP v ∧ tabP v ∧ ordP v
instance (v : Ver) : Decidable (rightP v) := by unfold rightP; infer_instance
/-- The numbers are such as the machine has. -/
def VW (v : Ver) : Prop := ∀ i, i < 4 → ∀ m, m ∈ v.lv i → 0 ≤ m.f0 ∧ m.f0 ≤ 18446744073709551615
theorem PP.left {v : Ver} {L M : List S58} (h : PP v (L ++ M)) : PP v L := ⟨fun m hm => h.1 m (List.mem_append_left _ hm), by have h2 := h.2; unfold nums at *; rw [List.map_append, List.nodup_append] at h2; exact h2.1⟩
theorem catV_pre (v : Ver) {i : Nat} (hi : i < 4) (k : Nat) : ∃ M, catV v 4 = (catV v i ++ (v.lv i).take k) ++ M := by
  have h : ∀ j, ∃ M, catV v (i + 1 + j) = catV v (i + 1) ++ M := by
    intro j
    induction j with
    | zero => exact ⟨[], by simp⟩
    | succ j ih =>
      obtain ⟨M, hM⟩ := ih
      refine ⟨M ++ v.lv (i + 1 + j), ?_⟩
      show catV v (i + 1 + j) ++ v.lv (i + 1 + j) = _
      rw [hM, List.append_assoc]
  obtain ⟨M, hM⟩ := h (3 - i)
  rw [show i + 1 + (3 - i) = 4 by omega] at hM
  refine ⟨(v.lv i).drop k ++ M, ?_⟩
  rw [List.append_assoc (catV v i), ← List.append_assoc (List.take k _), List.take_append_drop, ← List.append_assoc]
  exact hM
theorem tabP_pre {v : Ver} (h : tabP v) {i : Nat} (hi : i < 4) (k : Nat) : PP v (catV v i ++ (v.lv i).take k) := by
  obtain ⟨M, hM⟩ := catV_pre v hi k
  have := h.2
  rw [hM] at this
  exact this.left
theorem take_snoc {α : Type} (l : List α) (z : α) {k : Nat} (hk : k < l.length) : l.take (k + 1) = l.take k ++ [l.getD k z] := by
  rw [List.take_add_one, List.getElem?_eq_getElem hk, List.getD_eq_getElem?_getD, List.getElem?_eq_getElem hk]
  rfl
theorem getD_mem {α : Type} (l : List α) (z : α) {k : Nat} (hk : k < l.length) : l.getD k z ∈ l := by
  rw [List.getD_eq_getElem?_getD, List.getElem?_eq_getElem hk]
  exact List.getElem_mem _
theorem PP.snoc {v : Ver} {L : List S58} {m : S58} (h : PP v L) (hn : m.f0 ∉ nums L) (ho : okP v m) : PP v (L ++ [m]) := by
  refine ⟨fun x hx => ?_, ?_⟩
  · rcases List.mem_append.mp hx with hx | hx
    · exact h.1 x hx
    · rw [List.mem_singleton.mp hx]; exact ho
  · have h2 := h.2
    unfold nums at *
    rw [List.map_append, List.nodup_append]
    refine ⟨h2, by simp, fun a ha b hb => ?_⟩
    simp at hb
    subst hb
    exact fun e => hn (e ▸ ha)
theorem PP.last {v : Ver} {L : List S58} {m : S58} (h : PP v (L ++ [m])) : m.f0 ∉ nums L ∧ okP v m := by
  refine ⟨fun hm => ?_, h.1 m (by simp)⟩
  have h2 := h.2
  unfold nums at *
  rw [List.map_append, List.nodup_append] at h2
  exact h2.2.2 _ hm m.f0 (by simp) rfl
theorem idx0 (s0 s1 s2 s3 : Value) (w : World) : (Instr.index 24 (.agg #[s0, s1, s2, s3]) (.int .i64 0)).run Try.prog w = .ok s0 w := by kernel_rfl
theorem idx1 (s0 s1 s2 s3 : Value) (w : World) : (Instr.index 24 (.agg #[s0, s1, s2, s3]) (.int .i64 1)).run Try.prog w = .ok s1 w := by kernel_rfl
theorem idx2 (s0 s1 s2 s3 : Value) (w : World) : (Instr.index 24 (.agg #[s0, s1, s2, s3]) (.int .i64 2)).run Try.prog w = .ok s2 w := by kernel_rfl
theorem idx3 (s0 s1 s2 s3 : Value) (w : World) : (Instr.index 24 (.agg #[s0, s1, s2, s3]) (.int .i64 3)).run Try.prog w = .ok s3 w := by kernel_rfl
theorem idx_lv (v : Ver) (p : Pl) (i : Nat) (hi : i < 4) (w : World) : (Instr.index 24 (.agg (lCs v p)) (.int .i64 (i : Int))).run Try.prog w = .ok (.slice (p.a i) (v.lv i).length (p.c i)) w := by
  rcases (by omega : i = 0 ∨ i = 1 ∨ i = 2 ∨ i = 3) with rfl | rfl | rfl | rfl
  · exact idx0 _ _ _ _ w
  · exact idx1 _ _ _ _ w
  · exact idx2 _ _ _ _ w
  · exact idx3 _ _ _ _ w
end
section
/- VB2: The order of the tables of a version, walked (version.order). Conditions: none. -/
set_option linter.unusedVariables false
set_option linter.unusedSimpArgs false
open Go.RowKit Go.Proofs.YtkjepfofiegcdaaW.PrintWords Go.Proofs.YtkjepfofiegcdaaW.PrintLast Go.Proofs.YtkjepfofiegcdaaW.PrintMore Go.Proofs.Ytkjepfofiegcdaa.PB14
set_option maxHeartbeats 4000000 in
set_option maxRecDepth 100000 in
theorem order_calls (w : World) (v : Ver) (p : Pl) (hC : VC w v p) : Calls Try.prog 119 #[.agg (vCs v p)] w fun e w' => e = .returned (.bool (decide (ordP v))) ∧ Below w.heap.size w w' := by
  have HC := Aside0.mk hC
  clear hC
  have HB := Aside0.mk ((Below.refl w.heap.size w).alloc (Nat.le_refl _) (.cells (vCs v p) 143))
  go_enter Try.func119, Try.ntmps119
  go_wp2_with fail
  go_loopg [3, 4, 5, 9] 4 (fun kq v3 v4 v5 v9 w' => ∃ i : Nat, v9 = .int .i64 (i : Int) ∧ Aside0 (kq + i = 4) ∧ Aside0 (Below w.heap.size w w') ∧ Aside0 (∀ j, j < i → ∀ k, k < (v.lv j).length - 1 → gapP j ((v.lv j).getD k z58) ((v.lv j).getD (k + 1) z58)))
  case atStart => exact ⟨0, rfl, ⟨by omega⟩, HB, ⟨fun j hj => by omega⟩⟩
  case round =>
    clear HB
    obtain ⟨i, rfl, HK, HB, HJ⟩ := hrel
    cases gk with
    | zero =>
      have ei : i = 4 := by have := HK.out; omega
      subst ei
      go_wp2_with fail
      go_ret
      exact ⟨ret_bool (by symm; rw [decide_eq_true_iff]; exact HJ.out), HB.out⟩
    | succ q =>
      have hi : i < 4 := by have := HK.out; omega
      have HI := Aside0.mk hi
      have d0 : decide ((i : Int) < 4) = true := decide_eq_true (by omega)
      have HC1 := Aside0.mk (Kd.C_below (HC.out i hi).1 HB.out)
      have HCc := Aside0.mk (HC.out i hi).2
      have hx : ∀ W : World, (Instr.index 24 (.agg #[.slice p.a0 v.l0.length p.c0, .slice p.a1 v.l1.length p.c1, .slice p.a2 v.l2.length p.c2, .slice p.a3 v.l3.length p.c3]) (.int .i64 (i : Int))).run Try.prog W = .ok (.slice (p.a i) (v.lv i).length (p.c i)) W := fun W => idx_lv v p i hi W
      obtain ⟨l, hl⟩ : ∃ l, v.lv i = l := ⟨_, rfl⟩
      rw [hl] at HC1 HCc hx
      have HE := Aside0.mk hl
      clear hl
      clear hi
      go_wp2_with fail
      go_loopg [5] l.length (fun kq v5 w' => ∃ x : Int, v5 = .int .i64 x ∧ 1 ≤ x ∧ Aside0 ((l.length : Int) + 1 ≤ x + (kq : Int)) ∧ Aside0 (Below w.heap.size w w') ∧ Aside0 (∀ k : Nat, (k : Int) + 1 < x → k < l.length - 1 → gapP i (l.getD k z58) (l.getD (k + 1) z58)))
      case atStart => exact ⟨1, rfl, by omega, ⟨by omega⟩, HB, ⟨fun k hk => by omega⟩⟩
      case round =>
        have HC0 := HC1
        clear HB HC1
        obtain ⟨x, rfl, hx1, HL, HB, HG⟩ := hrel
        by_cases hlt : x < (l.length : Int)
        · have HC1 := Aside0.mk (Kd.C_below (HC.out i HI.out).1 HB.out)
          rw [HE.out] at HC1
          have e0 : decide (x < (l.length : Int)) = true := decide_eq_true hlt
          have HLT := Aside0.mk hlt
          have HX1 := Aside0.mk hx1
          have HM := Aside0.mk (show l.length ≤ 9223372036854775807 from HC1.out.2.1)
          have p0 : 0 ≤ x := by omega
          obtain ⟨y, hy⟩ : ∃ y, y = x - 1 := ⟨_, rfl⟩
          have p1 : 0 ≤ y := by omega
          have p2 : y < (l.length : Int) := by omega
          obtain ⟨ad, ea, ha0, _, _, ha3, ha4, _, _⟩ := at_T58 HC1.out y p1 p2
          obtain ⟨ad', eb, hb0, _, _, hb3, hb4, _, _⟩ := at_T58 HC1.out x p0 hlt
          rw [ea] at eb
          cases eb
          obtain ⟨k, hk⟩ : ∃ k : Nat, x = (k : Int) + 1 := ⟨(x - 1).toNat, by omega⟩
          have EA := Aside0.mk (show rd_T58 l y = l.getD k z58 by unfold rd_T58; rw [hy, hk]; congr 1; omega)
          have EB := Aside0.mk (show rd_T58 l x = l.getD (k + 1) z58 by unfold rd_T58; rw [hk]; congr 1)
          generalize rd_T58 l y = a at *
          generalize rd_T58 l x = b at *
          have KX := Aside0.mk hk
          have ew : IntKind.i64.wrap (x - 1) = y := by have := HM.out; rw [IntKind.wrap_i64]; omega
          have ew2 : wrap64 (x - 1) = y := by have := HM.out; unfold wrap64; omega
          have ew1 : wrap64 (x + 1) = x + 1 := by have := HM.out; unfold wrap64; omega
          have hax : p.a i = some ad := ea
          rw [hax]
          have HAX := Aside0.mk hax
          clear hk hx1 ea hax hy
          by_cases hg : gapP i a b
          · have GG := Aside0.mk hg
            by_cases h0 : i = 0
            · have t0 : ((i : Int) == 0) = true := by rw [h0]; rfl
              have t1 : decide (0 < (i : Int)) = false := decide_eq_false (by omega)
              have t3 : decide (0 < i) = false := decide_eq_false (by omega)
              have t2 : decide (b.f0 ≤ a.f0) = false := by unfold gapP at hg; rw [if_pos h0] at hg; exact decide_eq_false (by omega)
              clear h0 hg
              go_wp2_with fail
              go_quiet (fail)
              go_wp2_with fail
              try rw [ew1]
              rw [← HAX.out]
              go_roundg (gk - 1)
              case measure => (have := HL.out; have := HLT.out; omega)
              case rel => exact ⟨x + 1, rfl, by have := HX1.out; omega, ⟨by have := HL.out; have := HLT.out; omega⟩, ⟨pw_below_drewN HB.out nq⟩, ⟨fun k' hk' hk2 => by
                by_cases e : (k' : Int) + 1 = x
                · have e2 : k' = k := by have := KX.out; omega
                  subst e2
                  rw [← EA.out, ← EB.out]; exact GG.out
                · exact HG.out k' (by omega) hk2⟩⟩
            · have t0 : ((i : Int) == 0) = false := by rw [beq_eq_false_iff_ne]; omega
              have t1 : decide (0 < (i : Int)) = true := decide_eq_true (by omega)
              have t3 : decide (0 < i) = true := decide_eq_true (by omega)
              have t2 : Op.bytesLess a.f4.toList b.f3.toList = true := by unfold gapP at hg; rw [if_neg h0] at hg; exact hg
              clear h0 hg
              go_wp2_with fail
              go_quiet (fail)
              go_wp2_with fail
              try rw [ew1]
              rw [← HAX.out]
              go_roundg (gk - 1)
              case measure => (have := HL.out; have := HLT.out; omega)
              case rel => exact ⟨x + 1, rfl, by have := HX1.out; omega, ⟨by have := HL.out; have := HLT.out; omega⟩, ⟨pw_below_drewN HB.out nq⟩, ⟨fun k' hk' hk2 => by
                by_cases e : (k' : Int) + 1 = x
                · have e2 : k' = k := by have := KX.out; omega
                  subst e2
                  rw [← EA.out, ← EB.out]; exact GG.out
                · exact HG.out k' (by omega) hk2⟩⟩
          · have GG := Aside0.mk hg
            by_cases h0 : i = 0
            · have t0 : ((i : Int) == 0) = true := by rw [h0]; rfl
              have t1 : decide (0 < (i : Int)) = false := decide_eq_false (by omega)
              have t3 : decide (0 < i) = false := decide_eq_false (by omega)
              have t2 : decide (b.f0 ≤ a.f0) = true := by unfold gapP at hg; rw [if_pos h0] at hg; exact decide_eq_true (by omega)
              clear h0 hg
              go_wp2_with fail
              go_quiet (fail)
              go_wp2_with fail
              go_ret
              exact ⟨ret_bool (by symm; rw [decide_eq_false_iff_not]; intro ho; exact GG.out (by rw [EA.out, EB.out]; have h1 := ho i HI.out k; rw [HE.out] at h1; exact h1 (by have := KX.out; have := HLT.out; omega))), pw_below_drewN HB.out nq⟩
            · have t0 : ((i : Int) == 0) = false := by rw [beq_eq_false_iff_ne]; omega
              have t1 : decide (0 < (i : Int)) = true := decide_eq_true (by omega)
              have t3 : decide (0 < i) = true := decide_eq_true (by omega)
              have t2 : Op.bytesLess a.f4.toList b.f3.toList = false := by unfold gapP at hg; rw [if_neg h0] at hg; simpa using hg
              clear h0 hg
              go_wp2_with fail
              go_quiet (fail)
              go_wp2_with fail
              go_ret
              exact ⟨ret_bool (by symm; rw [decide_eq_false_iff_not]; intro ho; exact GG.out (by rw [EA.out, EB.out]; have h1 := ho i HI.out k; rw [HE.out] at h1; exact h1 (by have := KX.out; have := HLT.out; omega))), pw_below_drewN HB.out nq⟩
        · have e0 : decide (x < (l.length : Int)) = false := decide_eq_false hlt
          have HLT := Aside0.mk hlt
          clear hlt
          go_wp2_with fail
          have ew : wrap64 ((i : Int) + 1) = ((i + 1 : Nat) : Int) := by have h1 := HI.out; unfold wrap64; omega
          try rw [ew]
          go_roundg q
          case measure => omega
          case rel => exact ⟨i + 1, rfl, ⟨by have := HK.out; omega⟩, HB, ⟨fun j hj k hk => by
            by_cases e : j = i
            · subst e; rw [HE.out] at hk ⊢; exact HG.out k (by have := HLT.out; omega) hk
            · exact HJ.out j (by omega) k hk⟩⟩
end
section
/- VB3: The order of bytes; edit.may walked. Conditions: none. -/
set_option linter.unusedVariables false
set_option linter.unusedSimpArgs false
open Go.RowKit Go.Proofs.YtkjepfofiegcdaaW.PrintWords Go.Proofs.YtkjepfofiegcdaaW.PrintLast Go.Proofs.YtkjepfofiegcdaaW.PrintMore Go.Proofs.Ytkjepfofiegcdaa.PB14
theorem less_irr : ∀ x : List UInt8, Op.bytesLess x x = false
  | [] => rfl
  | a :: x => by simp [Op.bytesLess, less_irr x]
theorem less_trans : ∀ {x y z : List UInt8}, Op.bytesLess x y = true → Op.bytesLess y z = true → Op.bytesLess x z = true
  | _, _, [], _, h => by cases ‹List UInt8› <;> simp [Op.bytesLess] at h
  | [], _, _ :: _, _, _ => by simp [Op.bytesLess]
  | a :: x, [], c :: z, h, _ => by simp [Op.bytesLess] at h
  | a :: x, b :: y, c :: z, h1, h2 => by
    simp only [Op.bytesLess, Bool.or_eq_true, Bool.and_eq_true, decide_eq_true_eq, beq_iff_eq] at h1 h2 ⊢
    rcases h1 with h1 | ⟨rfl, h1⟩
    · rcases h2 with h2 | ⟨rfl, h2⟩
      · exact .inl (UInt8.lt_trans h1 h2)
      · exact .inl h1
    · rcases h2 with h2 | ⟨rfl, h2⟩
      · exact .inl h2
      · exact .inr ⟨rfl, less_trans h1 h2⟩
theorem less_total : ∀ {x y : List UInt8}, Op.bytesLess x y = false → x ≠ y → Op.bytesLess y x = true
  | [], [], _, h => absurd rfl h
  | [], _ :: _, h, _ => by simp [Op.bytesLess] at h
  | _ :: _, [], _, _ => by simp [Op.bytesLess]
  | a :: x, b :: y, h, hne => by
    simp only [Op.bytesLess, Bool.or_eq_false_iff, Bool.and_eq_false_iff, decide_eq_false_iff_not, beq_eq_false_iff_ne] at h
    simp only [Op.bytesLess, Bool.or_eq_true, Bool.and_eq_true, decide_eq_true_eq, beq_iff_eq]
    obtain ⟨h1, h2⟩ := h
    by_cases c : a = b
    · subst c
      refine .inr ⟨rfl, less_total (h2.resolve_left (fun h => h rfl)) (fun e => hne (by rw [e]))⟩
    · left
      have := UInt8.lt_or_lt_of_ne c
      exact this.resolve_left h1
theorem le_less {a b : List UInt8} : (Op.bytesLess a b = true ∨ a = b) ↔ Op.bytesLess b a = false := by
  constructor
  · rintro (h | rfl)
    · cases hq : Op.bytesLess b a with
      | false => rfl
      | true => have := less_trans h hq; rw [less_irr] at this; cases this
    · exact less_irr _
  · intro h
    by_cases e : a = b
    · exact .inr e
    · exact .inl (less_total h (fun e2 => e e2.symm))
set_option maxHeartbeats 4000000 in
set_option maxRecDepth 100000 in
theorem may_calls (w : World) (m : S58) : Calls Try.prog 138 #[.agg #[.int .u64 m.f0, .int .i64 m.f1, .int .i64 m.f2, .string m.f3, .string m.f4, .int .u64 m.f5, .int .u64 m.f6]] w fun e w' => e = .returned (.bool (decide (mayP m))) ∧ Below w.heap.size w w' := by
  have HB := Aside0.mk ((Below.refl w.heap.size w).alloc (Nat.le_refl _) (.cells #[.int .u64 m.f0, .int .i64 m.f1, .int .i64 m.f2, .string m.f3, .string m.f4, .int .u64 m.f5, .int .u64 m.f6] 58))
  go_enter Try.func138, Try.ntmps138
  go_wp2_with fail
  all_goals
    go_ret
    refine ⟨ret_bool ?_, HB.out⟩
    first
      | (symm; rw [decide_eq_false_iff_not]; rintro ⟨a1, a2, a3, a4, a5, a6, a7, a8, a9, b1, b2, b3, b4⟩; first | omega | contradiction | (rw [← le_less] at b1; contradiction))
      | (rw [Bool.eq_iff_iff]; simp only [Bool.and_eq_true, Bool.or_eq_true, decide_eq_true_eq, beq_iff_eq, Bool.not_eq_true', List.isEmpty_eq_false_iff]; refine ⟨fun h => ⟨by assumption, by assumption, by assumption, by assumption, by assumption, by assumption, by assumption, by omega, by omega, le_less.mp (by assumption), by assumption, by assumption, h.2⟩, fun h => ⟨⟨by assumption, by assumption⟩, h.2.2.2.2.2.2.2.2.2.2.2.2⟩⟩)
end
section
/- VB4: A map of counts (of type map[uint64]int). Conditions: none. -/
set_option linter.unusedVariables false
set_option linter.unusedSimpArgs false
open Go.RowKit Go.Proofs.YtkjepfofiegcdaaW.PrintWords Go.Proofs.YtkjepfofiegcdaaW.PrintLast Go.Proofs.YtkjepfofiegcdaaW.PrintMore Go.Proofs.Ytkjepfofiegcdaa.PB14
open Go.WideMaps Go.Maps
theorem law22 : Keyed Try.prog 22 := int_keyed Try.underlying22
theorem zero3 (w : World) : (zeroValue 3).run Try.prog w = .ok (.int .i64 0) w := by kernel_rfl
/-- Block b is a map of at most n numbers; k reads as F k. -/
def Cnt (w : World) (b n : Nat) (F : Int → Int) : Prop := ∃ D : DataW Unit, IsMap D ∧ w.ownsMap Try.prog 22 (plainElem Try.prog 3) b n D ∧ ∀ k : Int, D.atKey (.int .u64 k) (.lit (.int .i64 0)) = .lit (.int .i64 (F k))
theorem Cnt.made (w : World) : Cnt (w.alloc (.map #[] 0)) w.heap.size 0 (fun _ => 0) := ⟨.map [], isMap_empty, World.ownsMap_made _ _ _ _, fun k => rfl⟩
theorem wf_u64 {k : Int} (h0 : 0 ≤ k) (h1 : k ≤ 18446744073709551615) : (Lit.int .u64 k).wf = true := by
  have a : IntKind.u64.min = 0 := by decide
  have b : IntKind.u64.max = 18446744073709551615 := by decide
  simp [Lit.wf, a, b]
  omega
theorem wf_i64 {k : Int} (h0 : -9223372036854775808 ≤ k) (h1 : k ≤ 9223372036854775807) : (Lit.int .i64 k).wf = true := by
  have a : IntKind.i64.min = -9223372036854775808 := by decide
  have b : IntKind.i64.max = 9223372036854775807 := by decide
  simp [Lit.wf, a, b]
  omega
section
variable {w w' : World} {b n : Nat} {F : Int → Int}
theorem Cnt.look (h : Cnt w b n F) {k : Int} (hk : (Lit.int .u64 k).wf = true) : (Instr.lookup 124 (.map (some b)) (.int .u64 k) false).run Try.prog w = .ok (.int .i64 (F k)) w := by
  obtain ⟨D, _, ho, hF⟩ := h
  obtain ⟨c, hrun, hat, _⟩ := ho.lookup_int law22 Try.underlying124 Try.underlying3 (zero3 w) (keyOf_int_mk Try.underlying22 hk)
  rw [hF] at hat
  have e := (Lit.int.inj (DataW.lit.inj hat)).2
  subst e
  exact hrun
theorem Cnt.kept {row : Option Nat} (h : Cnt w b n F) (hg : w.grownBy w' row) (hne : some b ≠ row) : Cnt w' b n F := by
  obtain ⟨D, h1, h2, h3⟩ := h
  exact ⟨D, h1, h2.kept hg hne, h3⟩
theorem Cnt.below (h : Cnt w b n F) (hb : Below w.heap.size w w') : Cnt w' b n F := h.kept (grown_of_below hb none) (by simp)
theorem Cnt.lt (h : Cnt w b n F) : b < w.heap.size := by
  obtain ⟨D, _, h2, _⟩ := h
  exact h2.lt
end
section
variable {ops : Array Oper} {rest : List Oper} {o : Oper} {a : Act} {Q : Exit → Act → World → Prop}
/-- m[k] = u. -/
theorem cnt_put (w : World) (hg : o.guard = none) (m x v : Operand) (hop : o.op = Op.mapUpdate 124 m x v) {b n : Nat} {F : Int → Int} (hm : a.eval m = .map (some b)) (h : Cnt w b n F) (hn : n < maxLen) (k u : Int) (hx : a.eval x = .int .u64 k) (hv : a.eval v = .int .i64 u) (hk : (Lit.int .u64 k).wf = true) (u0 : -9223372036854775808 ≤ u) (u1 : u ≤ 9223372036854775807)
    (hK : ∀ w', Cnt w' b (n + 1) (fun j => if j = k then u else F j) → w.grownBy w' (some b) → wpList Try.prog ops Q rest (a.put o.dst undef) w') : wpList Try.prog ops Q (o :: rest) a w := by
  obtain ⟨D, h1, h2, h3⟩ := h
  refine wpList_mapUpdate_own w hg m x v 124 hop 22 3 law22 Try.underlying124 _ b n D hm h2 hn _ _ _ hx hv (keyOf_int_mk Try.underlying22 hk) _ [] (plainElem_int Try.underlying3 (wf_i64 u0 u1)) ?_
  intro w' ho hgr
  refine hK w' ⟨_, h1.put _ _, ho, fun j => ?_⟩ hgr
  by_cases e : j = k
  · subst e
    show DataW.atKey _ _ _ = .lit (.int .i64 (if j = j then u else F j))
    rw [if_pos rfl]
    exact atKey_put_same h1 (show WideAt.IsKeyLit (.int .u64 j) from trivial) _ _
  · show DataW.atKey _ _ _ = .lit (.int .i64 (if j = k then u else F j))
    rw [if_neg e, atKey_put_other (fun hc => e (by injection hc)), h3]
end
end
section
/- VB5: The tables of a version, walked (version.tables). Conditions: none. -/
set_option linter.unusedVariables false
set_option linter.unusedSimpArgs false
open Go.RowKit Go.Proofs.YtkjepfofiegcdaaW.PrintWords Go.Proofs.YtkjepfofiegcdaaW.PrintLast Go.Proofs.YtkjepfofiegcdaaW.PrintMore Go.Proofs.Ytkjepfofiegcdaa.PB14
def cntF (L : List S58) : Int → Int := fun j => ((nums L).count j : Int)
theorem cnt_snoc (L : List S58) (m : S58) : (fun j : Int => if j = m.f0 then cntF L m.f0 + 1 else cntF L j) = cntF (L ++ [m]) := by
  funext j
  unfold cntF nums
  rw [List.map_append, List.count_append]
  by_cases e : j = m.f0
  · subst e
    rw [if_pos rfl]
    simp
  · rw [if_neg e]
    have : List.count j (List.map (fun x : S58 => x.f0) [m]) = 0 := by
      rw [List.count_eq_zero]
      simpa using e
    omega
theorem cntF_le (L : List S58) (k : Int) : 0 ≤ cntF L k ∧ cntF L k ≤ (L.length : Int) := by
  unfold cntF
  have h := List.count_le_length (a := k) (l := nums L)
  rw [nums, List.length_map] at h
  unfold nums
  omega
theorem cntF_pos (L : List S58) (k : Int) : 1 ≤ cntF L k ↔ k ∈ nums L := by
  unfold cntF
  rw [← List.count_pos_iff]
  omega
theorem cntF_zero {v : Ver} {L : List S58} (h : PP v L) : cntF L 0 = 0 := by
  unfold cntF
  have : (nums L).count 0 = 0 := by
    rw [List.count_eq_zero]
    intro hm
    obtain ⟨m, hm, e⟩ := List.mem_map.mp hm
    have := (h.1 m hm).1.1
    omega
  omega
theorem catV_len {v : Ver} {i : Nat} (h : ∀ j, j < i → (v.lv j).length ≤ 64) : (catV v i).length ≤ 64 * i := by
  induction i with
  | zero => simp [catV]
  | succ i ih =>
    have h1 := ih (fun j hj => h j (by omega))
    have h2 := h i (by omega)
    rw [catV, List.length_append]
    omega
set_option maxHeartbeats 8000000 in
set_option maxRecDepth 100000 in
theorem tables_calls (w : World) (v : Ver) (p : Pl) (hC : VC w v p) (hW : VW v) : Calls Try.prog 118 #[.agg (vCs v p)] w fun e w' => e = .returned (.bool (decide (tabP v))) ∧ Below w.heap.size w w' := by
  have HC := Aside0.mk hC
  have HW := Aside0.mk hW
  clear hC hW
  have HB := Aside0.mk ((Below.refl w.heap.size w).alloc (Nat.le_refl _) (.cells (vCs v p) 143))
  have BX := Aside0.mk (blk_new w (.cells (vCs v p) 143))
  have hmm := @run_makeMap Try.prog
  have CM := Aside0.mk (Cnt.made (w.alloc (.cells (vCs v p) 143)))
  have n0_ := Aside0.mk (below_alloc HB.out (.map #[] 0))
  have n1_ := Aside0.mk (blk_alloc BX.out (.map #[] 0))
  have NE := Aside0.mk (show w.heap.size ≠ (w.alloc (.cells (vCs v p) 143)).heap.size from Nat.ne_of_lt (blk_lt BX.out))
  have GM := Aside0.mk HB.out.size
  clear HB BX
  have HB := n0_
  have BX := n1_
  clear n0_ n1_
  go_enter Try.func118, Try.ntmps118
  go_wp2_with fail
  go_step3
  go_wp2_with fail
  have GB := Aside0.mk (Nat.le_refl w.heap.size)
  generalize hgm : (w.alloc (.cells (vCs v p) 143)).heap.size = gm at *
  have e7 : w.heap.size + 1 = gm := by rw [← hgm]; simp
  try rw [e7]
  clear hgm e7
  generalize (w.alloc (.cells (vCs v p) 143)).alloc (.map #[] 0) = w1 at *
  have b3 : w1.cell? ⟨w.heap.size, 3, none⟩ = some (.slice p.a0 v.l0.length p.c0) := (blk_cell BX.out 3).trans rfl
  have b4 : w1.cell? ⟨w.heap.size, 4, none⟩ = some (.slice p.a1 v.l1.length p.c1) := (blk_cell BX.out 4).trans rfl
  have b5 : w1.cell? ⟨w.heap.size, 5, none⟩ = some (.slice p.a2 v.l2.length p.c2) := (blk_cell BX.out 5).trans rfl
  have b6 : w1.cell? ⟨w.heap.size, 6, none⟩ = some (.slice p.a3 v.l3.length p.c3) := (blk_cell BX.out 6).trans rfl
  go_step3
  go_wp2_with fail
  clear b3 b4 b5 b6
  go_loopg [5, 7, 12] 4 (fun kq v5 v7 v12 w' => ∃ i : Nat, v12 = .int .i64 (i : Int) ∧ Aside0 (kq + i = 4) ∧ Aside0 (Below w.heap.size w w') ∧ Aside0 (w'.heap[w.heap.size]? = some (.cells (vCs v p) 143 (0, 0))) ∧ Aside0 (Cnt w' gm (catV v i).length (cntF (catV v i))) ∧ Aside0 (PP v (catV v i)) ∧ Aside0 (∀ j, j < i → (v.lv j).length ≤ 64))
  case atStart => exact ⟨0, rfl, ⟨by omega⟩, HB, BX, CM, ⟨⟨fun m hm => by simp [catV] at hm, by simp [catV, nums]⟩⟩, ⟨fun j hj => by omega⟩⟩
  case round =>
    clear HB BX CM
    obtain ⟨i, rfl, HK, HB, BX, CM, PC, H64⟩ := hrel
    cases gk with
    | zero =>
      have ei : i = 4 := by have := HK.out; omega
      subst ei
      have hl := CM.out.look (k := 0) (by decide)
      rw [cntF_zero PC.out] at hl
      go_wp2_with fail
      try rw [Exit.noGoto_ret]
      go_ret
      exact ⟨ret_bool (by symm; rw [decide_eq_true_iff]; exact ⟨H64.out, PC.out⟩), HB.out⟩
    | succ q =>
      have hi : i < 4 := by have := HK.out; omega
      have HI := Aside0.mk hi
      have d0 : decide ((i : Int) < 4) = true := decide_eq_true (by omega)
      have HCc := Aside0.mk (HC.out i hi).2
      have hx : ∀ W : World, (Instr.index 24 (.agg #[.slice p.a0 v.l0.length p.c0, .slice p.a1 v.l1.length p.c1, .slice p.a2 v.l2.length p.c2, .slice p.a3 v.l3.length p.c3]) (.int .i64 (i : Int))).run Try.prog W = .ok (.slice (p.a i) (v.lv i).length (p.c i)) W := fun W => idx_lv v p i hi W
      obtain ⟨l, hl⟩ : ∃ l, v.lv i = l := ⟨_, rfl⟩
      rw [hl] at HCc hx
      have HE := Aside0.mk hl
      clear hl hi
      by_cases h64 : (l.length : Int) > 64
      · have t0 : decide (64 < (l.length : Int)) = true := decide_eq_true h64
        have t1 : decide (64 < l.length) = true := decide_eq_true (by omega)
        have BAD := Aside0.mk (show ¬ tabP v from fun h => by have := h.1 i HI.out; rw [HE.out] at this; omega)
        clear h64
        go_wp2_with (first | (at_mapUpdate; refine cnt_put _ rfl _ _ _ rfl rfl CM.out (by have h1 := catV_len H64.out; have h2 := HI.out; unfold maxLen; omega) 0 2 rfl rfl (by decide) (by omega) (by omega) ?_; intro wz ho hg; have n0_ := Aside0.mk (pw_below_grown HB.out (some gm) HB.out.size hg (fun k hk => by cases hk; exact GM.out)); have hl0 := ho.look (k := 0) (by decide); clear hg ho) | fail)
        try rw [Exit.noGoto_ret]
        go_ret
        exact ⟨ret_bool (by symm; rw [decide_eq_false_iff_not]; exact BAD.out), n0_.out⟩
      · have t0 : decide (64 < (l.length : Int)) = false := decide_eq_false h64
        have t1 : decide (64 < l.length) = false := decide_eq_false (by omega)
        have L64 := Aside0.mk (show l.length ≤ 64 by omega)
        clear h64
        go_wp2_with fail
        go_loopg [7, 21] l.length (fun kq v7 v21 w' => ∃ k : Nat, v21 = .int .i64 (k : Int) ∧ Aside0 (kq + k = l.length) ∧ Aside0 (Below w.heap.size w w') ∧ Aside0 (w'.heap[w.heap.size]? = some (.cells (vCs v p) 143 (0, 0))) ∧ Aside0 (Cnt w' gm (catV v i ++ l.take k).length (cntF (catV v i ++ l.take k))) ∧ Aside0 (PP v (catV v i ++ l.take k)))
        case atStart => exact ⟨0, rfl, ⟨by omega⟩, HB, BX, by rw [List.take_zero, List.append_nil]; exact CM, by rw [List.take_zero, List.append_nil]; exact PC⟩
        case round =>
          clear HB BX CM PC
          obtain ⟨k, rfl, HKK, HB, BX, CM, PC⟩ := hrel
          cases gk with
          | zero =>
            have ek : k = l.length := by have := HKK.out; omega
            subst ek
            have d0 : decide ((l.length : Int) < (l.length : Int)) = false := by simp
            rw [List.take_length] at CM PC
            go_wp2_with fail
            have ew : wrap64 ((i : Int) + 1) = ((i + 1 : Nat) : Int) := by have h1 := HI.out; unfold wrap64; omega
            try rw [ew]
            go_roundg q
            case measure => omega
            case rel => exact ⟨i + 1, rfl, ⟨by have := HK.out; omega⟩, HB, BX, by rw [catV, HE.out]; exact CM, by rw [catV, HE.out]; exact PC, ⟨fun j hj => by
              by_cases e : j = i
              · subst e; rw [HE.out]; exact L64.out
              · exact H64.out j (by omega)⟩⟩
          | succ g =>
            have hk : k < l.length := by have := HKK.out; omega
            have HKL := Aside0.mk hk
            have d0 : decide ((k : Int) < (l.length : Int)) = true := decide_eq_true (by omega)
            have d1 : decide (k < l.length) = true := decide_eq_true hk
            have p0 : 0 ≤ (k : Int) := Int.natCast_nonneg _
            have p1 : (k : Int) < (l.length : Int) := by omega
            have HC1 := Aside0.mk (Kd.C_below (HC.out i HI.out).1 HB.out)
            rw [HE.out] at HC1
            obtain ⟨ad, ea, ha0, ha1, ha2, ha3, ha4, ha5, ha6⟩ := at_T58 HC1.out (k : Int) p0 p1
            rw [Int.toNat_natCast] at ha0 ha1 ha2 ha3 ha4 ha5 ha6
            have EM := Aside0.mk (show rd_T58 l (k : Int) = l.getD k z58 by unfold rd_T58; rw [Int.toNat_natCast])
            generalize rd_T58 l (k : Int) = m at *
            have MW := Aside0.mk (show 0 ≤ m.f0 ∧ m.f0 ≤ 18446744073709551615 from HW.out i HI.out m (by rw [HE.out, EM.out]; exact getD_mem l z58 hk))
            have TS := Aside0.mk (show l.take (k + 1) = l.take k ++ [m] by rw [EM.out]; exact take_snoc l z58 hk)
            obtain ⟨L, hL⟩ : ∃ L, L = catV v i ++ l.take k := ⟨_, rfl⟩
            rw [← hL] at CM PC
            have LE := Aside0.mk hL
            have LN := Aside0.mk (show L.length ≤ 320 by have h1 := catV_len H64.out; have h2 := HI.out; have h3 := L64.out; rw [hL, List.length_append, List.length_take]; omega)
            clear hL hk
            rw [ea]
            have HAX := Aside0.mk ea
            clear ea
            have hb1 := Aside0.mk ((Below.refl wr.heap.size wr).alloc (Nat.le_refl _) (.cells #[.int .u64 m.f0, .int .i64 m.f1, .int .i64 m.f2, .string m.f3, .string m.f4, .int .u64 m.f5, .int .u64 m.f6] 58))
            have HB1 := Aside0.mk (below_step HB.out hb1.out)
            have CM1 := Aside0.mk (CM.out.below hb1.out)
            have BM := Aside0.mk (blk_new wr (.cells #[.int .u64 m.f0, .int .i64 m.f1, .int .i64 m.f2, .string m.f3, .string m.f4, .int .u64 m.f5, .int .u64 m.f6] 58))
            have BX1 := Aside0.mk (blk_below BX.out hb1.out)
            have NM := Aside0.mk (show some wr.heap.size ≠ some gm from fun e => by injection e with e; have := CM.out.lt; omega)
            have NB := Aside0.mk (show some w.heap.size ≠ some gm from fun e => by injection e with e; exact NE.out e)
            have hlk := CM1.out.look (k := m.f0) (wf_u64 MW.out.1 MW.out.2)
            have c0 := (cntF_le L m.f0).1
            have c1 : cntF L m.f0 ≤ 320 := by have := (cntF_le L m.f0).2; have := LN.out; omega
            have CE := Aside0.mk (cnt_snoc L m)
            have CP := Aside0.mk (cntF_pos L m.f0)
            obtain ⟨cc, hcc⟩ : ∃ c, cntF L m.f0 = c := ⟨_, rfl⟩
            rw [hcc] at hlk c0 c1 CE CP
            have ew1 : wrap64 (cc + 1) = cc + 1 := by unfold wrap64; omega
            have ew2 : IntKind.i64.wrap (cc + 1) = cc + 1 := by rw [IntKind.wrap_i64]; omega
            have F2 := Aside0.mk (show cntF (L ++ [m]) m.f0 = cc + 1 by rw [← CE.out]; exact if_pos rfl)
            clear hcc hb1
            by_cases hin : 1 ≤ cc
            · have t3 : decide (1 < cc + 1) = true := decide_eq_true (by omega)
              have t4 : decide (0 < cc) = true := decide_eq_true (by omega)
              have BAD := Aside0.mk (show ¬ tabP v from fun h => by have h1 := tabP_pre h HI.out (k + 1); rw [HE.out, TS.out, ← List.append_assoc, ← LE.out] at h1; exact h1.last.1 (CP.out.mp hin))
              have TOK := Aside0.mk trivial
              clear hin
              go_wp2_with (first | (at_mapUpdate; refine cnt_put _ rfl _ _ _ rfl rfl CM1.out (by have := LN.out; unfold maxLen; omega) m.f0 (cc + 1) rfl rfl (wf_u64 MW.out.1 MW.out.2) (by omega) (by omega) ?_; intro w2 ho hg; rw [CE.out] at ho; have HB2 := Aside0.mk (pw_below_grown HB1.out (some gm) HB1.out.size hg (fun k hk => by cases hk; exact GM.out)); have BM2 := Aside0.mk (blk_grown BM.out hg NM.out); have BX2 := Aside0.mk (blk_grown BX1.out hg NB.out); have CM2 := Aside0.mk ho; clear hg ho hlk CM1 HB1 BM BX1; have m0 : w2.cell? ⟨wr.heap.size, 0, none⟩ = some (.int .u64 m.f0) := (blk_cell BM2.out 0).trans rfl; have m1 : w2.cell? ⟨wr.heap.size, 1, none⟩ = some (.int .i64 m.f1) := (blk_cell BM2.out 1).trans rfl; have m2 : w2.cell? ⟨wr.heap.size, 2, none⟩ = some (.int .i64 m.f2) := (blk_cell BM2.out 2).trans rfl; have m3 : w2.cell? ⟨wr.heap.size, 3, none⟩ = some (.string m.f3) := (blk_cell BM2.out 3).trans rfl; have m4 : w2.cell? ⟨wr.heap.size, 4, none⟩ = some (.string m.f4) := (blk_cell BM2.out 4).trans rfl; have m5 : w2.cell? ⟨wr.heap.size, 5, none⟩ = some (.int .u64 m.f5) := (blk_cell BM2.out 5).trans rfl; have m6 : w2.cell? ⟨wr.heap.size, 6, none⟩ = some (.int .u64 m.f6) := (blk_cell BM2.out 6).trans rfl; have v1 : w2.cell? ⟨w.heap.size, 1, none⟩ = some (.int .u64 v.next) := (blk_cell BX2.out 1).trans rfl; have v2 : w2.cell? ⟨w.heap.size, 2, none⟩ = some (.int .u64 v.seq) := (blk_cell BX2.out 2).trans rfl; have hlk2 : (Instr.lookup 124 (.map (some gm)) (.int .u64 m.f0) false).run Try.prog w2 = .ok (.int .i64 (cc + 1)) w2 := by have h1 := CM2.out.look (k := m.f0) (wf_u64 MW.out.1 MW.out.2); rw [F2.out] at h1; exact h1) | (at_mapUpdate; refine cnt_put _ rfl _ _ _ rfl rfl CM2.out (by have := LN.out; unfold maxLen; omega) 0 2 rfl rfl (by decide) (by omega) (by omega) ?_; intro wz ho hg; have n0_ := Aside0.mk (pw_below_grown HB2.out (some gm) HB2.out.size hg (fun k hk => by cases hk; exact GM.out)); have hl0 := ho.look (k := 0) (by decide); clear hg ho) | fail)
              try rw [Exit.noGoto_ret]
              go_ret
              exact ⟨ret_bool (by symm; rw [decide_eq_false_iff_not]; exact BAD.out), n0_.out⟩
            · have t3 : decide (1 < cc + 1) = false := decide_eq_false (by omega)
              have t4 : decide (0 < cc) = false := decide_eq_false (by omega)
              have NIN := Aside0.mk (show m.f0 ∉ nums L from fun h => hin (CP.out.mpr h))
              have LAST := Aside0.mk (show tabP v → okP v m from fun h => by have h1 := tabP_pre h HI.out (k + 1); rw [HE.out, TS.out, ← List.append_assoc, ← LE.out] at h1; exact h1.last.2)
              clear hin
              go_wp2_with (first | (at_mapUpdate; refine cnt_put _ rfl _ _ _ rfl rfl CM1.out (by have := LN.out; unfold maxLen; omega) m.f0 (cc + 1) rfl rfl (wf_u64 MW.out.1 MW.out.2) (by omega) (by omega) ?_; intro w2 ho hg; rw [CE.out] at ho; have HB2 := Aside0.mk (pw_below_grown HB1.out (some gm) HB1.out.size hg (fun k hk => by cases hk; exact GM.out)); have BM2 := Aside0.mk (blk_grown BM.out hg NM.out); have BX2 := Aside0.mk (blk_grown BX1.out hg NB.out); have CM2 := Aside0.mk ho; clear hg ho hlk CM1 HB1 BM BX1; have m0 : w2.cell? ⟨wr.heap.size, 0, none⟩ = some (.int .u64 m.f0) := (blk_cell BM2.out 0).trans rfl; have m1 : w2.cell? ⟨wr.heap.size, 1, none⟩ = some (.int .i64 m.f1) := (blk_cell BM2.out 1).trans rfl; have m2 : w2.cell? ⟨wr.heap.size, 2, none⟩ = some (.int .i64 m.f2) := (blk_cell BM2.out 2).trans rfl; have m3 : w2.cell? ⟨wr.heap.size, 3, none⟩ = some (.string m.f3) := (blk_cell BM2.out 3).trans rfl; have m4 : w2.cell? ⟨wr.heap.size, 4, none⟩ = some (.string m.f4) := (blk_cell BM2.out 4).trans rfl; have m5 : w2.cell? ⟨wr.heap.size, 5, none⟩ = some (.int .u64 m.f5) := (blk_cell BM2.out 5).trans rfl; have m6 : w2.cell? ⟨wr.heap.size, 6, none⟩ = some (.int .u64 m.f6) := (blk_cell BM2.out 6).trans rfl; have v1 : w2.cell? ⟨w.heap.size, 1, none⟩ = some (.int .u64 v.next) := (blk_cell BX2.out 1).trans rfl; have v2 : w2.cell? ⟨w.heap.size, 2, none⟩ = some (.int .u64 v.seq) := (blk_cell BX2.out 2).trans rfl; have hlk2 : (Instr.lookup 124 (.map (some gm)) (.int .u64 m.f0) false).run Try.prog w2 = .ok (.int .i64 (cc + 1)) w2 := by have h1 := CM2.out.look (k := m.f0) (wf_u64 MW.out.1 MW.out.2); rw [F2.out] at h1; exact h1) | fail)
              refine (may_calls _ m).mono ?_
              rintro e w3 ⟨rfl, hb⟩
              have HB3 := Aside0.mk (below_step HB2.out hb)
              have BM3 := Aside0.mk (blk_below BM2.out hb)
              have BX3 := Aside0.mk (blk_below BX2.out hb)
              have CM3 := Aside0.mk (CM2.out.below hb)
              clear hb HB2 BM2 BX2 CM2 hlk2 m0 m1 m2 m3 m4 m5 m6 v1 v2
              have m0 : w3.cell? ⟨wr.heap.size, 0, none⟩ = some (.int .u64 m.f0) := (blk_cell BM3.out 0).trans rfl
              have m6 : w3.cell? ⟨wr.heap.size, 6, none⟩ = some (.int .u64 m.f6) := (blk_cell BM3.out 6).trans rfl
              have v1 : w3.cell? ⟨w.heap.size, 1, none⟩ = some (.int .u64 v.next) := (blk_cell BX3.out 1).trans rfl
              have v2 : w3.cell? ⟨w.heap.size, 2, none⟩ = some (.int .u64 v.seq) := (blk_cell BX3.out 2).trans rfl
              by_cases hm : mayP m
              · rw [decide_eq_true hm]
                have OKM := Aside0.mk hm
                clear hm
                by_cases hn : m.f0 < v.next
                · have t5 : decide (v.next ≤ m.f0) = false := decide_eq_false (by omega)
                  have OKN := Aside0.mk hn
                  clear hn
                  by_cases hs : m.f6 ≤ v.seq
                  · have t6 : decide (v.seq < m.f6) = false := decide_eq_false (by omega)
                    have OKS := Aside0.mk hs
                    clear hs
                    go_wp2_with fail
                    have ew : wrap64 ((k : Int) + 1) = ((k + 1 : Nat) : Int) := by have h1 := HKL.out; have h2 := L64.out; unfold wrap64; omega
                    try rw [ew]
                    rw [← HAX.out]
                    go_roundg g
                    case measure => omega
                    case rel => exact ⟨k + 1, rfl, ⟨by have := HKK.out; omega⟩, HB3, BX3, by rw [TS.out, ← List.append_assoc, ← LE.out, List.length_append]; exact CM3, by rw [TS.out, ← List.append_assoc, ← LE.out]; exact ⟨PC.out.snoc NIN.out ⟨OKM.out, OKN.out, OKS.out⟩⟩⟩
                  · have t6 : decide (v.seq < m.f6) = true := decide_eq_true (by omega)
                    have BAD := Aside0.mk (show ¬ tabP v from fun h => hs (LAST.out h).2.2)
                    clear hs
                    go_wp2_with (first | (at_mapUpdate; refine cnt_put _ rfl _ _ _ rfl rfl CM3.out (by have := LN.out; unfold maxLen; omega) 0 2 rfl rfl (by decide) (by omega) (by omega) ?_; intro wz ho hg; have n0_ := Aside0.mk (pw_below_grown HB3.out (some gm) HB3.out.size hg (fun k hk => by cases hk; exact GM.out)); have hl0 := ho.look (k := 0) (by decide); clear hg ho) | fail)
                    try rw [Exit.noGoto_ret]
                    go_ret
                    exact ⟨ret_bool (by symm; rw [decide_eq_false_iff_not]; exact BAD.out), n0_.out⟩
                · have t5 : decide (v.next ≤ m.f0) = true := decide_eq_true (by omega)
                  have BAD := Aside0.mk (show ¬ tabP v from fun h => hn (LAST.out h).2.1)
                  clear hn
                  go_wp2_with (first | (at_mapUpdate; refine cnt_put _ rfl _ _ _ rfl rfl CM3.out (by have := LN.out; unfold maxLen; omega) 0 2 rfl rfl (by decide) (by omega) (by omega) ?_; intro wz ho hg; have n0_ := Aside0.mk (pw_below_grown HB3.out (some gm) HB3.out.size hg (fun k hk => by cases hk; exact GM.out)); have hl0 := ho.look (k := 0) (by decide); clear hg ho) | fail)
                  try rw [Exit.noGoto_ret]
                  go_ret
                  exact ⟨ret_bool (by symm; rw [decide_eq_false_iff_not]; exact BAD.out), n0_.out⟩
              · rw [decide_eq_false hm]
                have BAD := Aside0.mk (show ¬ tabP v from fun h => hm (LAST.out h).1)
                clear hm
                go_wp2_with (first | (at_mapUpdate; refine cnt_put _ rfl _ _ _ rfl rfl CM3.out (by have := LN.out; unfold maxLen; omega) 0 2 rfl rfl (by decide) (by omega) (by omega) ?_; intro wz ho hg; have n0_ := Aside0.mk (pw_below_grown HB3.out (some gm) HB3.out.size hg (fun k hk => by cases hk; exact GM.out)); have hl0 := ho.look (k := 0) (by decide); clear hg ho) | fail)
                try rw [Exit.noGoto_ret]
                go_ret
                exact ⟨ret_bool (by symm; rw [decide_eq_false_iff_not]; exact BAD.out), n0_.out⟩
end
section
/- VB6: edit.Right, walked. Conditions: none. -/
set_option linter.unusedVariables false
set_option linter.unusedSimpArgs false
open Go.RowKit Go.Proofs.YtkjepfofiegcdaaW.PrintWords Go.Proofs.YtkjepfofiegcdaaW.PrintLast Go.Proofs.YtkjepfofiegcdaaW.PrintMore Go.Proofs.Ytkjepfofiegcdaa.PB14
def partP (v : Ver) : Nat → Prop
  | 0 => boundsP v
  | 1 => tabP v
  | _ => ordP v
instance (v : Ver) (i : Nat) : Decidable (partP v i) := by unfold partP; split <;> infer_instance
theorem partP_all {v : Ver} (h : ∀ i, i < 3 → partP v i) : rightP v := ⟨h 0 (by omega), h 1 (by omega), h 2 (by omega)⟩
theorem partP_of {v : Ver} (h : rightP v) : ∀ i, i < 3 → partP v i := fun i hi => by
  rcases (by omega : i = 0 ∨ i = 1 ∨ i = 2) with rfl | rfl | rfl
  · exact h.1
  · exact h.2.1
  · exact h.2.2
set_option maxHeartbeats 4000000 in
set_option maxRecDepth 100000 in
theorem right_calls (w : World) (v : Ver) (p : Pl) (hC : VC w v p) (hW : VW v) : Calls Try.prog 62 #[.agg (vCs v p)] w fun e w' => e = .returned (.bool (decide (rightP v))) ∧ Below w.heap.size w w' := by
  have HC := Aside0.mk hC
  have HW := Aside0.mk hW
  clear hC hW
  have HB := Aside0.mk (below_alloc ((Below.refl w.heap.size w).alloc (Nat.le_refl _) (.cells (vCs v p) 26)) (.cells #[.func (.func 117) #[] #[], .func (.func 118) #[] #[], .func (.func 119) #[] #[]] 141))
  have BX := Aside0.mk (blk_alloc (blk_new w (.cells (vCs v p) 26)) (.cells #[.func (.func 117) #[] #[], .func (.func 118) #[] #[], .func (.func 119) #[] #[]] 141))
  have BF := Aside0.mk (blk_new (w.alloc (.cells (vCs v p) 26)) (.cells #[.func (.func 117) #[] #[], .func (.func 118) #[] #[], .func (.func 119) #[] #[]] 141))
  go_enter Try.func62, Try.ntmps62
  go_wp2_with fail
  generalize hgf : (w.alloc (.cells (vCs v p) 26)).heap.size = gf at *
  have e7 : w.heap.size + 1 = gf := by rw [← hgf]; simp
  try rw [e7]
  clear hgf e7
  generalize (w.alloc (.cells (vCs v p) 26)).alloc (.cells #[.func (.func 117) #[] #[], .func (.func 118) #[] #[], .func (.func 119) #[] #[]] 141) = w1 at *
  go_loopg [4, 7] 3 (fun kq v4 v7 w' => ∃ i : Nat, v7 = .int .i64 (i : Int) ∧ Aside0 (kq + i = 3) ∧ Aside0 (Below w.heap.size w w') ∧ Aside0 (w'.heap[w.heap.size]? = some (.cells (vCs v p) 26 (0, 0))) ∧ Aside0 (w'.heap[gf]? = some (.cells #[.func (.func 117) #[] #[], .func (.func 118) #[] #[], .func (.func 119) #[] #[]] 141 (0, 0))) ∧ Aside0 (∀ j, j < i → partP v j))
  case atStart => exact ⟨0, rfl, ⟨by omega⟩, HB, BX, BF, ⟨fun j hj => by omega⟩⟩
  case round =>
    clear HB BX BF
    obtain ⟨i, rfl, HK, HB, BX, BF, HP⟩ := hrel
    have HI := Aside0.mk (show i ≤ 3 by have := HK.out; omega)
    cases gk with
    | zero =>
      have ei : i = 3 := by have := HK.out; omega
      subst ei
      go_wp2_with fail
      go_ret
      exact ⟨ret_bool (by symm; rw [decide_eq_true_iff]; exact partP_all HP.out), HB.out⟩
    | succ q =>
      have d0 : decide ((i : Int) < 3) = true := decide_eq_true (by have := HK.out; omega)
      have i0 : 0 ≤ (i : Int) := Int.natCast_nonneg _
      have i1 : (i : Int) < 3 := by have := HK.out; omega
      have b0 : wr.cell? ⟨w.heap.size, 0, none⟩ = some (.int .u64 v.log) := (blk_cell BX.out 0).trans rfl
      have b1 : wr.cell? ⟨w.heap.size, 1, none⟩ = some (.int .u64 v.next) := (blk_cell BX.out 1).trans rfl
      have b2 : wr.cell? ⟨w.heap.size, 2, none⟩ = some (.int .u64 v.seq) := (blk_cell BX.out 2).trans rfl
      have b3 : wr.cell? ⟨w.heap.size, 3, none⟩ = some (.slice p.a0 v.l0.length p.c0) := (blk_cell BX.out 3).trans rfl
      have b4 : wr.cell? ⟨w.heap.size, 4, none⟩ = some (.slice p.a1 v.l1.length p.c1) := (blk_cell BX.out 4).trans rfl
      have b5 : wr.cell? ⟨w.heap.size, 5, none⟩ = some (.slice p.a2 v.l2.length p.c2) := (blk_cell BX.out 5).trans rfl
      have b6 : wr.cell? ⟨w.heap.size, 6, none⟩ = some (.slice p.a3 v.l3.length p.c3) := (blk_cell BX.out 6).trans rfl
      have hi3 := HK.out
      rcases (by omega : i = 0 ∨ i = 1 ∨ i = 2) with rfl | rfl | rfl
      · have f0 : wr.cell? ⟨gf, 0, none⟩ = some (.func (.func 117) #[] #[]) := (blk_cell BF.out 0).trans rfl
        go_wp2_with fail
        refine (bounds_calls _ v p).mono ?_
        rintro e w3 ⟨rfl, hb⟩
        have HB3 := Aside0.mk (below_step HB.out hb)
        have BX3 := Aside0.mk (blk_below BX.out hb)
        have BF3 := Aside0.mk (blk_below BF.out hb)
        clear hb HB BX BF b0 b1 b2 b3 b4 b5 b6 f0
        by_cases hp : boundsP v
        · rw [decide_eq_true hp]
          have OKP := Aside0.mk hp
          clear hp
          go_wp2_with fail
          go_roundg q
          case measure => omega
          case rel => exact ⟨1, rfl, ⟨by have := HK.out; omega⟩, HB3, BX3, BF3, ⟨fun j hj => by
            by_cases e : j = 0
            · subst e; exact OKP.out
            · exact HP.out j (by omega)⟩⟩
        · rw [decide_eq_false hp]
          have BAD := Aside0.mk (show ¬ rightP v from fun h => hp (partP_of h 0 (by omega)))
          clear hp
          go_wp2_with fail
          go_ret
          exact ⟨ret_bool (by symm; rw [decide_eq_false_iff_not]; exact BAD.out), HB3.out⟩
      · have f0 : wr.cell? ⟨gf, 1, none⟩ = some (.func (.func 118) #[] #[]) := (blk_cell BF.out 1).trans rfl
        go_wp2_with fail
        refine (tables_calls _ v p (HC.out.below HB.out) HW.out).mono ?_
        rintro e w3 ⟨rfl, hb⟩
        have HB3 := Aside0.mk (below_step HB.out hb)
        have BX3 := Aside0.mk (blk_below BX.out hb)
        have BF3 := Aside0.mk (blk_below BF.out hb)
        clear hb HB BX BF b0 b1 b2 b3 b4 b5 b6 f0
        by_cases hp : tabP v
        · rw [decide_eq_true hp]
          have OKP := Aside0.mk hp
          clear hp
          go_wp2_with fail
          go_roundg q
          case measure => omega
          case rel => exact ⟨2, rfl, ⟨by have := HK.out; omega⟩, HB3, BX3, BF3, ⟨fun j hj => by
            by_cases e : j = 1
            · subst e; exact OKP.out
            · exact HP.out j (by omega)⟩⟩
        · rw [decide_eq_false hp]
          have BAD := Aside0.mk (show ¬ rightP v from fun h => hp (partP_of h 1 (by omega)))
          clear hp
          go_wp2_with fail
          go_ret
          exact ⟨ret_bool (by symm; rw [decide_eq_false_iff_not]; exact BAD.out), HB3.out⟩
      · have f0 : wr.cell? ⟨gf, 2, none⟩ = some (.func (.func 119) #[] #[]) := (blk_cell BF.out 2).trans rfl
        go_wp2_with fail
        refine (order_calls _ v p (HC.out.below HB.out)).mono ?_
        rintro e w3 ⟨rfl, hb⟩
        have HB3 := Aside0.mk (below_step HB.out hb)
        have BX3 := Aside0.mk (blk_below BX.out hb)
        have BF3 := Aside0.mk (blk_below BF.out hb)
        clear hb HB BX BF b0 b1 b2 b3 b4 b5 b6 f0
        by_cases hp : ordP v
        · rw [decide_eq_true hp]
          have OKP := Aside0.mk hp
          clear hp
          go_wp2_with fail
          go_roundg q
          case measure => omega
          case rel => exact ⟨3, rfl, ⟨by have := HK.out; omega⟩, HB3, BX3, BF3, ⟨fun j hj => by
            by_cases e : j = 2
            · subst e; exact OKP.out
            · exact HP.out j (by omega)⟩⟩
        · rw [decide_eq_false hp]
          have BAD := Aside0.mk (show ¬ rightP v from fun h => hp (partP_of h 2 (by omega)))
          clear hp
          go_wp2_with fail
          go_ret
          exact ⟨ret_bool (by symm; rw [decide_eq_false_iff_not]; exact BAD.out), HB3.out⟩
end
section
/- VB7: Options, levels, sizes, whether two tables overlap: walked. Conditions: none. -/
set_option linter.unusedVariables false
set_option linter.unusedSimpArgs false
open Go.RowKit Go.Proofs.YtkjepfofiegcdaaW.PrintWords Go.Proofs.YtkjepfofiegcdaaW.PrintLast Go.Proofs.YtkjepfofiegcdaaW.PrintMore Go.Proofs.Ytkjepfofiegcdaa.PB14
abbrev mCs (m : S58) : Array Value := #[.int .u64 m.f0, .int .i64 m.f1, .int .i64 m.f2, .string m.f3, .string m.f4, .int .u64 m.f5, .int .u64 m.f6]
def overB (a b : S58) : Bool := !Op.bytesLess a.f4.toList b.f3.toList && !Op.bytesLess b.f4.toList a.f3.toList
def optP (many base times : Int) : Prop := 1 ≤ many ∧ many ≤ 64 ∧ 1 ≤ base ∧ base ≤ 1073741824 ∧ 1 ≤ times ∧ times ≤ 1000
instance (a b c : Int) : Decidable (optP a b c) := by unfold optP; infer_instance
set_option maxRecDepth 100000 in
theorem level_calls (w : World) (n : Int) : Calls Try.prog 121 #[.int .i64 n] w fun e w' => e = .returned (.bool (decide (0 ≤ n ∧ n < 4))) ∧ Below w.heap.size w w' := by
  by_cases h1 : 0 ≤ n
  · by_cases h2 : n < 4
    · rw [decide_eq_true (And.intro h1 h2)]
      go_enter Try.func121, Try.ntmps121
      go_wp2_with fail
      go_ret
      exact ⟨rfl, Below.refl _ _⟩
    · rw [decide_eq_false (fun h => h2 h.2)]
      go_enter Try.func121, Try.ntmps121
      go_wp2_with fail
      go_ret
      exact ⟨rfl, Below.refl _ _⟩
  · rw [decide_eq_false (fun h => h1 h.1)]
    go_enter Try.func121, Try.ntmps121
    go_wp2_with fail
    go_ret
    exact ⟨rfl, Below.refl _ _⟩
end
section
/- VB8: The size of a level, walked. Conditions: none. -/
set_option linter.unusedVariables false
set_option linter.unusedSimpArgs false
open Go.RowKit Go.Proofs.YtkjepfofiegcdaaW.PrintWords Go.Proofs.YtkjepfofiegcdaaW.PrintLast Go.Proofs.YtkjepfofiegcdaaW.PrintMore Go.Proofs.Ytkjepfofiegcdaa.PB14
theorem vcell {w : World} {g : Nat} {v : Ver} {p : Pl} {t : Nat} (h : w.heap[g]? = some (.cells (vCs v p) t (0, 0))) (i : Nat) (hi : i < 4) : w.cell? ⟨g, 3 + i, none⟩ = some (.slice (p.a i) (v.lv i).length (p.c i)) := by
  rcases (by omega : i = 0 ∨ i = 1 ∨ i = 2 ∨ i = 3) with rfl | rfl | rfl | rfl
  · exact (blk_cell h 3).trans rfl
  · exact (blk_cell h 4).trans rfl
  · exact (blk_cell h 5).trans rfl
  · exact (blk_cell h 6).trans rfl
end
section
/- VB9: slices.Clone at tables, walked. Conditions: at most 10 to the 9th rows. -/
set_option linter.unusedVariables false
set_option linter.unusedSimpArgs false
open Go.RowKit Go.Proofs.YtkjepfofiegcdaaW.PrintWords Go.Proofs.YtkjepfofiegcdaaW.PrintLast Go.Proofs.YtkjepfofiegcdaaW.PrintMore Go.Proofs.Ytkjepfofiegcdaa.PB14
set_option maxHeartbeats 4000000 in
set_option maxRecDepth 100000 in
theorem clone_calls (w : World) (A : Option Addr) (c : Nat) (xs : List S58) (hC : k58.C w A xs.length xs) (hc : xs.length ≤ c) (hl : xs.length ≤ 1000000000) : Calls Try.prog 101 #[.slice A xs.length c] w fun e w' => ∃ v, e = .returned v ∧ Kd.R k58 58 w' w.heap.size (fun _ => True) v xs ∧ Below w.heap.size w w' := by
  have HC := Aside0.mk hC
  have HL := Aside0.mk hl
  have HCc := Aside0.mk hc
  clear hC hl hc
  have HB := Aside0.mk (Below.refl w.heap.size w)
  have hnil := Lib.run_eql_slice_nil (P := Try.prog) w 23 58 A xs.length c 0 0 Try.underlying23
  cases A with
  | none =>
    have h0 : xs = [] := by
      rcases Nat.eq_zero_or_pos xs.length with h | h
      · exact List.eq_nil_of_length_eq_zero h
      · obtain ⟨ad, hh, _⟩ := HC.out.2.2 h
        cases hh
    subst h0
    have hnil0 := Lib.run_eql_slice_nil (P := Try.prog) w 23 58 none 0 c 0 0 Try.underlying23
    go_enter Try.func101, Try.ntmps101
    go_wp2_with fail
    go_ret
    exact ⟨_, rfl, Kd.R_nil _ _ _ _ _, Below.refl _ _⟩
  | some ad =>
    go_enter Try.func101, Try.ntmps101
    go_wp2_with (first | ((with_reducible refine gate_dst (N := 5) rfl ?_); refine Kd.R_lit k58 (w0 := w) w.heap.size 58 ?hgd (N := 5) ?hd (xs := ([] : List S58)) (inner := []) (ok := fun _ => True) (okp := fun _ => True) ?hr ?hp (fun _ hk => hk) trivial HB.out (Nat.le_refl _) (by simp) ?_; (case hd => rfl); (case hgd => rfl); (case hr => first | (go_simp; done) | (go_simp; rfl)); (case hp => exact (Reps.none _ _)); intro v5 w5 ho hb hg_ hnew_; have HO := Aside0.mk ho; have n0_ := Aside0.mk (Kd.C_below HC.out hb); clear HB HC hg_ hnew_; have HB := Aside0.mk hb; have HC := n0_; clear ho hb n0_) | ((with_reducible refine gate_builtin (b := .append) (xs := #[.tmp 5, .tmp 6]) rfl ?_); at_builtin; refine Kd.R_append_rows k58 (Rr := k58.K w5) (w0 := w) w.heap.size rfl (.tmp 5) (.tmp 6) 23 58 (.agg #[(.int .u64 0), (.int .i64 0), (.int .i64 0), (.string ⟨#[]⟩), (.string ⟨#[]⟩), (.int .u64 0), (.int .u64 0)]) 72 rfl Try.underlying23 info58 rfl (show 0 < 7 by decide) (show 0 < 72 by decide) v5 [] xs (some ad) xs.length c (fun _ => True) (fun _ => False) rfl rfl ?aO ?aR ?aM (fun _ h => h.elim) ?aF ?aB ?aS ?aL ?_; (case aR => exact HC.out); (case aM => (intro x cs hk; obtain rfl := k58_open hk; exact k58_mkM _ _ _ x)); (case aB => exact HB.out); (case aF => exact (fun _ _ => trivial)); (case aO => exact HO.out); (case aS => exact HB.out.size); (case aL => (have h1 := HL.out; simp; omega)); intro v7 w7 ho hb hg hat; rw [List.nil_append] at ho; clear HO HB hg hat; have HO := Aside0.mk ho; have HB := Aside0.mk hb; clear ho hb) | fail)
    go_ret
    exact ⟨_, rfl, HO.out, HB.out⟩
end
section
/- VB10: Whole structs loaded and stored; slices.MinFunc at tables, walked. Conditions: at least one row. -/
set_option linter.unusedVariables false
set_option linter.unusedSimpArgs false
open Go.RowKit Go.Proofs.YtkjepfofiegcdaaW.PrintWords Go.Proofs.YtkjepfofiegcdaaW.PrintLast Go.Proofs.YtkjepfofiegcdaaW.PrintMore Go.Proofs.Ytkjepfofiegcdaa.PB14
section
variable {P : Program} {ops : Array Oper} {rest : List Oper} {o : Oper} {a : Act} {Q : Exit → Act → World → Prop} {W : World}
/-- A whole array stored into its block. -/
theorem st_arr (hgd : o.guard = none) (ty : TypeId) (x y : Operand) (ho : o.op = .store ty x y) (g t : Nat) (hx : a.eval x = .pointer (some ⟨g, 0, none⟩)) (cells : Array Value) (hy : a.eval y = .agg cells) (old : Array Value) (hg : W.heap[g]? = some (.cells old t (0, 0)))
    (hi : (P.info? ty).map (·.size) = some cells.size) (hs : old.size = cells.size) (h1 : cells.all (·.oneCell') = true)
    (h : ∀ w1 : World, w1.heap[g]? = some (.cells cells t (0, 0)) → (∀ B w0, Below B w0 W → B ≤ g → Below B w0 w1) → (∀ k, k ≠ g → w1.heap[k]? = W.heap[k]?) → w1.heap.size = W.heap.size → wpList P ops Q rest (a.put o.dst undef) w1) : wpList P ops Q (o :: rest) a W :=
  wpList_plain hgd fun _ hK => by
    unfold Oper.wp execOp
    simp only [ho, hx, hy, Instr.storeAt, Instr.sureAddr, Sem.run_bind, Sem.run_pure, Result.andThen_ok, run_storeVar_row W g t ty old cells hg hi hs h1]
    exact hK _ _ (h _ (setRow_heap W g old cells t (0, 0) hg) (fun B w0 hb hle => below_setRow hb hle cells) (fun k hk => setRow_other W g k cells hk) (setRow_size W g cells))
end
theorem size58 : (Try.prog.info? 58).map (·.size) = some 7 := by kernel_rfl
end
section
/- VB11: The tables of a list that overlap a span (pick.chosen with pick's functions), walked. Conditions: at most 10 to the 9th rows. -/
set_option linter.unusedVariables false
set_option linter.unusedSimpArgs false
open Go.RowKit Go.Proofs.YtkjepfofiegcdaaW.PrintWords Go.Proofs.YtkjepfofiegcdaaW.PrintLast Go.Proofs.YtkjepfofiegcdaaW.PrintMore Go.Proofs.Ytkjepfofiegcdaa.PB14
/-- A table stands in a block. -/
def Tb (w : World) (g : Nat) (m : S58) : Prop := w.heap[g]? = some (.cells (mCs m) 58 (0, 0))
theorem Tb.below {w w' : World} {g : Nat} {m : S58} (h : Tb w g m) (hb : Below w.heap.size w w') : Tb w' g m := blk_below h hb
end
section
/- VB12: The span of tables (pick.span), walked. Conditions: none. -/
set_option linter.unusedVariables false
set_option linter.unusedSimpArgs false
open Go.RowKit Go.Proofs.YtkjepfofiegcdaaW.PrintWords Go.Proofs.YtkjepfofiegcdaaW.PrintLast Go.Proofs.YtkjepfofiegcdaaW.PrintMore Go.Proofs.Ytkjepfofiegcdaa.PB14
def smn (x y : ByteArray) : ByteArray := if Op.bytesLess y.toList x.toList = true then y else x
def smx (x y : ByteArray) : ByteArray := if Op.bytesLess x.toList y.toList = true then y else x
theorem min2_str (x y : ByteArray) : Builtin.min2 (.string x) (.string y) = pure (.string (smn x y)) := by
  unfold smn
  cases h : Op.bytesLess y.toList x.toList with
  | true =>
    have h2 : ¬ (Op.bytesLess x.toList y.toList = true ∨ x.toList = y.toList) := fun hq => by rw [le_less] at hq; rw [h] at hq; cases hq
    simp [Builtin.min2, Op.stringOp, asBool, h2]
  | false =>
    have h2 : Op.bytesLess x.toList y.toList = true ∨ x.toList = y.toList := le_less.mpr h
    simp [Builtin.min2, Op.stringOp, asBool, h2]
theorem max2_str (x y : ByteArray) : Builtin.max2 (.string x) (.string y) = pure (.string (smx x y)) := by
  unfold smx
  cases h : Op.bytesLess x.toList y.toList with
  | true => simp [Builtin.max2, Op.stringOp, asBool, h]
  | false => simp [Builtin.max2, Op.stringOp, asBool, h]
def spanS (st : Option (ByteArray × ByteArray)) (m : S58) : Option (ByteArray × ByteArray) := some (match st with
  | none => (m.f3, m.f4)
  | some q => (smn q.1 m.f3, smx q.2 m.f4))
def spanO (L : List S58) : Option (ByteArray × ByteArray) := L.foldl spanS none
def spF (st : Option (ByteArray × ByteArray)) : ByteArray := (st.getD (⟨#[]⟩, ⟨#[]⟩)).1
def spL (st : Option (ByteArray × ByteArray)) : ByteArray := (st.getD (⟨#[]⟩, ⟨#[]⟩)).2
/-- The span as a table. -/
def spanM (L : List S58) : S58 := ⟨0, 0, 0, spF (spanO L), spL (spanO L), 0, 0⟩
attribute [local go_sem] max_two min_two min2_str max2_str
end
section
/- VB13: What is due of a level (pick.due), walked. Conditions: options that may be, sizes of at most 2 to the 18th, at most 64 tables. -/
set_option linter.unusedVariables false
set_option linter.unusedSimpArgs false
open Go.RowKit Go.Proofs.YtkjepfofiegcdaaW.PrintWords Go.Proofs.YtkjepfofiegcdaaW.PrintLast Go.Proofs.YtkjepfofiegcdaaW.PrintMore Go.Proofs.Ytkjepfofiegcdaa.PB14
end
end Go.Proofs.Ytkjepfofiegcdaa.V
/- Opening of a law's arguments: a version (struct type 26), options (48), a compaction (52), a list of tables (23). Conditions: the weights are within reach. -/
namespace Go.Proofs.Ytkjepfofiegcdaa.H
set_option linter.unusedVariables false
set_option linter.unusedSimpArgs false
open Go.RowKit Go.Proofs.YtkjepfofiegcdaaW.PrintWords Go.Proofs.Ytkjepfofiegcdaa.PB14 Go.Proofs.Ytkjepfofiegcdaa.V
section
variable {H : Type} {enc : TypeId × Value → H} {P : Program} {w : World} {base : Nat} {spare : Nat → Bool} {held : Bool}
theorem fit_array {t e : TypeId} {n : Nat} {ds : List (DataW H)} (ht : P.underlying t = some (.array n e)) (h : Fit P t (.agg ds : DataW H)) : ∀ d, d ∈ ds → Fit P e d := by
  intro d hd n hn
  refine h n ?_
  simp only [DataW.weights, ht]
  exact weights_all hd n hn
theorem trod_struct4' {t : TypeId} {f0 f1 f2 f3 : Field} {fuel : Nat} {cs : List Value} {x : DataW H × List MemPlace} (ht : P.underlying t = some (.struct #[f0, f1, f2, f3])) (h : DataW.trod enc P w base spare held fuel t cs = some x) :
    ∃ y0 y1 y2 y3 n, (∃ q, x = (.agg [y0.1, y1.1, y2.1, y3.1], q)) ∧ cs.length = P.cellsOf t ∧ DataW.trod enc P w base spare held n f0.type ((cs.drop f0.offset).take (P.cellsOf f0.type)) = some y0 ∧
      DataW.trod enc P w base spare held n f1.type ((cs.drop f1.offset).take (P.cellsOf f1.type)) = some y1 ∧ DataW.trod enc P w base spare held n f2.type ((cs.drop f2.offset).take (P.cellsOf f2.type)) = some y2 ∧ DataW.trod enc P w base spare held n f3.type ((cs.drop f3.offset).take (P.cellsOf f3.type)) = some y3 := by
  obtain ⟨xs, n, _, rfl, hl, hlen, hf⟩ := DataW.trod_struct ht h
  match xs, hlen with
  | [y0, y1, y2, y3], _ => exact ⟨y0, y1, y2, y3, n, ⟨_, rfl⟩, hl, by simpa using hf 0 f0 rfl, by simpa using hf 1 f1 rfl, by simpa using hf 2 f2 rfl, by simpa using hf 3 f3 rfl⟩
end
section
variable {H : Type} {enc : TypeId × Value → H} {w : World} {base : Nat} {spare : Nat → Bool} {held : Bool}
/-- A list's tables are such as the machine has, and so is its length. -/
def LW (l : List S58) : Prop := l.length * Try.prog.bytesOf 58 ≤ reachBytes ∧ ∀ m, m ∈ l → MW m
theorem LW.num {l : List S58} (h : LW l) {m : S58} (hm : m ∈ l) : 0 ≤ m.f0 ∧ m.f0 ≤ 18446744073709551615 := bounds_u64 (h.2 m hm).1
/-- A version's numbers and tables are such as the machine has. -/
def VerW (v : Ver) : Prop := (Lit.int .u64 v.log).wf = true ∧ (Lit.int .u64 v.next).wf = true ∧ (Lit.int .u64 v.seq).wf = true ∧ ∀ i, i < 4 → LW (v.lv i)
theorem VerW.vw {v : Ver} (h : VerW v) : VW v := fun i hi m hm => (h.2.2.2 i hi).num hm
set_option maxRecDepth 100000 in
theorem trod_23 (n : Nat) (cs : List Value) (x : DataW H × List MemPlace) (h : DataW.trod enc Try.prog w base spare held n 23 cs = some x) (hz : Fit Try.prog 23 x.1) :
    ∃ (A : Option Addr) (l : List S58) (c : Nat), cs = [.slice A l.length c] ∧ l.length ≤ c ∧ k58.C w A l.length l ∧ LW l := by
  obtain ⟨A, c, l, c1, g1, g2, g3, g4, g5⟩ := trod_row k58 MW Try.underlying23 (by kernel_rfl) trod_58 hz h
  exact ⟨A, l, c, c1, g1, g4, g3, g5⟩
set_option maxRecDepth 100000 in
theorem trod_24 (n : Nat) (cs : List Value) (x : DataW H × List MemPlace) (h : DataW.trod enc Try.prog w base spare held n 24 cs = some x) (hz : Fit Try.prog 24 x.1) :
    ∃ (A0 A1 A2 A3 : Option Addr) (l0 l1 l2 l3 : List S58) (c0 c1 c2 c3 : Nat), cs = [.slice A0 l0.length c0, .slice A1 l1.length c1, .slice A2 l2.length c2, .slice A3 l3.length c3] ∧ (l0.length ≤ c0 ∧ k58.C w A0 l0.length l0 ∧ LW l0) ∧ (l1.length ≤ c1 ∧ k58.C w A1 l1.length l1 ∧ LW l1) ∧ (l2.length ≤ c2 ∧ k58.C w A2 l2.length l2 ∧ LW l2) ∧ (l3.length ≤ c3 ∧ k58.C w A3 l3.length l3 ∧ LW l3) := by
  obtain ⟨xs, m, _, rfl, hl, hlen, hel⟩ := DataW.trod_array Try.underlying24 h
  have e23 : Try.prog.cellsOf 23 = 1 := by kernel_rfl
  have e24 : Try.prog.cellsOf 24 = 4 := by kernel_rfl
  rw [e24] at hl
  rw [e23] at hel
  match cs, hl, xs, hlen with
  | [u0, u1, u2, u3], _, [x0, x1, x2, x3], _ =>
    have hf := fit_array Try.underlying24 hz
    obtain ⟨A0, l0, c0, q0, g0⟩ := trod_23 _ _ _ (by simpa using hel 0 (by decide)) (hf x0.1 (by simp))
    obtain ⟨A1, l1, c1, q1, g1⟩ := trod_23 _ _ _ (by simpa using hel 1 (by decide)) (hf x1.1 (by simp))
    obtain ⟨A2, l2, c2, q2, g2⟩ := trod_23 _ _ _ (by simpa using hel 2 (by decide)) (hf x2.1 (by simp))
    obtain ⟨A3, l3, c3, q3, g3⟩ := trod_23 _ _ _ (by simpa using hel 3 (by decide)) (hf x3.1 (by simp))
    simp at q0 q1 q2 q3
    subst q0 q1 q2 q3
    exact ⟨A0, A1, A2, A3, l0, l1, l2, l3, c0, c1, c2, c3, rfl, g0, g1, g2, g3⟩
set_option maxRecDepth 100000 in
theorem trod_26 (n : Nat) (cs : List Value) (x : DataW H × List MemPlace) (h : DataW.trod enc Try.prog w base spare held n 26 cs = some x) (hz : Fit Try.prog 26 x.1) :
    ∃ (v : Ver) (p : Pl), cs = (vCs v p).toList ∧ VC w v p ∧ VerW v := by
  obtain ⟨y0, y1, y2, y3, m, ⟨q, rfl⟩, hl, h0, h1, h2, h3⟩ := trod_struct4' Try.underlying26 h
  have e22 : Try.prog.cellsOf 22 = 1 := by kernel_rfl
  have e24 : Try.prog.cellsOf 24 = 4 := by kernel_rfl
  have e26 : Try.prog.cellsOf 26 = 7 := by kernel_rfl
  rw [e26] at hl
  match cs, hl with
  | [u0, u1, u2, u3, u4, u5, u6], _ =>
    obtain ⟨s0, c0, wf0, _⟩ := trod_int Try.underlying22 h0
    obtain ⟨s1, c1, wf1, _⟩ := trod_int Try.underlying22 h1
    obtain ⟨s2, c2, wf2, _⟩ := trod_int Try.underlying22 h2
    have z3 := fit_struct Try.underlying26 hz 3 _ _ rfl rfl
    obtain ⟨A0, A1, A2, A3, l0, l1, l2, l3, d0, d1, d2, d3, q3, g0, g1, g2, g3⟩ := trod_24 _ _ _ h3 z3
    simp [e22] at c0 c1 c2
    simp [e24] at q3
    obtain ⟨rfl, rfl, rfl, rfl⟩ := q3
    subst c0 c1 c2
    refine ⟨⟨s0, s1, s2, l0, l1, l2, l3⟩, ⟨A0, A1, A2, A3, d0, d1, d2, d3⟩, rfl, fun i hi => ?_, wf0, wf1, wf2, fun i hi => ?_⟩
    · rcases (by omega : i = 0 ∨ i = 1 ∨ i = 2 ∨ i = 3) with rfl | rfl | rfl | rfl
      · exact ⟨g0.2.1, g0.1⟩
      · exact ⟨g1.2.1, g1.1⟩
      · exact ⟨g2.2.1, g2.1⟩
      · exact ⟨g3.2.1, g3.1⟩
    · rcases (by omega : i = 0 ∨ i = 1 ∨ i = 2 ∨ i = 3) with rfl | rfl | rfl | rfl
      · exact g0.2.2
      · exact g1.2.2
      · exact g2.2.2
      · exact g3.2.2
set_option maxRecDepth 100000 in
theorem open_26 {v : Value} {d : DataW H} {p : List MemPlace} {b0 : Nat} (hv : Value.okWide Try.prog w .any b0 26 v) (h : ∃ fuel, DataW.trod enc Try.prog w base spare held fuel 26 v.cells.toList = some (d, p)) (hz : Fit Try.prog 26 d) :
    ∃ (a : Ver) (p : Pl), v = .agg (vCs a p) ∧ VC w a p ∧ VerW a := by
  obtain ⟨fuel, h⟩ := h
  obtain ⟨a, p, hK, hq, hw⟩ := trod_26 _ _ _ h hz
  obtain ⟨cs, rfl, _⟩ := Go.WideShapes.okWide_struct Try.underlying26 hv
  rw [show (Value.agg cs).cells = cs from rfl] at hK
  exact ⟨a, p, congrArg Value.agg (Array.toList_inj.mp hK), hq, hw⟩
end
end Go.Proofs.Ytkjepfofiegcdaa.H
/- Texts of the walks joined into one (VB14, VB15, VB16, VB17, VC1, VC2, VD1, VD2, VD3, VE1). Conditions: told at each. -/
namespace Go.Proofs.Ytkjepfofiegcdaa.V
section
/- VB14: pick.Pick, walked. Conditions: none. -/
set_option linter.unusedVariables false
set_option linter.unusedSimpArgs false
open Go.RowKit Go.Proofs.YtkjepfofiegcdaaW.PrintWords Go.Proofs.YtkjepfofiegcdaaW.PrintLast Go.Proofs.YtkjepfofiegcdaaW.PrintMore Go.Proofs.Ytkjepfofiegcdaa.PB14
instance : DecidableEq S58 := fun a b => if h : a.f0 = b.f0 ∧ a.f1 = b.f1 ∧ a.f2 = b.f2 ∧ a.f3 = b.f3 ∧ a.f4 = b.f4 ∧ a.f5 = b.f5 ∧ a.f6 = b.f6 then isTrue (by cases a; cases b; simp at h; obtain ⟨rfl, rfl, rfl, rfl, rfl, rfl, rfl⟩ := h; rfl) else isFalse (fun e => h (by subst e; simp))
end
section
/- VB15: pick.Bottom, walked. Conditions: none. -/
set_option linter.unusedVariables false
set_option linter.unusedSimpArgs false
open Go.RowKit Go.Proofs.YtkjepfofiegcdaaW.PrintWords Go.Proofs.YtkjepfofiegcdaaW.PrintLast Go.Proofs.YtkjepfofiegcdaaW.PrintMore Go.Proofs.Ytkjepfofiegcdaa.PB14
def askP (v : Ver) (lev : Int) : Prop := rightP v ∧ 0 ≤ lev ∧ lev < 3
instance (v : Ver) (lev : Int) : Decidable (askP v lev) := by unfold askP; infer_instance
def BotP (v : Ver) (lev : Nat) (L : List S58) : Prop := L = [] ∨ ∀ i, i < 4 → lev + 2 ≤ i → ∀ m, m ∈ v.lv i → overB m (spanM L) = false
instance (v : Ver) (lev : Nat) (L : List S58) : Decidable (BotP v lev L) := by unfold BotP; infer_instance
end
section
/- VB16: The version of the document's example (sample), walked. Conditions: none. -/
set_option linter.unusedVariables false
set_option linter.unusedSimpArgs false
open Go.RowKit Go.Proofs.YtkjepfofiegcdaaW.PrintWords Go.Proofs.YtkjepfofiegcdaaW.PrintLast Go.Proofs.YtkjepfofiegcdaaW.PrintMore Go.Proofs.Ytkjepfofiegcdaa.PB14
theorem size26 : (Try.prog.info? 26).map (·.size) = some 7 := by kernel_rfl
end
section
/- VB17: An answer that the document fixes (awake of layer 16), walked. Conditions: none. -/
set_option linter.unusedVariables false
set_option linter.unusedSimpArgs false
open Go.RowKit Go.Proofs.YtkjepfofiegcdaaW.PrintWords Go.Proofs.YtkjepfofiegcdaaW.PrintLast Go.Proofs.YtkjepfofiegcdaaW.PrintMore Go.Proofs.Ytkjepfofiegcdaa.PB14
end
section
/- VC1: The law PickOverlap, walked. Conditions: none. -/
set_option linter.unusedVariables false
set_option linter.unusedSimpArgs false
open Go.RowKit Go.Proofs.YtkjepfofiegcdaaW.PrintWords Go.Proofs.YtkjepfofiegcdaaW.PrintLast Go.Proofs.YtkjepfofiegcdaaW.PrintMore Go.Proofs.Ytkjepfofiegcdaa.PB14
end
section
/- VC2: The law PickMeets, walked. Conditions: none. -/
set_option linter.unusedVariables false
set_option linter.unusedSimpArgs false
open Go.RowKit Go.Proofs.YtkjepfofiegcdaaW.PrintWords Go.Proofs.YtkjepfofiegcdaaW.PrintLast Go.Proofs.YtkjepfofiegcdaaW.PrintMore Go.Proofs.Ytkjepfofiegcdaa.PB14
end
section
/- VD1: Are there too many tables (freshetlaw16.many, freshetlaw14.many), walked. Conditions: none. -/
set_option linter.unusedVariables false
set_option linter.unusedSimpArgs false
open Go.RowKit Go.Proofs.YtkjepfofiegcdaaW.PrintWords Go.Proofs.YtkjepfofiegcdaaW.PrintLast Go.Proofs.YtkjepfofiegcdaaW.PrintMore Go.Proofs.Ytkjepfofiegcdaa.PB14
def manyP (v : Ver) : Prop := ∃ i, i < 4 ∧ 80 < (v.lv i).length
instance (v : Ver) : Decidable (manyP v) := decidable_of_iff (¬ ∀ i, i < 4 → (v.lv i).length ≤ 80) ⟨fun h => by
  rw [Classical.not_forall] at h
  obtain ⟨i, hi⟩ := h
  rw [Classical.not_imp] at hi
  exact ⟨i, hi.1, by omega⟩, fun ⟨i, hi, h2⟩ h => by have := h i hi; omega⟩
set_option maxHeartbeats 4000000 in
set_option maxRecDepth 100000 in
theorem many51_calls (w : World) (v : Ver) (p : Pl) : Calls Try.prog 51 #[.agg (vCs v p)] w fun e w' => e = .returned (.bool (decide (manyP v))) ∧ Below w.heap.size w w' := by
  have HB := Aside0.mk ((Below.refl w.heap.size w).alloc (Nat.le_refl _) (.cells (vCs v p) 26))
  have BX := Aside0.mk (blk_new w (.cells (vCs v p) 26))
  go_enter Try.func51, Try.ntmps51
  go_wp2_with fail
  generalize w.alloc (.cells (vCs v p) 26) = w1 at *
  go_loopg [3] 4 (fun kq v3 w' => ∃ i : Nat, v3 = .int .i64 (i : Int) ∧ Aside0 (kq + i = 4) ∧ Aside0 (Below w.heap.size w w') ∧ Aside0 (w'.heap[w.heap.size]? = some (.cells (vCs v p) 26 (0, 0))) ∧ Aside0 (∀ j, j < i → (v.lv j).length ≤ 80))
  case atStart => exact ⟨0, rfl, ⟨by omega⟩, HB, BX, ⟨fun j hj => by omega⟩⟩
  case round =>
    clear HB BX
    obtain ⟨i, rfl, HK, HB, BX, HJ⟩ := hrel
    cases gk with
    | zero =>
      have ei : i = 4 := by have := HK.out; omega
      subst ei
      go_wp2_with fail
      go_ret
      exact ⟨ret_bool (by symm; rw [decide_eq_false_iff_not]; rintro ⟨j, hj, h2⟩; have := HJ.out j hj; omega), HB.out⟩
    | succ q =>
      have hi : i < 4 := by have := HK.out; omega
      have HI := Aside0.mk hi
      have d0 : decide ((i : Int) < 4) = true := decide_eq_true (by omega)
      have i0 : 0 ≤ (i : Int) := Int.natCast_nonneg _
      have i1 : (i : Int) < 4 := by omega
      have hv := vcell BX.out i hi
      have ew : wrap64 ((i : Int) + 1) = ((i + 1 : Nat) : Int) := by unfold wrap64; omega
      obtain ⟨l, hl⟩ : ∃ l, l = v.lv i := ⟨_, rfl⟩
      rw [← hl] at hv
      have LE := Aside0.mk hl
      clear hl hi
      by_cases h80 : (l.length : Int) > 80
      · have t0 : decide (80 < (l.length : Int)) = true := decide_eq_true h80
        have t1 : decide (80 < l.length) = true := decide_eq_true (by omega)
        have M := Aside0.mk (show manyP v from ⟨i, HI.out, by rw [← LE.out]; omega⟩)
        clear h80
        go_wp2_with fail
        go_ret
        exact ⟨ret_bool (by symm; rw [decide_eq_true_iff]; exact M.out), HB.out⟩
      · have t0 : decide (80 < (l.length : Int)) = false := decide_eq_false h80
        have t1 : decide (80 < l.length) = false := decide_eq_false (by omega)
        have M := Aside0.mk (show (v.lv i).length ≤ 80 by rw [← LE.out]; omega)
        clear h80
        go_wp2_with fail
        try rw [ew]
        go_roundg q
        case measure => omega
        case rel => exact ⟨i + 1, rfl, ⟨by have := HK.out; omega⟩, HB, BX, ⟨fun j hj => by
          by_cases e : j = i
          · subst e; exact M.out
          · exact HJ.out j (by omega)⟩⟩
end
section
/- VD2: freshetref14.May, walked. Conditions: none. -/
set_option linter.unusedVariables false
set_option linter.unusedSimpArgs false
open Go.RowKit Go.Proofs.YtkjepfofiegcdaaW.PrintWords Go.Proofs.YtkjepfofiegcdaaW.PrintLast Go.Proofs.YtkjepfofiegcdaaW.PrintMore Go.Proofs.Ytkjepfofiegcdaa.PB14
theorem toList_len (a : ByteArray) : a.toList.length = a.size := by rw [ByteArray.toList_eq, Array.length_toList]; rfl
def mayQ (m : S58) : Prop := (1 ≤ m.f0 ∧ m.f0 ≤ 99999998 ∧ 1 ≤ m.f1 ∧ m.f1 ≤ 262144 ∧ 1 ≤ m.f2 ∧ m.f2 ≤ 262144) ∧ ((1 : Int) ≤ m.f3.size ∧ (m.f3.size : Int) ≤ 520 ∧ (1 : Int) ≤ m.f4.size ∧ (m.f4.size : Int) ≤ 520 ∧ (Op.bytesLess m.f3.toList m.f4.toList = true ∨ m.f3.toList = m.f4.toList)) ∧ 1 ≤ m.f5 ∧ m.f5 ≤ m.f6 ∧ m.f6 < 72057594037927936
instance (m : S58) : Decidable (mayQ m) := by unfold mayQ; infer_instance
theorem mayP_iff {m : S58} : mayP m ↔ mayQ m := by
  have h3 := toList_len m.f3
  have h4 := toList_len m.f4
  constructor
  · rintro ⟨a1, a2, a3, a4, a5, a6, a7, a8, a9, b1, b2, b3, b4⟩
    have n3 : m.f3.toList.length ≠ 0 := fun h => a7 (List.eq_nil_of_length_eq_zero h)
    have n4 : m.f4.toList.length ≠ 0 := fun h => by
      rw [List.eq_nil_of_length_eq_zero h] at b1
      cases hq : m.f3.toList with
      | nil => exact a7 hq
      | cons x r => rw [hq] at b1; simp [Op.bytesLess] at b1
    exact ⟨⟨a1, by omega, a3, a4, a5, a6⟩, ⟨by omega, by omega, by omega, by omega, le_less.mpr b1⟩, b2, b3, b4⟩
  · rintro ⟨⟨a1, a2, a3, a4, a5, a6⟩, ⟨a7, a8, a9, b0, b1⟩, b2, b3, b4⟩
    exact ⟨a1, by omega, a3, a4, a5, a6, fun h => by rw [h] at h3; simp at h3; omega, by omega, by omega, le_less.mp b1, b2, b3, b4⟩
set_option maxHeartbeats 8000000 in
set_option maxRecDepth 100000 in
theorem mayR_calls (w : World) (m : S58) : Calls Try.prog 120 #[.agg #[.int .u64 m.f0, .int .i64 m.f1, .int .i64 m.f2, .string m.f3, .string m.f4, .int .u64 m.f5, .int .u64 m.f6]] w fun e w' => e = .returned (.bool (decide (mayP m))) ∧ Below w.heap.size w w' := by
  have HB := Aside0.mk ((Below.refl w.heap.size w).alloc (Nat.le_refl _) (.cells #[.int .u64 m.f0, .int .i64 m.f1, .int .i64 m.f2, .string m.f3, .string m.f4, .int .u64 m.f5, .int .u64 m.f6] 58))
  go_enter Try.func120, Try.ntmps120
  go_wp2_with fail
  all_goals
    go_ret
    refine ⟨ret_bool ?_, HB.out⟩
    rw [show decide (mayP m) = decide (mayQ m) from decide_eq_decide.mpr mayP_iff]
    first
      | (symm; rw [decide_eq_false_iff_not]; rintro ⟨⟨a1, a2, a3, a4, a5, a6⟩, ⟨a7, a8, a9, b0, b1⟩, b2, b3, b4⟩; first | contradiction | omega)
      | (symm; rw [decide_eq_false_iff_not]; rintro ⟨⟨a1, a2, a3, a4, a5, a6⟩, ⟨a7, a8, a9, b0, b1⟩, b2, b3, b4⟩; rename_i hz; rcases hz with hz | hz; (omega); (rcases b1 with b1 | b1 <;> simp [b1] at hz))
      | (rw [Bool.eq_iff_iff]; simp only [Bool.and_eq_true, Bool.or_eq_true, decide_eq_true_eq, beq_iff_eq]; exact ⟨fun h => ⟨⟨by omega, by omega, by omega, by omega, by omega, by omega⟩, ⟨by omega, by omega, by omega, by omega, by assumption⟩, by omega, by omega, by first | exact h | exact h.2⟩, fun h => by first | exact h.2.2.2.2 | exact ⟨⟨h.2.2.1, h.2.2.2.1⟩, h.2.2.2.2⟩⟩)
      | (rw [decide_eq_decide]; exact ⟨fun h => ⟨⟨by assumption, by assumption, by assumption, by assumption, by assumption, by omega⟩, ⟨by assumption, by assumption, by assumption, by assumption, by assumption⟩, by assumption, by assumption, h⟩, fun h => h.2.2.2.2⟩)
      | (rename_i hz h5 h6
         have hl : Op.bytesLess m.f3.toList m.f4.toList = true ∨ m.f3.toList = m.f4.toList := by
           rcases hz.2 with h | h
           · left; simpa using h
           · right; simpa using h
         rw [decide_eq_decide]
         exact ⟨fun h => ⟨⟨by assumption, by assumption, by assumption, by assumption, by assumption, by omega⟩, ⟨by assumption, by assumption, by assumption, by assumption, hl⟩, h5, h6, h⟩, fun h => h.2.2.2.2⟩)
      | trace_state
end
section
/- VD3: The span of tables and what overlaps it, in the plain. Conditions: none. -/
set_option linter.unusedVariables false
set_option linter.unusedSimpArgs false
open Go.RowKit Go.Proofs.YtkjepfofiegcdaaW.PrintWords Go.Proofs.YtkjepfofiegcdaaW.PrintLast Go.Proofs.YtkjepfofiegcdaaW.PrintMore Go.Proofs.Ytkjepfofiegcdaa.PB14
end
section
/- VE1: Are two lists of tables the same (freshetref14.SameMetas), walked. Conditions: none. -/
set_option linter.unusedVariables false
set_option linter.unusedSimpArgs false
open Go.RowKit Go.Proofs.YtkjepfofiegcdaaW.PrintWords Go.Proofs.YtkjepfofiegcdaaW.PrintLast Go.Proofs.YtkjepfofiegcdaaW.PrintMore Go.Proofs.Ytkjepfofiegcdaa.PB14
theorem bytes_eq {a b : ByteArray} (h : a.toList = b.toList) : a = b := by
  rw [ByteArray.toList_eq, ByteArray.toList_eq] at h
  exact ByteArray.ext (Array.toList_inj.mp h)
theorem eqA58 (d : Nat) (w : World) (a b : S58) :
    (Op.equalIn (d + 2) 58 (.agg #[.int .u64 a.f0, .int .i64 a.f1, .int .i64 a.f2, .string a.f3, .string a.f4, .int .u64 a.f5, .int .u64 a.f6]) (.agg #[.int .u64 b.f0, .int .i64 b.f1, .int .i64 b.f2, .string b.f3, .string b.f4, .int .u64 b.f5, .int .u64 b.f6])).run Try.prog w = .ok (decide (a = b)) w := by
  have e : decide (a = b) = (a.f0 == b.f0 && (a.f1 == b.f1 && (a.f2 == b.f2 && (a.f3.toList == b.f3.toList && (a.f4.toList == b.f4.toList && (a.f5 == b.f5 && (a.f6 == b.f6))))))) := by
    rw [Bool.eq_iff_iff]
    simp only [decide_eq_true_eq, Bool.and_eq_true, beq_iff_eq]
    constructor
    · rintro rfl
      simp
    · rintro ⟨h0, h1, h2, h3, h4, h5, h6⟩
      have h3 := bytes_eq h3
      have h4 := bytes_eq h4
      cases a
      cases b
      simp_all
  rw [e]
  refine eqA_of Try.underlying58 (by kernel_rfl) ?_
  refine eqf_cons (by rfl) (by go_simp; rfl) (by go_simp; rfl) (by go_simp) ?_
  refine eqf_cons (by rfl) (by go_simp; rfl) (by go_simp; rfl) (by go_simp) ?_
  refine eqf_cons (by rfl) (by go_simp; rfl) (by go_simp; rfl) (by go_simp) ?_
  refine eqf_cons (by rfl) (by go_simp; rfl) (by go_simp; rfl) (by go_simp) ?_
  refine eqf_cons (by rfl) (by go_simp; rfl) (by go_simp; rfl) (by go_simp) ?_
  refine eqf_cons (by rfl) (by go_simp; rfl) (by go_simp; rfl) (by go_simp) ?_
  exact eqf_last (by rfl) (by go_simp; rfl) (by go_simp; rfl) (by go_simp)
attribute [local go_sem high] eqA58
theorem take_ne {xs ys : List S58} {k : Nat} (hx : k < xs.length) (hy : k < ys.length) (h : ¬ xs.getD k z58 = ys.getD k z58) : ¬ xs = ys := fun e => h (by rw [e])
theorem take_eq {xs ys : List S58} {k : Nat} (hx : k < xs.length) (hy : k < ys.length) (h : xs.getD k z58 = ys.getD k z58) (ht : xs.take k = ys.take k) : xs.take (k + 1) = ys.take (k + 1) := by rw [take_snoc xs z58 hx, take_snoc ys z58 hy, h, ht]
set_option maxHeartbeats 8000000 in
set_option maxRecDepth 100000 in
theorem sameM_calls (w : World) (A B : Option Addr) (c d : Nat) (xs ys : List S58) (hx : k58.C w A xs.length xs) (hy : k58.C w B ys.length ys) : Calls Try.prog 47 #[.slice A xs.length c, .slice B ys.length d] w fun e w' => e = .returned (.bool (decide (xs = ys))) ∧ Below w.heap.size w w' := by
  have HX := Aside0.mk hx
  have HY := Aside0.mk hy
  clear hx hy
  obtain ⟨r, hr⟩ : ∃ r, r = decide (xs = ys) := ⟨_, rfl⟩
  rw [← hr]
  have HRR := Aside0.mk hr
  clear hr
  by_cases hl : xs.length = ys.length
  · have l0 : ((xs.length : Int) != (ys.length : Int)) = false := by rw [hl]; simp
    have l1 : (xs.length != ys.length) = false := by rw [hl]; simp
    have l2 : ((xs.length : Int) == (ys.length : Int)) = true := by rw [hl]; simp
    have l3 : (xs.length == ys.length) = true := by rw [hl]; simp
    have HL := Aside0.mk hl
    clear hl
    go_enter Try.func47, Try.ntmps47
    go_wp2_with fail
    clear l0 l1 l2 l3
    go_loopg [5] xs.length (fun kq v5 w' => ∃ k : Nat, v5 = .int .i64 (k : Int) ∧ Aside0 (kq + k = xs.length) ∧ Aside0 (Below w.heap.size w w') ∧ Aside0 (xs.take k = ys.take k))
    case atStart => exact ⟨0, rfl, ⟨by omega⟩, ⟨Below.refl _ _⟩, ⟨rfl⟩⟩
    case round =>
      obtain ⟨k, rfl, HK, HB, HT⟩ := hrel
      cases gk with
      | zero =>
        have ek : k = xs.length := by have := HK.out; omega
        subst ek
        have d0 : decide ((xs.length : Int) < (xs.length : Int)) = false := by simp
        go_wp2_with fail
        go_ret
        refine ⟨ret_bool ?_, HB.out⟩
        have h1 := HT.out
        rw [List.take_length] at h1
        have h2 : xs = ys := h1.trans (List.take_of_length_le (by have := HL.out; omega))
        rw [HRR.out]
        symm
        exact decide_eq_true h2
      | succ q =>
        have hk : k < xs.length := by have := HK.out; omega
        have HM := Aside0.mk (show xs.length ≤ 9223372036854775807 from HX.out.2.1)
        have d0 : decide ((k : Int) < (xs.length : Int)) = true := decide_eq_true (by omega)
        have d1 : decide (k < xs.length) = true := decide_eq_true hk
        have p0 : 0 ≤ (k : Int) := Int.natCast_nonneg _
        have p1 : (k : Int) < (xs.length : Int) := by omega
        have p2 : (k : Int) < (ys.length : Int) := by have := HL.out; omega
        have CX := Kd.C_below HX.out HB.out
        have CY := Kd.C_below HY.out HB.out
        obtain ⟨ad, ea, ha0, ha1, ha2, ha3, ha4, ha5, ha6⟩ := at_T58 CX (k : Int) p0 p1
        obtain ⟨bd, eb, hb0, hb1, hb2, hb3, hb4, hb5, hb6⟩ := at_T58 CY (k : Int) p0 p2
        rw [Int.toNat_natCast] at ha0 ha1 ha2 ha3 ha4 ha5 ha6 hb0 hb1 hb2 hb3 hb4 hb5 hb6
        clear CX CY
        have EA := Aside0.mk (show rd_T58 xs (k : Int) = xs.getD k z58 by unfold rd_T58; rw [Int.toNat_natCast])
        have EB := Aside0.mk (show rd_T58 ys (k : Int) = ys.getD k z58 by unfold rd_T58; rw [Int.toNat_natCast])
        generalize rd_T58 xs (k : Int) = a at *
        generalize rd_T58 ys (k : Int) = b at *
        rw [ea, eb]
        have HAX := Aside0.mk ea
        have HBX := Aside0.mk eb
        have HK1 := Aside0.mk hk
        have ew : wrap64 ((k : Int) + 1) = ((k + 1 : Nat) : Int) := by have h1 := HM.out; unfold wrap64; omega
        clear ea eb hk
        by_cases hab : a = b
        · have e0 : decide (a = b) = true := decide_eq_true hab
          have HAB := Aside0.mk (show xs.getD k z58 = ys.getD k z58 by rw [← EA.out, ← EB.out, hab])
          clear hab
          go_wp2_with fail
          go_quiet (fail)
          go_wp2_with fail
          try rw [ew]
          rw [← HAX.out, ← HBX.out]
          go_roundg q
          case measure => omega
          case rel => exact ⟨k + 1, rfl, ⟨by have := HK.out; omega⟩, ⟨pw_below_drewN HB.out nq⟩, ⟨take_eq HK1.out (by have := HL.out; have := HK1.out; omega) HAB.out HT.out⟩⟩
        · have e0 : decide (a = b) = false := decide_eq_false hab
          have HAB := Aside0.mk (show ¬ xs = ys from take_ne HK1.out (by have := HL.out; have := HK1.out; omega) (by rw [← EA.out, ← EB.out]; exact hab))
          clear hab
          go_wp2_with fail
          go_quiet (fail)
          go_wp2_with fail
          go_ret
          exact ⟨ret_bool (by rw [HRR.out]; symm; exact decide_eq_false HAB.out), pw_below_drewN HB.out nq⟩
  · have l0 : ((xs.length : Int) != (ys.length : Int)) = true := by simp; omega
    have l1 : (xs.length != ys.length) = true := by simp [hl]
    have l2 : ((xs.length : Int) == (ys.length : Int)) = false := by simp; omega
    have l3 : (xs.length == ys.length) = false := by simp [hl]
    have HN := Aside0.mk (show ¬ xs = ys from fun e => hl (by rw [e]))
    clear hl
    go_enter Try.func47, Try.ntmps47
    go_wp2_with fail
    go_ret
    exact ⟨ret_bool (by rw [HRR.out]; symm; exact decide_eq_false HN.out), Below.refl _ _⟩
end
end Go.Proofs.Ytkjepfofiegcdaa.V
