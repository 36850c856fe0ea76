import Derived.Test.YtkjepfofiegcdaaPB140
import Derived.Laws.Cover1
/- Versions in memory; edit.Right, walked. Conditions: none. -/
namespace Go.Proofs.Ytkjepfofiegcdaa.V
set_option linter.unusedVariables false
set_option linter.unusedSimpArgs false
open Go.RowKit Go.Proofs.YtkjepfofiegcdaaW.PrintWords Go.Proofs.YtkjepfofiegcdaaW.PrintLast Go.Proofs.YtkjepfofiegcdaaW.PrintMore Go.Proofs.Ytkjepfofiegcdaa.PB14
/-- A version: its numbers, its levels. -/
structure Ver where
  log : Int
  next : Int
  seq : Int
  l0 : List S58
  l1 : List S58
  l2 : List S58
  l3 : List S58
def Ver.lv (v : Ver) : Nat → List S58
  | 0 => v.l0
  | 1 => v.l1
  | 2 => v.l2
  | _ => v.l3
/-- Where its levels lie. -/
structure Pl where
  a0 : Option Addr
  a1 : Option Addr
  a2 : Option Addr
  a3 : Option Addr
  c0 : Nat
  c1 : Nat
  c2 : Nat
  c3 : Nat
def Pl.a (p : Pl) : Nat → Option Addr
  | 0 => p.a0
  | 1 => p.a1
  | 2 => p.a2
  | _ => p.a3
def Pl.c (p : Pl) : Nat → Nat
  | 0 => p.c0
  | 1 => p.c1
  | 2 => p.c2
  | _ => p.c3
abbrev vCs (v : Ver) (p : Pl) : Array Value := #[.int .u64 v.log, .int .u64 v.next, .int .u64 v.seq, .slice p.a0 v.l0.length p.c0, .slice p.a1 v.l1.length p.c1, .slice p.a2 v.l2.length p.c2, .slice p.a3 v.l3.length p.c3]
abbrev lCs (v : Ver) (p : Pl) : Array Value := #[.slice p.a0 v.l0.length p.c0, .slice p.a1 v.l1.length p.c1, .slice p.a2 v.l2.length p.c2, .slice p.a3 v.l3.length p.c3]
/-- The levels are read. -/
def VC (w : World) (v : Ver) (p : Pl) : Prop := ∀ i, i < 4 → k58.C w (p.a i) (v.lv i).length (v.lv i) ∧ (v.lv i).length ≤ p.c i
theorem VC.below {w w' : World} {v : Ver} {p : Pl} (h : VC w v p) (hb : Below w.heap.size w w') : VC w' v p := fun i hi => ⟨Kd.C_below (h i hi).1 hb, (h i hi).2⟩
theorem ret_bool {a b : Bool} (h : a = b) : Ending.returned (.bool a) = .returned (.bool b) := by rw [h]
def boundsP (v : Ver) : Prop := 1 ≤ v.log ∧ v.log ≤ 99999999 ∧ 1 ≤ v.next ∧ v.next ≤ 99999999 ∧ v.seq < 72057594037927936
instance (v : Ver) : Decidable (boundsP v) := by unfold boundsP; infer_instance
set_option maxRecDepth 100000 in
theorem bounds_calls (w : World) (v : Ver) (p : Pl) : Calls Try.prog 117 #[.agg (vCs v p)] w fun e w' => e = .returned (.bool (decide (boundsP v))) ∧ Below w.heap.size w w' := by
  have HB := Aside0.mk ((Below.refl w.heap.size w).alloc (Nat.le_refl _) (.cells (vCs v p) 143))
  go_enter Try.func117, Try.ntmps117
  go_wp2_with fail
  all_goals
    go_ret
    exact ⟨ret_bool (by first | (symm; rw [decide_eq_false_iff_not]; unfold boundsP; omega) | (rw [decide_eq_decide]; unfold boundsP; omega)), HB.out⟩
def catV (v : Ver) : Nat → List S58
  | 0 => []
  | i + 1 => catV v i ++ v.lv i
def mayP (m : S58) : Prop := 1 ≤ m.f0 ∧ m.f0 < 99999999 ∧ 1 ≤ m.f1 ∧ m.f1 ≤ 262144 ∧ 1 ≤ m.f2 ∧ m.f2 ≤ 262144 ∧ ¬ m.f3.toList = [] ∧ m.f3.size ≤ 520 ∧ m.f4.size ≤ 520 ∧ Op.bytesLess m.f4.toList m.f3.toList = false ∧ 1 ≤ m.f5 ∧ m.f5 ≤ m.f6 ∧ m.f6 < 72057594037927936
instance (m : S58) : Decidable (mayP m) := by unfold mayP; infer_instance
def okP (v : Ver) (m : S58) : Prop := mayP m ∧ m.f0 < v.next ∧ m.f6 ≤ v.seq
instance (v : Ver) (m : S58) : Decidable (okP v m) := by unfold okP; infer_instance
def nums (L : List S58) : List Int := L.map (·.f0)
def PP (v : Ver) (L : List S58) : Prop := (∀ m, m ∈ L → okP v m) ∧ (nums L).Nodup
instance (v : Ver) (L : List S58) : Decidable (PP v L) := by unfold PP; infer_instance
def tabP (v : Ver) : Prop := (∀ i, i < 4 → (v.lv i).length ≤ 64) ∧ PP v (catV v 4)
instance (v : Ver) : Decidable (tabP v) := by unfold tabP; infer_instance
def gapP (i : Nat) (a b : S58) : Prop := if i = 0 then a.f0 < b.f0 else Op.bytesLess a.f4.toList b.f3.toList = true
instance (i : Nat) (a b : S58) : Decidable (gapP i a b) := by unfold gapP; infer_instance
def ordP (v : Ver) : Prop := ∀ i, i < 4 → ∀ k, k < (v.lv i).length - 1 → gapP i ((v.lv i).getD k z58) ((v.lv i).getD (k + 1) z58)
instance (v : Ver) : Decidable (ordP v) := by unfold ordP; infer_instance
def rightP (v : Ver) : Prop := boundsP v ∧ tabP v ∧ ordP v
instance (v : Ver) : Decidable (rightP v) := by unfold rightP; infer_instance
/-- The numbers are such as the machine has. -/
def VW (v : Ver) : Prop := ∀ i, i < 4 → ∀ m, m ∈ v.lv i → 0 ≤ m.f0 ∧ m.f0 ≤ 18446744073709551615
theorem PP.left {v : Ver} {L M : List S58} (h : PP v (L ++ M)) : PP v L := ⟨fun m hm => h.1 m (List.mem_append_left _ hm), by have h2 := h.2; unfold nums at *; rw [List.map_append, List.nodup_append] at h2; exact h2.1⟩
theorem catV_pre (v : Ver) {i : Nat} (hi : i < 4) (k : Nat) : ∃ M, catV v 4 = (catV v i ++ (v.lv i).take k) ++ M := by
  have h : ∀ j, ∃ M, catV v (i + 1 + j) = catV v (i + 1) ++ M := by
    intro j
    induction j with
    | zero => exact ⟨[], by simp⟩
    | succ j ih =>
      obtain ⟨M, hM⟩ := ih
      refine ⟨M ++ v.lv (i + 1 + j), ?_⟩
      show catV v (i + 1 + j) ++ v.lv (i + 1 + j) = _
      rw [hM, List.append_assoc]
  obtain ⟨M, hM⟩ := h (3 - i)
  rw [show i + 1 + (3 - i) = 4 by omega] at hM
  refine ⟨(v.lv i).drop k ++ M, ?_⟩
  rw [List.append_assoc (catV v i), ← List.append_assoc (List.take k _), List.take_append_drop, ← List.append_assoc]
  exact hM
theorem tabP_pre {v : Ver} (h : tabP v) {i : Nat} (hi : i < 4) (k : Nat) : PP v (catV v i ++ (v.lv i).take k) := by
  obtain ⟨M, hM⟩ := catV_pre v hi k
  have := h.2
  rw [hM] at this
  exact this.left
theorem take_snoc {α : Type} (l : List α) (z : α) {k : Nat} (hk : k < l.length) : l.take (k + 1) = l.take k ++ [l.getD k z] := by
  rw [List.take_add_one, List.getElem?_eq_getElem hk, List.getD_eq_getElem?_getD, List.getElem?_eq_getElem hk]
  rfl
theorem getD_mem {α : Type} (l : List α) (z : α) {k : Nat} (hk : k < l.length) : l.getD k z ∈ l := by
  rw [List.getD_eq_getElem?_getD, List.getElem?_eq_getElem hk]
  exact List.getElem_mem _
theorem PP.snoc {v : Ver} {L : List S58} {m : S58} (h : PP v L) (hn : m.f0 ∉ nums L) (ho : okP v m) : PP v (L ++ [m]) := by
  refine ⟨fun x hx => ?_, ?_⟩
  · rcases List.mem_append.mp hx with hx | hx
    · exact h.1 x hx
    · rw [List.mem_singleton.mp hx]; exact ho
  · have h2 := h.2
    unfold nums at *
    rw [List.map_append, List.nodup_append]
    refine ⟨h2, by simp, fun a ha b hb => ?_⟩
    simp at hb
    subst hb
    exact fun e => hn (e ▸ ha)
theorem PP.last {v : Ver} {L : List S58} {m : S58} (h : PP v (L ++ [m])) : m.f0 ∉ nums L ∧ okP v m := by
  refine ⟨fun hm => ?_, h.1 m (by simp)⟩
  have h2 := h.2
  unfold nums at *
  rw [List.map_append, List.nodup_append] at h2
  exact h2.2.2 _ hm m.f0 (by simp) rfl
theorem idx0 (s0 s1 s2 s3 : Value) (w : World) : (Instr.index 24 (.agg #[s0, s1, s2, s3]) (.int .i64 0)).run Try.prog w = .ok s0 w := by kernel_rfl
theorem idx1 (s0 s1 s2 s3 : Value) (w : World) : (Instr.index 24 (.agg #[s0, s1, s2, s3]) (.int .i64 1)).run Try.prog w = .ok s1 w := by kernel_rfl
theorem idx2 (s0 s1 s2 s3 : Value) (w : World) : (Instr.index 24 (.agg #[s0, s1, s2, s3]) (.int .i64 2)).run Try.prog w = .ok s2 w := by kernel_rfl
theorem idx3 (s0 s1 s2 s3 : Value) (w : World) : (Instr.index 24 (.agg #[s0, s1, s2, s3]) (.int .i64 3)).run Try.prog w = .ok s3 w := by kernel_rfl
theorem idx_lv (v : Ver) (p : Pl) (i : Nat) (hi : i < 4) (w : World) : (Instr.index 24 (.agg (lCs v p)) (.int .i64 (i : Int))).run Try.prog w = .ok (.slice (p.a i) (v.lv i).length (p.c i)) w := by
  rcases (by omega : i = 0 ∨ i = 1 ∨ i = 2 ∨ i = 3) with rfl | rfl | rfl | rfl
  · exact idx0 _ _ _ _ w
  · exact idx1 _ _ _ _ w
  · exact idx2 _ _ _ _ w
  · exact idx3 _ _ _ _ w
end Go.Proofs.Ytkjepfofiegcdaa.V
