import Derived.Test.YtkjepfofiegcdaaVB1
import Derived.Maps.OwnOps
import Derived.Maps.Views
/- A map of counts (of type map[uint64]int). Conditions: none. -/
namespace Go.Proofs.Ytkjepfofiegcdaa.V
set_option linter.unusedVariables false
set_option linter.unusedSimpArgs false
open Go.RowKit Go.Proofs.YtkjepfofiegcdaaW.PrintWords Go.Proofs.YtkjepfofiegcdaaW.PrintLast Go.Proofs.YtkjepfofiegcdaaW.PrintMore Go.Proofs.Ytkjepfofiegcdaa.PB14
open Go.WideMaps Go.Maps
theorem law22 : Keyed Try.prog 22 := int_keyed Try.underlying22
theorem zero3 (w : World) : (zeroValue 3).run Try.prog w = .ok (.int .i64 0) w := by kernel_rfl
/-- Block b is a map of at most n numbers; k reads as F k. -/
def Cnt (w : World) (b n : Nat) (F : Int → Int) : Prop := ∃ D : DataW Unit, IsMap D ∧ w.ownsMap Try.prog 22 (plainElem Try.prog 3) b n D ∧ ∀ k : Int, D.atKey (.int .u64 k) (.lit (.int .i64 0)) = .lit (.int .i64 (F k))
theorem Cnt.made (w : World) : Cnt (w.alloc (.map #[] 0)) w.heap.size 0 (fun _ => 0) := ⟨.map [], isMap_empty, World.ownsMap_made _ _ _ _, fun k => rfl⟩
theorem wf_u64 {k : Int} (h0 : 0 ≤ k) (h1 : k ≤ 18446744073709551615) : (Lit.int .u64 k).wf = true := by
  have a : IntKind.u64.min = 0 := by decide
  have b : IntKind.u64.max = 18446744073709551615 := by decide
  simp [Lit.wf, a, b]
  omega
theorem wf_i64 {k : Int} (h0 : -9223372036854775808 ≤ k) (h1 : k ≤ 9223372036854775807) : (Lit.int .i64 k).wf = true := by
  have a : IntKind.i64.min = -9223372036854775808 := by decide
  have b : IntKind.i64.max = 9223372036854775807 := by decide
  simp [Lit.wf, a, b]
  omega
section
variable {w w' : World} {b n : Nat} {F : Int → Int}
theorem Cnt.look (h : Cnt w b n F) {k : Int} (hk : (Lit.int .u64 k).wf = true) : (Instr.lookup 124 (.map (some b)) (.int .u64 k) false).run Try.prog w = .ok (.int .i64 (F k)) w := by
  obtain ⟨D, _, ho, hF⟩ := h
  obtain ⟨c, hrun, hat, _⟩ := ho.lookup_int law22 Try.underlying124 Try.underlying3 (zero3 w) (keyOf_int_mk Try.underlying22 hk)
  rw [hF] at hat
  have e := (Lit.int.inj (DataW.lit.inj hat)).2
  subst e
  exact hrun
theorem Cnt.kept {row : Option Nat} (h : Cnt w b n F) (hg : w.grownBy w' row) (hne : some b ≠ row) : Cnt w' b n F := by
  obtain ⟨D, h1, h2, h3⟩ := h
  exact ⟨D, h1, h2.kept hg hne, h3⟩
theorem Cnt.below (h : Cnt w b n F) (hb : Below w.heap.size w w') : Cnt w' b n F := h.kept (grown_of_below hb none) (by simp)
theorem Cnt.lt (h : Cnt w b n F) : b < w.heap.size := by
  obtain ⟨D, _, h2, _⟩ := h
  exact h2.lt
end
section
variable {ops : Array Oper} {rest : List Oper} {o : Oper} {a : Act} {Q : Exit → Act → World → Prop}
/-- m[k] = u. -/
theorem cnt_put (w : World) (hg : o.guard = none) (m x v : Operand) (hop : o.op = Op.mapUpdate 124 m x v) {b n : Nat} {F : Int → Int} (hm : a.eval m = .map (some b)) (h : Cnt w b n F) (hn : n < maxLen) (k u : Int) (hx : a.eval x = .int .u64 k) (hv : a.eval v = .int .i64 u) (hk : (Lit.int .u64 k).wf = true) (u0 : -9223372036854775808 ≤ u) (u1 : u ≤ 9223372036854775807)
    (hK : ∀ w', Cnt w' b (n + 1) (fun j => if j = k then u else F j) → w.grownBy w' (some b) → wpList Try.prog ops Q rest (a.put o.dst undef) w') : wpList Try.prog ops Q (o :: rest) a w := by
  obtain ⟨D, h1, h2, h3⟩ := h
  refine wpList_mapUpdate_own w hg m x v 124 hop 22 3 law22 Try.underlying124 _ b n D hm h2 hn _ _ _ hx hv (keyOf_int_mk Try.underlying22 hk) _ [] (plainElem_int Try.underlying3 (wf_i64 u0 u1)) ?_
  intro w' ho hgr
  refine hK w' ⟨_, h1.put _ _, ho, fun j => ?_⟩ hgr
  by_cases e : j = k
  · subst e
    show DataW.atKey _ _ _ = .lit (.int .i64 (if j = j then u else F j))
    rw [if_pos rfl]
    exact atKey_put_same h1 (show WideAt.IsKeyLit (.int .u64 j) from trivial) _ _
  · show DataW.atKey _ _ _ = .lit (.int .i64 (if j = k then u else F j))
    rw [if_neg e, atKey_put_other (fun hc => e (by injection hc)), h3]
end
end Go.Proofs.Ytkjepfofiegcdaa.V
