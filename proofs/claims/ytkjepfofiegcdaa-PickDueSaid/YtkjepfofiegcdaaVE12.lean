import Derived.Test.YtkjepfofiegcdaaVE11
import Derived.Deep.MidRow
/- A table stored into a row of one's own; rows that may be written. Conditions: none. -/
namespace Go.Proofs.Ytkjepfofiegcdaa.V
set_option linter.unusedVariables false
set_option linter.unusedSimpArgs false
open Go.RowKit Go.Proofs.YtkjepfofiegcdaaW.PrintWords Go.Proofs.YtkjepfofiegcdaaW.PrintLast Go.Proofs.YtkjepfofiegcdaaW.PrintMore Go.Proofs.Ytkjepfofiegcdaa.PB14
/-- A row of tables of one's own that may be written, whatever stands in it. -/
def Rm (w : World) (base : Nat) (A : Option Addr) (n : Nat) : Prop := n = 0 ∨ ∃ g cur, A = some ⟨g, 0, none⟩ ∧ base ≤ g ∧ w.heap[g]? = some (.cells cur 58 (0, 0)) ∧ n * 7 ≤ cur.size
theorem Rm.of_R {w : World} {base : Nat} {ok : Nat → Prop} {A : Option Addr} {c : Nat} {xs : List S58} (h : Kd.R k58 58 w base ok (.slice A xs.length c) xs) : Rm w base A xs.length := by
  obtain ⟨_, inner, ⟨_, h2⟩, _⟩ := h
  rcases h2 with ⟨h2, h3⟩ | ⟨g, cap, cur, he, hb, hh, hnc, _, hcs, _⟩
  · exact .inl h3
  · injection he with ha _ _
    refine .inr ⟨g, cur, ha, hb, hh, ?_⟩
    rw [hcs]
    exact Nat.mul_le_mul_right _ hnc
theorem Rm.below {w w' : World} {base : Nat} {A : Option Addr} {n : Nat} (h : Rm w base A n) (hb : Below w.heap.size w w') : Rm w' base A n := by
  rcases h with h | ⟨g, cur, ha, hb', hh, hs⟩
  · exact .inl h
  · exact .inr ⟨g, cur, ha, hb', blk_below hh hb, hs⟩
theorem below_setCells {B g : Nat} {w0 w : World} (h : Below B w0 w) (hg : B ≤ g) (o : Nat) (vs : List Value) : Below B w0 (w.setCells g o vs) := by
  obtain ⟨h1, h2, h3, h4⟩ := setCells_same g vs o w
  exact ⟨h1.trans h.os, h2.trans h.tape, h3.trans h.output, by rw [h4]; exact h.size, fun i hi => (setCells_far vs o i (by omega)).trans (h.block i hi)⟩
theorem Rm.set {w : World} {base : Nat} {A : Option Addr} {n : Nat} (h : Rm w base A n) {g' : Nat} {cur' : Array Value} (hg : w.heap[g']? = some (.cells cur' 58 (0, 0))) (o : Nat) (vs : List Value) (ho : o + vs.length ≤ cur'.size) : Rm (w.setCells g' o vs) base A n := by
  rcases h with h | ⟨g, cur, ha, hb', hh, hs⟩
  · exact .inl h
  · by_cases e : g = g'
    · subst e
      have e2 : cur = cur' := by
        rw [hh] at hg
        injection hg with hg
        injection hg
      subst e2
      obtain ⟨c2, h1, h2, _⟩ := setCells_row vs o w cur hh ho
      exact .inr ⟨g, c2, ha, hb', h1, by omega⟩
    · exact .inr ⟨g, cur, ha, hb', (setCells_far vs o g e).trans hh, hs⟩
theorem there_of {w : World} {g t : Nat} {cur : Array Value} (hg : w.heap[g]? = some (.cells cur t (0, 0))) (o n : Nat) (h : o + n ≤ cur.size) : w.there g o n := fun j hj => by
  refine ⟨?_, blk_frozen hg _⟩
  rw [blk_cell hg, Array.getElem?_eq_getElem (by omega)]
  rfl
section
variable {P : Program} {ops : Array Oper} {rest : List Oper} {o : Oper} {a : Act} {W : World} {Q : Exit → Act → World → Prop}
/-- A table is stored into a row that may be written. -/
theorem st_row (hgd : o.guard = none) (x y : Operand) (ho : o.op = .store 58 x y) (hi : (P.info? 58).map (·.size) = some 7) (base n : Nat) (ad : Addr) (i : Nat) (hin : i < n) (hr : Rm W base (some ad) n) (hx : a.eval x = .pointer (some (ad.add (i * 7)))) (cells : Array Value) (hy : a.eval y = .agg cells) (hc : cells.size = 7) (h1 : cells.all (·.oneCell') = true)
    (h : ∀ w1 : World, (∀ B w0, Below B w0 W → B ≤ base → Below B w0 w1) → (∀ b A m, Rm W b A m → Rm w1 b A m) → (∀ (k t : Nat) (cs : Array Value), W.heap[k]? = some (Obj.cells cs t (0, 0)) → t ≠ 58 → w1.heap[k]? = some (Obj.cells cs t (0, 0))) → wpList P ops Q rest (a.put o.dst undef) w1) : wpList P ops Q (o :: rest) a W := by
  rcases hr with hr | ⟨g, cur, ha, hb, hh, hs⟩
  · omega
  · cases ha
    rw [Addr.add_mid, Nat.zero_add] at hx
    have hs' : i * 7 + 7 ≤ cur.size := by omega
    refine wpList_store_mid hgd 58 x y ho g (i * 7) cells hx hy (there_of hh _ _ (by omega)) (by rw [hi, hc]) h1 (h _ ?_ ?_ ?_)
    · intro B w0 hB hle
      exact below_setCells hB (by omega) _ _
    · intro b A m hR
      exact hR.set hh _ _ (by rw [Array.length_toList]; omega)
    · intro k t cs hk ht
      refine (setCells_far _ _ k (fun e => ?_)).trans hk
      subst e
      rw [hh] at hk
      injection hk with hk
      injection hk with _ hk
      exact ht hk.symm
end
end Go.Proofs.Ytkjepfofiegcdaa.V
