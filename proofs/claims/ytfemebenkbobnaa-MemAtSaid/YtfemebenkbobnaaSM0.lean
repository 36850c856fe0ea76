import Derived.Test.YtfemebenkbobnaaPB060
import Derived.Deep.MidRow
import Derived.Laws.CopyOwn
/- The skip list in memory, and what its search and its insertion do to it, in the plain. Conditions: heights of at most 12. -/
namespace Go.Proofs.Ytfemebenkbobnaa.SM
set_option linter.unusedVariables false
open Go.RowKit Go.Proofs.YtfemebenkbobnaaW.PrintWords Go.Proofs.Ytfemebenkbobnaa.PB06
/-- The block that a list stands at the head of: its type, its cells behind the list's. -/
structure Tl where
  ty : Nat
  tl : List Value
  ok : ty = 34 ∨ ty = 94
theorem Tl.ne (TL : Tl) {q : Nat} (h1 : q ≠ 34) (h2 : q ≠ 94) : TL.ty ≠ q := fun e => by rcases TL.ok with h | h <;> omega
variable {TL : Tl}
/-- A node: its block, its row, how high it is. -/
structure Nd where
  blk : Nat
  row : S28
  h : Nat
def pv (o : Option Nat) : Value := .pointer (o.map fun b => ⟨b, 0, none⟩)
def rowC (r : S28) : List Value := [.string r.f0, .int .u64 r.f1, .int .i64 r.f2, .string r.f3]
/-- The first node that is higher than i. -/
def nxt (i : Nat) : List Nd → Option Nat
  | [] => none
  | x :: r => if i < x.h then some x.blk else nxt i r
def links (h : Nat) (r : List Nd) : List Value := (List.range 12).map fun i => pv (if i < h then nxt i r else none)
theorem links_len (h : Nat) (r : List Nd) : (links h r).length = 12 := by simp [links]
theorem links_get (h : Nat) (r : List Nd) (i : Nat) (hi : i < 12) : (links h r)[i]? = some (pv (if i < h then nxt i r else none)) := by
  simp [links, hi]
def cellsN (x : Nd) (r : List Nd) : List Value := rowC x.row ++ links x.h r
def zrow : S28 := ⟨⟨#[]⟩, 0, 0, ⟨#[]⟩⟩
def cellsH (TL : Tl) (ln ht : Int) (rs : List Nd) : List Value := rowC zrow ++ links 12 rs ++ [.int .i64 ln, .int .i64 ht] ++ TL.tl
theorem cellsN_len (x : Nd) (r : List Nd) : (cellsN x r).length = 16 := by simp [cellsN, rowC, links_len]
theorem cellsH_len (ln ht : Int) (rs : List Nd) : (cellsH TL ln ht rs).length = 18 + TL.tl.length := by simp [cellsH, rowC, links_len]; omega
theorem cellsN_row (x : Nd) (r : List Nd) (j : Nat) (hj : j < 4) : (cellsN x r)[j]? = (rowC x.row)[j]? := by
  rw [cellsN, List.getElem?_append_left (by simp [rowC]; omega)]
theorem cellsN_link (x : Nd) (r : List Nd) (i : Nat) (hi : i < 12) : (cellsN x r)[4 + i]? = some (pv (if i < x.h then nxt i r else none)) := by
  rw [cellsN, List.getElem?_append_right (by simp [rowC]), show 4 + i - (rowC x.row).length = i from by simp [rowC], links_get _ _ _ hi]
theorem cellsH_link (ln ht : Int) (rs : List Nd) (i : Nat) (hi : i < 12) : (cellsH TL ln ht rs)[4 + i]? = some (pv (nxt i rs)) := by
  rw [cellsH, List.append_assoc, List.append_assoc, List.getElem?_append_right (by simp [rowC]), show 4 + i - (rowC zrow).length = i from by simp [rowC], List.getElem?_append_left (by simp [links_len]; omega), links_get _ _ _ hi, if_pos hi]
theorem cellsH_len_ (ln ht : Int) (rs : List Nd) : (cellsH TL ln ht rs)[16]? = some (.int .i64 ln) := by
  rw [cellsH, List.append_assoc, List.getElem?_append_right (by simp [rowC, links_len])]; simp [rowC, links_len]
theorem cellsH_ht (ln ht : Int) (rs : List Nd) : (cellsH TL ln ht rs)[17]? = some (.int .i64 ht) := by
  rw [cellsH, List.append_assoc, List.getElem?_append_right (by simp [rowC, links_len])]; simp [rowC, links_len]
theorem cellsH_tl (ln ht : Int) (rs : List Nd) (j : Nat) : (cellsH TL ln ht rs)[18 + j]? = TL.tl[j]? := by
  rw [cellsH, List.getElem?_append_right (by simp [rowC, links_len])]; simp [rowC, links_len]
/-- The nodes, each behind the one before. -/
def Chain (w : World) : List Nd → Prop
  | [] => True
  | x :: r => w.heap[x.blk]? = some (.cells (cellsN x r).toArray 32 (0, 0)) ∧ Chain w r
theorem Chain.drop {w : World} : ∀ {P R : List Nd}, Chain w (P ++ R) → Chain w R
  | [], _, h => h
  | _ :: P, R, h => Chain.drop (P := P) h.2
theorem Chain.keep {w w' : World} : ∀ {rs : List Nd}, Chain w rs → (∀ x, x ∈ rs → w'.heap[x.blk]? = w.heap[x.blk]?) → Chain w' rs
  | [], _, _ => trivial
  | x :: r, h, hk => ⟨(hk x List.mem_cons_self).trans h.1, Chain.keep h.2 (fun y hy => hk y (List.mem_cons_of_mem _ hy))⟩
theorem Chain.mem {w : World} : ∀ {rs : List Nd}, Chain w rs → ∀ x, x ∈ rs → ∃ cs, w.heap[x.blk]? = some (.cells cs 32 (0, 0))
  | y :: r, h, x, hx => by
    rcases List.mem_cons.mp hx with rfl | hx
    · exact ⟨_, h.1⟩
    · exact Chain.mem h.2 x hx
/-- A skip list at block g: its length, its height, its nodes. -/
structure SL (TL : Tl) (w : World) (g : Nat) (ln ht : Int) (rs : List Nd) : Prop where
  head : w.heap[g]? = some (.cells (cellsH TL ln ht rs).toArray TL.ty (0, 0))
  chain : Chain w rs
  nodup : (rs.map (·.blk)).Nodup
  top : ∀ x, x ∈ rs → x.h ≤ 12
theorem SL.apart {w : World} {g : Nat} {ln ht : Int} {rs : List Nd} (h : SL TL w g ln ht rs) : ∀ x, x ∈ rs → x.blk ≠ g := fun x hx e => by
  obtain ⟨cs, h1⟩ := h.chain.mem x hx
  rw [e, h.head] at h1
  have h2 := Option.some.inj h1
  injection h2 with _ h3 _
  exact TL.ne (by decide) (by decide) h3
theorem SL.keep {w w' : World} {g : Nat} {ln ht : Int} {rs : List Nd} (h : SL TL w g ln ht rs) (hk : ∀ k, k = g ∨ k ∈ rs.map (·.blk) → w'.heap[k]? = w.heap[k]?) : SL TL w' g ln ht rs :=
  ⟨(hk g (.inl rfl)).trans h.head, h.chain.keep (fun x hx => hk _ (.inr (List.mem_map.mpr ⟨x, hx, rfl⟩))), h.nodup, h.top⟩
theorem SL.lt {w : World} {g : Nat} {ln ht : Int} {rs : List Nd} (h : SL TL w g ln ht rs) : ∀ k, k = g ∨ k ∈ rs.map (·.blk) → k < w.heap.size := by
  intro k hk
  have aux : ∀ (o : Obj), w.heap[k]? = some o → k < w.heap.size := fun o ho => (Array.getElem?_eq_some_iff.mp ho).1
  rcases hk with rfl | hk
  · exact aux _ h.head
  · obtain ⟨x, hx, rfl⟩ := List.mem_map.mp hk
    obtain ⟨cs, h1⟩ := h.chain.mem x hx
    exact aux _ h1
theorem SL.below {w w' : World} {g : Nat} {ln ht : Int} {rs : List Nd} (h : SL TL w g ln ht rs) (hb : Below w.heap.size w w') : SL TL w' g ln ht rs := h.keep fun k hk => hb.block k (h.lt k hk)
/-- The block that the nodes P end in. -/
def endB (g : Nat) (P : List Nd) : Nat := (P.getLast?.map (·.blk)).getD g
theorem endB_nil (g : Nat) : endB g [] = g := rfl
theorem endB_snoc (g : Nat) (P : List Nd) (x : Nd) : endB g (P ++ [x]) = x.blk := by simp [endB]
/-- Is the end of P higher than i? -/
def High (i : Nat) (P : List Nd) : Prop := ∀ x, P.getLast? = some x → i < x.h
theorem High_nil (i : Nat) : High i [] := fun x h => by simp at h
theorem High_snoc {i : Nat} {P : List Nd} {x : Nd} (h : i < x.h) : High i (P ++ [x]) := fun y hy => by simp at hy; subst hy; exact h
theorem High.mono {i j : Nat} {P : List Nd} (h : High i P) (hj : j ≤ i) : High j P := fun x hx => Nat.lt_of_le_of_lt hj (h x hx)
/-- What the link of the place behind P holds. -/
theorem SL.next {w : World} {g : Nat} {ln ht : Int} {rs P R : List Nd} (h : SL TL w g ln ht rs) (hrs : rs = P ++ R) {i : Nat} (hi : i < 12) (hh : High i P) : w.cell? ⟨endB g P, 4 + i, none⟩ = some (pv (nxt i R)) := by
  subst hrs
  rcases List.eq_nil_or_concat P with rfl | ⟨P', x, rfl⟩
  · rw [endB_nil, blk_cell h.head]
    simp only [List.nil_append, List.getElem?_toArray]
    exact cellsH_link ln ht R i hi
  · rw [List.concat_eq_append, endB_snoc]
    have h1 : Chain w (x :: R) := by
      have := h.chain
      rw [List.concat_eq_append, List.append_assoc] at this
      exact Chain.drop this
    rw [blk_cell h1.1, List.getElem?_toArray, cellsN_link x R i hi, if_pos (hh x (by simp))]
theorem SL.node {w : World} {g : Nat} {ln ht : Int} {rs P R : List Nd} {x : Nd} (h : SL TL w g ln ht rs) (hrs : rs = P ++ x :: R) : w.heap[x.blk]? = some (.cells (cellsN x R).toArray 32 (0, 0)) := by
  subst hrs
  exact (Chain.drop h.chain).1
theorem nxt_split {i : Nat} : ∀ {R : List Nd} {b : Nat}, nxt i R = some b → ∃ R1 y R2, R = R1 ++ y :: R2 ∧ y.blk = b ∧ i < y.h ∧ ∀ x, x ∈ R1 → x.h ≤ i
  | x :: r, b, h => by
    rw [nxt] at h
    by_cases c : i < x.h
    · rw [if_pos c] at h
      exact ⟨[], x, r, rfl, Option.some.inj h, c, fun _ hx => by simp at hx⟩
    · rw [if_neg c] at h
      obtain ⟨R1, y, R2, rfl, h1, h2, h3⟩ := nxt_split h
      refine ⟨x :: R1, y, R2, rfl, h1, h2, fun z hz => ?_⟩
      rcases List.mem_cons.mp hz with rfl | hz
      · omega
      · exact h3 z hz
theorem nxt_none {i : Nat} : ∀ {R : List Nd}, nxt i R = none → ∀ x, x ∈ R → x.h ≤ i
  | x :: r, h, y, hy => by
    rw [nxt] at h
    by_cases c : i < x.h
    · rw [if_pos c] at h; cases h
    · rw [if_neg c] at h
      rcases List.mem_cons.mp hy with rfl | hy
      · omega
      · exact nxt_none h y hy
theorem nxt_skip {i : Nat} : ∀ {R1 : List Nd} (R2 : List Nd), (∀ x, x ∈ R1 → x.h ≤ i) → nxt i (R1 ++ R2) = nxt i R2
  | [], _, _ => rfl
  | x :: r, R2, h => by
    rw [List.cons_append, nxt, if_neg (by have := h x List.mem_cons_self; omega)]
    exact nxt_skip R2 (fun y hy => h y (List.mem_cons_of_mem _ hy))
theorem nxt_found {i : Nat} : ∀ {R1 : List Nd} (R2 R3 : List Nd), (∃ x, x ∈ R1 ∧ i < x.h) → nxt i (R1 ++ R2) = nxt i (R1 ++ R3)
  | [], _, _, h => by obtain ⟨x, hx, _⟩ := h; simp at hx
  | x :: r, R2, R3, h => by
    rw [List.cons_append, List.cons_append, nxt, nxt]
    by_cases c : i < x.h
    · rw [if_pos c, if_pos c]
    · rw [if_neg c, if_neg c]
      obtain ⟨y, hy, hh⟩ := h
      rcases List.mem_cons.mp hy with rfl | hy
      · exact absurd hh c
      · exact nxt_found R2 R3 ⟨y, hy, hh⟩
section
variable {P : Program} {ops : Array Oper} {rest : List Oper} {o : Oper} {a : Act} {Q : Exit → Act → World → Prop} {W : World}
/-- A whole array (or struct) read out of its block. -/
theorem ld_arr (hgd : o.guard = none) (ty : TypeId) (x : Operand) (ho : o.op = .load ty x) (g t : Nat) (hx : a.eval x = .pointer (some ⟨g, 0, none⟩)) (cs : Array Value) (fr : Nat × Nat) (d : TypeDesc) (hg : W.heap[g]? = some (.cells cs t fr))
    (hu : P.underlying ty = some d) (hd : (match d with | .struct _ | .array _ _ => true | _ => false) = true) (hi : (P.info? ty).map (·.size) = some cs.size) (h : wpList P ops Q rest (a.put o.dst (.agg cs)) W) : wpList P ops Q (o :: rest) a W :=
  wpList_plain hgd fun _ hK => by
    unfold Oper.wp execOp
    simp only [ho, hx, Instr.loadAt, Instr.sureAddr, Sem.run_bind, Sem.run_pure, Result.andThen_ok, run_loadVar_row W g t ty cs fr d hg hu hd hi]
    exact hK _ _ h
/-- A whole array stored into its block. -/
theorem st_arr (hgd : o.guard = none) (ty : TypeId) (x y : Operand) (ho : o.op = .store ty x y) (g t : Nat) (hx : a.eval x = .pointer (some ⟨g, 0, none⟩)) (cells : Array Value) (hy : a.eval y = .agg cells) (old : Array Value) (hg : W.heap[g]? = some (.cells old t (0, 0)))
    (hi : (P.info? ty).map (·.size) = some cells.size) (hs : old.size = cells.size) (h1 : cells.all (·.oneCell') = true)
    (h : ∀ w1 : World, w1.heap[g]? = some (.cells cells t (0, 0)) → (∀ B w0, Below B w0 W → B ≤ g → Below B w0 w1) → (∀ k, k ≠ g → w1.heap[k]? = W.heap[k]?) → w1.heap.size = W.heap.size → wpList P ops Q rest (a.put o.dst undef) w1) : wpList P ops Q (o :: rest) a W :=
  wpList_plain hgd fun _ hK => by
    unfold Oper.wp execOp
    simp only [ho, hx, hy, Instr.storeAt, Instr.sureAddr, Sem.run_bind, Sem.run_pure, Result.andThen_ok, run_storeVar_row W g t ty old cells hg hi hs h1]
    exact hK _ _ (h _ (setRow_heap W g old cells t (0, 0) hg) (fun B w0 hb hle => below_setRow hb hle cells) (fun k hk => setRow_other W g k cells hk) (setRow_size W g cells))
/-- One cell stored into a block. -/
theorem st_one (hgd : o.guard = none) (ty : TypeId) (x y : Operand) (ho : o.op = .store ty x y) (g t j : Nat) (hx : a.eval x = .pointer (some ⟨g, j, none⟩)) (v : Value) (hy : a.eval y = v) (old : Array Value) (hg : W.heap[g]? = some (.cells old t (0, 0))) (hj : j < old.size)
    (hrun : (Instr.storeAt ty (.pointer (some ⟨g, j, none⟩)) v).run P W = .ok () (W.setCell ⟨g, j, none⟩ v))
    (h : ∀ w1 : World, w1.heap[g]? = some (.cells (old.setIfInBounds j v) t (0, 0)) → (∀ B w0, Below B w0 W → B ≤ g → Below B w0 w1) → (∀ k, k ≠ g → w1.heap[k]? = W.heap[k]?) → w1.heap.size = W.heap.size → wpList P ops Q rest (a.put o.dst undef) w1) : wpList P ops Q (o :: rest) a W :=
  wpList_plain hgd fun _ hK => by
    unfold Oper.wp execOp
    simp only [ho, hx, hy, hrun, Sem.run_bind, Sem.run_pure, Result.andThen_ok]
    exact hK _ _ (h _ (blk_put hg j v rfl) (fun B w0 hb hle => hb.setCell hle _) (fun k hk => Below.heap_setCell W ⟨g, j, none⟩ v k hk) (by simp [World.setCell]))
end
end Go.Proofs.Ytfemebenkbobnaa.SM
