import Derived.Test.YtfemebenkbobnaaSM5
import Derived.RangeFuncNested
import Derived.RangeFuncBound
import Derived.RangeFuncCalls
import Derived.RangeFuncLeaves
import Derived.Shelf.Abstract
import Derived.WalkKit
import Derived.OwnWalkIn
import Derived.TacticsInMore
import Derived.LoopNIn
import Derived.LoopIn
import Derived.Sort.LoopGhostIn
import Derived.Maps.AppendAt
/- The skip list's From, as an iterator: what comes of it. Conditions: at most 2 to the 61st rows. -/
namespace Go.Proofs.Ytfemebenkbobnaa.SM
set_option linter.unusedVariables false
set_option linter.unusedSimpArgs false
open Go.RowKit Go.Shelf Go.Proofs.YtfemebenkbobnaaW.PrintWords Go.Proofs.YtfemebenkbobnaaW.PrintLast Go.Proofs.YtfemebenkbobnaaW.PrintMore Go.Proofs.Ytfemebenkbobnaa.PB06
variable {TL : Tl}
attribute [local go_sem] Oper.semAt_some
section
variable {F : Fence} {n : Nat} {P : Program} {ops : Array Oper} {rest : List Oper} {o : Oper} {a : Act} {Q : Exit → Act → World → Prop} {W : World}
/-- A whole array stored into its block, in a fence. -/
theorem st_arrIn (hgd : o.guard = none) (ty : TypeId) (x y : Operand) (ho : o.op = .store ty x y) (g t : Nat) (hx : a.eval x = .pointer (some ⟨g, 0, none⟩)) (cells : Array Value) (hy : a.eval y = .agg cells) (old : Array Value) (hg : W.heap[g]? = some (.cells old t (0, 0)))
    (hi : (P.info? ty).map (·.size) = some cells.size) (hs : old.size = cells.size) (h1 : cells.all (·.oneCell') = true)
    (h : ∀ w1 : World, w1.heap[g]? = some (.cells cells t (0, 0)) → (∀ B w0, Below B w0 W → B ≤ g → Below B w0 w1) → (∀ k, k ≠ g → w1.heap[k]? = W.heap[k]?) → w1.heap.size = W.heap.size → wpListIn F n P ops Q rest (a.put o.dst undef) w1) : wpListIn F n P ops Q (o :: rest) a W := by
  refine wpListIn_plain hgd fun K hK => ?_
  unfold Oper.wpIn
  refine ⟨?_, ?_⟩
  · simp [Oper.about, ho]
  · rw [Oper.semAt_plain F _ _ (by rw [ho]; intro c hc'; cases hc')]
    unfold execOp
    simp only [ho, hx, hy, Instr.storeAt, Instr.sureAddr, Sem.run_bind, Sem.run_pure, Result.andThen_ok, run_storeVar_row W g t ty old cells hg hi hs h1]
    exact hK _ _ (h _ (setRow_heap W g old cells t (0, 0) hg) (fun B w0 hb hle => below_setRow hb hle cells) (fun k hk => setRow_other W g k cells hk) (setRow_size W g cells))
end
def rowV (r : S28) : Value := .agg #[.string r.f0, .int .u64 r.f1, .int .i64 r.f2, .string r.f3]
theorem from_calls (w : World) (p : Option Addr) (key : ByteArray) (seq : Int) : Calls Try.prog 65 #[.pointer p, .string key, .int .u64 seq] w fun e w' =>
    e = .returned (.func (.func 84) #[] #[.pointer (some ⟨w.heap.size, 0, none⟩), .pointer (some ⟨w.heap.size + 1, 0, none⟩), .pointer (some ⟨w.heap.size + 1 + 1, 0, none⟩)]) ∧ w' = ((w.alloc (.cells #[.pointer p] 26)).alloc (.cells #[.string key] 9)).alloc (.cells #[.int .u64 seq] 24) := by
  go_enter Try.func65, Try.ntmps65
  go_wp2
  go_ret
  exact ⟨rfl, rfl⟩
theorem grown_of_below {w w' : World} (h : Below w.heap.size w w') : w.grownBy w' none := ⟨h.os, h.tape, h.output, h.size, fun k hk _ => h.block k hk⟩
theorem nxt_head : ∀ {R : List Nd}, (∀ x, x ∈ R → 1 ≤ x.h) → nxt 0 R = R.head?.map (·.blk)
  | [], _ => rfl
  | x :: r, h => by rw [nxt, if_pos (show 0 < x.h from h x List.mem_cons_self)]; rfl
set_option maxHeartbeats 8000000 in
set_option maxRecDepth 100000 in
/-- The iterator, over whatever the rounds make of it. -/
theorem it_in (n l B1 B2 B3 n₀ g : Nat) (hn : 1 ≤ n) (key : ByteArray) (seq : Int) (rs : List Nd) (J Jx : List S28 → World → Prop) (W : World) (hJ : AbidesFrom W.heap.size J)
    (hY : ∀ pre x W1, J pre W1 → pre.length < (beh key seq rs).length → YieldAt Fence.wide (n - 1) Try.prog l #[rowV x] W1 fun e W' => (e = .returned (.bool true) ∧ J (pre ++ [x]) W' ∧ Below n₀ W1 W') ∨ (e = .returned (.bool false) ∧ Jx (pre ++ [x]) W'))
    (h1 : W.cell? ⟨B1, 0, none⟩ = some (.pointer (some ⟨g, 0, none⟩))) (h2 : W.cell? ⟨B2, 0, none⟩ = some (.string key)) (h3 : W.cell? ⟨B3, 0, none⟩ = some (.int .u64 seq)) (hS : Sk TL W g rs) (hlow : ∀ k, k = g ∨ k ∈ rs.map (·.blk) → k < n₀) (hn₀ : n₀ ≤ W.heap.size) (hlen : rs.length ≤ 2305843009213693952) (h0 : J [] W) :
    CallsIn Fence.wide n Try.prog 84 #[.func (.yield l) #[] #[], .pointer (some ⟨B1, 0, none⟩), .pointer (some ⟨B2, 0, none⟩), .pointer (some ⟨B3, 0, none⟩)] W fun e W' => (∃ v, e = .returned v) ∧
      ((∃ ys, ys = (beh key seq rs).map (·.row) ∧ J ys W') ∨ (∃ pre, pre <+: (beh key seq rs).map (·.row) ∧ Jx pre W')) := by
  have HJ := Aside0.mk hJ
  have HY := Aside0.mk hY
  have HS := Aside0.mk hS
  have HLW := Aside0.mk hlow
  have HN := Aside0.mk hn₀
  have HL := Aside0.mk hlen
  have H0 := Aside0.mk h0
  clear hJ hY hS hlow hn₀ hlen h0
  refine callsIn_of_wp Try.func84 rfl trivial ?_ rfl
  simp only [Try.ntmps84, List.size_toArray, List.length_cons, List.length_nil, Nat.reduceAdd, Nat.reduceSub, Array.replicate_succ, Array.replicate_zero, List.push_toArray, List.append_toArray, List.nil_append, List.cons_append]
  gi_wp2
  refine ⟨trivial, ?_⟩
  refine (callsIn_wide.2 (search_calls _ g _ _ rs key seq HS.out.sl (HS.out.front key seq) (by have := HL.out; omega))).mono ?_
  rintro e w3 ⟨bs, rfl, hl, hfd, hb⟩
  have HBL := Aside0.mk hl
  have HX := Aside0.mk hfd
  have HB := Aside0.mk hb
  clear hl hfd hb h1 h2 h3
  have BK := Aside0.mk (blk_new w3 (.cells #[.pointer none, .pointer none, .pointer none, .pointer none, .pointer none, .pointer none, .pointer none, .pointer none, .pointer none, .pointer none, .pointer none, .pointer none] 30))
  have HB2 := Aside0.mk (HB.out.alloc HB.out.size (.cells #[.pointer none, .pointer none, .pointer none, .pointer none, .pointer none, .pointer none, .pointer none, .pointer none, .pointer none, .pointer none, .pointer none, .pointer none] 30))
  have GE := Aside0.mk HB.out.size
  gi_wp2_with ((refine st_arrIn rfl 30 _ _ rfl w3.heap.size 30 ?hx bs.toArray ?hy _ BK.out (by rw [size30]; simp [HBL.out]) (by simp [HBL.out]) (found_one HBL.out HX.out) ?_; (case hx => rfl); (case hy => rfl); intro w5 hb5 hbb hk5 hs5; have n0_ := Aside0.mk hb5; have n1_ := Aside0.mk (hbb _ _ HB2.out GE.out); clear HB BK HB2; have BK := n0_; have HB := n1_; clear n0_ n1_ hb5 hbb hk5 hs5; obtain ⟨v0, hv0, hf0⟩ := HX.out 0 (by decide); obtain ⟨rfl, hh0⟩ := found0 (A := ahd key seq rs) (T := beh key seq rs) (by rw [ahd_beh]; exact hf0) (by rw [ahd_beh]; exact HS.out.lo) ahd_all beh_head; have hb0 : w5.cell? ⟨w3.heap.size, 0, none⟩ = some (.pointer (some ⟨endB g (ahd key seq rs), 0, none⟩)) := (by rw [blk_cell BK.out, List.getElem?_toArray]; exact hv0); have hn0 : w5.cell? ⟨endB g (ahd key seq rs), 4, none⟩ = some (pv (nxt 0 (beh key seq rs))) := (HS.out.sl.below HB.out).next (ahd_beh key seq rs).symm (by decide) hh0; clear hv0 hf0 hh0))
  have HE := Aside0.mk (ahd_beh key seq rs)
  have hst := nxt_head (R := beh key seq rs) (fun x hx => HS.out.lo x (by rw [← HE.out]; exact List.mem_append_right _ hx))
  rw [hst]
  clear hst hb0 hn0
  have HBn := Aside0.mk (HB.out.mono HN.out)
  have HJ0 := Aside0.mk (HJ.out [] W w5 none H0.out (grown_of_below HB.out) (fun r e => by cases e))
  gi_loopg [7] (beh key seq rs).length (fun kq v7 w' => ∃ (pre rest : List Nd), v7 = pv (rest.head?.map (·.blk)) ∧ Aside0 (rest.length = kq) ∧ Aside0 (beh key seq rs = pre ++ rest) ∧ Aside0 (J (pre.map (·.row)) w') ∧ Aside0 (Below n₀ W w'))
  case atStart => exact ⟨[], beh key seq rs, rfl, ⟨rfl⟩, ⟨rfl⟩, HJ0, HBn⟩
  case round =>
    clear HJ0 HBn HB BK
    obtain ⟨pre, rest, rfl, HQ, HR, HJ0, HBn⟩ := hrel
    cases rest with
    | nil =>
      rw [show pv (([] : List Nd).head?.map (·.blk)) = .pointer none from rfl]
      gi_wp2
      refine ⟨fun _ h => (by cases h), ?_⟩
      gi_wp2
      go_end0
      exact ⟨⟨_, rfl⟩, .inl ⟨_, rfl, by have h1 := HR.out; rw [List.append_nil] at h1; rw [h1]; exact HJ0.out⟩⟩
    | cons x rest =>
      rw [show pv ((x :: rest).head?.map (·.blk)) = .pointer (some ⟨x.blk, 0, none⟩) from rfl]
      have hsp : rs = (ahd key seq rs ++ pre) ++ x :: rest := by rw [List.append_assoc, ← HR.out, HE.out]
      have hlt : x.blk < n₀ := HLW.out x.blk (.inr (by rw [hsp]; simp))
      have hnode := HS.out.sl.node hsp
      have hr0 : wr.cell? ⟨x.blk, 0, none⟩ = some (.string x.row.f0) := (HBn.out.cell (p := ⟨x.blk, 0, none⟩) hlt).trans (by rw [blk_cell hnode, List.getElem?_toArray, cellsN_row x rest 0 (by omega)]; rfl)
      have hr1 : wr.cell? ⟨x.blk, 1, none⟩ = some (.int .u64 x.row.f1) := (HBn.out.cell (p := ⟨x.blk, 1, none⟩) hlt).trans (by rw [blk_cell hnode, List.getElem?_toArray, cellsN_row x rest 1 (by omega)]; rfl)
      have hr2 : wr.cell? ⟨x.blk, 2, none⟩ = some (.int .i64 x.row.f2) := (HBn.out.cell (p := ⟨x.blk, 2, none⟩) hlt).trans (by rw [blk_cell hnode, List.getElem?_toArray, cellsN_row x rest 2 (by omega)]; rfl)
      have hr3 : wr.cell? ⟨x.blk, 3, none⟩ = some (.string x.row.f3) := (HBn.out.cell (p := ⟨x.blk, 3, none⟩) hlt).trans (by rw [blk_cell hnode, List.getElem?_toArray, cellsN_row x rest 3 (by omega)]; rfl)
      have hnx : W.cell? ⟨x.blk, 4, none⟩ = some (pv (rest.head?.map (·.blk))) := by
        rw [blk_cell hnode, List.getElem?_toArray, cellsN_link x rest 0 (by omega), if_pos (show 0 < x.h from HS.out.lo x (by rw [hsp]; simp)), nxt_head (fun y hy => HS.out.lo y (by rw [hsp]; simp [hy]))]
      have HLT := Aside0.mk hlt
      have HNX := Aside0.mk hnx
      clear hsp hlt hnode hnx
      obtain ⟨fn, tmps, assign, body, hy, hR⟩ := HY.out (pre.map (·.row)) x.row wr HJ0.out (by rw [HR.out]; simp)
      dsimp only [rowV] at hy
      gi_wp2
      refine hR.mono ?_
      rintro e W3 (⟨rfl, hJ3, hk3⟩ | ⟨rfl, hJx3⟩)
      · have HB3 := Aside0.mk (HBn.out.trans hk3)
        have HJ3 := Aside0.mk hJ3
        clear hJ3 hk3
        have hn3 : W3.cell? ⟨x.blk, 4, none⟩ = some (pv (rest.head?.map (·.blk))) := (HB3.out.cell (p := ⟨x.blk, 4, none⟩) HLT.out).trans HNX.out
        gi_wp2
        gi_roundg rest.length
        case measure => have h1 := HQ.out; rw [List.length_cons] at h1; omega
        case rel => exact ⟨pre ++ [x], rest, rfl, ⟨rfl⟩, ⟨by rw [HR.out]; simp⟩, ⟨by rw [List.map_append]; exact HJ3.out⟩, HB3⟩
      · gi_wp2
        go_end0
        exact ⟨⟨_, rfl⟩, .inr ⟨pre.map (·.row) ++ [x.row], ⟨rest.map (·.row), by rw [HR.out]; simp⟩, hJx3⟩⟩
/-- The iterator over no list. -/
theorem it_nil (n l B1 B2 B3 : Nat) (J Jx : List S28 → World → Prop) (W : World) (h1 : W.cell? ⟨B1, 0, none⟩ = some (.pointer none)) (h0 : J [] W) :
    CallsIn Fence.wide n Try.prog 84 #[.func (.yield l) #[] #[], .pointer (some ⟨B1, 0, none⟩), .pointer (some ⟨B2, 0, none⟩), .pointer (some ⟨B3, 0, none⟩)] W fun e W' => (∃ v, e = .returned v) ∧
      ((∃ ys, ys = ([] : List S28) ∧ J ys W') ∨ (∃ pre, pre <+: ([] : List S28) ∧ Jx pre W')) := by
  have H0 := Aside0.mk h0
  clear h0
  refine callsIn_of_wp Try.func84 rfl trivial ?_ rfl
  simp only [Try.ntmps84, List.size_toArray, List.length_cons, List.length_nil, Nat.reduceAdd, Nat.reduceSub, Array.replicate_succ, Array.replicate_zero, List.push_toArray, List.append_toArray, List.nil_append, List.cons_append]
  gi_wp2
  refine bodyPost_ret (results_none rfl _ _ _) rfl ?_
  exact ⟨⟨_, rfl⟩, .inl ⟨[], rfl, H0.out⟩⟩
/-- What From hands back. -/
theorem from_stops (n B1 B2 B3 n₀ g : Nat) (hn : 1 ≤ n) (key : ByteArray) (seq : Int) (rs : List Nd) (w : World) (b1 : B1 < w.heap.size) (b2 : B2 < w.heap.size) (b3 : B3 < w.heap.size)
    (h1 : w.cell? ⟨B1, 0, none⟩ = some (.pointer (some ⟨g, 0, none⟩))) (h2 : w.cell? ⟨B2, 0, none⟩ = some (.string key)) (h3 : w.cell? ⟨B3, 0, none⟩ = some (.int .u64 seq)) (hS : Sk TL w g rs) (hlow : ∀ k, k = g ∨ k ∈ rs.map (·.blk) → k < n₀) (hn₀ : n₀ ≤ w.heap.size) (hlen : rs.length ≤ 2305843009213693952) :
    SeqStopsK Fence.wide n Try.prog 84 #[.pointer (some ⟨B1, 0, none⟩), .pointer (some ⟨B2, 0, none⟩), .pointer (some ⟨B3, 0, none⟩)] (fun x : S28 => #[rowV x]) (Below n₀) (fun ys => ys = (beh key seq rs).map (·.row)) (fun pre => pre <+: (beh key seq rs).map (·.row)) (beh key seq rs).length w := fun l J Jx W hW hJ _ hY h0 =>
  it_in n l B1 B2 B3 n₀ g hn key seq rs J Jx W hJ hY ((hW.cell (p := ⟨B1, 0, none⟩) b1).trans h1) ((hW.cell (p := ⟨B2, 0, none⟩) b2).trans h2) ((hW.cell (p := ⟨B3, 0, none⟩) b3).trans h3) (hS.below hW) hlow (Nat.le_trans hn₀ hW.size) hlen h0
theorem nil_stops (n B1 B2 B3 n₀ : Nat) (w : World) (b1 : B1 < w.heap.size) (h1 : w.cell? ⟨B1, 0, none⟩ = some (.pointer none)) :
    SeqStopsK Fence.wide n Try.prog 84 #[.pointer (some ⟨B1, 0, none⟩), .pointer (some ⟨B2, 0, none⟩), .pointer (some ⟨B3, 0, none⟩)] (fun x : S28 => #[rowV x]) (Below n₀) (fun ys => ys = ([] : List S28)) (fun pre => pre <+: ([] : List S28)) 0 w := fun l J Jx W hW hJ _ hY h0 =>
  it_nil n l B1 B2 B3 J Jx W ((hW.cell (p := ⟨B1, 0, none⟩) b1).trans h1) h0
/-- A block of cells stays where a block that is none turns. -/
theorem blk_grown_own {W W' : World} {row : Option Nat} {b t : Nat} {cs : Array Value} {fr : Nat × Nat} (h : W.heap[b]? = some (.cells cs t fr)) (hg : W.grownBy W' row) (hr : ∀ r, row = some r → ∃ o : Obj, W.heap[r]? = some o ∧ o.isCells = false) : W'.heap[b]? = some (.cells cs t fr) := by
  refine (hg.block b (blk_lt h) (fun e => ?_)).trans h
  obtain ⟨o, ho, hc⟩ := hr b e.symm
  rw [h] at ho
  cases ho
  cases hc
end Go.Proofs.Ytfemebenkbobnaa.SM
