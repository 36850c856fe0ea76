import Derived.Test.YtkjepfofiegcdaaVX2Y
import Derived.Test.YtkjepfofiegcdaaWEqStruct
import Derived.Laws.CopyRow
import Derived.Lib.AppendZerosOnto
import Derived.Lib.Overlaps
/- Texts of the walks joined into one (VE2, VE3, VE5, VE6). Conditions: told at each. -/
namespace Go.Proofs.Ytkjepfofiegcdaa.V
section
/- VE2: The law PickOver, walked. Conditions: none. -/
set_option linter.unusedVariables false
set_option linter.unusedSimpArgs false
open Go.RowKit Go.Proofs.YtkjepfofiegcdaaW.PrintWords Go.Proofs.YtkjepfofiegcdaaW.PrintLast Go.Proofs.YtkjepfofiegcdaaW.PrintMore Go.Proofs.Ytkjepfofiegcdaa.PB14
attribute [local go_sem] max_two min_two min2_str max2_str
theorem five_set {w : World} {g t j : Nat} {cs cs' : Array Value} (h : w.heap[g]? = some (.cells cs t (0, 0))) (u : Value) (hc : cs.setIfInBounds j u = cs') : (w.setCell ⟨g, j, none⟩ u).heap[g]? = some (.cells cs' t (0, 0)) := by rw [← hc]; exact blk_set h j u
theorem pick_cases (v : Ver) (many base times : Int) : (pickE v many base times ≠ 0 ∧ pickC v many base times = ⟨0, [], []⟩) ∨ ∃ lev : Nat, lev < 3 ∧ rightP v ∧ optP many base times ∧ dueL v many base times lev ≠ [] ∧ pickE v many base times = 0 ∧ pickC v many base times = ⟨(lev : Nat), dueL v many base times lev, ovrL v lev (dueL v many base times lev)⟩ := by
  by_cases h : rightP v ∧ optP many base times
  · by_cases hd : dueAt v many base times < 3
    · refine .inr ⟨dueAt v many base times, hd, h.1, h.2, ?_, ?_, ?_⟩
      · unfold dueAt at hd ⊢
        split
        · assumption
        · split
          · assumption
          · split
            · assumption
            · rename_i h1 h2 h3; rw [if_neg h1, if_neg h2, if_neg h3] at hd; omega
      · unfold pickE; rw [if_pos h, if_pos hd]
      · unfold pickC; rw [if_pos ⟨h.1, h.2, hd⟩]
    · refine .inl ⟨?_, ?_⟩
      · unfold pickE; rw [if_pos h, if_neg hd]; omega
      · unfold pickC; rw [if_neg (fun k => hd k.2.2)]
  · refine .inl ⟨?_, ?_⟩
    · unfold pickE; rw [if_neg h]; omega
    · unfold pickC; rw [if_neg (fun k => h ⟨k.1, k.2.1⟩)]
end
section
/- VE3: The law PickBelow, walked. Conditions: none. -/
set_option linter.unusedVariables false
set_option linter.unusedSimpArgs false
open Go.RowKit Go.Proofs.YtkjepfofiegcdaaW.PrintWords Go.Proofs.YtkjepfofiegcdaaW.PrintLast Go.Proofs.YtkjepfofiegcdaaW.PrintMore Go.Proofs.Ytkjepfofiegcdaa.PB14
end
section
/- VE5: freshetref14.Right, walked. Conditions: none. -/
set_option linter.unusedVariables false
set_option linter.unusedSimpArgs false
open Go.RowKit Go.Proofs.YtkjepfofiegcdaaW.PrintWords Go.Proofs.YtkjepfofiegcdaaW.PrintLast Go.Proofs.YtkjepfofiegcdaaW.PrintMore Go.Proofs.Ytkjepfofiegcdaa.PB14
end
section
/- VE6: Are a compaction's lists too long (great), both its lists, the span of tables (freshetref16), walked. Conditions: lists of at most 10 to the 8th tables. -/
set_option linter.unusedVariables false
set_option linter.unusedSimpArgs false
open Go.RowKit Go.Proofs.YtkjepfofiegcdaaW.PrintWords Go.Proofs.YtkjepfofiegcdaaW.PrintLast Go.Proofs.YtkjepfofiegcdaaW.PrintMore Go.Proofs.Ytkjepfofiegcdaa.PB14
def greatP (In Ov : List S58) : Prop := 80 < In.length ∨ 80 < Ov.length
instance (In Ov : List S58) : Decidable (greatP In Ov) := by unfold greatP; infer_instance
end
end Go.Proofs.Ytkjepfofiegcdaa.V
namespace Go.Proofs.Ytkjepfofiegcdaa.V
set_option linter.unusedVariables false
set_option linter.unusedSimpArgs false
open Go.RowKit Go.Proofs.YtkjepfofiegcdaaW.PrintWords Go.Proofs.YtkjepfofiegcdaaW.PrintLast Go.Proofs.YtkjepfofiegcdaaW.PrintMore Go.Proofs.Ytkjepfofiegcdaa.PB14
def sameP (a b : Ver) : Prop := (a.log = b.log ∧ a.next = b.next ∧ a.seq = b.seq) ∧ ∀ i, i < 4 → a.lv i = b.lv i
instance (a b : Ver) : Decidable (sameP a b) := by unfold sameP; infer_instance
theorem sameP_iff {a b : Ver} : sameP a b ↔ a = b := by
  constructor
  · rintro ⟨⟨h0, h1, h2⟩, h⟩
    have l0 := h 0 (by omega)
    have l1 := h 1 (by omega)
    have l2 := h 2 (by omega)
    have l3 := h 3 (by omega)
    simp only [Ver.lv] at l0 l1 l2 l3
    cases a; cases b; simp_all
  · rintro rfl; exact ⟨⟨rfl, rfl, rfl⟩, fun _ _ => rfl⟩
def mark : S58 := ⟨0, 0, 77, ⟨#[]⟩, ⟨#[]⟩, 0, 0⟩
def MK (w : World) (v : Ver) (p : Pl) : Prop := ∀ i, i < 4 → k58.C w (p.a i) ((v.lv i).length + 1) (v.lv i ++ [mark]) ∧ (v.lv i).length + 1 ≤ p.c i
theorem MK.below {w w' : World} {v : Ver} {p : Pl} (h : MK w v p) (hb : Below w.heap.size w w') : MK w' v p := fun i hi => ⟨Kd.C_below (h i hi).1 hb, (h i hi).2⟩
theorem MK.vc {w : World} {v : Ver} {p : Pl} (h : MK w v p) : VC w v p := fun i hi => by
  obtain ⟨h1, h2⟩ := h i hi
  refine ⟨?_, by omega⟩
  have h3 := Kd.C_take (k := k58) (w := w) (A := p.a i) (xs := v.lv i ++ [mark]) (m := (v.lv i).length) (by rw [List.length_append, List.length_singleton]; exact h1) (by rw [List.length_append]; omega)
  rw [List.take_left' rfl] at h3
  exact h3
theorem cut_past {P : Program} (t e : TypeId) (kh : IntKind) {i : TypeInfo} (ht : P.underlying t = some (.slice e)) (hi : P.info? e = some i) (A : Option Addr) (n c : Nat) (j : Int) (h0 : 0 ≤ j) (hm : j ≤ c) :
    ∀ W : World, (Instr.slice t (.slice A n c) none (some (.int kh j)) none).run P W = .ok (.slice A j.toNat c) W := by
  intro W
  have hel : P.elem t = e := by simp [Program.elem, ht]
  have hu : P.underlying t = some (.slice (P.elem t)) := by rw [hel]; exact ht
  have ha : (A.map fun x => x.add 0) = A := by cases A <;> simp [Addr.add]
  rw [run_slice_h W t A n c hu kh j h0 (by omega), hel]
  simp [sizeOf, typeInfo, hi, sliced, Result.andThen, ha]
def Pl.set (p : Pl) (i : Nat) (a : Option Addr) (c : Nat) : Pl :=
  match i with
  | 0 => { p with a0 := a, c0 := c }
  | 1 => { p with a1 := a, c1 := c }
  | 2 => { p with a2 := a, c2 := c }
  | _ => { p with a3 := a, c3 := c }
theorem Pl.set_a (p : Pl) (i j : Nat) (hi : i < 4) (hj : j < 4) (a : Option Addr) (c : Nat) : (p.set i a c).a j = if j = i then a else p.a j := by
  rcases (by omega : i = 0 ∨ i = 1 ∨ i = 2 ∨ i = 3) with rfl | rfl | rfl | rfl <;> rcases (by omega : j = 0 ∨ j = 1 ∨ j = 2 ∨ j = 3) with rfl | rfl | rfl | rfl <;> rfl
theorem Pl.set_c (p : Pl) (i j : Nat) (hi : i < 4) (hj : j < 4) (a : Option Addr) (c : Nat) : (p.set i a c).c j = if j = i then c else p.c j := by
  rcases (by omega : i = 0 ∨ i = 1 ∨ i = 2 ∨ i = 3) with rfl | rfl | rfl | rfl <;> rcases (by omega : j = 0 ∨ j = 1 ∨ j = 2 ∨ j = 3) with rfl | rfl | rfl | rfl <;> rfl
def Ver.set (v : Ver) (i : Nat) (l : List S58) : Ver :=
  match i with
  | 0 => { v with l0 := l }
  | 1 => { v with l1 := l }
  | 2 => { v with l2 := l }
  | _ => { v with l3 := l }
theorem Ver.set_lv (v : Ver) (i j : Nat) (hi : i < 4) (hj : j < 4) (l : List S58) : (v.set i l).lv j = if j = i then l else v.lv j := by
  rcases (by omega : i = 0 ∨ i = 1 ∨ i = 2 ∨ i = 3) with rfl | rfl | rfl | rfl <;> rcases (by omega : j = 0 ∨ j = 1 ∨ j = 2 ∨ j = 3) with rfl | rfl | rfl | rfl <;> rfl
theorem vCs_set (v : Ver) (p : Pl) (i : Nat) (hi : i < 4) (l : List S58) (a : Option Addr) (c : Nat) : (vCs v p).setIfInBounds (3 + i) (.slice a l.length c) = vCs (v.set i l) (p.set i a c) := by
  rcases (by omega : i = 0 ∨ i = 1 ∨ i = 2 ∨ i = 3) with rfl | rfl | rfl | rfl <;> rfl
theorem Ver.set_self (v : Ver) (i : Nat) (hi : i < 4) : v.set i (v.lv i) = v := by
  rcases (by omega : i = 0 ∨ i = 1 ∨ i = 2 ∨ i = 3) with rfl | rfl | rfl | rfl <;> rfl
end Go.Proofs.Ytkjepfofiegcdaa.V
namespace Go.Proofs.Ytkjepfofiegcdaa.V
set_option linter.unusedVariables false
set_option linter.unusedSimpArgs false
open Go.RowKit Go.Proofs.YtkjepfofiegcdaaW.PrintWords Go.Proofs.YtkjepfofiegcdaaW.PrintLast Go.Proofs.YtkjepfofiegcdaaW.PrintMore Go.Proofs.Ytkjepfofiegcdaa.PB14
structure Edt where
 log : Int
 next : Int
 seq : Int
 gone : List S84
 added : List S82
instance : DecidableEq S84 := fun a b => if h : a.f0 = b.f0 ∧ a.f1 = b.f1 then isTrue (by cases a; cases b; simp at h; obtain ⟨rfl, rfl⟩ := h; rfl) else isFalse (fun e => h (by subst e; simp))
instance : DecidableEq S82 := fun a b => if h : a.f0 = b.f0 ∧ a.f1 = b.f1 then isTrue (by cases a; cases b; simp at h; obtain ⟨rfl, rfl⟩ := h; rfl) else isFalse (fun e => h (by subst e; simp))
instance : DecidableEq Edt := fun a b => if h : (a.log = b.log ∧ a.next = b.next ∧ a.seq = b.seq) ∧ a.gone = b.gone ∧ a.added = b.added then isTrue (by cases a; cases b; simp at h; obtain ⟨⟨rfl, rfl, rfl⟩, rfl, rfl⟩ := h; rfl) else isFalse (fun e => h (by subst e; simp))
abbrev eCs (e : Edt) (A1 : Option Addr) (c1 : Nat) (A2 : Option Addr) (c2 : Nat) : Array Value := #[.int .u64 e.log, .int .u64 e.next, .int .u64 e.seq, .slice A1 e.gone.length c1, .slice A2 e.added.length c2]
abbrev gCs (x : S84) : Array Value := #[.int .i64 x.f0, .int .u64 x.f1]
abbrev pCs (x : S82) : Array Value := #[.int .i64 x.f0, .int .u64 x.f1.f0, .int .i64 x.f1.f1, .int .i64 x.f1.f2, .string x.f1.f3, .string x.f1.f4, .int .u64 x.f1.f5, .int .u64 x.f1.f6]
theorem eqA84 (d : Nat) (w : World) (a b : S84) : (Op.equalIn (d + 2) 84 (.agg #[.int .i64 a.f0, .int .u64 a.f1]) (.agg #[.int .i64 b.f0, .int .u64 b.f1])).run Try.prog w = .ok (decide (a = b)) w := by
 have e : decide (a = b) = (a.f0 == b.f0 && (a.f1 == b.f1)) := by
  rw [Bool.eq_iff_iff]
  simp only [decide_eq_true_eq, Bool.and_eq_true, beq_iff_eq]
  constructor
  ·rintro rfl
   simp
  ·rintro ⟨h0, h1⟩
   cases a
   cases b
   simp_all
 rw [e]
 refine eqA_of Try.underlying84 (by kernel_rfl) ?_
 refine eqf_cons (by rfl) (by go_simp; rfl) (by go_simp; rfl) (by go_simp) ?_
 exact eqf_last (by rfl) (by go_simp; rfl) (by go_simp; rfl) (by go_simp)
theorem eqA82 (d : Nat) (w : World) (a b : S82) : (Op.equalIn (d + 3) 82 (.agg #[.int .i64 a.f0, .int .u64 a.f1.f0, .int .i64 a.f1.f1, .int .i64 a.f1.f2, .string a.f1.f3, .string a.f1.f4, .int .u64 a.f1.f5, .int .u64 a.f1.f6]) (.agg #[.int .i64 b.f0, .int .u64 b.f1.f0, .int .i64 b.f1.f1, .int .i64 b.f1.f2, .string b.f1.f3, .string b.f1.f4, .int .u64 b.f1.f5, .int .u64 b.f1.f6])).run Try.prog w = .ok (decide (a = b)) w := by
 have e : decide (a = b) = (a.f0 == b.f0 && decide (a.f1 = b.f1)) := by
  rw [Bool.eq_iff_iff]
  simp only [decide_eq_true_eq, Bool.and_eq_true, beq_iff_eq]
  constructor
  ·rintro rfl
   simp
  ·rintro ⟨h0, h1⟩
   cases a
   cases b
   simp_all
 rw [e]
 refine eqA_of Try.underlying82 (by kernel_rfl) ?_
 refine eqf_cons (by rfl) (by go_simp; rfl) (by go_simp; rfl) (by go_simp) ?_
 exact eqf_last (by rfl) (by go_simp) (by go_simp) (eqA58 d w a.f1 b.f1)
attribute [local go_sem high] eqA58 eqA84 eqA82
set_option maxHeartbeats 8000000 in
set_option maxRecDepth 100000 in
theorem index_calls (w : World) (A : Option Addr) (c : Nat) (l : List S58) (m : S58) (hC : k58.C w A l.length l) : Calls Try.prog 137 #[.slice A l.length c, .agg (mCs m)] w fun x w' => ∃ i : Int, x = .returned (.int .i64 i) ∧ (decide (0 ≤ i) = decide (m ∈ l)) ∧ Below w.heap.size w w' := by
 have HC := Aside0.mk hC
 have HB := Aside0.mk ((Below.refl w.heap.size w).alloc (Nat.le_refl _) (.cells (mCs m) 58))
 have X1 := Aside0.mk (blk_new w (.cells (mCs m) 58))
 clear hC
 go_enter Try.func137, Try.ntmps137
 go_wp2_with fail
 generalize w.alloc (.cells (mCs m) 58) = w1 at *
 go_loopg [5, 8] l.length (fun kq v5 v8 w' => ∃ k : Nat, v8 = .int .i64 (k : Int) ∧ Aside0 (kq + k = l.length) ∧ Aside0 (Below w1.heap.size w1 w') ∧ Aside0 (∀ j, j < k → ¬ l.getD j z58 = m))
 case atStart => exact ⟨0, rfl, ⟨by omega⟩, ⟨Below.refl _ _⟩, ⟨fun j hj => by omega⟩⟩
 case round =>
  obtain ⟨k, rfl, HK, HBW, HJ⟩ := hrel
  cases gk with
  | zero =>
   have ek : k = l.length := by have := HK.out; omega
   subst ek
   have d0 : decide ((l.length : Int) < (l.length : Int)) = false := by simp
   go_wp2_with fail
   go_ret
   exact ⟨-1, rfl, by rw [decide_eq_false (show ¬ (0 : Int) ≤ -1 by omega)]; symm; exact decide_eq_false (fun h => by
    obtain ⟨x, hx, hx2⟩ := List.getElem_of_mem h
    exact HJ.out x hx (by rw [List.getD_eq_getElem?_getD, List.getElem?_eq_getElem hx]; exact hx2)), below_step HB.out HBW.out⟩
  | succ q =>
   have hk : k < l.length := by have := HK.out; omega
   have HM := Aside0.mk (show l.length ≤ 9223372036854775807 from HC.out.2.1)
   have d0 : decide ((k : Int) < (l.length : Int)) = true := decide_eq_true (by omega)
   have d1 : decide (k < l.length) = true := decide_eq_true hk
   have p0 : 0 ≤ (k : Int) := Int.natCast_nonneg _
   have p1 : (k : Int) < (l.length : Int) := by omega
   have CX := Kd.C_below HC.out (below_step HB.out HBW.out)
   obtain ⟨ad, ea, ha0, ha1, ha2, ha3, ha4, ha5, ha6⟩ := at_T58 CX (k : Int) p0 p1
   rw [Int.toNat_natCast] at ha0 ha1 ha2 ha3 ha4 ha5 ha6
   have EA := Aside0.mk (show rd_T58 l (k : Int) = l.getD k z58 by unfold rd_T58; rw [Int.toNat_natCast])
   generalize rd_T58 l (k : Int) = a at *
   have X1r := Aside0.mk (blk_below X1.out HBW.out)
   have y0 : wr.cell? ⟨w.heap.size, 0, none⟩ = some (.int .u64 m.f0) := (blk_cell X1r.out 0).trans rfl
   have y1 : wr.cell? ⟨w.heap.size, 1, none⟩ = some (.int .i64 m.f1) := (blk_cell X1r.out 1).trans rfl
   have y2 : wr.cell? ⟨w.heap.size, 2, none⟩ = some (.int .i64 m.f2) := (blk_cell X1r.out 2).trans rfl
   have y3 : wr.cell? ⟨w.heap.size, 3, none⟩ = some (.string m.f3) := (blk_cell X1r.out 3).trans rfl
   have y4 : wr.cell? ⟨w.heap.size, 4, none⟩ = some (.string m.f4) := (blk_cell X1r.out 4).trans rfl
   have y5 : wr.cell? ⟨w.heap.size, 5, none⟩ = some (.int .u64 m.f5) := (blk_cell X1r.out 5).trans rfl
   have y6 : wr.cell? ⟨w.heap.size, 6, none⟩ = some (.int .u64 m.f6) := (blk_cell X1r.out 6).trans rfl
   rw [ea]
   have HAX := Aside0.mk ea
   have HKL := Aside0.mk hk
   have ew : wrap64 ((k : Int) + 1) = ((k + 1 : Nat) : Int) := by have h1 := HM.out; unfold wrap64; omega
   clear ea hk CX
   by_cases hab : m = a
   ·have e0 : decide (m = a) = true := decide_eq_true hab
    have HIN := Aside0.mk (show m ∈ l by rw [hab, EA.out]; exact getD_mem l z58 HKL.out)
    clear hab
    go_wp2_with fail
    go_quiet (fail)
    go_wp2_with fail
    go_ret
    exact ⟨_, rfl, by rw [decide_eq_true HIN.out]; exact decide_eq_true p0, pw_below_drewN (below_step HB.out HBW.out) nq⟩
   ·have e0 : decide (m = a) = false := decide_eq_false hab
    have HN := Aside0.mk (show ¬ l.getD k z58 = m by rw [← EA.out]; exact fun h => hab h.symm)
    clear hab
    go_wp2_with fail
    go_quiet (fail)
    go_wp2_with fail
    try rw [ew]
    rw [← HAX.out]
    clear ew
    go_roundg q
    case measure => omega
    case rel => exact ⟨k + 1, rfl, ⟨by have := HK.out; omega⟩, ⟨pw_below_drewN HBW.out nq⟩, ⟨fun j hj => by
     by_cases e : j = k
     ·subst e; exact HN.out
     ·exact HJ.out j (by omega)⟩⟩
set_option maxHeartbeats 8000000 in
set_option maxRecDepth 100000 in
theorem contains_calls (w : World) (A : Option Addr) (c : Nat) (l : List S58) (m : S58) (hC : k58.C w A l.length l) : Calls Try.prog 99 #[.slice A l.length c, .agg (mCs m)] w fun x w' => x = .returned (.bool (decide (m ∈ l))) ∧ Below w.heap.size w w' := by
 have HC := Aside0.mk hC
 have HB := Aside0.mk ((Below.refl w.heap.size w).alloc (Nat.le_refl _) (.cells (mCs m) 58))
 have X1 := Aside0.mk (blk_new w (.cells (mCs m) 58))
 clear hC
 go_enter Try.func99, Try.ntmps99
 go_wp2_with fail
 refine (index_calls _ A c l m (Kd.C_below HC.out HB.out)).mono ?_
 rintro e w2 ⟨i, rfl, hi, hb⟩
 have HB2 := Aside0.mk (below_step HB.out hb)
 have HI := Aside0.mk hi
 clear hb hi
 go_wp2_with fail
 go_ret
 exact ⟨ret_bool HI.out, HB2.out⟩
end Go.Proofs.Ytkjepfofiegcdaa.V
namespace Go.Proofs.Ytkjepfofiegcdaa.V
set_option linter.unusedVariables false
set_option linter.unusedSimpArgs false
open Go.RowKit Go.Proofs.YtkjepfofiegcdaaW.PrintWords Go.Proofs.YtkjepfofiegcdaaW.PrintLast Go.Proofs.YtkjepfofiegcdaaW.PrintMore Go.Proofs.Ytkjepfofiegcdaa.PB14
def laterB (was n : Int) : Bool := decide (n = 0) || decide (was ≤ n)
def laterN (was n : Int) : Int := if n = 0 then was else n
set_option maxHeartbeats 4000000 in
set_option maxRecDepth 100000 in
theorem later_calls (w : World) (g j t : Nat) (cs : Array Value) (was n : Int) (hg : w.heap[g]? = some (.cells cs t (0, 0))) (hj : cs[j]? = some (.int .u64 was)) :
    Calls Try.prog 102 #[.pointer (some ⟨g, j, none⟩), .int .u64 n] w fun e w' => e = .returned (.bool (laterB was n)) ∧ w' = (if n = 0 then w else w.setCell ⟨g, j, none⟩ (.int .u64 n)) := by
  have hf : w.frozen? ⟨g, j, none⟩ = false := by simp [World.frozen?, hg]
  have h : w.cell? ⟨g, j, none⟩ = some (.int .u64 was) := (blk_cell hg j).trans hj
  clear hg hj
  by_cases h0 : n = 0
  · have e0 : (n == 0) = true := beq_iff_eq.mpr h0
    go_enter Try.func102, Try.ntmps102
    go_wp2_with fail
    go_ret
    exact ⟨ret_bool (by simp [laterB, h0]), by simp [h0]⟩
  · have e0 : (n == 0) = false := beq_eq_false_iff_ne.mpr h0
    have eb : laterB was n = decide (was ≤ n) := by simp [laterB, h0]
    rw [eb, if_neg h0]
    clear eb
    go_enter Try.func102, Try.ntmps102
    go_wp2_with fail
    go_ret
    exact ⟨rfl, rfl⟩
def longP (e : Edt) : Prop := 300 < e.gone.length ∨ 300 < e.added.length
instance (e : Edt) : Decidable (longP e) := by unfold longP; infer_instance
theorem ret_i {a b : Int} (h : a = b) : Ending.returned (.int .i64 a) = .returned (.int .i64 b) := by rw [h]
def goneOk (x : S84) : Prop := 0 ≤ x.f0 ∧ x.f0 < 4
def addOk (x : S82) : Prop := (0 ≤ x.f0 ∧ x.f0 < 4) ∧ mayP x.f1
instance (x : S84) : Decidable (goneOk x) := by unfold goneOk; infer_instance
instance (x : S82) : Decidable (addOk x) := by unfold addOk; infer_instance
def listedP (e : Edt) : Prop := (∀ x, x ∈ e.gone → goneOk x) ∧ ∀ x, x ∈ e.added → addOk x
instance (e : Edt) : Decidable (listedP e) := by unfold listedP; infer_instance
theorem all_getD {α : Type} {p : α → Prop} {l : List α} {z : α} (h : ∀ j, j < l.length → p (l.getD j z)) : ∀ x, x ∈ l → p x := fun x hx => by
  obtain ⟨i, hi, hx2⟩ := List.getElem_of_mem hx
  have := h i hi
  rw [List.getD_eq_getElem?_getD, List.getElem?_eq_getElem hi] at this
  rw [← hx2]
  exact this
set_option maxHeartbeats 8000000 in
set_option maxRecDepth 100000 in
theorem listed_calls (w : World) (e : Edt) (A1 A2 : Option Addr) (c1 c2 : Nat) (h1 : k84.C w A1 e.gone.length e.gone) (h2 : k82.C w A2 e.added.length e.added) :
    Calls Try.prog 103 #[.agg (eCs e A1 c1 A2 c2)] w fun x w' => x = .returned (.int .i64 (if listedP e then 0 else 2)) ∧ Below w.heap.size w w' := by
  have H1 := Aside0.mk h1
  have H2 := Aside0.mk h2
  have HB := Aside0.mk ((Below.refl w.heap.size w).alloc (Nat.le_refl _) (.cells (eCs e A1 c1 A2 c2) 70))
  have X1 := Aside0.mk (blk_new w (.cells (eCs e A1 c1 A2 c2) 70))
  clear h1 h2
  obtain ⟨r, hr⟩ : ∃ r : Int, r = if listedP e then 0 else 2 := ⟨_, rfl⟩
  rw [← hr]
  have HRR := Aside0.mk hr
  clear hr
  go_enter Try.func103, Try.ntmps103
  go_upto_region 1 with (fail)
  generalize w.alloc (.cells (eCs e A1 c1 A2 c2) 70) = w1 at *
  have b3 : w1.cell? ⟨w.heap.size, 3, none⟩ = some (.slice A1 e.gone.length c1) := (blk_cell X1.out 3).trans rfl
  go_wp2_with fail
  clear b3
  go_loopg [4, 10] e.gone.length (fun kq v4 v10 w' => ∃ k : Nat, v10 = .int .i64 (k : Int) ∧ Aside0 (kq + k = e.gone.length) ∧ Aside0 (Below w1.heap.size w1 w') ∧ Aside0 (∀ j, j < k → goneOk (e.gone.getD j z84)))
  case atStart => exact ⟨0, rfl, ⟨by omega⟩, ⟨Below.refl _ _⟩, ⟨fun j hj => by omega⟩⟩
  case round =>
    obtain ⟨k, rfl, HK, HBW, HJ⟩ := hrel
    cases gk with
    | zero =>
      have ek : k = e.gone.length := by have := HK.out; omega
      subst ek
      have d0 : decide ((e.gone.length : Int) < (e.gone.length : Int)) = false := by simp
      have G1 := Aside0.mk (all_getD HJ.out)
      have X1r := Aside0.mk (blk_below X1.out HBW.out)
      have b4 : wr.cell? ⟨w.heap.size, 4, none⟩ = some (.slice A2 e.added.length c2) := (blk_cell X1r.out 4).trans rfl
      have HB2 := Aside0.mk (below_step HB.out HBW.out)
      clear HK HJ X1 HB HBW
      go_wp2_with fail
      clear b4 d0
      generalize hw5 : wr = w5 at *
      clear hw5
      go_loopg [6, 22] e.added.length (fun kq v6 v22 w' => ∃ k : Nat, v22 = .int .i64 (k : Int) ∧ Aside0 (kq + k = e.added.length) ∧ Aside0 (Below w.heap.size w w') ∧ Aside0 (∀ j, j < k → addOk (e.added.getD j z82)))
      case atStart => exact ⟨0, rfl, ⟨by omega⟩, HB2, ⟨fun j hj => by omega⟩⟩
      case round =>
        clear HB2
        obtain ⟨k, rfl, HK, HBW, HJ⟩ := hrel
        cases gk with
        | zero =>
          have ek : k = e.added.length := by have := HK.out; omega
          subst ek
          have d0 : decide ((e.added.length : Int) < (e.added.length : Int)) = false := by simp
          go_wp2_with fail
          go_ret
          exact ⟨ret_i (by rw [HRR.out, if_pos ⟨G1.out, all_getD HJ.out⟩]), HBW.out⟩
        | succ q =>
          have hk : k < e.added.length := by have := HK.out; omega
          have HM := Aside0.mk (show e.added.length ≤ 9223372036854775807 from H2.out.2.1)
          have d0 : decide ((k : Int) < (e.added.length : Int)) = true := decide_eq_true (by omega)
          have d1 : decide (k < e.added.length) = true := decide_eq_true hk
          have p0 : 0 ≤ (k : Int) := Int.natCast_nonneg _
          have p1 : (k : Int) < (e.added.length : Int) := by omega
          have CX := Kd.C_below H2.out HBW.out
          obtain ⟨ad, ea, ha0, ha1, ha2, ha3, ha4, ha5, ha6, ha7⟩ := at_T82 CX (k : Int) p0 p1
          rw [Int.toNat_natCast] at ha0 ha1 ha2 ha3 ha4 ha5 ha6 ha7
          have EA := Aside0.mk (show rd_T82 e.added (k : Int) = e.added.getD k z82 by unfold rd_T82; rw [Int.toNat_natCast])
          have EM := Aside0.mk (show e.added.getD k z82 ∈ e.added from getD_mem _ z82 hk)
          generalize rd_T82 e.added (k : Int) = m at *
          rw [ea]
          have HAX := Aside0.mk ea
          have ew : wrap64 ((k : Int) + 1) = ((k + 1 : Nat) : Int) := by have h1 := HM.out; unfold wrap64; omega
          have n0_ := Aside0.mk (below_step HBW.out ((Below.refl wr.heap.size wr).alloc (Nat.le_refl _) (.cells (pCs m) 82)))
          have Y1 := Aside0.mk (blk_new wr (.cells (pCs m) 82))
          clear ea hk CX
          by_cases hp : 0 ≤ m.f0 ∧ m.f0 < 4
          · have DP := Aside0.mk (decide_eq_true hp)
            go_wp2_with fail
            refine (level_calls _ _).mono ?_
            rintro x w2 ⟨rfl, hb⟩
            rw [DP.out]
            have Y2 := Aside0.mk (blk_below Y1.out hb)
            have n1_ := Aside0.mk (below_step n0_.out hb)
            clear hb
            have y1 : w2.cell? ⟨wr.heap.size, 1, none⟩ = some (.int .u64 m.f1.f0) := (blk_cell Y2.out 1).trans rfl
            have y2 : w2.cell? ⟨wr.heap.size, 2, none⟩ = some (.int .i64 m.f1.f1) := (blk_cell Y2.out 2).trans rfl
            have y3 : w2.cell? ⟨wr.heap.size, 3, none⟩ = some (.int .i64 m.f1.f2) := (blk_cell Y2.out 3).trans rfl
            have y4 : w2.cell? ⟨wr.heap.size, 4, none⟩ = some (.string m.f1.f3) := (blk_cell Y2.out 4).trans rfl
            have y5 : w2.cell? ⟨wr.heap.size, 5, none⟩ = some (.string m.f1.f4) := (blk_cell Y2.out 5).trans rfl
            have y6 : w2.cell? ⟨wr.heap.size, 6, none⟩ = some (.int .u64 m.f1.f5) := (blk_cell Y2.out 6).trans rfl
            have y7 : w2.cell? ⟨wr.heap.size, 7, none⟩ = some (.int .u64 m.f1.f6) := (blk_cell Y2.out 7).trans rfl
            by_cases hm : mayP m.f1
            · have DM := Aside0.mk (decide_eq_true hm)
              have OK1 := Aside0.mk (show addOk m from ⟨hp, hm⟩)
              clear hp hm
              go_wp2_with fail
              refine (may_calls _ _).mono ?_
              rintro x w3 ⟨rfl, hb⟩
              rw [DM.out]
              have n2_ := Aside0.mk (below_step n1_.out hb)
              clear hb y1 y2 y3 y4 y5 y6 y7
              go_wp2_with fail
              try rw [ew]
              rw [← HAX.out]
              clear ew
              go_roundg q
              case measure => omega
              case rel => exact ⟨k + 1, rfl, ⟨by have := HK.out; omega⟩, n2_, ⟨fun j hj => by
                by_cases e : j = k
                · subst e; rw [← EA.out]; exact OK1.out
                · exact HJ.out j (by omega)⟩⟩
            · have DM := Aside0.mk (decide_eq_false hm)
              have HN := Aside0.mk (show ¬ listedP e from fun h => hm (by have := (h.2 _ EM.out).2; rw [← EA.out] at this; exact this))
              clear hp hm
              go_wp2_with fail
              refine (may_calls _ _).mono ?_
              rintro x w3 ⟨rfl, hb⟩
              rw [DM.out]
              have n2_ := Aside0.mk (below_step n1_.out hb)
              clear hb y1 y2 y3 y4 y5 y6 y7
              go_wp2_with fail
              go_ret
              exact ⟨ret_i (by rw [HRR.out, if_neg HN.out]), n2_.out⟩
          · have DP := Aside0.mk (decide_eq_false hp)
            have HN := Aside0.mk (show ¬ listedP e from fun h => hp (by have := (h.2 _ EM.out).1; rw [← EA.out] at this; exact this))
            clear hp
            go_wp2_with fail
            refine (level_calls _ _).mono ?_
            rintro x w2 ⟨rfl, hb⟩
            rw [DP.out]
            have n1_ := Aside0.mk (below_step n0_.out hb)
            clear hb
            go_wp2_with fail
            go_ret
            exact ⟨ret_i (by rw [HRR.out, if_neg HN.out]), n1_.out⟩
    | succ q =>
      have hk : k < e.gone.length := by have := HK.out; omega
      have HM := Aside0.mk (show e.gone.length ≤ 9223372036854775807 from H1.out.2.1)
      have d0 : decide ((k : Int) < (e.gone.length : Int)) = true := decide_eq_true (by omega)
      have d1 : decide (k < e.gone.length) = true := decide_eq_true hk
      have p0 : 0 ≤ (k : Int) := Int.natCast_nonneg _
      have p1 : (k : Int) < (e.gone.length : Int) := by omega
      have CX := Kd.C_below H1.out (below_step HB.out HBW.out)
      obtain ⟨ad, ea, ha0, ha1⟩ := at_T84 CX (k : Int) p0 p1
      rw [Int.toNat_natCast] at ha0 ha1
      have EA := Aside0.mk (show rd_T84 e.gone (k : Int) = e.gone.getD k z84 by unfold rd_T84; rw [Int.toNat_natCast])
      have EM := Aside0.mk (show e.gone.getD k z84 ∈ e.gone from getD_mem _ z84 hk)
      generalize rd_T84 e.gone (k : Int) = m at *
      rw [ea]
      have HAX := Aside0.mk ea
      have ew : wrap64 ((k : Int) + 1) = ((k + 1 : Nat) : Int) := by have h1 := HM.out; unfold wrap64; omega
      have n0_ := Aside0.mk (below_step HBW.out ((Below.refl wr.heap.size wr).alloc (Nat.le_refl _) (.cells (gCs m) 84)))
      clear ea hk CX
      by_cases hp : 0 ≤ m.f0 ∧ m.f0 < 4
      · have DP := Aside0.mk (decide_eq_true hp)
        have OK1 := Aside0.mk (show goneOk m from hp)
        clear hp
        go_wp2_with fail
        refine (level_calls _ _).mono ?_
        rintro x w2 ⟨rfl, hb⟩
        rw [DP.out]
        have n1_ := Aside0.mk (below_step n0_.out hb)
        clear hb
        go_wp2_with fail
        try rw [ew]
        rw [← HAX.out]
        clear ew
        go_roundg q
        case measure => omega
        case rel => exact ⟨k + 1, rfl, ⟨by have := HK.out; omega⟩, n1_, ⟨fun j hj => by
          by_cases e : j = k
          · subst e; rw [← EA.out]; exact OK1.out
          · exact HJ.out j (by omega)⟩⟩
      · have DP := Aside0.mk (decide_eq_false hp)
        have HN := Aside0.mk (show ¬ listedP e from fun h => hp (by have := h.1 _ EM.out; rw [← EA.out] at this; exact this))
        clear hp
        go_wp2_with fail
        refine (level_calls _ _).mono ?_
        rintro x w2 ⟨rfl, hb⟩
        rw [DP.out]
        have n1_ := Aside0.mk (below_step n0_.out hb)
        clear hb
        go_wp2_with fail
        go_ret
        exact ⟨ret_i (by rw [HRR.out, if_neg HN.out]), below_step HB.out n1_.out⟩
end Go.Proofs.Ytkjepfofiegcdaa.V
namespace Go.Proofs.Ytkjepfofiegcdaa.V
set_option linter.unusedVariables false
set_option linter.unusedSimpArgs false
open Go.RowKit Go.Proofs.YtkjepfofiegcdaaW.PrintWords Go.Proofs.YtkjepfofiegcdaaW.PrintLast Go.Proofs.YtkjepfofiegcdaaW.PrintMore Go.Proofs.Ytkjepfofiegcdaa.PB14
def wo (l : List S58) (n : Int) (k : Nat) : List S58 := (l.take k).filter fun m => decide (¬ m.f0 = n)
def woL (l : List S58) (n : Int) : List S58 := l.filter fun m => decide (¬ m.f0 = n)
end Go.Proofs.Ytkjepfofiegcdaa.V
namespace Go.Proofs.Ytkjepfofiegcdaa.V
set_option linter.unusedVariables false
set_option linter.unusedSimpArgs false
open Go.RowKit Go.Proofs.YtkjepfofiegcdaaW.PrintWords Go.Proofs.YtkjepfofiegcdaaW.PrintLast Go.Proofs.YtkjepfofiegcdaaW.PrintMore Go.Proofs.Ytkjepfofiegcdaa.PB14
def befP (lv : Int) (m x : S58) : Prop := (lv = 0 ∧ x.f0 < m.f0) ∨ (lv > 0 ∧ Op.bytesLess m.f3.toList x.f3.toList = false)
instance (lv : Int) (m x : S58) : Decidable (befP lv m x) := by unfold befP; infer_instance
def plc (lv : Int) (m : S58) (l : List S58) : Nat := (l.takeWhile fun x => decide (befP lv m x)).length
def wiL (lv : Int) (m : S58) (l : List S58) : List S58 := l.take (plc lv m l) ++ m :: l.drop (plc lv m l)
theorem plc_at {lv : Int} {m : S58} : ∀ {l : List S58} {k : Nat}, k ≤ l.length → (∀ j, j < k → befP lv m (l.getD j z58)) → (k = l.length ∨ ¬ befP lv m (l.getD k z58)) → plc lv m l = k := by
  intro l
  induction l with
  | nil => intro k hk _ _; simp at hk; subst hk; rfl
  | cons x xs ih =>
    intro k hk hj he
    cases k with
    | zero =>
      have h : ¬ befP lv m x := by
        rcases he with he | he
        · simp at he
        · simpa using he
      unfold plc
      rw [List.takeWhile_cons_of_neg (by simpa using h)]
      rfl
    | succ k =>
      have h0 : befP lv m x := by have := hj 0 (by omega); simpa using this
      have h1 : plc lv m xs = k := ih (by simp at hk; omega) (fun j hj2 => by have := hj (j + 1) (by omega); simpa using this) (by
        rcases he with he | he
        · left; simp at he; exact he
        · right; simpa using he)
      unfold plc at h1 ⊢
      rw [List.takeWhile_cons_of_pos (by simpa using h0), List.length_cons, h1]
end Go.Proofs.Ytkjepfofiegcdaa.V
namespace Go.Proofs.Ytkjepfofiegcdaa.V
open Go.RowKit Go.Proofs.YtkjepfofiegcdaaW.PrintWords Go.Proofs.YtkjepfofiegcdaaW.PrintLast Go.Proofs.YtkjepfofiegcdaaW.PrintMore Go.Proofs.Ytkjepfofiegcdaa.PB14
theorem mem_nums {l : List S58} {n : Int} : n ∈ nums l ↔ ∃ m, m ∈ l ∧ m.f0 = n := by unfold nums; exact List.mem_map
theorem woL_none {l : List S58} {n : Int} (h : n ∉ nums l) : woL l n = l := by
  unfold woL
  rw [List.filter_eq_self]
  intro m hm
  exact decide_eq_true fun e => h (mem_nums.mpr ⟨m, hm, e⟩)
theorem erase_first : ∀ {l : List S58} {n : Int} {k : Nat}, k < l.length → (l.getD k z58).f0 = n → (nums l).Nodup → l.eraseIdx k = woL l n
  | [], _, _, hk, _, _ => by simp at hk
  | a :: l, n, 0, _, he, hN => by
    have he' : a.f0 = n := he
    have hn : n ∉ nums l := by
      unfold nums at hN ⊢
      rw [List.map_cons, List.nodup_cons] at hN
      rw [← he']; exact hN.1
    have h2 := woL_none hn
    unfold woL at h2 ⊢
    rw [List.eraseIdx_cons_zero, List.filter_cons, if_neg (by simp [he']), h2]
  | a :: l, n, k + 1, hk, he, hN => by
    have hk' : k < l.length := by simpa using hk
    have he' : (l.getD k z58).f0 = n := by simpa using he
    unfold nums at hN
    rw [List.map_cons, List.nodup_cons] at hN
    have hne : ¬ a.f0 = n := fun e => hN.1 (e ▸ mem_nums.mpr ⟨_, getD_mem l z58 hk', he'⟩)
    have ih := erase_first hk' he' hN.2
    unfold woL at ih ⊢
    rw [List.eraseIdx_cons_succ, List.filter_cons, if_pos (by simp [hne]), ih]
theorem catV4 (v : Ver) : catV v 4 = v.lv 0 ++ v.lv 1 ++ v.lv 2 ++ v.lv 3 := by
  simp [catV]
def cntV (v : Ver) (n : Int) : Nat := (nums (catV v 4)).count n
theorem lv_cnt (v : Ver) (n : Int) : cntV v n = (nums (v.lv 0)).count n + (nums (v.lv 1)).count n + (nums (v.lv 2)).count n + (nums (v.lv 3)).count n := by
  unfold cntV
  rw [catV4]
  unfold nums
  simp only [List.map_append, List.count_append]
theorem set_cnt (v : Ver) (i : Nat) (hi : i < 4) (l : List S58) (n : Int) : cntV (v.set i l) n + (nums (v.lv i)).count n = cntV v n + (nums l).count n := by
  rw [lv_cnt, lv_cnt]
  rw [Ver.set_lv v i 0 hi (by omega), Ver.set_lv v i 1 hi (by omega), Ver.set_lv v i 2 hi (by omega), Ver.set_lv v i 3 hi (by omega)]
  rcases i with _ | _ | _ | _ | i
  · simp; omega
  · simp; omega
  · simp; omega
  · simp; omega
  · omega
def apV (v : Ver) : Prop := ∀ n, cntV v n ≤ 1
theorem apV_of {v : Ver} (h : (nums (catV v 4)).Nodup) : apV v := fun n => List.nodup_iff_count.mp h n
theorem apV.lv {v : Ver} (h : apV v) {i : Nat} (hi : i < 4) : (nums (v.lv i)).Nodup := by
  rw [List.nodup_iff_count]
  intro n
  have h2 := h n
  rw [lv_cnt] at h2
  rcases (by omega : i = 0 ∨ i = 1 ∨ i = 2 ∨ i = 3) with rfl | rfl | rfl | rfl
  · omega
  · omega
  · omega
  · omega
theorem woL_cnt (l : List S58) (n m : Int) : (nums (woL l n)).count m ≤ (nums l).count m := by
  unfold nums woL
  exact List.Sublist.count_le m (List.Sublist.map _ List.filter_sublist)
theorem apV.wo {v : Ver} (h : apV v) {i : Nat} (hi : i < 4) (n : Int) : apV (v.set i (woL (v.lv i) n)) := fun m => by
  have h1 := h m
  have h2 := set_cnt v i hi (woL (v.lv i) n) m
  have h3 := woL_cnt (v.lv i) n m
  omega
theorem wiL_cnt (lv : Int) (m : S58) (l : List S58) (n : Int) : (nums (wiL lv m l)).count n = (nums l).count n + if m.f0 = n then 1 else 0 := by
  have h : l = l.take (plc lv m l) ++ l.drop (plc lv m l) := (List.take_append_drop _ _).symm
  have h2 : (nums l).count n = (nums (l.take (plc lv m l))).count n + (nums (l.drop (plc lv m l))).count n := by
    conv => lhs; rw [h]
    unfold nums
    rw [List.map_append, List.count_append]
  unfold wiL
  rw [h2]
  unfold nums
  rw [List.map_append, List.map_cons, List.count_append, List.count_cons]
  by_cases e : m.f0 = n
  · simp [e]; omega
  · simp [e]
theorem wi_cnt (v : Ver) {i : Nat} (hi : i < 4) (lv : Int) (m : S58) (n : Int) : cntV (v.set i (wiL lv m (v.lv i))) n = cntV v n + if m.f0 = n then 1 else 0 := by
  have h1 := set_cnt v i hi (wiL lv m (v.lv i)) n
  have h2 := wiL_cnt lv m (v.lv i) n
  omega
theorem wiL_len (lv : Int) (m : S58) (l : List S58) : (wiL lv m l).length = l.length + 1 := by
  unfold wiL
  rw [List.length_append, List.length_cons, ← Nat.add_assoc, ← List.length_append, List.take_append_drop]
/-! The steps. -/
def goV (v : Ver) (x : S84) : Option Ver :=
  if x.f1 ∈ nums (v.lv x.f0.toNat) then some (v.set x.f0.toNat (woL (v.lv x.f0.toNat) x.f1)) else none
def gosV : Ver → List S84 → Option Ver
  | v, [] => some v
  | v, x :: r => (goV v x).bind fun u => gosV u r
def adV (v : Ver) (x : S82) : Option Ver :=
  if 0 < cntV v x.f1.f0 then none else some (v.set x.f0.toNat (wiL x.f0 x.f1 (v.lv x.f0.toNat)))
def adsV : Ver → List S82 → Option Ver
  | v, [] => some v
  | v, x :: r => (adV v x).bind fun u => adsV u r
def bndV (v : Ver) (e : Edt) : Ver := ⟨laterN v.log e.log, laterN v.next e.next, laterN v.seq e.seq, v.lv 0, v.lv 1, v.lv 2, v.lv 3⟩
theorem bndV_lv (v : Ver) (e : Edt) (i : Nat) (hi : i < 4) : (bndV v e).lv i = v.lv i := by
  rcases i with _ | _ | _ | _ | i
  · rfl
  · rfl
  · rfl
  · rfl
  · omega
def zeroV : Ver := ⟨0, 0, 0, [], [], [], []⟩
def askE (v : Ver) (e : Edt) : Prop := (rightP v ∧ laterB v.log e.log = true ∧ laterB v.next e.next = true ∧ laterB v.seq e.seq = true) ∧ listedP e
open Classical in
noncomputable def lastV (u : Ver) : Ver × Int := if rightP u then (u, 0) else (zeroV, 11)
noncomputable def comeV (u : Ver) (l : List S82) : Ver × Int := match adsV u l with
  | none => (zeroV, 5)
  | some x => lastV x
noncomputable def goneV (u : Ver) (l : List S84) (r : List S82) : Ver × Int := match gosV u l with
  | none => (zeroV, 4)
  | some x => comeV x r
open Classical in
noncomputable def applyV (v : Ver) (e : Edt) : Ver × Int := if askE v e then goneV (bndV v e) e.gone e.added else (zeroV, 2)
theorem goneV_cons (u : Ver) (x : S84) (l : List S84) (r : List S82) : goneV u (x :: l) r = match goV u x with
    | none => (zeroV, 4)
    | some y => goneV y l r := by
  unfold goneV
  rw [gosV]
  cases goV u x with
  | none => rfl
  | some y => rfl
theorem comeV_cons (u : Ver) (x : S82) (l : List S82) : comeV u (x :: l) = match adV u x with
    | none => (zeroV, 5)
    | some y => comeV y l := by
  unfold comeV
  rw [adsV]
  cases adV u x with
  | none => rfl
  | some y => rfl
end Go.Proofs.Ytkjepfofiegcdaa.V
namespace Go.Proofs.Ytkjepfofiegcdaa.V
set_option linter.unusedVariables false
set_option linter.unusedSimpArgs false
open Go.RowKit Go.Proofs.YtkjepfofiegcdaaW.PrintWords Go.Proofs.YtkjepfofiegcdaaW.PrintLast Go.Proofs.YtkjepfofiegcdaaW.PrintMore Go.Proofs.Ytkjepfofiegcdaa.PB14
set_option maxHeartbeats 4000000 in
set_option maxRecDepth 100000 in
theorem pred105_calls (w : World) (m : S58) (x : S84) (gb : Nat) (hx : w.heap[gb]? = some (.cells (gCs x) 84 (0, 0))) :
    Calls Try.prog 105 #[.agg (mCs m), .pointer (some ⟨gb, 0, none⟩)] w fun e w' => e = .returned (.bool (decide (m.f0 = x.f1))) ∧ Below w.heap.size w w' := by
  have HB := Aside0.mk ((Below.refl w.heap.size w).alloc (Nat.le_refl _) (.cells (mCs m) 58))
  have X1 := Aside0.mk (blk_new w (.cells (mCs m) 58))
  have X2 := Aside0.mk (blk_alloc hx (.cells (mCs m) 58))
  clear hx
  go_enter Try.func105, Try.ntmps105
  go_upto_region 1 with (fail)
  generalize w.alloc (.cells (mCs m) 58) = w1 at *
  have y0 : w1.cell? ⟨w.heap.size, 0, none⟩ = some (.int .u64 m.f0) := (blk_cell X1.out 0).trans rfl
  have y1 : w1.cell? ⟨gb, 1, none⟩ = some (.int .u64 x.f1) := (blk_cell X2.out 1).trans rfl
  go_wp2_with fail
  go_ret
  exact ⟨ret_bool (by rw [Bool.eq_iff_iff]; simp), HB.out⟩
set_option maxHeartbeats 8000000 in
set_option maxRecDepth 100000 in
theorem indexF_calls (w : World) (A : Option Addr) (c : Nat) (l : List S58) (x : S84) (gb : Nat) (hC : k58.C w A l.length l) (hx : w.heap[gb]? = some (.cells (gCs x) 84 (0, 0))) :
    Calls Try.prog 104 #[.slice A l.length c, .func (.func 105) #[] #[.pointer (some ⟨gb, 0, none⟩)]] w fun e w' => ∃ i : Int, e = .returned (.int .i64 i) ∧ ((i = -1 ∧ ∀ j, j < l.length → ¬ (l.getD j z58).f0 = x.f1) ∨ ∃ k : Nat, i = (k : Int) ∧ k < l.length ∧ (l.getD k z58).f0 = x.f1 ∧ ∀ j, j < k → ¬ (l.getD j z58).f0 = x.f1) ∧ Below w.heap.size w w' := by
  have HC := Aside0.mk hC
  have HX := Aside0.mk hx
  clear hC hx
  go_enter Try.func104, Try.ntmps104
  go_wp2_with fail
  go_loopg [5, 8] l.length (fun kq v5 v8 w' => ∃ k : Nat, v8 = .int .i64 (k : Int) ∧ Aside0 (kq + k = l.length) ∧ Aside0 (Below w.heap.size w w') ∧ Aside0 (∀ j, j < k → ¬ (l.getD j z58).f0 = x.f1))
  case atStart => exact ⟨0, rfl, ⟨by omega⟩, ⟨Below.refl _ _⟩, ⟨fun j hj => by omega⟩⟩
  case round =>
    obtain ⟨k, rfl, HK, HB, HJ⟩ := hrel
    cases gk with
    | zero =>
      have ek : k = l.length := by have := HK.out; omega
      subst ek
      have d0 : decide ((l.length : Int) < (l.length : Int)) = false := by simp
      go_wp2_with fail
      go_ret
      exact ⟨-1, rfl, .inl ⟨rfl, HJ.out⟩, HB.out⟩
    | succ q =>
      have hk : k < l.length := by have := HK.out; omega
      have HM := Aside0.mk (show l.length ≤ 9223372036854775807 from HC.out.2.1)
      have d0 : decide ((k : Int) < (l.length : Int)) = true := decide_eq_true (by omega)
      have d1 : decide (k < l.length) = true := decide_eq_true hk
      have p0 : 0 ≤ (k : Int) := Int.natCast_nonneg _
      have p1 : (k : Int) < (l.length : Int) := by omega
      have HC1 := Aside0.mk (Kd.C_below HC.out HB.out)
      obtain ⟨ad, ea, ha0, ha1, ha2, ha3, ha4, ha5, ha6⟩ := at_T58 HC1.out (k : Int) p0 p1
      rw [Int.toNat_natCast] at ha0 ha1 ha2 ha3 ha4 ha5 ha6
      have EM := Aside0.mk (show rd_T58 l (k : Int) = l.getD k z58 by unfold rd_T58; rw [Int.toNat_natCast])
      generalize rd_T58 l (k : Int) = m at *
      have ew : wrap64 ((k : Int) + 1) = ((k + 1 : Nat) : Int) := by have h1 := HM.out; unfold wrap64; omega
      have KL := Aside0.mk hk
      have HX1 := Aside0.mk (blk_below HX.out HB.out)
      rw [ea]
      have HAX := Aside0.mk ea
      clear ea hk HC1
      by_cases hm : m.f0 = x.f1
      · have D := Aside0.mk (decide_eq_true hm)
        have EX := Aside0.mk (show (l.getD k z58).f0 = x.f1 by rw [← EM.out]; exact hm)
        clear hm
        go_wp2_with fail
        refine (pred105_calls _ m x gb HX1.out).mono ?_
        rintro e w3 ⟨rfl, hb⟩
        rw [D.out]
        have HB3 := Aside0.mk (below_step HB.out hb)
        clear hb
        go_wp2_with fail
        go_ret
        exact ⟨(k : Int), rfl, .inr ⟨k, rfl, KL.out, EX.out, HJ.out⟩, HB3.out⟩
      · have D := Aside0.mk (decide_eq_false hm)
        have EX := Aside0.mk (show ¬ (l.getD k z58).f0 = x.f1 by rw [← EM.out]; exact hm)
        clear hm
        go_wp2_with fail
        refine (pred105_calls _ m x gb HX1.out).mono ?_
        rintro e w3 ⟨rfl, hb⟩
        rw [D.out]
        have HB3 := Aside0.mk (below_step HB.out hb)
        clear hb
        go_wp2_with fail
        try rw [ew]
        rw [← HAX.out]
        clear ew
        go_roundg q
        case measure => omega
        case rel => exact ⟨k + 1, rfl, ⟨by have := HK.out; omega⟩, HB3, ⟨fun j hj => by
          by_cases e : j = k
          · subst e; exact EX.out
          · exact HJ.out j (by omega)⟩⟩
end Go.Proofs.Ytkjepfofiegcdaa.V
namespace Go.Proofs.Ytkjepfofiegcdaa.V
set_option linter.unusedVariables false
set_option linter.unusedSimpArgs false
open Go.RowKit Go.Proofs.YtkjepfofiegcdaaW.PrintWords Go.Proofs.YtkjepfofiegcdaaW.PrintLast Go.Proofs.YtkjepfofiegcdaaW.PrintMore Go.Proofs.Ytkjepfofiegcdaa.PB14
attribute [local go_sem high] eqA58
def firstP : Pl := ⟨none, none, none, none, 0, 0, 0, 0⟩
end Go.Proofs.Ytkjepfofiegcdaa.V
namespace Go.Proofs.Ytkjepfofiegcdaa.V
set_option linter.unusedVariables false
set_option linter.unusedSimpArgs false
open Go.RowKit Go.Proofs.YtkjepfofiegcdaaW.PrintWords Go.Proofs.YtkjepfofiegcdaaW.PrintLast Go.Proofs.YtkjepfofiegcdaaW.PrintMore Go.Proofs.Ytkjepfofiegcdaa.PB14
theorem set_same {cs : Array Value} {j : Nat} {x : Value} (h : cs[j]? = some x) : cs.setIfInBounds j x = cs := by
  have hj : j < cs.size := by
    rcases Nat.lt_or_ge j cs.size with h1 | h1
    · exact h1
    · rw [Array.getElem?_eq_none h1] at h; cases h
  rw [Array.getElem?_eq_getElem hj] at h
  injection h with h
  subst h
  unfold Array.setIfInBounds
  rw [dif_pos hj]
  exact Array.set_getElem_self hj
theorem later2 (w : World) (g j t : Nat) (cs : Array Value) (was n : Int) (hg : w.heap[g]? = some (.cells cs t (0, 0))) (hj : cs[j]? = some (.int .u64 was)) (B : Nat) (hB : B ≤ g) :
    Calls Try.prog 102 #[.pointer (some ⟨g, j, none⟩), .int .u64 n] w fun e w' => e = .returned (.bool (laterB was n)) ∧ w'.heap[g]? = some (.cells (cs.setIfInBounds j (.int .u64 (laterN was n))) t (0, 0)) ∧ (∀ k, k ≠ g → w'.heap[k]? = w.heap[k]?) ∧ Below B w w' := by
  refine (later_calls w g j t cs was n hg hj).mono ?_
  rintro e w' ⟨rfl, rfl⟩
  by_cases h : n = 0
  · rw [if_pos h, show laterN was n = was from if_pos h, set_same hj]
    exact ⟨rfl, hg, fun _ _ => rfl, Below.refl _ _⟩
  · rw [if_neg h, show laterN was n = n from if_neg h]
    exact ⟨rfl, blk_set hg j _, fun k hk => Below.heap_setCell w _ _ k hk, (Below.refl B w).setCell hB _⟩
end Go.Proofs.Ytkjepfofiegcdaa.V
namespace Go.Proofs.Ytkjepfofiegcdaa.V
set_option linter.unusedVariables false
set_option linter.unusedSimpArgs false
open Go.RowKit Go.Proofs.YtkjepfofiegcdaaW.PrintWords Go.Proofs.YtkjepfofiegcdaaW.PrintLast Go.Proofs.YtkjepfofiegcdaaW.PrintMore Go.Proofs.Ytkjepfofiegcdaa.PB14
def mC (m : S58) : List Value := [.int .u64 m.f0, .int .i64 m.f1, .int .i64 m.f2, .string m.f3, .string m.f4, .int .u64 m.f5, .int .u64 m.f6]
def Is7 (m : S58) (cs : List Value) : Prop := cs = mC m
theorem mC_len (m : S58) : (mC m).length = 7 := rfl
theorem mC_one (m : S58) : ∀ u, u ∈ mC m → u.oneCell' = true := by
  intro u hu
  simp only [mC, List.mem_cons, List.mem_nil_iff, or_false] at hu
  rcases hu with rfl | rfl | rfl | rfl | rfl | rfl | rfl <;> rfl
theorem is7_one : ∀ {xs : List S58} {cs : List Value}, Reps Is7 7 xs cs → ∀ u, u ∈ cs → u.oneCell' = true := by
  intro xs cs h u hu
  obtain ⟨q, hq, rfl⟩ := List.mem_iff_getElem.1 hu
  have hl : q / 7 < xs.length := by
    have h1 := h.1
    omega
  have h2 := h.2 (q / 7) _ (List.getElem?_eq_getElem hl)
  refine mC_one (xs[q / 7]) _ ?_
  unfold Is7 at h2
  rw [← h2, List.mem_iff_getElem?]
  refine ⟨q % 7, ?_⟩
  rw [List.getElem?_take, if_pos (Nat.mod_lt _ (by decide)), List.getElem?_drop, show q / 7 * 7 + q % 7 = q by omega, List.getElem?_eq_getElem hq]
theorem R58_open {w : World} {base n c : Nat} {A : Option Addr} {xs : List S58} (h : Kd.R k58 58 w base (fun _ => True) (.slice A n c) xs) :
    (A = none ∧ n = 0 ∧ c = 0 ∧ xs = []) ∨ ∃ g cur inner, A = some ⟨g, 0, none⟩ ∧ base ≤ g ∧ w.heap[g]? = some (.cells cur 58 (0, 0)) ∧ xs.length = n ∧ n ≤ c ∧ c ≤ maxLen ∧ cur.size = c * 7 ∧ cur.toList.take (n * 7) = inner ∧ Reps Is7 7 xs inner := by
  obtain ⟨_, inner, ⟨h1, h2⟩, h3⟩ := h
  rcases h2 with ⟨hv, hl⟩ | ⟨g, cap, cur, hv, hb, hh, hnc, hcm, hcs, ht⟩
  · injection hv with a b d
    exact .inl ⟨a, b, d, List.length_eq_zero_iff.mp hl⟩
  · injection hv with a b d
    subst a
    subst d
    refine .inr ⟨g, cur, inner, rfl, hb, hh, b.symm, by omega, hcm, hcs, by rw [b]; exact ht, h3.imp_ (fun p q hp => k58_openM hp)⟩
theorem R58_mk {w : World} {base n c g : Nat} {cur : Array Value} {xs : List S58} {inner : List Value} (hb : base ≤ g) (hh : w.heap[g]? = some (.cells cur 58 (0, 0))) (hn : xs.length = n) (hnc : n ≤ c) (hcm : c ≤ maxLen) (hcs : cur.size = c * 7) (ht : cur.toList.take (n * 7) = inner) (hr : Reps Is7 7 xs inner) :
    Kd.R k58 58 w base (fun _ => True) (.slice (some ⟨g, 0, none⟩) n c) xs := by
  subst hn
  refine ⟨fun _ _ => trivial, inner, ⟨hr.1, .inr ⟨g, c, cur, rfl, hb, hh, hnc, hcm, hcs, ht⟩⟩, hr.imp_ (fun p q hp => ?_)⟩
  unfold Is7 at hp
  subst hp
  exact k58_mkM _ _ _ p
theorem reps_one (m : S58) : Reps Is7 7 [m] (mC m) := by
  have h := (Reps.none Is7 7).snoc (p := m) (c := mC m) rfl rfl
  simpa using h
theorem reps_ins {xs : List S58} {inner : List Value} (h : Reps Is7 7 xs inner) (k : Nat) (hk : k ≤ xs.length) (m : S58) : Reps Is7 7 (xs.take k ++ m :: xs.drop k) (inner.take (k * 7) ++ (mC m ++ inner.drop (k * 7))) := by
  have h1 := Kd.reps_append (Kd.reps_take h hk) (Kd.reps_append (reps_one m) (Kd.reps_drop (m := k) h))
  rwa [List.singleton_append] at h1
theorem run_copy7 (w : World) (ty : TypeId) (g o dLen dCap : Nat) (a : Addr) (sLen sCap : Nat) (cur : Array Value) (t : TypeId) (cs : List Value)
    (hg : w.heap[g]? = some (.cells cur t (0, 0))) (hn : cs.length = Nat.min sLen dLen * 7)
    (hsrc : ∀ j v, cs[j]? = some v → w.cell? (a.add j) = some v) (hfit : o + cs.length ≤ cur.size) (h1 : ∀ v, v ∈ cs → v.oneCell' = true) :
    (Builtin.copy_ #[23, 23] ty #[.slice (some ⟨g, o, none⟩) dLen dCap, .slice (some a) sLen sCap]).run Try.prog w =
      .ok (goInt (Nat.min sLen dLen)) (w.setRow g (cur.toList.take o ++ cs ++ cur.toList.drop (o + cs.length)).toArray) := by
  have hl := run_loadCells_list (P := Try.prog) w a cs hsrc
  have hst := run_storeCells_at Try.prog g o t cs 0 cur w hg (by simpa using hfit) h1
  obtain ⟨i, hi, _, hsz, _⟩ := info_parts info58
  simp [Builtin.copy_, run_underlying Try.underlying23, Builtin.lenOf, Builtin.firstCells, sizeOf, typeInfo, hi, hsz, ← hn, hl, hst]
theorem row_grown {w : World} {g : Nat} {cur : Array Value} {t : Nat} (hg : w.heap[g]? = some (.cells cur t (0, 0))) (cur2 : Array Value) : w.grownBy (w.setRow g cur2) (some g) :=
  ⟨rfl, rfl, rfl, by rw [setRow_size]; exact Nat.le_refl _, fun k _ hk => setRow_other w g k cur2 (fun e => hk (by rw [e]))⟩
theorem ins_room {w : World} {base n c g gv k : Nat} {xs : List S58} (m : S58) (h : Kd.R k58 58 w base (fun _ => True) (.slice (some ⟨g, 0, none⟩) n c) xs) (hk : k < n) (hroom : n + 1 ≤ c) (hgv : w.heap[gv]? = some (.cells (mC m).toArray 58 (0, 0))) (hne : gv ≠ g) :
    ∃ w1 w2, (∀ ty dc sc, (Builtin.copy_ #[23, 23] ty #[.slice (some ⟨g, (k + 1) * 7, none⟩) (n - k) dc, .slice (some ⟨g, k * 7, none⟩) (n + 1 - k) sc]).run Try.prog w = .ok (goInt ((n - k : Nat) : Int)) w1) ∧
      (∀ ty dc vc, (Builtin.copy_ #[23, 23] ty #[.slice (some ⟨g, k * 7, none⟩) (n + 1 - k) dc, .slice (some ⟨gv, 0, none⟩) 1 vc]).run Try.prog w1 = .ok (goInt 1) w2) ∧
      Kd.R k58 58 w2 base (fun _ => True) (.slice (some ⟨g, 0, none⟩) (n + 1) c) (xs.take k ++ m :: xs.drop k) ∧ w.grownBy w2 (some g) ∧ w.grownBy w1 (some g) := by
  rcases R58_open h with ⟨h1, _⟩ | ⟨g', cur, inner, ha, hb, hh, hl, hnc, hcm, hcs, ht, hr⟩
  · cases h1
  injection ha with ha
  injection ha with ha
  subst ha
  have hin : inner.length = n * 7 := by rw [hr.1, hl]
  have hone := is7_one hr
  have htl : cur.toList.length = c * 7 := by rw [Array.length_toList, hcs]
  have hsrc1 : ∀ j v, (inner.drop (k * 7))[j]? = some v → w.cell? ((⟨g, k * 7, none⟩ : Addr).add j) = some v := fun j v hj => by
    rw [List.getElem?_drop] at hj
    have hq : k * 7 + j < n * 7 := by rw [← hin]; exact (List.getElem?_eq_some_iff.1 hj).1
    rw [Addr.add_lit, cell_of_row w g _ cur 58 (0, 0) hh, ← Array.getElem?_toList, ← hj, ← ht, List.getElem?_take, if_pos hq]
  have hd1 : (inner.drop (k * 7)).length = (n - k) * 7 := by rw [List.length_drop, hin]; omega
  have run1 : ∀ ty dc sc, _ := fun ty dc sc => run_copy7 w ty g ((k + 1) * 7) (n - k) dc ⟨g, k * 7, none⟩ (n + 1 - k) sc cur 58 (inner.drop (k * 7)) hh (by rw [hd1, show Nat.min (n + 1 - k) (n - k) = n - k from Nat.min_eq_right (by omega)]) hsrc1 (by rw [hd1, hcs]; omega) (fun v hv => hone v (List.mem_of_mem_drop hv))
  obtain ⟨cur1, hcur1⟩ : ∃ cur1, cur1 = (cur.toList.take ((k + 1) * 7) ++ inner.drop (k * 7) ++ cur.toList.drop ((k + 1) * 7 + (inner.drop (k * 7)).length)).toArray := ⟨_, rfl⟩
  rw [← hcur1] at run1
  rw [show Nat.min (n + 1 - k) (n - k) = n - k from Nat.min_eq_right (by omega)] at run1
  have hh1 : (w.setRow g cur1).heap[g]? = some (.cells cur1 58 (0, 0)) := setRow_heap w g cur cur1 58 (0, 0) hh
  have hl1 : cur1.size = c * 7 := by
    rw [hcur1]
    simp only [List.size_toArray, List.length_append, List.length_take, List.length_drop, htl, hin]
    omega
  have hgv1 : (w.setRow g cur1).heap[gv]? = some (.cells (mC m).toArray 58 (0, 0)) := (setRow_other w g gv cur1 hne).trans hgv
  have hsrc2 : ∀ j v, (mC m)[j]? = some v → (w.setRow g cur1).cell? ((⟨gv, 0, none⟩ : Addr).add j) = some v := fun j v hj => by
    rw [Addr.add_lit, Nat.zero_add, cell_of_row _ gv _ _ 58 (0, 0) hgv1]
    simpa using hj
  have run2 : ∀ ty dc vc, _ := fun ty dc vc => run_copy7 (w.setRow g cur1) ty g (k * 7) (n + 1 - k) dc ⟨gv, 0, none⟩ 1 vc cur1 58 (mC m) hh1 (by rw [mC_len, show Nat.min 1 (n + 1 - k) = 1 from Nat.min_eq_left (by omega)]) hsrc2 (by rw [mC_len, hl1]; omega) (mC_one m)
  rw [show Nat.min 1 (n + 1 - k) = 1 from Nat.min_eq_left (by omega)] at run2
  obtain ⟨cur2, hcur2⟩ : ∃ cur2, cur2 = (cur1.toList.take (k * 7) ++ mC m ++ cur1.toList.drop (k * 7 + (mC m).length)).toArray := ⟨_, rfl⟩
  rw [← hcur2] at run2
  have t1 : cur1.toList.take (k * 7) = inner.take (k * 7) := by
    rw [hcur1, List.append_assoc, List.take_append_of_le_length (by rw [List.length_take, htl]; omega), List.take_take, Nat.min_eq_left (by omega), ← ht, List.take_take, Nat.min_eq_left (by omega)]
  have t2 : cur1.toList.drop (k * 7 + (mC m).length) = inner.drop (k * 7) ++ cur.toList.drop ((k + 1) * 7 + (inner.drop (k * 7)).length) := by
    rw [hcur1, mC_len, show k * 7 + 7 = (k + 1) * 7 by omega, List.append_assoc]
    exact List.drop_left' (by rw [List.length_take, htl]; omega)
  have hG1 := row_grown hh cur1
  have hG2 := row_grown hh1 cur2
  refine ⟨w.setRow g cur1, (w.setRow g cur1).setRow g cur2, run1, run2, ?_, ⟨hG1.os.trans hG2.os |> fun _ => rfl, rfl, rfl, by rw [setRow_size, setRow_size]; exact Nat.le_refl _, fun b _ hb2 => (setRow_other _ g b cur2 (fun e => hb2 (by rw [e]))).trans (setRow_other w g b cur1 (fun e => hb2 (by rw [e])))⟩, hG1⟩
  have hlen : cur2.size = c * 7 := by
    rw [hcur2, t1, t2]
    simp only [List.size_toArray, List.length_append, List.length_take, List.length_drop, htl, hin, mC_len]
    omega
  refine R58_mk hb (setRow_heap _ g cur1 cur2 58 (0, 0) hh1) ?_ hroom hcm hlen ?_ (reps_ins hr k (by omega) m)
  · rw [List.length_append, List.length_cons, List.length_take, List.length_drop]; omega
  · rw [hcur2, t1, t2, ← List.append_assoc]
    rw [List.append_assoc (inner.take (k * 7)) (mC m) (inner.drop (k * 7))]
    exact List.take_left' (by rw [List.length_append, List.length_append, List.length_take, List.length_drop, hin, mC_len]; omega)
theorem ins_grow {w : World} {base n c g gv k : Nat} {xs : List S58} (m : S58) (h : Kd.R k58 58 w base (fun _ => True) (.slice (some ⟨g, 0, none⟩) n c) xs) (hk : k < n) (hroom : c < n + 1) (hgv : w.heap[gv]? = some (.cells (mC m).toArray 58 (0, 0))) (hsm : n ≤ 1000000000) (hbase : base ≤ w.heap.size) :
    ∃ (G : Nat) (w1 w2 w3 : World), (∀ ty, (Builtin.append_ #[23, 3] ty #[.slice (some ⟨g, 0, none⟩) k c, .int .i64 ((n + 1 - k : Nat) : Int)]).run Try.prog w = .ok (.slice (some ⟨w.heap.size, 0, none⟩) (n + 1) G) w1) ∧ n + 1 ≤ G ∧ G ≤ maxLen ∧
      (∀ ty dc vc, (Builtin.copy_ #[23, 23] ty #[.slice (some ⟨w.heap.size, k * 7, none⟩) (n + 1 - k) dc, .slice (some ⟨gv, 0, none⟩) 1 vc]).run Try.prog w1 = .ok (goInt 1) w2) ∧
      (∀ ty dc sc, (Builtin.copy_ #[23, 23] ty #[.slice (some ⟨w.heap.size, (k + 1) * 7, none⟩) (n - k) dc, .slice (some ⟨g, k * 7, none⟩) (n - k) sc]).run Try.prog w2.drew = .ok (goInt ((n - k : Nat) : Int)) w3) ∧
      Kd.R k58 58 w3 base (fun _ => True) (.slice (some ⟨w.heap.size, 0, none⟩) (n + 1) G) (xs.take k ++ m :: xs.drop k) ∧ Below w.heap.size w w3 := by
  rcases R58_open h with ⟨h1, _⟩ | ⟨g', cur, inner, ha, hb, hh, hl, hnc, hcm, hcs, ht, hr⟩
  · cases h1
  injection ha with ha
  injection ha with ha
  subst ha
  have hgw : g < w.heap.size := blk_lt hh
  have hgvw : gv < w.heap.size := blk_lt hgv
  have hin : inner.length = n * 7 := by rw [hr.1, hl]
  have hone := is7_one hr
  obtain ⟨i, hi, hz, hsz, hby⟩ := info_parts info58
  have hcell : ∀ q v, q < n * 7 → inner[q]? = some v → w.cell? ⟨g, q, none⟩ = some v := fun q v hq hv => by
    rw [cell_of_row w g _ cur 58 (0, 0) hh, ← Array.getElem?_toList, ← hv, ← ht, List.getElem?_take, if_pos hq]
  have hold : (Builtin.firstCells i.size k (.slice (some ⟨g, 0, none⟩) k c)).run Try.prog w.drew = .ok (inner.take (k * 7)).toArray w.drew := by
    rw [hsz]
    refine run_firstCells_some w.drew 7 k ⟨g, 0, none⟩ k c (inner.take (k * 7)) (by rw [List.length_take, hin]; omega) (fun j v hj => ?_)
    rw [Addr.add_lit, Nat.zero_add]
    rw [List.getElem?_take] at hj
    split at hj
    · exact hcell j v (by omega) hj
    · cases hj
  obtain ⟨G, hG⟩ : ∃ G, G = grownCap w (k + (n + 1 - k)) c 58 := ⟨_, rfl⟩
  have hrA : ∀ ty, _ := fun ty => Lib.run_append_grow_zeros w 23 3 ty 58 i _ .i64 .i64 Try.underlying23 Try.underlying3 hi hz (some ⟨g, 0, none⟩) k c (inner.take (k * 7)) hold (n + 1 - k) (by omega) (by omega) (by omega) (by omega) (by rw [hby]; omega) (by rw [hby]; exact growslice_fits (by omega) (by omega))
  rw [← hG, show k + (n + 1 - k) = n + 1 by omega] at hrA
  rw [show k + (n + 1 - k) = n + 1 by omega] at hG
  have hGe : n + 1 ≤ G := by rw [hG]; exact grownCap_ge _ _ _ _
  have hGm : G ≤ maxLen := by rw [hG]; exact grownCap_le_maxLen _ _ _ _ (by simp only [maxLen]; omega)
  obtain ⟨ROW, hROW⟩ : ∃ ROW : Array Value, ROW = (inner.take (k * 7)).toArray ++ Builtin.zeroCells (Value.agg #[(.int .u64 0), (.int .i64 0), (.int .i64 0), (.string ⟨#[]⟩), (.string ⟨#[]⟩), (.int .u64 0), (.int .u64 0)]).cells (n + 1 - k) ++ Builtin.zeroCells (Value.agg #[(.int .u64 0), (.int .i64 0), (.int .i64 0), (.string ⟨#[]⟩), (.string ⟨#[]⟩), (.int .u64 0), (.int .u64 0)]).cells (G - (n + 1)) := ⟨_, rfl⟩
  rw [← hROW] at hrA
  have hz7 : (Value.agg #[(.int .u64 0), (.int .i64 0), (.int .i64 0), (.string ⟨#[]⟩), (.string ⟨#[]⟩), (.int .u64 0), (.int .u64 0)]).cells.size = 7 := rfl
  have hRs : ROW.size = G * 7 := by
    rw [hROW]
    simp only [Array.size_append, List.size_toArray, List.length_take, hin, size_zeroCells, hz7]
    omega
  have hRl : ROW.toList.length = G * 7 := by rw [Array.length_toList, hRs]
  have hRt : ROW.toList.take (k * 7) = inner.take (k * 7) := by
    rw [hROW]
    simp only [Array.toList_append, List.append_assoc]
    exact List.take_left' (by rw [List.length_take, hin]; omega)
  obtain ⟨W1, hW1⟩ : ∃ W1, W1 = w.drew.alloc (.cells ROW 58) := ⟨_, rfl⟩
  rw [← hW1] at hrA
  have hB1 : Below w.heap.size w W1 := by rw [hW1]; exact below_alloc (below_drew (Below.refl _ _)) _
  have hh1 : W1.heap[w.heap.size]? = some (.cells ROW 58 (0, 0)) := by rw [hW1]; exact heap_alloc_new w.drew _
  have hgv1 : W1.heap[gv]? = some (.cells (mC m).toArray 58 (0, 0)) := (hB1.block gv hgvw).trans hgv
  have hg1 : W1.heap[g]? = some (.cells cur 58 (0, 0)) := (hB1.block g hgw).trans hh
  have hsrc1 : ∀ j v, (mC m)[j]? = some v → W1.cell? ((⟨gv, 0, none⟩ : Addr).add j) = some v := fun j v hj => by
    rw [Addr.add_lit, Nat.zero_add, cell_of_row _ gv _ _ 58 (0, 0) hgv1]
    simpa using hj
  have run1 : ∀ ty dc vc, _ := fun ty dc vc => run_copy7 W1 ty w.heap.size (k * 7) (n + 1 - k) dc ⟨gv, 0, none⟩ 1 vc ROW 58 (mC m) hh1 (by rw [mC_len, show Nat.min 1 (n + 1 - k) = 1 from Nat.min_eq_left (by omega)]) hsrc1 (by rw [mC_len, hRs]; omega) (mC_one m)
  rw [show Nat.min 1 (n + 1 - k) = 1 from Nat.min_eq_left (by omega)] at run1
  obtain ⟨R1, hR1⟩ : ∃ R1, R1 = (ROW.toList.take (k * 7) ++ mC m ++ ROW.toList.drop (k * 7 + (mC m).length)).toArray := ⟨_, rfl⟩
  rw [← hR1] at run1
  have hR1s : R1.size = G * 7 := by
    rw [hR1]
    simp only [List.size_toArray, List.length_append, List.length_take, List.length_drop, hRl, mC_len]
    omega
  have hR1t : R1.toList.take ((k + 1) * 7) = inner.take (k * 7) ++ mC m := by
    rw [hR1, hRt]
    exact List.take_left' (by rw [List.length_append, List.length_take, hin, mC_len]; omega)
  have hh2 : (W1.setRow w.heap.size R1).drew.heap[w.heap.size]? = some (.cells R1 58 (0, 0)) := setRow_heap W1 w.heap.size ROW R1 58 (0, 0) hh1
  have hg2 : (W1.setRow w.heap.size R1).drew.heap[g]? = some (.cells cur 58 (0, 0)) := (setRow_other W1 w.heap.size g R1 (by omega)).trans hg1
  have hsrc2 : ∀ j v, (inner.drop (k * 7))[j]? = some v → (W1.setRow w.heap.size R1).drew.cell? ((⟨g, k * 7, none⟩ : Addr).add j) = some v := fun j v hj => by
    rw [List.getElem?_drop] at hj
    have hq : k * 7 + j < n * 7 := by rw [← hin]; exact (List.getElem?_eq_some_iff.1 hj).1
    rw [Addr.add_lit, cell_of_row _ g _ cur 58 (0, 0) hg2, ← Array.getElem?_toList, ← hj, ← ht, List.getElem?_take, if_pos hq]
  have hd1 : (inner.drop (k * 7)).length = (n - k) * 7 := by rw [List.length_drop, hin]; omega
  have run2 : ∀ ty dc sc, _ := fun ty dc sc => run_copy7 (W1.setRow w.heap.size R1).drew ty w.heap.size ((k + 1) * 7) (n - k) dc ⟨g, k * 7, none⟩ (n - k) sc R1 58 (inner.drop (k * 7)) hh2 (by rw [hd1, show Nat.min (n - k) (n - k) = n - k from Nat.min_self _]) hsrc2 (by rw [hd1, hR1s]; omega) (fun v hv => hone v (List.mem_of_mem_drop hv))
  rw [show Nat.min (n - k) (n - k) = n - k from Nat.min_self _] at run2
  obtain ⟨R2, hR2⟩ : ∃ R2, R2 = (R1.toList.take ((k + 1) * 7) ++ inner.drop (k * 7) ++ R1.toList.drop ((k + 1) * 7 + (inner.drop (k * 7)).length)).toArray := ⟨_, rfl⟩
  rw [← hR2] at run2
  have hR2s : R2.size = G * 7 := by
    rw [hR2]
    simp only [List.size_toArray, List.length_append, List.length_take, List.length_drop, Array.length_toList, hR1s, hin]
    omega
  have hB2 : Below w.heap.size w (W1.setRow w.heap.size R1) := below_setRow hB1 (Nat.le_refl _) R1
  refine ⟨G, W1, W1.setRow w.heap.size R1, (W1.setRow w.heap.size R1).drew.setRow w.heap.size R2, hrA, hGe, hGm, run1, run2, ?_, below_setRow (below_drew hB2) (Nat.le_refl _) R2⟩
  refine R58_mk hbase (setRow_heap _ w.heap.size R1 R2 58 (0, 0) hh2) ?_ hGe hGm hR2s ?_ (reps_ins hr k (by omega) m)
  · rw [List.length_append, List.length_cons, List.length_take, List.length_drop]; omega
  · rw [hR2, hR1t, List.append_assoc (inner.take (k * 7)) (mC m) (inner.drop (k * 7))]
    exact List.take_left' (by rw [List.length_append, List.length_append, List.length_take, List.length_drop, hin, mC_len]; omega)
end Go.Proofs.Ytkjepfofiegcdaa.V
namespace Go.Proofs.Ytkjepfofiegcdaa.V
set_option linter.unusedVariables false
set_option linter.unusedSimpArgs false
open Go.RowKit Go.Proofs.YtkjepfofiegcdaaW.PrintWords Go.Proofs.YtkjepfofiegcdaaW.PrintLast Go.Proofs.YtkjepfofiegcdaaW.PrintMore Go.Proofs.Ytkjepfofiegcdaa.PB14
theorem w64_n (n : Nat) (h : n ≤ 9223372036854775807) : wrap64 (n : Int) = (n : Int) := by unfold wrap64; omega
variable {P : Program} {ops : Array Oper} {rest : List Oper} {o : Oper} {a : Act} {Q : Exit → Act → World → Prop}
theorem wp_copy7 {w : World} (hgd : o.guard = none) (d s : Operand) (ho : o.op = .call { callee := .builtin .copy, args := #[d, s], argTypes := #[23, 23] }) (v u : Value) (hd : a.eval d = v) (hs : a.eval s = u) {v' : Value} {w' : World}
    (hr : (Builtin.copy_ #[23, 23] o.type #[v, u]).run P w = .ok v' w') (h : wpList P ops Q rest (a.put o.dst v') w') : wpList P ops Q (o :: rest) a w :=
  wpList_plain hgd fun _ hK => by
    unfold Oper.wp execOp
    simp only [ho, resolve, invoke, builtin, Sem.run_bind, Sem.run_pure, Result.andThen_ok, List.map_toArray, List.map_cons, List.map_nil, hd, hs, hr]
    exact hK _ _ h
theorem exec_copy7 {w : World} {ev : Operand → Value} (d s : Operand) (ho : o.op = .call { callee := .builtin .copy, args := #[d, s], argTypes := #[23, 23] }) {v u : Value} (hd : ev d = v) (hs : ev s = u) {v' : Value} {w' : World}
    (hr : (Builtin.copy_ #[23, 23] o.type #[v, u]).run P w = .ok v' w') : (execOp ev o).run P w = .ok (.value v') w' := by
  unfold execOp
  simp only [ho, resolve, invoke, builtin, Sem.run_bind, Sem.run_pure, Result.andThen_ok, List.map_toArray, List.map_cons, List.map_nil, hd, hs, hr]
theorem row58 {w : World} {gv : Nat} {m : S58} (h : w.heap[gv]? = some (.cells (mC m).toArray 58 (0, 0))) : k58.C w (some ⟨gv, 0, none⟩) 1 [m] := by
  refine ⟨rfl, by omega, fun _ => ⟨_, rfl, fun j p hj => ?_⟩⟩
  match j, hj with
  | 0, hj =>
    simp at hj
    subst hj
    refine ⟨mC m, rfl, k58_mk _ m, fun i u hi => ?_⟩
    rw [Addr.add_lit, cell_of_row w gv _ _ 58 (0, 0) h]
    simpa using hi
  | j + 1, hj => simp at hj
theorem overlaps_no (w : World) (gv g o n vc lb cb : Nat) (m : S58) (cur : Array Value) (hne : gv ≠ g) (hgv : w.heap[gv]? = some (.cells (mC m).toArray 58 (0, 0))) (hg : w.heap[g]? = some (.cells cur 58 (0, 0))) (hc : cur.size ≠ 0) :
    (callFunc 139 #[.slice (some ⟨gv, 0, none⟩) 1 vc, .slice (some ⟨g, o, none⟩) lb cb]).run Try.prog w = .ok (.value (.bool false)) w := by
  obtain ⟨i, hi, _, hsz, _⟩ := info_parts info58
  have hz : ∀ w, (Go.sizeOf 58).run Try.prog w = .ok 7 w := fun w => by simp [sizeOf, typeInfo, hi, hsz]
  have hf : ∀ q, w.frozen? ⟨gv, q, none⟩ = false := fun q => blk_frozen hgv q
  rw [run_callFunc_extern Try.func139 (by kernel_rfl) (by kernel_rfl) (by kernel_rfl) (e := Extern.SlicesOverlaps.overlaps #[23, 23] #[4]) (by kernel_rfl),
    Lib.run_overlaps_apart w 23 4 58 Try.underlying23 7 hz ⟨gv, 0, none⟩ ⟨g, o, none⟩ 1 vc lb cb hne 58 58 7 cur.size (by simp [World.shape?, hgv]; rfl) (by simp [World.shape?, hg]) hc (hf 0) (hf 7)]
  rfl
set_option maxHeartbeats 8000000 in
set_option maxRecDepth 100000 in
theorem insert_end (w : World) (base n c gv k : Nat) (A : Option Addr) (xs : List S58) (m : S58) (hR : Kd.R k58 58 w base (fun _ => True) (.slice A n c) xs) (hk : k = n) (hgv : w.heap[gv]? = some (.cells (mC m).toArray 58 (0, 0))) (hne : (Value.slice A n c).ownBlock ≠ some gv) (hsm : n ≤ 1000000000) (hbase : base ≤ w.heap.size) :
    Calls Try.prog 107 #[.slice A n c, .int .i64 (k : Int), .slice (some ⟨gv, 0, none⟩) 1 1] w fun e w' => (∃ (B : Option Addr) (cb : Nat), e = .returned (.slice B (n + 1) cb) ∧ Kd.R k58 58 w' base (fun _ => True) (.slice B (n + 1) cb) (xs.take k ++ m :: xs.drop k) ∧ ((Value.slice B (n + 1) cb).ownBlock = (Value.slice A n c).ownBlock ∨ ∃ b, (Value.slice B (n + 1) cb).ownBlock = some b ∧ w.heap.size ≤ b)) ∧ (∀ b, b < w.heap.size → (Value.slice A n c).ownBlock ≠ some b → w'.heap[b]? = w.heap[b]?) ∧ Below base w w' := by
  have HR := Aside0.mk hR
  have HGV := Aside0.mk hgv
  have HSM := Aside0.mk hsm
  have HBS := Aside0.mk hbase
  have HXL := Aside0.mk (show xs.length = n by rcases R58_open hR with ⟨_, h2, _, h4⟩ | ⟨_, _, _, _, _, _, h, _⟩; (subst h2; subst h4; rfl); exact h)
  obtain ⟨i58, hi58, _, hsz58, _⟩ := info_parts info58
  subst hk
  obtain ⟨A0, hA0⟩ : ∃ a, (if c = k then (A : Option Addr) else (A : Option Addr).map (·.add (k * 7))) = a := ⟨_, rfl⟩
  have hcut0 : ∀ W : World, (Instr.slice 23 (.slice A k c) (some (.int .i64 (k : Int))) none none).run Try.prog W = .ok (.slice A0 (k - k) (c - k)) W := by
    have h := cut_from (P := Try.prog) 23 58 .i64 Try.underlying23 hi58 7 hsz58 A k c (k : Int) (Int.natCast_nonneg _) (by omega)
    rw [Int.toNat_natCast, hA0] at h
    exact h
  have q0 : ((1 : Int) == 0) = false := rfl
  have q1 : ((k : Int) == (k : Int)) = true := beq_self_eq_true _
  have p0 : 0 ≤ (k : Int) := Int.natCast_nonneg _
  clear hR hgv hsm hbase hi58 hsz58 hA0
  go_enter Try.func107, Try.ntmps107
  go_wp2_with (first | ((with_reducible refine gate_builtin (b := .append) (xs := #[.tmp 23, .tmp 24]) rfl ?_); at_builtin; refine Kd.R_append_rows k58 (Rr := k58.K w) (w0 := w) base rfl (.tmp 23) (.tmp 24) 23 58 (.agg #[(.int .u64 0), (.int .i64 0), (.int .i64 0), (.string ⟨#[]⟩), (.string ⟨#[]⟩), (.int .u64 0), (.int .u64 0)]) 72 rfl Try.underlying23 info58 rfl (show 0 < 7 by decide) (show 0 < 72 by decide) (.slice A k c) xs [m] (some ⟨gv, 0, none⟩) 1 1 (fun _ => True) (fun _ => False) rfl rfl HR.out (row58 HGV.out) (by intro x cs hk; obtain rfl := k58_open hk; exact k58_mkM _ _ _ x) (fun _ h => h.elim) (fun _ _ => trivial) (Below.refl base w) HBS.out (by have h1 := HSM.out; have h2 := HXL.out; omega) ?_; intro va wa ho hb hg hat; have HO := Aside0.mk ho; have HB := Aside0.mk hb; have HG := Aside0.mk hg; have HAT := Aside0.mk hat; clear ho hb hg hat) | fail)
  obtain ⟨B, cb, hv⟩ := Kd.R_slice HO.out
  have hln : (xs ++ [m]).length = k + 1 := by rw [List.length_append, HXL.out]; rfl
  rw [hln] at hv
  subst hv
  have HO2 := HO.out
  go_ret
  refine ⟨⟨B, cb, rfl, by rw [List.take_of_length_le (by rw [HXL.out]; exact Nat.le_refl _), List.drop_of_length_le (by rw [HXL.out]; exact Nat.le_refl _)]; exact HO2, HAT.out⟩, fun b hb hn => HG.out.block b hb (fun e => hn e.symm), HB.out⟩
set_option maxHeartbeats 8000000 in
set_option maxRecDepth 100000 in
theorem insert_room (w : World) (base n c gv k : Nat) (A : Option Addr) (xs : List S58) (m : S58) (hR : Kd.R k58 58 w base (fun _ => True) (.slice A n c) xs) (hk : k < n) (hroom : n + 1 ≤ c) (hgv : w.heap[gv]? = some (.cells (mC m).toArray 58 (0, 0))) (hne : (Value.slice A n c).ownBlock ≠ some gv) (hsm : n ≤ 1000000000) (hbase : base ≤ w.heap.size) :
    Calls Try.prog 107 #[.slice A n c, .int .i64 (k : Int), .slice (some ⟨gv, 0, none⟩) 1 1] w fun e w' => (∃ (B : Option Addr) (cb : Nat), e = .returned (.slice B (n + 1) cb) ∧ Kd.R k58 58 w' base (fun _ => True) (.slice B (n + 1) cb) (xs.take k ++ m :: xs.drop k) ∧ ((Value.slice B (n + 1) cb).ownBlock = (Value.slice A n c).ownBlock ∨ ∃ b, (Value.slice B (n + 1) cb).ownBlock = some b ∧ w.heap.size ≤ b)) ∧ (∀ b, b < w.heap.size → (Value.slice A n c).ownBlock ≠ some b → w'.heap[b]? = w.heap[b]?) ∧ Below base w w' := by
  obtain ⟨g, cur, inner, hA, hbg, hh, hxl, hnc, hcm, hcs, ht, hr⟩ : ∃ g cur inner, A = some ⟨g, 0, none⟩ ∧ base ≤ g ∧ w.heap[g]? = some (.cells cur 58 (0, 0)) ∧ xs.length = n ∧ n ≤ c ∧ c ≤ maxLen ∧ cur.size = c * 7 ∧ cur.toList.take (n * 7) = inner ∧ Reps Is7 7 xs inner := by
    rcases R58_open hR with ⟨_, h2, _, _⟩ | h
    · omega
    · exact h
  subst hA
  have hng : gv ≠ g := fun e => hne (by rw [e]; simp [Value.ownBlock])
  obtain ⟨i58, hi58, _, hsz58, _⟩ := info_parts info58
  obtain ⟨k1, hk1⟩ : ∃ k1, k1 = k + 1 := ⟨_, rfl⟩
  obtain ⟨n1, hn1⟩ : ∃ n1, n1 = n + 1 := ⟨_, rfl⟩
  have hcm2 : c ≤ 9223372036854775807 := by simp only [maxLen] at hcm; omega
  have q0 : ((1 : Int) == 0) = false := rfl
  have q1 : ((k : Int) == (n : Int)) = false := beq_eq_false_iff_ne.mpr (by omega)
  have q2 : (k == n) = false := beq_eq_false_iff_ne.mpr (by omega)
  have p0 : 0 ≤ (k : Int) := Int.natCast_nonneg _
  have p1 : 0 ≤ (k1 : Int) := Int.natCast_nonneg _
  have p2 : 0 ≤ (n1 : Int) := Int.natCast_nonneg _
  have d0 : decide ((c : Int) < (n1 : Int)) = false := decide_eq_false (by omega)
  have d1 : decide (c < n1) = false := decide_eq_false (by omega)
  have hgvd : w.drew.heap[gv]? = some (.cells (mC m).toArray 58 (0, 0)) := hgv
  obtain ⟨w1, w2, hr1, hr2, hRf, hGf, _⟩ := ins_room (w := w.drew) m (Kd.R_drew hR) hk hroom hgvd hng
  rw [← hn1, ← hk1] at hr1
  rw [← hn1] at hr2 hRf
  have hov : ∀ o lb cb, (callFunc 139 #[.slice (some ⟨gv, 0, none⟩) 1 1, .slice (some ⟨g, o, none⟩) lb cb]).run Try.prog w = .ok (.value (.bool false)) w := fun o lb cb => overlaps_no w gv g o n 1 lb cb m cur hng hgv hh (by rw [hcs]; omega)
  obtain ⟨A0, hA0⟩ : ∃ a, (if c = k then ((some ⟨g, 0, none⟩) : Option Addr) else ((some ⟨g, 0, none⟩) : Option Addr).map (·.add (k * 7))) = a := ⟨_, rfl⟩
  have hcut0 : ∀ W : World, (Instr.slice 23 (.slice (some ⟨g, 0, none⟩) n c) (some (.int .i64 (k : Int))) none none).run Try.prog W = .ok (.slice A0 (n - k) (c - k)) W := by
    have h := cut_from (P := Try.prog) 23 58 .i64 Try.underlying23 hi58 7 hsz58 (some ⟨g, 0, none⟩) n c (k : Int) (Int.natCast_nonneg _) (by omega)
    rw [Int.toNat_natCast, hA0] at h
    exact h
  have hcut1 : ∀ W : World, (Instr.slice 23 (.slice (some ⟨g, 0, none⟩) n c) none (some (.int .i64 (n1 : Int))) none).run Try.prog W = .ok (.slice (some ⟨g, 0, none⟩) n1 c) W := by
    have h := cut_past (P := Try.prog) 23 58 .i64 Try.underlying23 hi58 (some ⟨g, 0, none⟩) n c (n1 : Int) (Int.natCast_nonneg _) (by omega)
    rw [Int.toNat_natCast] at h
    exact h
  obtain ⟨A2, hA2⟩ : ∃ a, (if c = k1 then ((some ⟨g, 0, none⟩) : Option Addr) else ((some ⟨g, 0, none⟩) : Option Addr).map (·.add (k1 * 7))) = a := ⟨_, rfl⟩
  have hcut2 : ∀ W : World, (Instr.slice 23 (.slice (some ⟨g, 0, none⟩) n1 c) (some (.int .i64 (k1 : Int))) none none).run Try.prog W = .ok (.slice A2 (n1 - k1) (c - k1)) W := by
    have h := cut_from (P := Try.prog) 23 58 .i64 Try.underlying23 hi58 7 hsz58 (some ⟨g, 0, none⟩) n1 c (k1 : Int) (Int.natCast_nonneg _) (by omega)
    rw [Int.toNat_natCast, hA2] at h
    exact h
  obtain ⟨A3, hA3⟩ : ∃ a, (if c = k then ((some ⟨g, 0, none⟩) : Option Addr) else ((some ⟨g, 0, none⟩) : Option Addr).map (·.add (k * 7))) = a := ⟨_, rfl⟩
  have hcut3 : ∀ W : World, (Instr.slice 23 (.slice (some ⟨g, 0, none⟩) n1 c) (some (.int .i64 (k : Int))) none none).run Try.prog W = .ok (.slice A3 (n1 - k) (c - k)) W := by
    have h := cut_from (P := Try.prog) 23 58 .i64 Try.underlying23 hi58 7 hsz58 (some ⟨g, 0, none⟩) n1 c (k : Int) (Int.natCast_nonneg _) (by omega)
    rw [Int.toNat_natCast, hA3] at h
    exact h
  have e2 : A2 = some ⟨g, k1 * 7, none⟩ := by rw [← hA2, if_neg (by omega), Option.map_some, Addr.add_lit, Nat.zero_add]
  have e3 : A3 = some ⟨g, k * 7, none⟩ := by rw [← hA3, if_neg (by omega), Option.map_some, Addr.add_lit, Nat.zero_add]
  subst e2
  subst e3
  have dn : n1 - k1 = n - k := by omega
  rw [dn] at hcut2
  have HR1 := Aside0.mk hr1
  have HR2 := Aside0.mk hr2
  have HRF := Aside0.mk hRf
  have HGF := Aside0.mk hGf
  have HBG := Aside0.mk hbg
  have HBS := Aside0.mk hbase
  have HN1 := Aside0.mk hn1
  have HG0 := Aside0.mk (blk_lt hh)
  have s1 : (n : Int) + 1 = (n1 : Int) := by omega
  have s3 : (k : Int) + 1 = (k1 : Int) := by omega
  have hn2 : n1 ≤ 9223372036854775807 := by omega
  have hk2 : k1 ≤ 9223372036854775807 := by omega
  have s2 : wrap64 (n1 : Int) = (n1 : Int) := w64_n n1 hn2
  have s4 : wrap64 (k1 : Int) = (k1 : Int) := w64_n k1 hk2
  have s5 : wrap64 ((n : Int) + 1) = (n1 : Int) := by rw [s1]; exact s2
  have s6 : wrap64 ((k : Int) + 1) = (k1 : Int) := by rw [s3]; exact s4
  clear hR hgv hne hsm hbase hi58 hsz58 hA0 hA2 hA3 hr1 hr2 hRf hGf hbg hh hxl hnc hcm hcs ht hr hng hk1 hn1 hcm2 dn hgvd hk hroom
  go_enter Try.func107, Try.ntmps107
  go_upto_region 15 with (first | (simp only [hov]) | fail)
  refine start_ (n := 9) (S := (fun w' => w' = w.drew)) (ds := [8]) #[false, false, false, false, false, false, false, false, false] (by kernel_rfl) rfl rfl rfl (fun hHeld => ?_)
  refine pure_ (i := 0) (N := (some 69)) (v := ?_) (a' := ?_) #[true, false, false, false, false, false, false, false, false] rfl rfl (by kernel_rfl) (fun _ _ _ h => h) (Or.inl ⟨by rfl, ?_⟩) ?_ ?_
  rotate_left
  · intro w'
    go_simp
    with_reducible rfl
  rotate_left
  · simp only [Act.put, List.setIfInBounds_toArray, List.set_cons_zero, List.set_cons_succ, i64_w, i32_w]
    rfl
  refine pure_ (i := 1) (N := (some 70)) (v := ?_) (a' := ?_) #[true, true, false, false, false, false, false, false, false] rfl rfl (by kernel_rfl) (fun _ _ _ h => h) (Or.inl ⟨by rfl, ?_⟩) ?_ ?_
  rotate_left
  · intro w'
    go_simp
    with_reducible rfl
  rotate_left
  · simp only [Act.put, List.setIfInBounds_toArray, List.set_cons_zero, List.set_cons_succ, i64_w, i32_w]
    rfl
  refine pure_ (i := 2) (N := (some 71)) (v := ?_) (a' := ?_) #[true, true, true, false, false, false, false, false, false] rfl rfl (by kernel_rfl) (fun _ _ _ h => h) (Or.inl ⟨by rfl, ?_⟩) ?_ ?_
  rotate_left
  · intro w'
    go_simp
    with_reducible rfl
  rotate_left
  · simp only [Act.put, List.setIfInBounds_toArray, List.set_cons_zero, List.set_cons_succ, i64_w, i32_w]
    rfl
  refine pure_ (i := 3) (N := (some 72)) (v := ?_) (a' := ?_) #[true, true, true, true, false, false, false, false, false] rfl rfl (by kernel_rfl) (fun _ _ _ h => h) (Or.inl ⟨by rfl, ?_⟩) ?_ ?_
  rotate_left
  · intro w'
    go_simp
    with_reducible rfl
  rotate_left
  · simp only [Act.put, List.setIfInBounds_toArray, List.set_cons_zero, List.set_cons_succ, i64_w, i32_w]
    rfl
  refine pure_ (i := 4) (N := (some 73)) (v := ?_) (a' := ?_) #[true, true, true, true, true, false, false, false, false] rfl rfl (by kernel_rfl) (fun _ _ _ h => h) (Or.inl ⟨by rfl, ?_⟩) ?_ ?_
  rotate_left
  · intro w'
    go_simp
    first | with_reducible rfl | rfl
  rotate_left
  · simp only [Act.put, List.setIfInBounds_toArray, List.set_cons_zero, List.set_cons_succ, i64_w, i32_w]
    rfl
  refine pure_ (i := 5) (N := (some 74)) (v := ?_) (a' := ?_) #[true, true, true, true, true, true, false, false, false] rfl rfl (by kernel_rfl) (fun _ _ _ h => h) (Or.inl ⟨by rfl, ?_⟩) ?_ ?_
  rotate_left
  · intro w'
    go_simp
    with_reducible rfl
  rotate_left
  · simp only [Act.put, List.setIfInBounds_toArray, List.set_cons_zero, List.set_cons_succ, i64_w, i32_w]
    rfl
  refine pure_ (i := 6) (N := (some 75)) (v := ?_) (a' := ?_) #[true, true, true, true, true, true, true, false, false] rfl rfl (by kernel_rfl) (fun _ _ _ h => h) (Or.inl ⟨by rfl, ?_⟩) ?_ ?_
  rotate_left
  · intro w'
    go_simp
    with_reducible rfl
  rotate_left
  · simp only [Act.put, List.setIfInBounds_toArray, List.set_cons_zero, List.set_cons_succ, i64_w, i32_w]
    rfl
  refine pure_ (i := 7) (N := (some 76)) (v := ?_) (a' := ?_) #[true, true, true, true, true, true, true, true, false] rfl rfl (by kernel_rfl) (fun _ _ _ h => h) (Or.inl ⟨by rfl, ?_⟩) ?_ ?_
  rotate_left
  · intro w'
    go_simp
    first | with_reducible rfl | rfl
  rotate_left
  · simp only [Act.put, List.setIfInBounds_toArray, List.set_cons_zero, List.set_cons_succ, i64_w, i32_w]
    rfl
  refine last_ (i := 8) (N := (some 77)) #[true, true, true, true, true, true, true, true, true] rfl rfl (by kernel_rfl) (by decide) (fun K hK => ?_)
  refine value_ (w1 := w1) (v := goInt ((n - k : Nat) : Int)) (by rfl) rfl (exec_copy7 (.tmp 73) (.tmp 76) (by rfl) (by rfl) (by rfl) (HR1.out _ _ _)) ?_
  try clear hHeld
  refine hK.out _ _ ?_
  clear hK K
  refine norm_ (a' := ?_) ?_ ?_
  rotate_left
  · show Act.put _ (some 77) _ = _
    simp only [Act.put, List.setIfInBounds_toArray, List.set_cons_zero, List.set_cons_succ, i64_w, i32_w]
    rfl
  refine done_ (by kernel_rfl) ?_
  go_wp2_with (first | (refine wp_copy7 rfl (.tmp 80) (.tmp 81) rfl _ _ rfl rfl (HR2.out _ _ _) ?_) | fail)
  rw [← HN1.out]
  go_ret
  refine ⟨⟨some ⟨g, 0, none⟩, c, rfl, HRF.out, .inl (by simp [Value.ownBlock])⟩, fun b hb hn => HGF.out.block b hb (fun e => hn ((show (Value.slice (some ⟨g, 0, none⟩) n c).ownBlock = some g by simp [Value.ownBlock]).trans e.symm)), pw_below_grown (below_drew (Below.refl base w)) (some g) HBS.out HGF.out (fun b hb => by injection hb with hb; subst hb; exact HBG.out)⟩
set_option maxHeartbeats 8000000 in
set_option maxRecDepth 100000 in
theorem insert_grow (w : World) (base n c gv k : Nat) (A : Option Addr) (xs : List S58) (m : S58) (hR : Kd.R k58 58 w base (fun _ => True) (.slice A n c) xs) (hk : k < n) (hroom : c < n + 1) (hgv : w.heap[gv]? = some (.cells (mC m).toArray 58 (0, 0))) (hne : (Value.slice A n c).ownBlock ≠ some gv) (hsm : n ≤ 1000000000) (hbase : base ≤ w.heap.size) :
    Calls Try.prog 107 #[.slice A n c, .int .i64 (k : Int), .slice (some ⟨gv, 0, none⟩) 1 1] w fun e w' => (∃ (B : Option Addr) (cb : Nat), e = .returned (.slice B (n + 1) cb) ∧ Kd.R k58 58 w' base (fun _ => True) (.slice B (n + 1) cb) (xs.take k ++ m :: xs.drop k) ∧ ((Value.slice B (n + 1) cb).ownBlock = (Value.slice A n c).ownBlock ∨ ∃ b, (Value.slice B (n + 1) cb).ownBlock = some b ∧ w.heap.size ≤ b)) ∧ (∀ b, b < w.heap.size → (Value.slice A n c).ownBlock ≠ some b → w'.heap[b]? = w.heap[b]?) ∧ Below base w w' := by
  obtain ⟨g, cur, inner, hA, hbg, hh, hxl, hnc, hcm, hcs, ht, hr⟩ : ∃ g cur inner, A = some ⟨g, 0, none⟩ ∧ base ≤ g ∧ w.heap[g]? = some (.cells cur 58 (0, 0)) ∧ xs.length = n ∧ n ≤ c ∧ c ≤ maxLen ∧ cur.size = c * 7 ∧ cur.toList.take (n * 7) = inner ∧ Reps Is7 7 xs inner := by
    rcases R58_open hR with ⟨_, h2, _, _⟩ | h
    · omega
    · exact h
  subst hA
  have hng : gv ≠ g := fun e => hne (by rw [e]; simp [Value.ownBlock])
  obtain ⟨i58, hi58, _, hsz58, _⟩ := info_parts info58
  obtain ⟨k1, hk1⟩ : ∃ k1, k1 = k + 1 := ⟨_, rfl⟩
  obtain ⟨n1, hn1⟩ : ∃ n1, n1 = n + 1 := ⟨_, rfl⟩
  have hcm2 : c ≤ 9223372036854775807 := by simp only [maxLen] at hcm; omega
  have q0 : ((1 : Int) == 0) = false := rfl
  have q1 : ((k : Int) == (n : Int)) = false := beq_eq_false_iff_ne.mpr (by omega)
  have q2 : (k == n) = false := beq_eq_false_iff_ne.mpr (by omega)
  have p0 : 0 ≤ (k : Int) := Int.natCast_nonneg _
  have p1 : 0 ≤ (k1 : Int) := Int.natCast_nonneg _
  have p2 : 0 ≤ (n1 : Int) := Int.natCast_nonneg _
  have d0 : decide ((c : Int) < (n1 : Int)) = true := decide_eq_true (by omega)
  have d1 : decide (c < n1) = true := decide_eq_true (by omega)
  obtain ⟨G, w1, w2, w3, hrA, hGe, hGm, hr1, hr2, hRf, hBf⟩ := ins_grow m hR hk hroom hgv hsm hbase
  rw [← hn1] at hrA hr1 hRf hGe
  rw [← hk1] at hr2
  have hGm2 : G ≤ 9223372036854775807 := by simp only [maxLen] at hGm; omega
  obtain ⟨g2, hg2⟩ : ∃ g2, g2 = w.heap.size := ⟨_, rfl⟩
  rw [← hg2] at hrA hr1 hr2 hRf
  obtain ⟨A0, hA0⟩ : ∃ a, (if c = k then ((some ⟨g, 0, none⟩) : Option Addr) else ((some ⟨g, 0, none⟩) : Option Addr).map (·.add (k * 7))) = a := ⟨_, rfl⟩
  have hcut0 : ∀ W : World, (Instr.slice 23 (.slice (some ⟨g, 0, none⟩) n c) (some (.int .i64 (k : Int))) none none).run Try.prog W = .ok (.slice A0 (n - k) (c - k)) W := by
    have h := cut_from (P := Try.prog) 23 58 .i64 Try.underlying23 hi58 7 hsz58 (some ⟨g, 0, none⟩) n c (k : Int) (Int.natCast_nonneg _) (by omega)
    rw [Int.toNat_natCast, hA0] at h
    exact h
  have hcut1 : ∀ W : World, (Instr.slice 23 (.slice (some ⟨g, 0, none⟩) n c) none (some (.int .i64 (k : Int))) none).run Try.prog W = .ok (.slice (some ⟨g, 0, none⟩) k c) W := by
    have h := cut_past (P := Try.prog) 23 58 .i64 Try.underlying23 hi58 (some ⟨g, 0, none⟩) n c (k : Int) (Int.natCast_nonneg _) (by omega)
    rw [Int.toNat_natCast] at h
    exact h
  obtain ⟨A2, hA2⟩ : ∃ a, (if G = k then ((some ⟨g2, 0, none⟩) : Option Addr) else ((some ⟨g2, 0, none⟩) : Option Addr).map (·.add (k * 7))) = a := ⟨_, rfl⟩
  have hcut2 : ∀ W : World, (Instr.slice 23 (.slice (some ⟨g2, 0, none⟩) n1 G) (some (.int .i64 (k : Int))) none none).run Try.prog W = .ok (.slice A2 (n1 - k) (G - k)) W := by
    have h := cut_from (P := Try.prog) 23 58 .i64 Try.underlying23 hi58 7 hsz58 (some ⟨g2, 0, none⟩) n1 G (k : Int) (Int.natCast_nonneg _) (by omega)
    rw [Int.toNat_natCast, hA2] at h
    exact h
  obtain ⟨A3, hA3⟩ : ∃ a, (if G = k1 then ((some ⟨g2, 0, none⟩) : Option Addr) else ((some ⟨g2, 0, none⟩) : Option Addr).map (·.add (k1 * 7))) = a := ⟨_, rfl⟩
  have hcut3 : ∀ W : World, (Instr.slice 23 (.slice (some ⟨g2, 0, none⟩) n1 G) (some (.int .i64 (k1 : Int))) none none).run Try.prog W = .ok (.slice A3 (n1 - k1) (G - k1)) W := by
    have h := cut_from (P := Try.prog) 23 58 .i64 Try.underlying23 hi58 7 hsz58 (some ⟨g2, 0, none⟩) n1 G (k1 : Int) (Int.natCast_nonneg _) (by omega)
    rw [Int.toNat_natCast, hA3] at h
    exact h
  have e2 : A2 = some ⟨g2, k * 7, none⟩ := by rw [← hA2, if_neg (by omega), Option.map_some, Addr.add_lit, Nat.zero_add]
  have e3 : A3 = some ⟨g2, k1 * 7, none⟩ := by rw [← hA3, if_neg (by omega), Option.map_some, Addr.add_lit, Nat.zero_add]
  have e0 : A0 = some ⟨g, k * 7, none⟩ := by rw [← hA0, if_neg (by omega), Option.map_some, Addr.add_lit, Nat.zero_add]
  subst e2
  subst e3
  subst e0
  have dn : n1 - k1 = n - k := by omega
  rw [dn] at hcut3
  have hnk : ((n1 - k : Nat) : Int) = (n1 : Int) - (k : Int) := by omega
  simp only [hnk] at hrA
  have HRA := Aside0.mk hrA
  have HR1 := Aside0.mk hr1
  have HR2 := Aside0.mk hr2
  have HRF := Aside0.mk hRf
  have HBF := Aside0.mk hBf
  have HBS := Aside0.mk hbase
  have HN1 := Aside0.mk hn1
  have HG2 := Aside0.mk hg2
  have s1 : (n : Int) + 1 = (n1 : Int) := by omega
  have s3 : (k : Int) + 1 = (k1 : Int) := by omega
  have hn2 : n1 ≤ 9223372036854775807 := by omega
  have hk2 : k1 ≤ 9223372036854775807 := by omega
  have s2 : wrap64 (n1 : Int) = (n1 : Int) := w64_n n1 hn2
  have s4 : wrap64 (k1 : Int) = (k1 : Int) := w64_n k1 hk2
  have s5 : wrap64 ((n : Int) + 1) = (n1 : Int) := by rw [s1]; exact s2
  have s6 : wrap64 ((k : Int) + 1) = (k1 : Int) := by rw [s3]; exact s4
  clear hR hgv hne hsm hbase hi58 hsz58 hA0 hA2 hA3 hrA hr1 hr2 hRf hBf hbg hh hxl hnc hcm hcs ht hr hng hk1 hn1 hcm2 dn hk hroom hg2 hGe hGm hGm2 hnk
  go_enter Try.func107, Try.ntmps107
  go_upto_region 10 with (first | ((with_reducible refine gate_builtin (b := .append) (xs := #[.tmp 34, .tmp 39]) rfl ?_); at_builtin; refine Lib.wpList_append_run _ rfl (.tmp 34) (.tmp 39) 23 3 rfl _ _ rfl rfl _ _ (HRA.out _) ?_) | fail)
  go_upto_region 11 with (first | (refine wp_copy7 rfl (.tmp 43) (.tmp 44) rfl _ _ rfl rfl (HR1.out _ _ _) ?_) | fail)
  refine start_ (n := 9) (S := (fun w' => w' = w2.drew)) (ds := [8]) #[false, false, false, false, false, false, false, false, false] (by kernel_rfl) rfl rfl rfl (fun hHeld => ?_)
  refine pure_ (i := 0) (N := (some 46)) (v := ?_) (a' := ?_) #[true, false, false, false, false, false, false, false, false] rfl rfl (by kernel_rfl) (fun _ _ _ h => h) (Or.inl ⟨by rfl, ?_⟩) ?_ ?_
  rotate_left
  · intro w'
    go_simp
    with_reducible rfl
  rotate_left
  · simp only [Act.put, List.setIfInBounds_toArray, List.set_cons_zero, List.set_cons_succ, i64_w, i32_w]
    rfl
  refine pure_ (i := 1) (N := (some 47)) (v := ?_) (a' := ?_) #[true, true, false, false, false, false, false, false, false] rfl rfl (by kernel_rfl) (fun _ _ _ h => h) (Or.inl ⟨by rfl, ?_⟩) ?_ ?_
  rotate_left
  · intro w'
    go_simp
    with_reducible rfl
  rotate_left
  · simp only [Act.put, List.setIfInBounds_toArray, List.set_cons_zero, List.set_cons_succ, i64_w, i32_w]
    rfl
  refine pure_ (i := 2) (N := (some 48)) (v := ?_) (a' := ?_) #[true, true, true, false, false, false, false, false, false] rfl rfl (by kernel_rfl) (fun _ _ _ h => h) (Or.inl ⟨by rfl, ?_⟩) ?_ ?_
  rotate_left
  · intro w'
    go_simp
    with_reducible rfl
  rotate_left
  · simp only [Act.put, List.setIfInBounds_toArray, List.set_cons_zero, List.set_cons_succ, i64_w, i32_w]
    rfl
  refine pure_ (i := 3) (N := (some 49)) (v := ?_) (a' := ?_) #[true, true, true, true, false, false, false, false, false] rfl rfl (by kernel_rfl) (fun _ _ _ h => h) (Or.inl ⟨by rfl, ?_⟩) ?_ ?_
  rotate_left
  · intro w'
    go_simp
    with_reducible rfl
  rotate_left
  · simp only [Act.put, List.setIfInBounds_toArray, List.set_cons_zero, List.set_cons_succ, i64_w, i32_w]
    rfl
  refine pure_ (i := 4) (N := (some 50)) (v := ?_) (a' := ?_) #[true, true, true, true, true, false, false, false, false] rfl rfl (by kernel_rfl) (fun _ _ _ h => h) (Or.inl ⟨by rfl, ?_⟩) ?_ ?_
  rotate_left
  · intro w'
    go_simp
    first | with_reducible rfl | rfl
  rotate_left
  · simp only [Act.put, List.setIfInBounds_toArray, List.set_cons_zero, List.set_cons_succ, i64_w, i32_w]
    rfl
  refine pure_ (i := 5) (N := (some 51)) (v := ?_) (a' := ?_) #[true, true, true, true, true, true, false, false, false] rfl rfl (by kernel_rfl) (fun _ _ _ h => h) (Or.inl ⟨by rfl, ?_⟩) ?_ ?_
  rotate_left
  · intro w'
    go_simp
    with_reducible rfl
  rotate_left
  · simp only [Act.put, List.setIfInBounds_toArray, List.set_cons_zero, List.set_cons_succ, i64_w, i32_w]
    rfl
  refine pure_ (i := 6) (N := (some 52)) (v := ?_) (a' := ?_) #[true, true, true, true, true, true, true, false, false] rfl rfl (by kernel_rfl) (fun _ _ _ h => h) (Or.inl ⟨by rfl, ?_⟩) ?_ ?_
  rotate_left
  · intro w'
    go_simp
    with_reducible rfl
  rotate_left
  · simp only [Act.put, List.setIfInBounds_toArray, List.set_cons_zero, List.set_cons_succ, i64_w, i32_w]
    rfl
  refine pure_ (i := 7) (N := (some 53)) (v := ?_) (a' := ?_) #[true, true, true, true, true, true, true, true, false] rfl rfl (by kernel_rfl) (fun _ _ _ h => h) (Or.inl ⟨by rfl, ?_⟩) ?_ ?_
  rotate_left
  · intro w'
    go_simp
    first | with_reducible rfl | rfl
  rotate_left
  · simp only [Act.put, List.setIfInBounds_toArray, List.set_cons_zero, List.set_cons_succ, i64_w, i32_w]
    rfl
  refine last_ (i := 8) (N := (some 54)) #[true, true, true, true, true, true, true, true, true] rfl rfl (by kernel_rfl) (by decide) (fun K hK => ?_)
  refine value_ (w1 := w3) (v := goInt ((n - k : Nat) : Int)) (by rfl) rfl (exec_copy7 (.tmp 50) (.tmp 53) (by rfl) (by rfl) (by rfl) (HR2.out _ _ _)) ?_
  try clear hHeld
  refine hK.out _ _ ?_
  clear hK K
  refine norm_ (a' := ?_) ?_ ?_
  rotate_left
  · show Act.put _ (some 54) _ = _
    simp only [Act.put, List.setIfInBounds_toArray, List.set_cons_zero, List.set_cons_succ, i64_w, i32_w]
    rfl
  refine done_ (by kernel_rfl) ?_
  go_wp2_with fail
  rw [← HN1.out]
  go_ret
  refine ⟨⟨some ⟨g2, 0, none⟩, G, rfl, HRF.out, .inr ⟨g2, by simp [Value.ownBlock], by rw [HG2.out]; exact Nat.le_refl _⟩⟩, fun b hb _ => HBF.out.block b hb, HBF.out.mono HBS.out⟩
theorem insert_calls (w : World) (base n c gv k : Nat) (A : Option Addr) (xs : List S58) (m : S58) (hR : Kd.R k58 58 w base (fun _ => True) (.slice A n c) xs) (hk : k ≤ n) (hgv : w.heap[gv]? = some (.cells (mC m).toArray 58 (0, 0))) (hne : (Value.slice A n c).ownBlock ≠ some gv) (hsm : n ≤ 1000000000) (hbase : base ≤ w.heap.size) :
    Calls Try.prog 107 #[.slice A n c, .int .i64 (k : Int), .slice (some ⟨gv, 0, none⟩) 1 1] w fun e w' => (∃ (B : Option Addr) (cb : Nat), e = .returned (.slice B (n + 1) cb) ∧ Kd.R k58 58 w' base (fun _ => True) (.slice B (n + 1) cb) (xs.take k ++ m :: xs.drop k) ∧ ((Value.slice B (n + 1) cb).ownBlock = (Value.slice A n c).ownBlock ∨ ∃ b, (Value.slice B (n + 1) cb).ownBlock = some b ∧ w.heap.size ≤ b)) ∧ (∀ b, b < w.heap.size → (Value.slice A n c).ownBlock ≠ some b → w'.heap[b]? = w.heap[b]?) ∧ Below base w w' := by
  rcases Nat.lt_or_ge k n with h | h
  · rcases Nat.lt_or_ge c (n + 1) with h2 | h2
    · exact insert_grow w base n c gv k A xs m hR h h2 hgv hne hsm hbase
    · exact insert_room w base n c gv k A xs m hR h h2 hgv hne hsm hbase
  · exact insert_end w base n c gv k A xs m hR (by omega) hgv hne hsm hbase
end Go.Proofs.Ytkjepfofiegcdaa.V
namespace Go.Proofs.Ytkjepfofiegcdaa.V
set_option linter.unusedVariables false
set_option linter.unusedSimpArgs false
open Go.RowKit Go.Proofs.YtkjepfofiegcdaaW.PrintWords Go.Proofs.YtkjepfofiegcdaaW.PrintLast Go.Proofs.YtkjepfofiegcdaaW.PrintMore Go.Proofs.Ytkjepfofiegcdaa.PB14
def slV (u : Ver) (p : Pl) (i : Nat) : Value := .slice (p.a i) (u.lv i).length (p.c i)
def Rows4 (w : World) (base : Nat) (u : Ver) (p : Pl) : Prop := (∀ i, i < 4 → Kd.R k58 58 w base (fun _ => True) (slV u p i) (u.lv i)) ∧ ∀ i j, i < 4 → j < 4 → i ≠ j → ∀ b, (slV u p i).ownBlock = some b → (slV u p j).ownBlock ≠ some b
theorem Rows4.vc {w : World} {base : Nat} {u : Ver} {p : Pl} (h : Rows4 w base u p) : VC w u p := fun i hi => by
  have h1 := Kd.R_reads' (h.1 i hi)
  exact ⟨h1.2.2, h1.2.1⟩
theorem Rows4.below {w w' : World} {base : Nat} {u : Ver} {p : Pl} (h : Rows4 w base u p) (hb : Below w.heap.size w w') : Rows4 w' base u p := ⟨fun i hi => Kd.R_below (h.1 i hi) hb, h.2⟩
theorem slV_set (u : Ver) (p : Pl) (i j : Nat) (hi : i < 4) (hj : j < 4) (l : List S58) (B : Option Addr) (cb : Nat) : slV (u.set i l) (p.set i B cb) j = if j = i then .slice B l.length cb else slV u p j := by
  unfold slV
  rw [Pl.set_a p i j hi hj, Pl.set_c p i j hi hj, Ver.set_lv u i j hi hj]
  by_cases e : j = i
  · simp [e]
  · simp [e]
theorem own_lt {w : World} {base : Nat} {v : Value} {xs : List S58} {A : Option Addr} {n c : Nat} (h : Kd.R k58 58 w base (fun _ => True) (.slice A n c) xs) (b : Nat) (hb : (Value.slice A n c).ownBlock = some b) : b < w.heap.size := by
  rcases R58_open h with ⟨h1, _⟩ | ⟨g, cur, inner, ha, _, hh, _⟩
  · subst h1; simp [Value.ownBlock] at hb
  · subst ha
    simp [Value.ownBlock] at hb
    subst hb
    exact blk_lt hh
theorem Rows4.step {w w' : World} {base : Nat} {u : Ver} {p : Pl} (h : Rows4 w base u p) {i : Nat} (hi : i < 4) {l : List S58} {B : Option Addr} {cb : Nat} (hR : Kd.R k58 58 w' base (fun _ => True) (.slice B l.length cb) l)
    (hf : ∀ b, b < w.heap.size → (slV u p i).ownBlock ≠ some b → w'.heap[b]? = w.heap[b]?) (ho : (Value.slice B l.length cb).ownBlock = (slV u p i).ownBlock ∨ ∃ b, (Value.slice B l.length cb).ownBlock = some b ∧ w.heap.size ≤ b) : Rows4 w' base (u.set i l) (p.set i B cb) := by
  have hlt : ∀ j, j < 4 → ∀ b, (slV u p j).ownBlock = some b → b < w.heap.size := fun j hj b hb => own_lt (v := .slice none 0 0) (h.1 j hj) b hb
  have hap : ∀ j, j < 4 → j ≠ i → ∀ b, (Value.slice B l.length cb).ownBlock = some b → (slV u p j).ownBlock ≠ some b := fun j hj hne b hb hb2 => by
    rcases ho with ho | ⟨b2, h1, h2⟩
    · exact h.2 i j hi hj (fun e => hne e.symm) b (ho ▸ hb) hb2
    · rw [hb] at h1
      injection h1 with h1
      subst h1
      exact absurd (hlt j hj b hb2) (by omega)
  refine ⟨fun j hj => ?_, fun j k hj hk hjk b hb hb2 => ?_⟩
  · rw [slV_set u p i j hi hj, Ver.set_lv u i j hi hj]
    by_cases e : j = i
    · rw [if_pos e, if_pos e]; exact hR
    · rw [if_neg e, if_neg e]
      have hown : (fun q => True ∧ some q ≠ (slV u p i).ownBlock) = fun q => True ∧ some q ≠ (slV u p i).ownBlock := rfl
      rcases R58_open (h.1 j hj) with ⟨h1, h2, h3, h4⟩ | ⟨g, cur, inner, ha, hb, hh, hl, hnc, hcm, hcs, ht, hr⟩
      · show Kd.R k58 58 w' base (fun _ => True) (.slice (p.a j) (u.lv j).length (p.c j)) (u.lv j)
        rw [h1, h2, h3, h4]
        exact Kd.R_nil _ _ _ _ _
      · show Kd.R k58 58 w' base (fun _ => True) (.slice (p.a j) (u.lv j).length (p.c j)) (u.lv j)
        have hg : (slV u p j).ownBlock = some g := by unfold slV; rw [ha]; simp [Value.ownBlock]
        rw [ha]
        exact R58_mk hb ((hf g (blk_lt hh) (fun e2 => h.2 i j hi hj (fun e3 => e e3.symm) g e2 hg)).trans hh) hl hnc hcm hcs ht hr
  · rw [slV_set u p i j hi hj] at hb
    rw [slV_set u p i k hi hk] at hb2
    by_cases e : j = i
    · rw [if_pos e] at hb
      rw [if_neg (fun e2 => hjk (e.trans e2.symm))] at hb2
      exact hap k hk (fun e2 => hjk (e.trans e2.symm)) b hb hb2
    · rw [if_neg e] at hb
      by_cases e2 : k = i
      · rw [if_pos e2] at hb2
        exact hap j hj e b hb2 hb
      · rw [if_neg e2] at hb2
        exact h.2 j k hj hk hjk b hb hb2
end Go.Proofs.Ytkjepfofiegcdaa.V
namespace Go.Proofs.Ytkjepfofiegcdaa.V
set_option linter.unusedVariables false
set_option linter.unusedSimpArgs false
open Go.RowKit Go.Proofs.YtkjepfofiegcdaaW.PrintWords Go.Proofs.YtkjepfofiegcdaaW.PrintLast Go.Proofs.YtkjepfofiegcdaaW.PrintMore Go.Proofs.Ytkjepfofiegcdaa.PB14
def RowsK (n : Nat) (w : World) (base : Nat) (u : Ver) (p : Pl) : Prop := (∀ i, i < n → Kd.R k58 58 w base (fun _ => True) (slV u p i) (u.lv i)) ∧ ∀ i j, i < n → j < n → i ≠ j → ∀ b, (slV u p i).ownBlock = some b → (slV u p j).ownBlock ≠ some b
theorem RowsK.zero (w : World) (base : Nat) (u : Ver) (p : Pl) : RowsK 0 w base u p := ⟨fun i hi => absurd hi (Nat.not_lt_zero i), fun i j hi => absurd hi (Nat.not_lt_zero i)⟩
theorem RowsK.all {w : World} {base : Nat} {u : Ver} {p : Pl} (h : RowsK 4 w base u p) : Rows4 w base u p := h
theorem RowsK.below {n : Nat} {w w' : World} {base : Nat} {u : Ver} {p : Pl} (h : RowsK n w base u p) (hb : Below w.heap.size w w') : RowsK n w' base u p := ⟨fun i hi => Kd.R_below (h.1 i hi) hb, h.2⟩
theorem own_ge {w : World} {base : Nat} {xs : List S58} {A : Option Addr} {n c : Nat} (h : Kd.R k58 58 w base (fun _ => True) (.slice A n c) xs) (b : Nat) (hb : (Value.slice A n c).ownBlock = some b) : base ≤ b := by
  rcases R58_open h with ⟨h1, _⟩ | ⟨g, cur, inner, ha, hg, _⟩
  · subst h1; simp [Value.ownBlock] at hb
  · subst ha
    simp [Value.ownBlock] at hb
    subst hb
    exact hg
theorem slV_same (u : Ver) (p : Pl) (k j : Nat) (hk : k < 4) (hj : j < 4) (B : Option Addr) (cb : Nat) : slV u (p.set k B cb) j = if j = k then .slice B (u.lv k).length cb else slV u p j := by
  have h := slV_set u p k j hk hj (u.lv k) B cb
  rwa [Ver.set_self u k hk] at h
theorem RowsK.snoc {k : Nat} {w w' : World} {base : Nat} {u : Ver} {p : Pl} (hk : k < 4) (h : RowsK k w base u p) (hb : Below w.heap.size w w') {B : Option Addr} {cb : Nat} (hR : Kd.R k58 58 w' w.heap.size (fun _ => True) (.slice B (u.lv k).length cb) (u.lv k)) (hbase : base ≤ w.heap.size) : RowsK (k + 1) w' base u (p.set k B cb) := by
  have hlt : ∀ j, j < k → ∀ b, (slV u p j).ownBlock = some b → b < w.heap.size := fun j hj b hb => own_lt (v := .slice none 0 0) (h.1 j hj) b hb
  have hge := own_ge hR
  refine ⟨fun j hj => ?_, fun i j hi hj hij b h1 h2 => ?_⟩
  · rw [slV_same u p k j hk (by omega)]
    by_cases e : j = k
    · subst e
      rw [if_pos rfl]
      exact Kd.R_lower hR hbase
    · rw [if_neg e]
      exact Kd.R_below (h.1 j (by omega)) hb
  · rw [slV_same u p k i hk (by omega)] at h1
    rw [slV_same u p k j hk (by omega)] at h2
    by_cases e : i = k
    · rw [if_pos e] at h1
      rw [if_neg (fun e2 => hij (e.trans e2.symm))] at h2
      have a1 := hge b h1
      have a2 := hlt j (by omega) b h2
      omega
    · rw [if_neg e] at h1
      by_cases e2 : j = k
      · rw [if_pos e2] at h2
        have a1 := hge b h2
        have a2 := hlt i (by omega) b h1
        omega
      · rw [if_neg e2] at h2
        exact h.2 i j (by omega) (by omega) hij b h1 h2
theorem RowsK.set {n : Nat} {w : World} {base : Nat} {u : Ver} {p : Pl} (h : RowsK n w base u p) {g t : Nat} {cs : Array Value} (hx : w.heap[g]? = some (.cells cs t (0, 0))) (ht : t ≠ 58) (j : Nat) (v : Value) : RowsK n (w.setCell ⟨g, j, none⟩ v) base u p :=
  ⟨fun i hi => Kd.R_mono (Kd.R_set (h.1 i hi) hx (by intro x hq; simp [show k58.E = [] from rfl] at hq; omega) j v) (fun _ _ => trivial), h.2⟩
end Go.Proofs.Ytkjepfofiegcdaa.V
