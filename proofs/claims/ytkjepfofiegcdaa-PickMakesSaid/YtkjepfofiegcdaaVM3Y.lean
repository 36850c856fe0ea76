import Derived.Test.YtkjepfofiegcdaaVP0
import Derived.Test.YtkjepfofiegcdaaVX1Y
import Derived.Test.YtkjepfofiegcdaaHBytes
import Derived.Test.YtkjepfofiegcdaaVM1Y
import Derived.Test.YtkjepfofiegcdaaVJ1Y
/- A variable that holds a row of bytes which is appended to, and the closure of edit.Encode that appends numbers to it (111), walked. -/
namespace Go.Proofs.Ytkjepfofiegcdaa.V
set_option linter.unusedVariables false
set_option linter.unusedSimpArgs false
open Go.RowKit Go.Proofs.YtkjepfofiegcdaaW.PrintWords Go.Proofs.YtkjepfofiegcdaaW.PrintLast Go.Proofs.YtkjepfofiegcdaaW.PrintMore Go.Proofs.Ytkjepfofiegcdaa.PB14
open H (putL)
def bts (l : List UInt8) : List Int := bytesOf (bA l)
def BN (w : World) (base : Nat) (v : Value) (xs : List Int) : Prop := (v = .slice none 0 0 ∧ xs = []) ∨ H.BRow w base 5 v xs
theorem BN.kept {w w1 : World} {base : Nat} {v : Value} {xs : List Int} (h : BN w base v xs) (hk : ∀ g, v.ownBlock = some g → w1.heap[g]? = w.heap[g]?) : BN w1 base v xs := h.imp_right fun h => h.kept hk
theorem BN.lt {w : World} {base : Nat} {v : Value} {xs : List Int} (h : BN w base v xs) (g : Nat) (hv : v.ownBlock = some g) : g < w.heap.size := by
  rcases h with ⟨rfl, _⟩ | h
  · simp [Value.ownBlock] at hv
  · exact h.lt g hv
theorem BN.below {w w1 : World} {base : Nat} {v : Value} {xs : List Int} (h : BN w base v xs) (hb : Below w.heap.size w w1) : BN w1 base v xs := h.kept fun g hg => hb.block g (h.lt g hg)
theorem BN.own_ge {w : World} {base : Nat} {v : Value} {xs : List Int} (h : BN w base v xs) (g : Nat) (hv : v.ownBlock = some g) : base ≤ g := by
  rcases h with ⟨rfl, _⟩ | h
  · simp [Value.ownBlock] at hv
  · exact h.own_ge g hv
def OutK (go : Nat) (w w' : World) : Prop := Below go w w' ∧ ∀ g cs t, t ≠ 5 → g ≠ go → w.heap[g]? = some (.cells cs t (0, 0)) → w'.heap[g]? = some (.cells cs t (0, 0))
theorem OutK.refl (go : Nat) (w : World) : OutK go w w := ⟨Below.refl _ _, fun _ _ _ _ _ h => h⟩
theorem OutK.trans {go : Nat} {w w1 w2 : World} (h : OutK go w w1) (h2 : OutK go w1 w2) : OutK go w w2 := ⟨h.1.trans h2.1, fun g cs t ht hg hh => h2.2 g cs t ht hg (h.2 g cs t ht hg hh)⟩
def OUT (w : World) (go : Nat) (l : List UInt8) : Prop := ∃ v, w.heap[go]? = some (.cells #[v] 36 (0, 0)) ∧ BN w (go + 1) v (bts l)
theorem OUT.below {w w' : World} {go : Nat} {l : List UInt8} (h : OUT w go l) (hb : Below w.heap.size w w') : OUT w' go l := by
  obtain ⟨v, h1, h2⟩ := h
  exact ⟨v, blk_below h1 hb, h2.below hb⟩
theorem OUT.lt {w : World} {go : Nat} {l : List UInt8} (h : OUT w go l) : go < w.heap.size := by
  obtain ⟨v, h1, h2⟩ := h
  exact blk_lt h1
end Go.Proofs.Ytkjepfofiegcdaa.V
namespace Go.Proofs.Ytkjepfofiegcdaa.V
set_option linter.unusedVariables false
set_option linter.unusedSimpArgs false
open Go.RowKit Go.Proofs.YtkjepfofiegcdaaW.PrintWords Go.Proofs.YtkjepfofiegcdaaW.PrintLast Go.Proofs.YtkjepfofiegcdaaW.PrintMore Go.Proofs.Ytkjepfofiegcdaa.PB14
open H (putL)
def U64 (n : Int) : Prop := 0 ≤ n ∧ n < 18446744073709551616
theorem U64.wrap {n : Int} (h : U64 n) : IntKind.u64.wrap n = n := wrap_u h.1 h.2
end Go.Proofs.Ytkjepfofiegcdaa.V
namespace Go.Proofs.Ytkjepfofiegcdaa.V
set_option linter.unusedVariables false
set_option linter.unusedSimpArgs false
open Go.RowKit Go.Proofs.YtkjepfofiegcdaaW.PrintWords Go.Proofs.YtkjepfofiegcdaaW.PrintLast Go.Proofs.YtkjepfofiegcdaaW.PrintMore Go.Proofs.Ytkjepfofiegcdaa.PB14
open H (putL)
end Go.Proofs.Ytkjepfofiegcdaa.V
namespace Go.Proofs.Ytkjepfofiegcdaa.V
set_option linter.unusedVariables false
set_option linter.unusedSimpArgs false
open Go.RowKit Go.Proofs.YtkjepfofiegcdaaW.PrintWords Go.Proofs.YtkjepfofiegcdaaW.PrintLast Go.Proofs.YtkjepfofiegcdaaW.PrintMore Go.Proofs.Ytkjepfofiegcdaa.PB14
open H (putL)
end Go.Proofs.Ytkjepfofiegcdaa.V
namespace Go.Proofs.Ytkjepfofiegcdaa.V
set_option linter.unusedVariables false
set_option linter.unusedSimpArgs false
open Go.RowKit Go.Proofs.YtkjepfofiegcdaaW.PrintWords Go.Proofs.YtkjepfofiegcdaaW.PrintLast Go.Proofs.YtkjepfofiegcdaaW.PrintMore Go.Proofs.Ytkjepfofiegcdaa.PB14
theorem size70 : (Try.prog.info? 70).map (·.size) = some 5 := by kernel_rfl
end Go.Proofs.Ytkjepfofiegcdaa.V
namespace Go.Proofs.Ytkjepfofiegcdaa.V
set_option linter.unusedVariables false
set_option linter.unusedSimpArgs false
open Go.RowKit Go.Proofs.YtkjepfofiegcdaaW.PrintWords Go.Proofs.YtkjepfofiegcdaaW.PrintLast Go.Proofs.YtkjepfofiegcdaaW.PrintMore Go.Proofs.Ytkjepfofiegcdaa.PB14
theorem lastV_cases (u : Ver) : (rightP u ∧ lastV u = (u, 0)) ∨ (¬ rightP u ∧ lastV u = (zeroV, 11)) := by
 unfold lastV
 by_cases h : rightP u
 ·rw [if_pos h]; exact .inl ⟨h, rfl⟩
 ·rw [if_neg h]; exact .inr ⟨h, rfl⟩
theorem comeV_cases (u : Ver) (l : List S82) : (∃ x, adsV u l = some x ∧ rightP x ∧ comeV u l = (x, 0)) ∨ ∃ r, comeV u l = (zeroV, r) ∧ (r = 5 ∨ r = 11) := by
 unfold comeV
 cases h : adsV u l with
 | none => exact .inr ⟨5, rfl, .inl rfl⟩
 | some x =>
  rcases lastV_cases x with ⟨h1, h2⟩ | ⟨_, h2⟩
  ·exact .inl ⟨x, rfl, h1, h2⟩
  ·exact .inr ⟨11, h2, .inr rfl⟩
theorem goneV_cases (u : Ver) (l : List S84) (r : List S82) : (∃ y x, gosV u l = some y ∧ adsV y r = some x ∧ rightP x ∧ goneV u l r = (x, 0)) ∨ ∃ n, goneV u l r = (zeroV, n) ∧ (n = 4 ∨ n = 5 ∨ n = 11) := by
 unfold goneV
 cases h : gosV u l with
 | none => exact .inr ⟨4, rfl, .inl rfl⟩
 | some y =>
  rcases comeV_cases y r with ⟨x, h1, h2, h3⟩ | ⟨n, h1, h2⟩
  ·exact .inl ⟨y, x, rfl, h1, h2, h3⟩
  ·exact .inr ⟨n, h1, .inr h2⟩
theorem applyV_cases (v : Ver) (e : Edt) : (∃ y x, askE v e ∧ gosV (bndV v e) e.gone = some y ∧ adsV y e.added = some x ∧ rightP x ∧ applyV v e = (x, 0)) ∨ ∃ n, applyV v e = (zeroV, n) ∧ (n = 2 ∨ n = 4 ∨ n = 5 ∨ n = 11) := by
 unfold applyV
 by_cases h : askE v e
 ·rw [if_pos h]
  rcases goneV_cases (bndV v e) e.gone e.added with ⟨y, x, h1, h2, h3, h4⟩ | ⟨n, h1, h2⟩
  ·exact .inl ⟨y, x, h, h1, h2, h3, h4⟩
  ·exact .inr ⟨n, h1, .inr h2⟩
 ·rw [if_neg h]
  exact .inr ⟨2, rfl, .inl rfl⟩
theorem applyV_ok {v u : Ver} {e : Edt} (h : applyV v e = (u, 0)) : rightP v ∧ rightP u := by
 rcases applyV_cases v e with ⟨y, x, h1, _, _, h4, h5⟩ | ⟨n, h1, h2⟩
 ·rw [h5] at h; injection h with h6 _; subst h6; exact ⟨h1.1.1, h4⟩
 ·rw [h1] at h; injection h with _ h6; omega
/-! The whole edit. -/
theorem pair_of {R : S58 → S58 → Prop} (ht : ∀ a b c, R a b → R b c → R a c) : ∀ {l : List S58}, (∀ k, k < l.length - 1 → R (l.getD k z58) (l.getD (k + 1) z58)) → l.Pairwise R
 | [], _ => List.Pairwise.nil
 | a :: l, h => by
  have ih : l.Pairwise R := pair_of ht fun k hk => by
   have h2 := h (k + 1) (by rw [List.length_cons]; omega)
   simpa using h2
  refine List.Pairwise.cons (fun b hb => ?_) ih
  cases l with
  | nil => cases hb
  | cons b0 l =>
   have h0 : R a b0 := by have h2 := h 0 (by simp); simpa using h2
   rcases List.mem_cons.mp hb with rfl | hb
   ·exact h0
   ·exact ht _ _ _ h0 (List.rel_of_pairwise_cons ih hb)
theorem right_mem {v : Ver} (h : rightP v) {i : Nat} (hi : i < 4) {m : S58} (hm : m ∈ v.lv i) : mayP m := by
 refine (h.2.1.2.1 m ?_).1
 rw [catV4]
 rcases (by omega : i = 0 ∨ i = 1 ∨ i = 2 ∨ i = 3) with rfl | rfl | rfl | rfl <;> simp [hm]
theorem Ver.set_set (v : Ver) (i : Nat) (hi : i < 4) (a b : List S58) : (v.set i a).set i b = v.set i b := by
 rcases (by omega : i = 0 ∨ i = 1 ∨ i = 2 ∨ i = 3) with rfl | rfl | rfl | rfl <;> rfl
theorem right_ap {v : Ver} (h : rightP v) : apV v := apV_of h.2.1.2.2
/-! What is added is taken away again. -/
theorem gos_char : ∀ (gl : List S84) (y : Ver), apV y → (∀ x, x ∈ gl → (0 ≤ x.f0 ∧ x.f0 < 4) ∧ x.f1 ∈ nums (y.lv x.f0.toNat)) → (gl.map (·.f1)).Nodup → ∃ y', gosV y gl = some y' ∧ (y'.log = y.log ∧ y'.next = y.next ∧ y'.seq = y.seq) ∧ ∀ i, i < 4 → y'.lv i = (y.lv i).filter fun m => decide (m.f0 ∉ gl.map (·.f1))
 | [], y, _, _, _ => ⟨y, rfl, ⟨rfl, rfl, rfl⟩, fun i hi => by rw [List.filter_eq_self.mpr]; intro m _; simp⟩
 | x :: gl, y, ha, hx, hn => by
  obtain ⟨⟨x0, x1⟩, x2⟩ := hx x (List.mem_cons_self ..)
  rw [List.map_cons, List.nodup_cons] at hn
  have hlv : x.f0.toNat < 4 := by omega
  have e1 : ∀ i, i < 4 → (y.set x.f0.toNat (woL (y.lv x.f0.toNat) x.f1)).lv i = woL (y.lv i) x.f1 := fun i hi => by
   rw [Ver.set_lv y _ i hlv hi]
   by_cases e : i = x.f0.toNat
   ·rw [if_pos e, e]
   ·rw [if_neg e, woL_none]
    intro h2
    have h3 := ha x.f1
    rw [lv_cnt] at h3
    have c1 : 1 ≤ (nums (y.lv i)).count x.f1 := List.count_pos_iff.mpr h2
    have c2 : 1 ≤ (nums (y.lv x.f0.toNat)).count x.f1 := List.count_pos_iff.mpr x2
    generalize x.f0.toNat = j at *
    rcases (by omega : i = 0 ∨ i = 1 ∨ i = 2 ∨ i = 3) with rfl | rfl | rfl | rfl <;> rcases (by omega : j = 0 ∨ j = 1 ∨ j = 2 ∨ j = 3) with rfl | rfl | rfl | rfl <;> first | exact e rfl | omega
  obtain ⟨y', h1, h2, h3⟩ := gos_char gl (y.set x.f0.toNat (woL (y.lv x.f0.toNat) x.f1)) (ha.wo hlv x.f1) (fun z hz => by
   obtain ⟨⟨z0, z1⟩, z2⟩ := hx z (List.mem_cons_of_mem _ hz)
   refine ⟨⟨z0, z1⟩, ?_⟩
   rw [e1 _ (by omega)]
   obtain ⟨m, hm, hf⟩ := mem_nums.mp z2
   refine mem_nums.mpr ⟨m, ?_, hf⟩
   unfold woL
   rw [List.mem_filter]
   refine ⟨hm, decide_eq_true fun e => hn.1 ?_⟩
   rw [← e, hf]
   exact List.mem_map_of_mem hz) hn.2
  refine ⟨y', ?_, ?_, fun i hi => ?_⟩
  ·rw [gosV, goV, if_pos x2]; exact h1
  ·have : ∀ (v : Ver) (i : Nat) (l : List S58), (v.set i l).log = v.log ∧ (v.set i l).next = v.next ∧ (v.set i l).seq = v.seq := fun v i l => by
    rcases i with _ | _ | _ | i <;> exact ⟨rfl, rfl, rfl⟩
   obtain ⟨a, b, c⟩ := this y x.f0.toNat (woL (y.lv x.f0.toNat) x.f1)
   exact ⟨h2.1.trans a, h2.2.1.trans b, h2.2.2.trans c⟩
  ·rw [h3 i hi, e1 i hi]
   unfold woL
   rw [List.filter_filter]
   refine List.filter_congr fun m _ => ?_
   rw [List.map_cons]
   simp only [List.mem_cons, not_or]
   by_cases c1 : m.f0 = x.f1 <;> by_cases c2 : m.f0 ∈ gl.map (·.f1) <;> simp [c1, c2]
theorem ads_char : ∀ (al : List S82) (y y' : Ver), adsV y al = some y' → (∀ x, x ∈ al → 0 ≤ x.f0 ∧ x.f0 < 4) → (y'.log = y.log ∧ y'.next = y.next ∧ y'.seq = y.seq) ∧ (∀ S : List Int, (∀ x, x ∈ al → x.f1.f0 ∈ S) → ∀ i, i < 4 → (y'.lv i).filter (fun m => decide (m.f0 ∉ S)) = (y.lv i).filter fun m => decide (m.f0 ∉ S)) ∧ (∀ x, x ∈ al → x.f1.f0 ∈ nums (y'.lv x.f0.toNat)) ∧ (al.map (·.f1.f0)).Nodup ∧ (∀ x, x ∈ al → cntV y x.f1.f0 = 0) ∧ ∀ i, i < 4 → ∀ n, n ∈ nums (y.lv i) → n ∈ nums (y'.lv i)
 | [], y, y', h, _ => by
  injection h with h
  subst h
  exact ⟨⟨rfl, rfl, rfl⟩, fun _ _ _ _ => rfl, (fun x hx => by cases hx), List.nodup_nil, (fun x hx => by cases hx), fun _ _ _ h => h⟩
 | x :: al, y, y', h, hl => by
  obtain ⟨x0, x1⟩ := hl x (List.mem_cons_self ..)
  have hlv : x.f0.toNat < 4 := by omega
  have ex : ((x.f0.toNat : Nat) : Int) = x.f0 := by omega
  rw [adsV] at h
  unfold adV at h
  by_cases hc : 0 < cntV y x.f1.f0
  ·rw [if_pos hc] at h; cases h
  rw [if_neg hc] at h
  have h' : adsV (y.set x.f0.toNat (wiL x.f0 x.f1 (y.lv x.f0.toNat))) al = some y' := h
  obtain ⟨i1, i2, i3, i4, i5, i6⟩ := ads_char al _ y' h' (fun z hz => hl z (List.mem_cons_of_mem _ hz))
  have cw : ∀ n, cntV (y.set x.f0.toNat (wiL x.f0 x.f1 (y.lv x.f0.toNat))) n = cntV y n + if x.f1.f0 = n then 1 else 0 := fun n => wi_cnt y hlv x.f0 x.f1 n
  have mw : ∀ n, n = x.f1.f0 ∨ n ∈ nums (y.lv x.f0.toNat) → n ∈ nums (wiL x.f0 x.f1 (y.lv x.f0.toNat)) := fun n hn => by
   have h2 := wiL_cnt x.f0 x.f1 (y.lv x.f0.toNat) n
   refine List.count_pos_iff.mp ?_
   rcases hn with rfl | hn
   ·rw [if_pos rfl] at h2; omega
   ·have := List.count_pos_iff.mpr hn; omega
  refine ⟨?_, fun S hS i hi => ?_, fun z hz => ?_, ?_, fun z hz => ?_, fun i hi n hn => ?_⟩
  ·have : ∀ (v : Ver) (i : Nat) (l : List S58), (v.set i l).log = v.log ∧ (v.set i l).next = v.next ∧ (v.set i l).seq = v.seq := fun v i l => by
    rcases i with _ | _ | _ | i <;> exact ⟨rfl, rfl, rfl⟩
   obtain ⟨a, b, c⟩ := this y x.f0.toNat (wiL x.f0 x.f1 (y.lv x.f0.toNat))
   exact ⟨i1.1.trans a, i1.2.1.trans b, i1.2.2.trans c⟩
  ·rw [i2 S (fun z hz => hS z (List.mem_cons_of_mem _ hz)) i hi, Ver.set_lv y _ i hlv hi]
   by_cases e : i = x.f0.toNat
   ·rw [if_pos e, e]
    unfold wiL
    rw [List.filter_append, List.filter_cons, if_neg (by simp [hS x (List.mem_cons_self ..)]), ← List.filter_append, List.take_append_drop]
   ·rw [if_neg e]
  ·rcases List.mem_cons.mp hz with rfl | hz
   ·refine i6 _ hlv _ ?_
    rw [Ver.set_lv y _ _ hlv hlv, if_pos rfl]
    exact mw _ (.inl rfl)
   ·exact i3 z hz
  ·rw [List.map_cons, List.nodup_cons]
   refine ⟨fun hm => ?_, i4⟩
   obtain ⟨z, hz, e⟩ := List.mem_map.mp hm
   have h2 := i5 z hz
   rw [cw, e, if_pos rfl] at h2
   omega
  ·rcases List.mem_cons.mp hz with rfl | hz
   ·omega
   ·have h2 := i5 z hz
    rw [cw] at h2
    omega
  ·refine i6 i hi n ?_
   rw [Ver.set_lv y _ i hlv hi]
   by_cases e : i = x.f0.toNat
   ·rw [if_pos e]
    rw [e] at hn
    exact mw n (.inr hn)
   ·rw [if_neg e]; exact hn
def backL (l : List S82) : List S84 := l.map fun x => ⟨x.f0, x.f1.f0⟩
theorem bnd_zero (v : Ver) (g : List S84) (a : List S82) : bndV v ⟨0, 0, 0, g, a⟩ = v := by cases v; rfl
theorem laterB_zero (n : Int) : laterB n 0 = true := by unfold laterB; simp
theorem again {v w : Ver} {l : List S82} (h : applyV v ⟨0, 0, 0, [], l⟩ = (w, 0)) : applyV w ⟨0, 0, 0, backL l, []⟩ = (v, 0) := by
 rcases applyV_cases v ⟨0, 0, 0, [], l⟩ with ⟨y, x, h1, h2, h3, h4, h5⟩ | ⟨n, h1, h2⟩
 ·rw [h5] at h
  injection h with h _
  subst h
  rw [bnd_zero] at h2
  injection h2 with h2
  subst h2
  have hl : ∀ z, z ∈ l → 0 ≤ z.f0 ∧ z.f0 < 4 := fun z hz => (h1.2.2 z hz).1
  obtain ⟨i1, i2, i3, i4, i5, i6⟩ := ads_char l v x h3 hl
  have e1 : (backL l).map (·.f1) = l.map (·.f1.f0) := by unfold backL; rw [List.map_map]; rfl
  obtain ⟨y', g1, g2, g3⟩ := gos_char (backL l) x (right_ap h4) (fun z hz => by
   obtain ⟨a, ha, rfl⟩ := List.mem_map.mp hz
   exact ⟨hl a ha, i3 a ha⟩) (by rw [e1]; exact i4)
  have ev : y' = v := by
   refine sameP_iff.mp ⟨⟨g2.1.trans i1.1, g2.2.1.trans i1.2.1, g2.2.2.trans i1.2.2⟩, fun i hi => ?_⟩
   rw [g3 i hi, e1, i2 _ (fun z hz => List.mem_map_of_mem (f := fun a : S82 => a.f1.f0) hz) i hi, List.filter_eq_self]
   intro m hm
   refine decide_eq_true fun h2 => ?_
   obtain ⟨a, ha, e⟩ := List.mem_map.mp h2
   have h3 := i5 a ha
   rw [lv_cnt] at h3
   have c1 : 1 ≤ (nums (v.lv i)).count a.f1.f0 := List.count_pos_iff.mpr (mem_nums.mpr ⟨m, hm, e.symm⟩)
   rcases (by omega : i = 0 ∨ i = 1 ∨ i = 2 ∨ i = 3) with rfl | rfl | rfl | rfl <;> omega
  subst ev
  unfold applyV
  rw [if_pos ⟨⟨h4, laterB_zero _, laterB_zero _, laterB_zero _⟩, fun z hz => by
   obtain ⟨a, ha, rfl⟩ := List.mem_map.mp hz
   exact hl a ha, fun z hz => by cases hz⟩, bnd_zero]
  show goneV x (backL l) [] = _
  unfold goneV
  rw [g1]
  exact if_pos h1.1.1
 ·rw [h1] at h
  injection h with _ h
  omega
end Go.Proofs.Ytkjepfofiegcdaa.V
namespace Go.Proofs.Ytkjepfofiegcdaa.V
set_option linter.unusedVariables false
set_option linter.unusedSimpArgs false
open Go.RowKit Go.Proofs.YtkjepfofiegcdaaW.PrintWords Go.Proofs.YtkjepfofiegcdaaW.PrintLast Go.Proofs.YtkjepfofiegcdaaW.PrintMore Go.Proofs.Ytkjepfofiegcdaa.PB14
theorem apply2_calls (w : World) (v : Ver) (p : Pl) (e : Edt) (A1 A2 : Option Addr) (c1 c2 : Nat) {u : Ver} {f : Int} (h : applyV v e = (u, f)) (hC : VC w v p) (hW : VW v) (h1 : k84.C w A1 e.gone.length e.gone) (h2 : k82.C w A2 e.added.length e.added) (hn : ∀ i, i < 4 → (v.lv i).length ≤ 100000) (hga : e.added.length ≤ 100000) :
  Calls Try.prog 54 #[.agg (vCs v p), .agg (eCs e A1 c1 A2 c2)] w fun x w' => ∃ q : Pl, x = .returned (.tuple #[.agg (vCs u q), .int .i64 f]) ∧ Rows4 w' w.heap.size u q ∧ Below w.heap.size w w' := by
 have h3 := apply_calls w v p e A1 A2 c1 c2 hC hW h1 h2 hn hga
 rw [h] at h3
 exact h3
section
variable {P : Program} {ops : Array Oper} {Q : Exit → Act → World → Prop}
end
theorem right_vw {v : Ver} (h : rightP v) : VW v := fun i hi m hm => by
 have h1 := right_mem h hi hm
 have h2 := h1.1
 have h3 := h1.2.1
 omega
end Go.Proofs.Ytkjepfofiegcdaa.V
namespace Go.Proofs.Ytkjepfofiegcdaa.V
set_option linter.unusedVariables false
set_option linter.unusedSimpArgs false
open Go.RowKit Go.Proofs.YtkjepfofiegcdaaW.PrintWords Go.Proofs.YtkjepfofiegcdaaW.PrintLast Go.Proofs.YtkjepfofiegcdaaW.PrintMore Go.Proofs.Ytkjepfofiegcdaa.PB14
end Go.Proofs.Ytkjepfofiegcdaa.V
namespace Go.Proofs.Ytkjepfofiegcdaa.V
set_option linter.unusedVariables false
set_option linter.unusedSimpArgs false
open Go.RowKit Go.Proofs.YtkjepfofiegcdaaW.PrintWords Go.Proofs.YtkjepfofiegcdaaW.PrintLast Go.Proofs.YtkjepfofiegcdaaW.PrintMore Go.Proofs.Ytkjepfofiegcdaa.PB14
theorem due_min (v : Ver) (many base times : Int) (hO : optP many base times) (i : Nat) (h0 : 0 < i) (hi : i < 3) (hd : dueL v many base times i ≠ []) : dueL v many base times i = [minK (v.lv i) (v.lv i).length] ∧ 0 < (v.lv i).length := by
  have hb1 := Int.mul_le_mul hO.2.2.1 hO.2.2.2.2.1 (by decide : (0 : Int) ≤ 1) (by have := hO.2.2.1; omega)
  rcases (by omega : i = 1 ∨ i = 2) with rfl | rfl
  · by_cases h : sizeL v.l1 ≤ base
    · exact absurd (show dueL v many base times 1 = [] from if_pos h) hd
    · exact ⟨if_neg h, sizeL_pos h hO.2.2.1⟩
  · by_cases h : sizeL v.l2 ≤ base * times
    · exact absurd (show dueL v many base times 2 = [] from if_pos h) hd
    · exact ⟨if_neg h, sizeL_pos h (by simpa using hb1)⟩
end Go.Proofs.Ytkjepfofiegcdaa.V
