import Derived.Test.YtfemebenkbobnaaMF0
import Derived.Test.YtfemebenkbobnaaUCa
import Derived.Test.YtfemebenkbobnaaF06
import Derived.Test.YtfemebenkbobnaaHOp6
/- Three tables side by side, and the list of batches: the state that MemAt keeps. Conditions: none. -/
namespace Go.Proofs.Ytfemebenkbobnaa.SM
set_option linter.unusedVariables false
set_option linter.unusedSimpArgs false
open Go.RowKit Go.Shelf Go.Proofs.YtfemebenkbobnaaW.PrintWords Go.Proofs.YtfemebenkbobnaaW.PrintLast Go.Proofs.YtfemebenkbobnaaW.PrintMore Go.Proofs.Ytfemebenkbobnaa.PB06
theorem add_ok (w : World) (g : Nat) (rs : List Nd) (t : Ts) (h : Sk (tabT t.room t.least t.greatest) w g rs) (hv : vals rs = t.l) (n0 : Int) (A0 : Option Addr) (c0 : Nat) (l0 : List S72) (hC0 : k72.C w A0 l0.length l0) (hc0 : l0.length ≤ c0) (hl0 : l0.length ≤ 70) {i : Nat} (hi : i ≤ 100) (hsm : Small t i)
    (hck : checkS n0 l0 = 0) (hfr : ∀ r, r ∈ rowsL n0 0 l0 → takenV r t.l = false) :
    Calls Try.prog 49 #[.pointer (some ⟨g, 0, none⟩), .agg #[.int .u64 n0, .slice A0 l0.length c0], .slice none 0 0] w fun e w' => ∃ rs', e = .returned (.int .i64 0) ∧ AddP w w' g rs (addT [] n0 l0 t) rs' := by
  obtain ⟨kf, hf⟩ := (ev_Check n0 l0 (by omega)).rounds
  have hlen : (rowsL n0 0 l0).length = l0.length := rowsL_len n0 0 l0
  have ht : (⟨vals rs, t.room, t.least, t.greatest⟩ : Ts) = t := by rw [hv]
  rw [hck] at hf
  refine (add_tab w g rs t.room t.least t.greatest h n0 A0 c0 l0 hC0 hc0 none 0 [] (fun w' _ => Kd.C_nil _ _) 0 kf hf (rowsL n0 0 l0) (fun _ => ?_) (fun r hr => ?_) ⟨hsm.lo, by have := hsm.hi; omega⟩ (by have := hsm.len; have h1 := congrArg List.length hv; rw [vals_len] at h1; omega) (by omega)).mono ?_
  · obtain ⟨kr, hr⟩ := (ev_RowsS n0 l0 (by omega)).rounds
    rw [rowsS, if_pos hck] at hr
    exact ⟨kr, hr⟩
  · have := rows_small hck r hr
    omega
  · rintro e w' (⟨h1, _⟩ | ⟨h1, ⟨r, hr, h2⟩, _⟩ | ⟨h1, h2, rfl, rs', ha⟩)
    · exact absurd rfl h1
    · have := hfr r hr
      rw [hv] at h2
      rw [h2] at this
      cases this
    · refine ⟨rs', rfl, ?_⟩
      rw [addT, if_pos ⟨hck, hfr⟩]
      rw [ht] at ha
      exact ha
/-- One of several tables. -/
structure T1 (w0 w : World) (g : Nat) (rs : List Nd) (t : Ts) (i : Nat) : Prop where
  sk : Sk (tabT t.room t.least t.greatest) w g rs
  vl : vals rs = t.l
  lo : ∀ k, k ∈ fp g rs → w0.heap.size ≤ k
  good : Good t
  small : Small t i
def Asunder (g1 : Nat) (r1 : List Nd) (g2 : Nat) (r2 : List Nd) : Prop := ∀ k, k ∈ fp g1 r1 → k ∉ fp g2 r2
theorem Asunder.symm {g1 g2 : Nat} {r1 r2 : List Nd} (h : Asunder g1 r1 g2 r2) : Asunder g2 r2 g1 r1 := fun k h1 h2 => h k h2 h1
theorem Small.more {t : Ts} {i : Nat} (h : Small t i) : Small t (i + 1) := ⟨by have := h.len; omega, h.lo, by have := h.hi; omega, h.u64⟩
/-- Three tables, and the batches at A. -/
structure S3 (w0 w : World) (g1 g2 g3 : Nat) (r1 r2 r3 : List Nd) (t1 t2 t3 : Ts) (A : Option Addr) (m c : Nat) (L : List S58) (i : Nat) : Prop where
  a : T1 w0 w g1 r1 t1 i
  b : T1 w0 w g2 r2 t2 i
  d : T1 w0 w g3 r3 t3 i
  ab : Asunder g1 r1 g2 r2
  ad : Asunder g1 r1 g3 r3
  bd : Asunder g2 r2 g3 r3
  row : Kd.R (Kd.fixed k58 w0) 58 w w0.heap.size (fun _ => True) (.slice A m c) L
  len : L.length = m
  bel : Below w0.heap.size w0 w
theorem sk_typedq {room least greatest : Int} {w : World} {g : Nat} {rs : List Nd} (h : Sk (tabT room least greatest) w g rs) : ∀ k, k ∈ fp g rs → ∃ cs q, w.heap[k]? = some (.cells cs q (0, 0)) ∧ q ≠ 58 := fun k hk => by
  rcases fp_mem.mp hk with rfl | hk
  · exact ⟨_, _, h.sl.head, Tl.ne _ (by decide) (by decide)⟩
  · obtain ⟨x, hx, rfl⟩ := List.mem_map.mp hk
    obtain ⟨cs, hc⟩ := h.sl.chain.mem x hx
    exact ⟨cs, _, hc, by decide⟩
theorem R58_keep {w0 w w' : World} {base : Nat} {v : Value} {xs : List S58} (h : Kd.R (Kd.fixed k58 w0) 58 w base (fun _ => True) v xs) (hk : ∀ (k : Nat) (cs : Array Value), w.heap[k]? = some (.cells cs 58 (0, 0)) → w'.heap[k]? = w.heap[k]?) : Kd.R (Kd.fixed k58 w0) 58 w' base (fun _ => True) v xs := by
  refine Kd.R_mono (Kd.R_step (Kd.R_bound h) (fun k ho _ => ?_)) (fun _ _ => trivial)
  obtain ⟨_, _, _, q, hq, cells, hc⟩ := ho
  have hq58 : q = 58 := by
    rcases List.mem_cons.mp hq with e | e
    · exact e
    · exact absurd e (by have : (Kd.fixed k58 w0).E = [] := rfl; rw [this]; simp)
  subst hq58
  exact hk k cells hc
section
variable {w0 w w' w1 : World} {g g1 g2 g3 : Nat} {rs rs' r1 r2 r3 : List Nd} {t t1 t2 t3 : Ts} {A : Option Addr} {m c i : Nat} {L : List S58}
theorem T1.below (h : T1 w0 w g rs t i) (hb : Below w.heap.size w w') : T1 w0 w' g rs t i := ⟨h.sk.below hb, h.vl, h.lo, h.good, h.small⟩
theorem T1.more (h : T1 w0 w g rs t i) : T1 w0 w g rs t (i + 1) := ⟨h.sk, h.vl, h.lo, h.good, h.small.more⟩
theorem T1.aside {room least greatest : Int} {w2 : World} {t' : Ts} (h : T1 w0 w g2 r2 t i) (hs : Sk (tabT room least greatest) w g rs) (ha : AddP w w2 g rs t' rs') (hp : Asunder g rs g2 r2) : T1 w0 w2 g2 r2 t i :=
  ⟨h.sk.keep fun k hk => ha.kp.same k (h.sk.lt k (fp_mem.mpr hk)) (fun e => hp k (fp_mem.mpr (.inl e)) (fp_mem.mpr hk)) (fun e => hp k (fp_mem.mpr (.inr e)) (fp_mem.mpr hk)), h.vl, h.lo, h.good, h.small⟩
theorem apart_add {room least greatest : Int} {w2 : World} {t' : Ts} (h : T1 w0 w g2 r2 t i) (ha : AddP w w2 g rs t' rs') (hp : Asunder g rs g2 r2) : Asunder g rs' g2 r2 := fun k hk hk2 => by
  rcases ha.new k hk with h1 | h1
  · exact hp k h1 hk2
  · have := h.sk.lt k hk2; omega
theorem S3.below (h : S3 w0 w g1 g2 g3 r1 r2 r3 t1 t2 t3 A m c L i) (hb : Below w.heap.size w w') : S3 w0 w' g1 g2 g3 r1 r2 r3 t1 t2 t3 A m c L i := ⟨h.a.below hb, h.b.below hb, h.d.below hb, h.ab, h.ad, h.bd, Kd.R_below h.row hb, h.len, below_step h.bel hb⟩
theorem S3.rot (h : S3 w0 w g1 g2 g3 r1 r2 r3 t1 t2 t3 A m c L i) : S3 w0 w g2 g3 g1 r2 r3 r1 t2 t3 t1 A m c L i := ⟨h.b, h.d, h.a, h.bd, h.ab.symm, h.ad.symm, h.row, h.len, h.bel⟩
theorem S3.more (h : S3 w0 w g1 g2 g3 r1 r2 r3 t1 t2 t3 A m c L i) : S3 w0 w g1 g2 g3 r1 r2 r3 t1 t2 t3 A m c L (i + 1) := ⟨h.a.more, h.b.more, h.d.more, h.ab, h.ad, h.bd, h.row, h.len, h.bel⟩
theorem S3.add (h : S3 w0 w g1 g2 g3 r1 r2 r3 t1 t2 t3 A m c L i) {n : Int} {l : List S72} (hl : l.length ≤ 70) (ha : AddP w w1 g1 r1 (addT [] n l t1) rs') : S3 w0 w1 g1 g2 g3 rs' r2 r3 (addT [] n l t1) t2 t3 A m c L (i + 1) := by
  refine ⟨⟨ha.sk, ha.val, fun k hk => (ha.new k hk).elim (h.a.lo k) (fun h1 => Nat.le_trans h.bel.size h1), addT_good h.a.good, add_small h.a.small hl⟩, (h.b.aside h.a.sk ha h.ab).more, (h.d.aside h.a.sk ha h.ad).more, ?_, ?_, h.bd, ?_, h.len, ?_⟩
  · exact apart_add (room := 0) (least := 0) (greatest := 0) h.b ha h.ab
  · exact apart_add (room := 0) (least := 0) (greatest := 0) h.d ha h.ad
  · refine R58_keep h.row fun k cs hk => ha.kp.same k (blk_lt hk) (fun e => ?_) (fun e => ?_)
    · obtain ⟨cs', q, h1, h2⟩ := sk_typedq h.a.sk k (fp_mem.mpr (.inl e))
      rw [hk] at h1; cases h1; exact h2 rfl
    · obtain ⟨cs', q, h1, h2⟩ := sk_typedq h.a.sk k (fp_mem.mpr (.inr e))
      rw [hk] at h1; cases h1; exact h2 rfl
  · exact ha.kp.low _ _ h.bel (h.a.lo g1 (fp_mem.mpr (.inl rfl))) h.bel.size (fun k hk => h.a.lo k (fp_mem.mpr (.inr hk)))
/-- Add, at the first of the three. -/
theorem S3.add_calls (h : S3 w0 w g1 g2 g3 r1 r2 r3 t1 t2 t3 A m c L i) (hi : i ≤ 100) (n : Int) {X : Option Addr} {d : Nat} {l : List S72} (hC : k72.C w0 X l.length l) (hd : l.length ≤ d) (hl : l.length ≤ 70) (hck : checkS n l = 0) (hfr : ∀ r, r ∈ rowsL n 0 l → takenV r t1.l = false) :
    Calls Try.prog 49 #[.pointer (some ⟨g1, 0, none⟩), .agg #[.int .u64 n, .slice X l.length d], .slice none 0 0] w fun e w' => ∃ rs', e = .returned (.int .i64 0) ∧ S3 w0 w' g1 g2 g3 rs' r2 r3 (addT [] n l t1) t2 t3 A m c L (i + 1) :=
  (add_ok w g1 r1 t1 h.a.sk h.a.vl n X d l (Kd.C_below hC h.bel) hd hl hi h.a.small hck hfr).mono fun e w' ⟨rs', he, ha⟩ => ⟨rs', he, h.add hl ha⟩
theorem S3.get_calls (h : S3 w0 w g1 g2 g3 r1 r2 r3 t1 t2 t3 A m c L i) (hi : i ≤ 100) (key : ByteArray) (seq : Int) : Calls Try.prog 50 #[.pointer (some ⟨g1, 0, none⟩), .string key, .int .u64 seq] w fun e w' => e = .returned (.tuple #[rowV ((getG key seq (t1.l.map (·.1))).getD zrow), .bool (getG key seq (t1.l.map (·.1))).isSome]) ∧ Below w.heap.size w w' := by
  have hg := get_valsG key seq (rs := r1) (L := t1.l.map (·.1)) (by rw [h.a.vl]) h.a.good.sorted
  have h1 := get_tab h.a.sk (by have h2 := h.a.small.len; have h3 := congrArg List.length h.a.vl; rw [vals_len] at h3; omega) key seq
  rw [hg.1, hg.2] at h1
  exact h1
theorem S3.rows_calls (h : S3 w0 w g1 g2 g3 r1 r2 r3 t1 t2 t3 A m c L i) (hi : i ≤ 100) : Calls Try.prog 51 #[.pointer (some ⟨g1, 0, none⟩)] w fun e w' => ∃ v, e = .returned v ∧ Kd.R k28 28 w' w.heap.size (fun _ => True) v (t1.l.map (·.1)) ∧ Below w.heap.size w w' := by
  have h1 := rows_tab h.a.sk (by have h2 := h.a.small.len; have h3 := congrArg List.length h.a.vl; rw [vals_len] at h3; omega) (fun x hx => h.a.small.u64 (x.row, x.h) (by rw [← h.a.vl]; exact List.mem_map.mpr ⟨x, hx, rfl⟩))
  rw [show rowsN r1 = t1.l.map (·.1) by rw [← h.a.vl, rowsN_vals]] at h1
  exact h1
/-- The i-th batch. -/
theorem at_L58 {w0 w : World} {A : Option Addr} {n c : Nat} {L : List S58} (h : Kd.R (Kd.fixed k58 w0) 58 w w0.heap.size (fun _ => True) (.slice A n c) L) (hn : L.length = n) (i : Nat) (hi : i < L.length) : ∃ ad X d, A = some ad ∧ w.cell? (ad.add (i * 2)) = some (.int .u64 (L.getD i z58).f0) ∧ w.cell? ⟨(ad.add (i * 2)).block, (ad.add (i * 2)).off + 1, none⟩ = some (.slice X (L.getD i z58).f1.length d) ∧ (L.getD i z58).f1.length ≤ d ∧ k72.C w0 X (L.getD i z58).f1.length (L.getD i z58).f1 := by
  subst hn
  obtain ⟨ad, c, e, _, hK, hc0⟩ := Kd.C_get (Kd.R_reads' h).2.2 z58 (i : Int) (by omega) (by omega)
  have hc : ∀ j u, c[j]? = some u → w.cell? (ad.add (i * 2 + j)) = some u := hc0
  have hK' : k58.K w0 (L.getD i z58) c := hK
  obtain ⟨X, d, rfl, l1, h1⟩ := k58_open hK'
  exact ⟨ad, X, d, e, hc 0 _ rfl, by rw [← add_field _ _ 1 (by omega)]; exact hc 1 _ rfl, l1, h1⟩
theorem three_new {w0 w1 w2 w3 : World} {g1 g2 g3 : Nat} (s1 : Sk (tabT 0 0 0) w1 g1 []) (l1 : w0.heap.size ≤ g1) (s2 : Sk (tabT 0 0 0) w2 g2 []) (l2 : w1.heap.size ≤ g2) (b2 : Below w1.heap.size w1 w2) (s3 : Sk (tabT 0 0 0) w3 g3 []) (l3 : w2.heap.size ≤ g3) (b3 : Below w2.heap.size w2 w3) (hb : Below w0.heap.size w0 w1)
    (hR : Kd.R (Kd.fixed k58 w0) 58 w1 w0.heap.size (fun _ => True) (.slice A m c) L) (hm : L.length = m) : S3 w0 w3 g1 g2 g3 [] [] [] ⟨[], 0, 0, 0⟩ ⟨[], 0, 0, 0⟩ ⟨[], 0, 0, 0⟩ A m c L 0 := by
  have mm : ∀ {g k : Nat}, k ∈ fp g [] → k = g := fun hk => by rw [fp_mem] at hk; simpa using hk
  have q1 := s1.lt g1 (fp_mem.mpr (.inl rfl))
  have q2 := s2.lt g2 (fp_mem.mpr (.inl rfl))
  have z1 := hb.size
  have z2 := b2.size
  have gd : Good ⟨[], 0, 0, 0⟩ := ⟨List.Pairwise.nil, rfl⟩
  have sm : Small ⟨[], 0, 0, 0⟩ 0 := ⟨by simp, by simp, by simp, fun p hp => by simp at hp⟩
  refine ⟨⟨(s1.below b2).below b3, rfl, fun k hk => by rw [mm hk]; exact l1, gd, sm⟩, ⟨s2.below b3, rfl, fun k hk => by rw [mm hk]; omega, gd, sm⟩, ⟨s3, rfl, fun k hk => by rw [mm hk]; omega, gd, sm⟩, fun k hk hk2 => ?_, fun k hk hk2 => ?_, fun k hk hk2 => ?_, Kd.R_below (Kd.R_below hR b2) b3, hm, below_step (below_step hb b2) b3⟩
  · have e1 := mm hk; have e2 := mm hk2; omega
  · have e1 := mm hk; have e2 := mm hk2; omega
  · have e1 := mm hk; have e2 := mm hk2; omega
end
/-- The first i batches. -/
def batN (ls : List (List S72)) (i : Nat) : List S58 := (List.range i).map fun j => ⟨(seqN ls j : Int), ls.getD j []⟩
theorem batN_len (ls : List (List S72)) (i : Nat) : (batN ls i).length = i := by simp [batN]
theorem batN_succ (ls : List (List S72)) (i : Nat) : batN ls (i + 1) = batN ls i ++ [⟨(seqN ls i : Int), ls.getD i []⟩] := by simp [batN, List.range_succ]
theorem batN_get (ls : List (List S72)) {i m : Nat} (h : i < m) : (batN ls m).getD i z58 = ⟨(seqN ls i : Int), ls.getD i []⟩ := by
  rw [List.getD_eq_getElem?_getD]
  simp [batN, h]
theorem check_next {n : Int} {l : List S72} (h : checkS n l = 0) (hn : n + (l.length : Int) ≤ 72057594037927936) : ∃ k, freshetref06_Next.f k n l = some (n + (l.length : Int)) := by
  obtain ⟨h1, h2, h3, h4⟩ := check_ok' h
  obtain ⟨k, hk⟩ := (ev_rCheck n l (by omega)).rounds
  refine ⟨k, ?_⟩
  rw [freshetref06_Next.f, hk, h]
  show (if (0 : Int) = 0 then some (IntKind.u64.wrap (n + IntKind.u64.wrap (l.length : Int))) else some 0) = _
  rw [if_pos rfl, IntKind.wrap_u64, IntKind.wrap_u64]
  congr 1
  omega
end Go.Proofs.Ytfemebenkbobnaa.SM
