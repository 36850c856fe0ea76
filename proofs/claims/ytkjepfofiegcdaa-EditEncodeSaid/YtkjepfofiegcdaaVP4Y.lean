import Derived.Test.YtkjepfofiegcdaaVP2Y
import Derived.Test.YtkjepfofiegcdaaPE3Y
/- The reference's Encode, in the plain and as a contract: it writes what edit.Encode writes. Conditions: the numbers are such as the machine has. -/
namespace Go.Proofs.Ytkjepfofiegcdaa.V
set_option linter.unusedVariables false
set_option linter.unusedSimpArgs false
open Go.RowKit Go.Proofs.YtkjepfofiegcdaaW.PrintWords Go.Proofs.YtkjepfofiegcdaaW.PrintLast Go.Proofs.YtkjepfofiegcdaaW.PrintMore Go.Proofs.Ytkjepfofiegcdaa.PB14
open H (putL)
theorem ev_p (x : Int) (h : U64 x) : Ev (fun k => freshetref02_PutUint.f k x) (bA (putL x.toNat)) := by
  have h1 := ev_rPutUint x.toNat (nat_u h.1 h.2)
  rw [show ((x.toNat : Nat) : Int) = x from Int.toNat_of_nonneg h.1] at h1
  exact h1
theorem ev_pw (x : Int) (h : U64 x) : Ev (fun k => freshetref02_PutUint.f k (IntKind.u64.wrap x)) (bA (putL x.toNat)) := by
  rw [h.wrap]
  exact ev_p x h
theorem p_len (x : Int) (h : U64 x) : (putL x.toNat).length ≤ 10 := putL_le _ (nat_u h.1 h.2)
theorem w64 {i : Nat} (h : i ≤ 1000000) : wrap64 ((i : Int) + 1) = ((i + 1 : Nat) : Int) := by unfold wrap64; omega
theorem gBys_drop {l : List S84} {i : Nat} (h : i < l.length) : gBys (l.drop i) = gBy (l.getD i z84) ++ gBys (l.drop (i + 1)) := by
  rw [List.drop_eq_getElem_cons h, gBys]
  simp [h]
theorem aBys_drop {l : List S82} {i : Nat} (h : i < l.length) : aBys (l.drop i) = aBy (l.getD i z82) ++ aBys (l.drop (i + 1)) := by
  rw [List.drop_eq_getElem_cons h, aBys]
  simp [h]
theorem ev_renc1 (lg nx sq : Int) (g : List S84) (l : List S82) (hb : ∀ x, x ∈ l → addOk x) (hlen : l.length ≤ 256) : ∀ c i (acc : List UInt8), i + c = l.length → acc.length + 1120 * c ≤ 1000000000 →
    Ev (fun k => freshetref14_Encode.l1 k (bA acc) (i : Int) lg nx sq g l) (bA (acc ++ aBys (l.drop i)), 0)
  | 0, i, acc, hi, ha => by
    refine Ev.step (f := fun _ => some (bA acc, 0)) (fun k => ?_) ?_
    · rw [freshetref14_Encode.l1, if_neg (by omega)]
    · rw [List.drop_eq_nil_of_le (by omega), aBys, List.append_nil]
      exact Ev.now _
  | c + 1, i, acc, hi, ha => by
    have hk : i < l.length := by omega
    have ih := ev_renc1 lg nx sq g l hb hlen c (i + 1) (acc ++ aBy (l.getD i z82)) (by omega) (by have h9 := aBy_len (hb _ (getD_mem l z82 hk)); rw [List.length_append, aBy, List.length_append, List.length_append]; omega)
    have hx := add_nums (hb _ (getD_mem l z82 hk))
    rw [aBys_drop hk, ← List.append_assoc]
    have er : rd_T82 l (i : Int) = l.getD i z82 := by unfold rd_T82; rw [Int.toNat_natCast]
    refine Ev.step (fun k => by rw [freshetref14_Encode.l1, if_pos (show (i : Int) < (l.length : Int) by omega), if_pos (show 0 ≤ (i : Int) by omega), er]) ?_
    generalize l.getD i z82 = x at *
    have q0 := p_len _ hx.1
    have q1 := p_len _ hx.2.1
    have q2 := p_len _ hx.2.2.1
    have q3 := p_len _ hx.2.2.2.1
    have q4 := fieldL_len x.f1.f3 (by omega)
    have q5 := fieldL_len x.f1.f4 (by omega)
    have q6 := p_len _ hx.2.2.2.2.1
    have q7 := p_len _ hx.2.2.2.2.2.1
    refine Ev.bind (ev_pw x.f0 hx.1) ?_
    have c0 : (acc).length + (putL x.f0.toNat).length ≤ 9223372036854775807 := by (try simp only [List.length_append]); omega
    simp only [bA_append, bA_size, if_pos c0]
    refine Ev.bind (ev_p x.f1.f0 hx.2.1) ?_
    have c1 : (acc ++ putL x.f0.toNat).length + (putL x.f1.f0.toNat).length ≤ 9223372036854775807 := by (try simp only [List.length_append]); omega
    simp only [bA_append, bA_size, if_pos c1]
    refine Ev.bind (ev_pw x.f1.f1 hx.2.2.1) ?_
    have c2 : (acc ++ putL x.f0.toNat ++ putL x.f1.f0.toNat).length + (putL x.f1.f1.toNat).length ≤ 9223372036854775807 := by (try simp only [List.length_append]); omega
    simp only [bA_append, bA_size, if_pos c2]
    refine Ev.bind (ev_pw x.f1.f2 hx.2.2.2.1) ?_
    have c3 : (acc ++ putL x.f0.toNat ++ putL x.f1.f0.toNat ++ putL x.f1.f1.toNat).length + (putL x.f1.f2.toNat).length ≤ 9223372036854775807 := by (try simp only [List.length_append]); omega
    simp only [bA_append, bA_size, if_pos c3]
    refine Ev.bind (ev_rPutField x.f1.f3 (by omega)) ?_
    have c4 : (acc ++ putL x.f0.toNat ++ putL x.f1.f0.toNat ++ putL x.f1.f1.toNat ++ putL x.f1.f2.toNat).length + (fieldL x.f1.f3).length ≤ 9223372036854775807 := by (try simp only [List.length_append]); omega
    simp only [bA_append, bA_size, if_pos c4]
    refine Ev.bind (ev_rPutField x.f1.f4 (by omega)) ?_
    have c5 : (acc ++ putL x.f0.toNat ++ putL x.f1.f0.toNat ++ putL x.f1.f1.toNat ++ putL x.f1.f2.toNat ++ fieldL x.f1.f3).length + (fieldL x.f1.f4).length ≤ 9223372036854775807 := by (try simp only [List.length_append]); omega
    simp only [bA_append, bA_size, if_pos c5]
    refine Ev.bind (ev_p x.f1.f5 hx.2.2.2.2.1) ?_
    have c6 : (acc ++ putL x.f0.toNat ++ putL x.f1.f0.toNat ++ putL x.f1.f1.toNat ++ putL x.f1.f2.toNat ++ fieldL x.f1.f3 ++ fieldL x.f1.f4).length + (putL x.f1.f5.toNat).length ≤ 9223372036854775807 := by (try simp only [List.length_append]); omega
    simp only [bA_append, bA_size, if_pos c6]
    refine Ev.bind (ev_p x.f1.f6 hx.2.2.2.2.2.1) ?_
    have c7 : (acc ++ putL x.f0.toNat ++ putL x.f1.f0.toNat ++ putL x.f1.f1.toNat ++ putL x.f1.f2.toNat ++ fieldL x.f1.f3 ++ fieldL x.f1.f4 ++ putL x.f1.f5.toNat).length + (putL x.f1.f6.toNat).length ≤ 9223372036854775807 := by (try simp only [List.length_append]); omega
    simp only [bA_append, bA_size, if_pos c7]
    rw [w64 (by omega)]
    have ee : acc ++ putL x.f0.toNat ++ putL x.f1.f0.toNat ++ putL x.f1.f1.toNat ++ putL x.f1.f2.toNat ++ fieldL x.f1.f3 ++ fieldL x.f1.f4 ++ putL x.f1.f5.toNat ++ putL x.f1.f6.toNat = acc ++ aBy x := by
      simp [aBy, aBy1, aBy2, aBy3, putsL]
    rw [ee]
    exact ih
theorem ev_renc0 (lg nx sq : Int) (g : List S84) (l : List S82) (hg : ∀ x, x ∈ g → U64 x.f0 ∧ U64 x.f1) (hglen : g.length ≤ 256) (hb : ∀ x, x ∈ l → addOk x) (hlen : l.length ≤ 256) : ∀ c i (acc : List UInt8), i + c = g.length → acc.length + 20 * c ≤ 1000000 →
    Ev (fun k => freshetref14_Encode.l0 k (bA acc) (i : Int) lg nx sq g l) (bA (acc ++ gBys (g.drop i) ++ (putsL [(l.length : Int)] ++ aBys l)), 0)
  | 0, i, acc, hi, ha => by
    rw [List.drop_eq_nil_of_le (by omega), gBys, List.append_nil]
    refine Ev.step (fun k => by rw [freshetref14_Encode.l0, if_neg (show ¬ ((i : Int) < (g.length : Int)) by omega)]) ?_
    have q0 := p_len (l.length : Int) ⟨by omega, by omega⟩
    refine Ev.bind (ev_pw (l.length : Int) ⟨by omega, by omega⟩) ?_
    have c0 : (acc).length + (putL ((l.length : Int)).toNat).length ≤ 9223372036854775807 := by (try simp only [List.length_append]); omega
    simp only [bA_append, bA_size, if_pos c0]
    have h9 := ev_renc1 lg nx sq g l hb hlen l.length 0 (acc ++ putL ((l.length : Int)).toNat) (by omega) (by rw [List.length_append]; omega)
    rw [List.drop_zero] at h9
    rw [putsL, putsL, List.append_nil, ← List.append_assoc]
    exact h9
  | c + 1, i, acc, hi, ha => by
    have hk : i < g.length := by omega
    have hx := hg _ (getD_mem g z84 hk)
    have ih := ev_renc0 lg nx sq g l hg hglen hb hlen c (i + 1) (acc ++ gBy (g.getD i z84)) (by omega) (by have h9 := gBy_len hx.1 hx.2; rw [List.length_append]; omega)
    rw [gBys_drop hk, ← List.append_assoc acc]
    have er : rd_T84 g (i : Int) = g.getD i z84 := by unfold rd_T84; rw [Int.toNat_natCast]
    refine Ev.step (fun k => by rw [freshetref14_Encode.l0, if_pos (show (i : Int) < (g.length : Int) by omega), if_pos (show 0 ≤ (i : Int) by omega), er]) ?_
    generalize g.getD i z84 = x at *
    have q0 := p_len _ hx.1
    have q1 := p_len _ hx.2
    refine Ev.bind (ev_pw x.f0 hx.1) ?_
    have c0 : (acc).length + (putL x.f0.toNat).length ≤ 9223372036854775807 := by (try simp only [List.length_append]); omega
    simp only [bA_append, bA_size, if_pos c0]
    refine Ev.bind (ev_p x.f1 hx.2) ?_
    have c1 : (acc ++ putL x.f0.toNat).length + (putL x.f1.toNat).length ≤ 9223372036854775807 := by (try simp only [List.length_append]); omega
    simp only [bA_append, bA_size, if_pos c1]
    rw [w64 (by omega)]
    have ee : acc ++ putL x.f0.toNat ++ putL x.f1.toNat = acc ++ gBy x := by
      simp [gBy, putsL]
    rw [ee]
    exact ih
theorem ev_rEncode (e : Edt) (hu : EU e) : Ev (fun k => freshetref14_Encode.f k e.log e.next e.seq e.gone e.added) (encV e) := by
  by_cases hl : listedP e
  · have j0t : Ev (fun k => freshetref14_Encode.j0 k true e.log e.next e.seq e.gone e.added) (⟨#[]⟩, 3) := Ev.step (f := fun _ => some (⟨#[]⟩, 3)) (fun k => by rw [freshetref14_Encode.j0, if_pos rfl]) (Ev.now _)
    have h0 : ∀ k, freshetref14_Encode.f k e.log e.next e.seq e.gone e.added = if (e.gone.length : Int) > 256 then (freshetref14_Encode.j0 k true e.log e.next e.seq e.gone e.added) else (freshetref14_Encode.j0 k (decide ((e.added.length : Int) > 256)) e.log e.next e.seq e.gone e.added) := fun k => by
      have hd : decide (V.listedP ⟨e.log, e.next, e.seq, e.gone, e.added⟩) = true := decide_eq_true hl
      rw [freshetref14_Encode.f, freshetref14_listed.f, hd, Option.bind_some, if_pos rfl]
    by_cases hg : 256 < e.gone.length
    · rw [show encV e = (⟨#[]⟩, 3) by unfold encV; rw [if_pos hl, if_pos (.inl hg)]]
      exact Ev.congr (fun k => by rw [h0, if_pos (by omega)]) j0t
    · by_cases ha : 256 < e.added.length
      · rw [show encV e = (⟨#[]⟩, 3) by unfold encV; rw [if_pos hl, if_pos (.inr ha)]]
        exact Ev.congr (fun k => by rw [h0, if_neg (by omega), decide_eq_true (show (e.added.length : Int) > 256 by omega)]) j0t
      · rw [show encV e = (bA (encB e), 0) by unfold encV; rw [if_pos hl, if_neg (by omega)]]
        refine Ev.congr (fun k => by rw [h0, if_neg (by omega), decide_eq_false (show ¬ (e.added.length : Int) > 256 by omega)]) ?_
        refine Ev.step (fun k => by rw [freshetref14_Encode.j0, if_neg (show ¬ (false = true) by decide)]) ?_
        have q0 := p_len _ hu.1.1
        have q1 := p_len _ hu.1.2.1
        have q2 := p_len _ hu.1.2.2
        have q3 := p_len (e.gone.length : Int) ⟨by omega, by omega⟩
        refine Ev.bind (ev_p e.log hu.1.1) ?_
        refine Ev.bind (ev_p e.next hu.1.2.1) ?_
        have c1 : (putL e.log.toNat).length + (putL e.next.toNat).length ≤ 9223372036854775807 := by (try simp only [List.length_append]); omega
        simp only [bA_append, bA_size, if_pos c1]
        refine Ev.bind (ev_p e.seq hu.1.2.2) ?_
        have c2 : (putL e.log.toNat ++ putL e.next.toNat).length + (putL e.seq.toNat).length ≤ 9223372036854775807 := by (try simp only [List.length_append]); omega
        simp only [bA_append, bA_size, if_pos c2]
        refine Ev.bind (ev_pw (e.gone.length : Int) ⟨by omega, by omega⟩) ?_
        have c3 : (putL e.log.toNat ++ putL e.next.toNat ++ putL e.seq.toNat).length + (putL ((e.gone.length : Int)).toNat).length ≤ 9223372036854775807 := by (try simp only [List.length_append]); omega
        simp only [bA_append, bA_size, if_pos c3]
        have h9 := ev_renc0 e.log e.next e.seq e.gone e.added (fun x hx => ⟨⟨(hl.1 x hx).1, by have := (hl.1 x hx).2; omega⟩, hu.2 x hx⟩) (by omega) hl.2 (by omega) e.gone.length 0 (putL e.log.toNat ++ putL e.next.toNat ++ putL e.seq.toNat ++ putL ((e.gone.length : Int)).toNat) (by omega) (by simp only [List.length_append]; omega)
        rw [List.drop_zero] at h9
        have ee : encB e = putL e.log.toNat ++ putL e.next.toNat ++ putL e.seq.toNat ++ putL ((e.gone.length : Int)).toNat ++ gBys e.gone ++ (putsL [(e.added.length : Int)] ++ aBys e.added) := by
          simp [encB, putsL]
        rw [ee]
        exact h9
  · rw [show encV e = (⟨#[]⟩, 2) by unfold encV; rw [if_neg hl]]
    refine Ev.congr (f := fun _ => some (⟨#[]⟩, 2)) (fun k => ?_) (Ev.now _)
    have hd : decide (V.listedP ⟨e.log, e.next, e.seq, e.gone, e.added⟩) = false := decide_eq_false hl
    rw [freshetref14_Encode.f, freshetref14_listed.f, hd, Option.bind_some, if_neg (by decide)]
theorem encodeR_calls (w : World) (e : Edt) (A1 A2 : Option Addr) (c1 c2 : Nat) (h1 : k84.C w A1 e.gone.length e.gone) (h2 : k82.C w A2 e.added.length e.added) (hc1 : e.gone.length ≤ c1) (hc2 : e.added.length ≤ c2) (hu : EU e) :
    Calls Try.prog 58 #[.agg (eCs e A1 c1 A2 c2)] w fun x w' => x = .returned (.tuple #[.string (encV e).1, .int .i64 (encV e).2]) ∧ Below w.heap.size w w' := by
  obtain ⟨k, hk⟩ := (ev_rEncode e hu).rounds
  exact freshetref14_Encode.calls k e.log e.next e.seq A1 c1 e.gone A2 c2 e.added _ _ w h1 hc1 h2 hc2 hk
end Go.Proofs.Ytkjepfofiegcdaa.V
