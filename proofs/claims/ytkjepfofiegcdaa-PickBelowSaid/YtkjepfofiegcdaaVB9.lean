import Derived.Test.YtkjepfofiegcdaaVB8
import Derived.WalkSpells
/- slices.Clone at tables, walked. Conditions: at most 10 to the 9th rows. -/
namespace Go.Proofs.Ytkjepfofiegcdaa.V
set_option linter.unusedVariables false
set_option linter.unusedSimpArgs false
open Go.RowKit Go.Proofs.YtkjepfofiegcdaaW.PrintWords Go.Proofs.YtkjepfofiegcdaaW.PrintLast Go.Proofs.YtkjepfofiegcdaaW.PrintMore Go.Proofs.Ytkjepfofiegcdaa.PB14
set_option maxHeartbeats 4000000 in
set_option maxRecDepth 100000 in
theorem clone_calls (w : World) (A : Option Addr) (c : Nat) (xs : List S58) (hC : k58.C w A xs.length xs) (hc : xs.length ≤ c) (hl : xs.length ≤ 1000000000) : Calls Try.prog 101 #[.slice A xs.length c] w fun e w' => ∃ v, e = .returned v ∧ Kd.R k58 58 w' w.heap.size (fun _ => True) v xs ∧ Below w.heap.size w w' := by
  have HC := Aside0.mk hC
  have HL := Aside0.mk hl
  have HCc := Aside0.mk hc
  clear hC hl hc
  have HB := Aside0.mk (Below.refl w.heap.size w)
  have hnil := Lib.run_eql_slice_nil (P := Try.prog) w 23 58 A xs.length c 0 0 Try.underlying23
  cases A with
  | none =>
    have h0 : xs = [] := by
      rcases Nat.eq_zero_or_pos xs.length with h | h
      · exact List.eq_nil_of_length_eq_zero h
      · obtain ⟨ad, hh, _⟩ := HC.out.2.2 h
        cases hh
    subst h0
    have hnil0 := Lib.run_eql_slice_nil (P := Try.prog) w 23 58 none 0 c 0 0 Try.underlying23
    go_enter Try.func101, Try.ntmps101
    go_wp2_with fail
    go_ret
    exact ⟨_, rfl, Kd.R_nil _ _ _ _ _, Below.refl _ _⟩
  | some ad =>
    go_enter Try.func101, Try.ntmps101
    go_wp2_with (first | ((with_reducible refine gate_dst (N := 5) rfl ?_); refine Kd.R_lit k58 (w0 := w) w.heap.size 58 ?hgd (N := 5) ?hd (xs := ([] : List S58)) (inner := []) (ok := fun _ => True) (okp := fun _ => True) ?hr ?hp (fun _ hk => hk) trivial HB.out (Nat.le_refl _) (by simp) ?_; (case hd => rfl); (case hgd => rfl); (case hr => first | (go_simp; done) | (go_simp; rfl)); (case hp => exact (Reps.none _ _)); intro v5 w5 ho hb hg_ hnew_; have HO := Aside0.mk ho; have n0_ := Aside0.mk (Kd.C_below HC.out hb); clear HB HC hg_ hnew_; have HB := Aside0.mk hb; have HC := n0_; clear ho hb n0_) | ((with_reducible refine gate_builtin (b := .append) (xs := #[.tmp 5, .tmp 6]) rfl ?_); at_builtin; refine Kd.R_append_rows k58 (Rr := k58.K w5) (w0 := w) w.heap.size rfl (.tmp 5) (.tmp 6) 23 58 (.agg #[(.int .u64 0), (.int .i64 0), (.int .i64 0), (.string ⟨#[]⟩), (.string ⟨#[]⟩), (.int .u64 0), (.int .u64 0)]) 72 rfl Try.underlying23 info58 rfl (show 0 < 7 by decide) (show 0 < 72 by decide) v5 [] xs (some ad) xs.length c (fun _ => True) (fun _ => False) rfl rfl ?aO ?aR ?aM (fun _ h => h.elim) ?aF ?aB ?aS ?aL ?_; (case aR => exact HC.out); (case aM => (intro x cs hk; obtain rfl := k58_open hk; exact k58_mkM _ _ _ x)); (case aB => exact HB.out); (case aF => exact (fun _ _ => trivial)); (case aO => exact HO.out); (case aS => exact HB.out.size); (case aL => (have h1 := HL.out; simp; omega)); intro v7 w7 ho hb hg hat; rw [List.nil_append] at ho; clear HO HB hg hat; have HO := Aside0.mk ho; have HB := Aside0.mk hb; clear ho hb) | fail)
    go_ret
    exact ⟨_, rfl, HO.out, HB.out⟩
end Go.Proofs.Ytkjepfofiegcdaa.V
