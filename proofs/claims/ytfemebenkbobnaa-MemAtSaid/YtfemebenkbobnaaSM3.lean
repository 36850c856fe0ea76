import Derived.Test.YtfemebenkbobnaaSM2
/- Walks of the skip list: Steps, Put. Conditions: its nodes fit in 62 bits. -/
namespace Go.Proofs.Ytfemebenkbobnaa.SM
set_option linter.unusedVariables false
set_option linter.unusedSimpArgs false
open Go.RowKit Go.Proofs.YtfemebenkbobnaaW.PrintWords Go.Proofs.YtfemebenkbobnaaW.PrintLast Go.Proofs.YtfemebenkbobnaaW.PrintMore Go.Proofs.Ytfemebenkbobnaa.PB06
variable {TL : Tl}
attribute [local go_sem] max2_int min2_int max_two min_two max_three min_three max_four min_four
theorem found_one {g : Nat} {key : ByteArray} {seq : Int} {rs : List Nd} {bs : List Value} (hl : bs.length = 12) (h : ∀ j, j < 12 → ∃ v, bs[j]? = some v ∧ Found g key seq rs j v) : bs.toArray.all (·.oneCell') = true := by
  rw [Array.all_eq_true_iff_forall_mem]
  intro v hv
  obtain ⟨j, hj⟩ := List.mem_iff_getElem?.mp (List.mem_toArray.mp hv)
  obtain ⟨u, h1, _, _, _, rfl, _⟩ := h j (by have := (List.getElem?_eq_some_iff.mp hj).1; omega)
  rw [h1] at hj; cases hj; rfl
set_option maxHeartbeats 8000000 in
set_option maxRecDepth 100000 in
theorem steps_calls (w : World) (g : Nat) (ln ht : Int) (rs : List Nd) (key : ByteArray) (seq : Int) (h : SL TL w g ln ht rs) (hf : Front key seq rs) (hlen : rs.length ≤ 4611686018427387904) : Calls Try.prog 24 #[.pointer (some ⟨g, 0, none⟩), .string key, .int .u64 seq] w fun e w' =>
    e = .returned (.int .i64 (stepsN 12 (hts key seq rs))) ∧ Below w.heap.size w w' := by
  have HS := Aside0.mk h
  have HF := Aside0.mk hf
  have HN := Aside0.mk hlen
  have HB := Aside0.mk (Below.refl w.heap.size w)
  clear h hf hlen
  go_enter Try.func24, Try.ntmps24
  go_wp2_with (first | ((with_reducible refine gate_callee (f := 64) rfl ?_); refine goesL_ (some 15) rfl rfl Try.func64 (by kernel_rfl) rfl #[.pointer (some ⟨g, 0, none⟩), .string key, .int .u64 seq] rfl (by (try simp only [List.map_toArray, List.map_cons, List.map_nil]); first | done | rfl) ?_; (with_reducible refine (search_calls _ g ln ht rs key seq HS.out HF.out HN.out).mono ?_); rintro e w3 ⟨bs, rfl, hl, hfd, hb⟩; refine ⟨_, rfl, ?_⟩; have HL := Aside0.mk hl; have HX := Aside0.mk hfd; have n0_ := Aside0.mk (below_step HB.out hb); clear HB hb hl hfd; have HB := n0_; clear n0_) | ((with_reducible refine gate_dst (N := 7) rfl ?_); refine box_event ?hg (N := 7) ?hd (cs := #[.pointer none, .pointer none, .pointer none, .pointer none, .pointer none, .pointer none, .pointer none, .pointer none, .pointer none, .pointer none, .pointer none, .pointer none]) (t := 30) ?hr ?_; (case hd => rfl); (case hg => rfl); (case hr => first | (go_simp; done) | (go_simp; rfl)); intro gb hg w4 hbox hb; have n0_ := Aside0.mk (below_step HB.out hb); have n1_ := Aside0.mk hbox; have GE := Aside0.mk (by rw [hg]; exact below_size HB.out : w.heap.size ≤ gb); clear HB; have HB := n0_; have BK := n1_; clear n0_ n1_; clear hb hbox hg) | (refine st_arr rfl 30 _ _ rfl gb 30 ?hx bs.toArray ?hy _ BK.out (by rw [size30]; simp [HL.out]) (by simp [HL.out]) (found_one HL.out HX.out) ?_; (case hx => rfl); (case hy => rfl); intro w5 hb5 hbb hk5 hs5; have n1_ := Aside0.mk (hbb _ _ HB.out GE.out); clear HB; have HB := n1_; clear n1_ hb5 hbb hk5 hs5))
  go_ret
  exact ⟨rfl, HB.out⟩
theorem steps_nil (w : World) (key : ByteArray) (seq : Int) : Calls Try.prog 24 #[.pointer none, .string key, .int .u64 seq] w fun e w' => e = .returned (.int .i64 0) ∧ Below w.heap.size w w' := by
  go_enter Try.func24, Try.ntmps24
  go_wp2
  go_ret
  exact ⟨rfl, Below.refl _ _⟩
end Go.Proofs.Ytfemebenkbobnaa.SM
