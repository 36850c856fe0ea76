import Derived.Test.YtkjepfofiegcdaaPB140
import Derived.SizedLaws
import Derived.WideShapes
import Derived.Deep.Slices
import Derived.Deep.Strs
import Derived.ChangeSame
import Derived.DataReads
/- Opening of a law's argument: what the handed-in data reads (trod) gives the word's own facts (Kd.K, Kd.C), for ints, strings, structs and slices of these. -/
namespace Go.Proofs.Ytkjepfofiegcdaa.H
open Go.RowKit Go.Proofs.YtkjepfofiegcdaaW.PrintWords
section
variable {H : Type} {enc : TypeId × Value → H} {P : Program} {w : World} {base : Nat} {spare : Nat → Bool} {held : Bool}
theorem trod_int {t : TypeId} {k : IntKind} {fuel : Nat} {cs : List Value} {x : DataW H × List MemPlace} (ht : P.underlying t = some (.int k)) (h : DataW.trod enc P w base spare held fuel t cs = some x) :
    ∃ n, cs = [.int k n] ∧ (Lit.int k n).wf = true ∧ x = (.lit (.int k n), []) := by
  cases fuel with
  | zero => simp [DataW.trod] at h
  | succ m =>
    unfold DataW.trod at h
    rw [ht] at h
    split at h <;> simp_all
theorem trod_string {t : TypeId} {fuel : Nat} {cs : List Value} {x : DataW H × List MemPlace} (ht : P.underlying t = some .string) (h : DataW.trod enc P w base spare held fuel t cs = some x) :
    ∃ s : ByteArray, cs = [.string s] ∧ s.size ≤ maxLen ∧ x = (.lit (.string s.data.toList), []) := by
  cases fuel with
  | zero => simp [DataW.trod] at h
  | succ m =>
    unfold DataW.trod at h
    rw [ht] at h
    split at h <;> simp_all
/-- every weight of a datum is within reach -/
def Fit (P : Program) (t : TypeId) (d : DataW H) : Prop := ∀ n, n ∈ d.weights P t → n ≤ reachBytes
theorem fit_string {t : TypeId} {s : List UInt8} (h : Fit P t (.lit (.string s) : DataW H)) : s.length ≤ reachBytes := h _ (by simp [DataW.weights])
theorem fit_each : ∀ {ts : List TypeId} {ds : List (DataW H)}, (∀ n, n ∈ DataW.weightsEach P ts ds → n ≤ reachBytes) → ∀ (j : Nat) (t : TypeId) (d : DataW H), ts[j]? = some t → ds[j]? = some d → Fit P t d :=
  fun h _ _ _ ht hd n hn => h n (DataW.weights_mem_each ht hd n hn)
theorem fit_struct {t : TypeId} {fs : Array Field} {ds : List (DataW H)} (ht : P.underlying t = some (.struct fs)) (h : Fit P t (.agg ds : DataW H)) : ∀ (j : Nat) (f : Field) (d : DataW H), fs[j]? = some f → ds[j]? = some d → Fit P f.type d := by
  intro j f d hf hd
  refine fit_each (ts := fs.toList.map (·.type)) (ds := ds) (fun n hn => h n (by simp only [DataW.weights, ht]; exact hn)) j f.type d ?_ hd
  rw [List.getElem?_map, Array.getElem?_toList, hf]; rfl
theorem weights_all {e : TypeId} : ∀ {ds : List (DataW H)} {d : DataW H}, d ∈ ds → ∀ n, n ∈ d.weights P e → n ∈ DataW.weightsAll P e ds
  | a :: l, d, hd, n, hn => by
    simp only [DataW.weightsAll, List.mem_append]
    rcases List.mem_cons.mp hd with rfl | h
    · exact Or.inl hn
    · exact Or.inr (weights_all h n hn)
theorem fit_slice {t e : TypeId} {ds sp : List (DataW H)} (ht : P.underlying t = some (.slice e)) (h : Fit P t (.slice ds sp : DataW H)) : (ds.length + sp.length) * P.bytesOf e ≤ reachBytes ∧ ∀ d, d ∈ ds → Fit P e d := by
  refine ⟨h _ (by simp [DataW.weights, ht]), fun d hd n hn => h n ?_⟩
  simp only [DataW.weights, ht, List.mem_cons, List.mem_append]
  exact Or.inr (Or.inl (weights_all hd n hn))
theorem row_of_index {α : Type} {n : Nat} {p : Nat → α → Prop} (h : ∀ i, i < n → ∃ x, p i x) : ∃ xs : List α, xs.length = n ∧ ∀ i x, xs[i]? = some x → p i x := by
  induction n with
  | zero => exact ⟨[], rfl, fun i x hx => by simp at hx⟩
  | succ n ih =>
    obtain ⟨xs, hl, hx⟩ := ih (fun i hi => h i (Nat.lt_succ_of_lt hi))
    obtain ⟨a, ha⟩ := h n (Nat.lt_succ_self n)
    refine ⟨xs ++ [a], by simp [hl], fun i x hi => ?_⟩
    rcases Nat.lt_or_ge i n with h1 | h1
    · rw [List.getElem?_append_left (by omega)] at hi
      exact hx i x hi
    · rw [List.getElem?_append_right (by omega), hl] at hi
      have : i = n := by
        have := List.getElem?_eq_some_iff.mp hi
        obtain ⟨h2, _⟩ := this
        simp at h2
        omega
      subst this
      simp at hi
      subst hi
      exact ha
theorem trod_row {α : Type} (d : Kd α) (q : α → Prop) {t e : TypeId} {fuel : Nat} {cs : List Value} {x : DataW H × List MemPlace} (ht : P.underlying t = some (.slice e)) (hsz : P.cellsOf e = d.sz)
    (hel : ∀ n cs x, DataW.trod enc P w base spare held n e cs = some x → Fit P e x.1 → ∃ a, d.K w a cs ∧ q a) (hz : Fit P t x.1) (h : DataW.trod enc P w base spare held fuel t cs = some x) :
    ∃ A c xs, cs = [.slice A xs.length c] ∧ xs.length ≤ c ∧ c ≤ maxLen ∧ xs.length * P.bytesOf e ≤ reachBytes ∧ d.C w A xs.length xs ∧ ∀ a, a ∈ xs → q a := by
  rcases Go.Deep.open_slice ht h with ⟨rfl, _⟩ | ⟨a, len, cap, m, n, D, Pl, rfl, hb, hl, hm, hM, hxx, hi⟩
  · exact ⟨none, 0, [], rfl, by simp, by simp, by simp, ⟨rfl, by simp, fun hh => by simp at hh⟩, fun a ha => by simp at ha⟩
  · rw [hxx] at hz
    obtain ⟨hz1, hz2⟩ := fit_slice ht hz
    have hml : len ≤ m := by rw [hM]; split <;> omega
    obtain ⟨xs, hx, hp⟩ := row_of_index (n := len) (p := fun i a' => q a' ∧ ∃ c, c.length = d.sz ∧ d.K w a' c ∧ ∀ j u, c[j]? = some u → w.cell? (a.add (i * d.sz + j)) = some u) (fun i hlt => by
      obtain ⟨cs', h1, h2⟩ := hi i (by omega)
      obtain ⟨a', hK, hq⟩ := hel _ _ _ h2 (hz2 _ (List.mem_map.mpr ⟨i, List.mem_range.mpr hlt, rfl⟩))
      refine ⟨a', hq, cs', d.K_len hK, hK, fun j u hj => ?_⟩
      rw [hsz] at h1
      obtain ⟨_, hcl, hc⟩ := World.cells?_some h1
      have hjl : j < cs'.length := (List.getElem?_eq_some_iff.mp hj).1
      have := hc j (by omega)
      rw [Go.Deep.add_add] at this
      rw [this, hj])
    have hmax : maxLen = 9223372036854775807 := rfl
    have hC : d.C w (some a) xs.length xs := ⟨rfl, by omega, fun _ => ⟨a, rfl, fun j p hj => (by
      obtain ⟨_, c, h1, h2, h3⟩ := hp j p hj
      exact ⟨c, h1, h2, h3⟩)⟩⟩
    refine ⟨some a, cap, xs, by rw [hx], by omega, hm, ?_, hC, fun a' ha => ?_⟩
    · refine Nat.le_trans (Nat.mul_le_mul_right _ ?_) hz1
      simp only [List.length_map, List.length_range]
      omega
    · obtain ⟨i, hi'⟩ := List.mem_iff_getElem?.mp ha
      exact (hp i a' hi').1
end
section
variable {H : Type} {enc : TypeId × Value → H} {w : World} {base : Nat} {spare : Nat → Bool} {held : Bool}
open Go.Proofs.Ytkjepfofiegcdaa.PB14
theorem trod_struct7 {P : Program} {t : TypeId} {f0 f1 f2 f3 f4 f5 f6 : Field} {fuel : Nat} {cs : List Value} {x : DataW H × List MemPlace} (ht : P.underlying t = some (.struct #[f0, f1, f2, f3, f4, f5, f6])) (h : DataW.trod enc P w base spare held fuel t cs = some x) :
    ∃ y0 y1 y2 y3 y4 y5 y6 n, (∃ q, x = (.agg [y0.1, y1.1, y2.1, y3.1, y4.1, y5.1, y6.1], q)) ∧ cs.length = P.cellsOf t ∧ DataW.trod enc P w base spare held n f0.type ((cs.drop f0.offset).take (P.cellsOf f0.type)) = some y0 ∧
      DataW.trod enc P w base spare held n f1.type ((cs.drop f1.offset).take (P.cellsOf f1.type)) = some y1 ∧ DataW.trod enc P w base spare held n f2.type ((cs.drop f2.offset).take (P.cellsOf f2.type)) = some y2 ∧ DataW.trod enc P w base spare held n f3.type ((cs.drop f3.offset).take (P.cellsOf f3.type)) = some y3 ∧
      DataW.trod enc P w base spare held n f4.type ((cs.drop f4.offset).take (P.cellsOf f4.type)) = some y4 ∧ DataW.trod enc P w base spare held n f5.type ((cs.drop f5.offset).take (P.cellsOf f5.type)) = some y5 ∧ DataW.trod enc P w base spare held n f6.type ((cs.drop f6.offset).take (P.cellsOf f6.type)) = some y6 := by
  obtain ⟨xs, n, _, rfl, hl, hlen, hf⟩ := DataW.trod_struct ht h
  match xs, hlen with
  | [y0, y1, y2, y3, y4, y5, y6], _ => exact ⟨y0, y1, y2, y3, y4, y5, y6, n, ⟨_, rfl⟩, hl, by simpa using hf 0 f0 rfl, by simpa using hf 1 f1 rfl, by simpa using hf 2 f2 rfl, by simpa using hf 3 f3 rfl, by simpa using hf 4 f4 rfl, by simpa using hf 5 f5 rfl, by simpa using hf 6 f6 rfl⟩
/-- A table's numbers are such as the machine has. -/
def MW (a : S58) : Prop := (Lit.int .u64 a.f0).wf = true ∧ (Lit.int .i64 a.f1).wf = true ∧ (Lit.int .i64 a.f2).wf = true ∧ a.f3.size ≤ reachBytes ∧ a.f4.size ≤ reachBytes ∧ (Lit.int .u64 a.f5).wf = true ∧ (Lit.int .u64 a.f6).wf = true
set_option maxRecDepth 100000 in
theorem trod_58 (n : Nat) (cs : List Value) (x : DataW H × List MemPlace) (h : DataW.trod enc Try.prog w base spare held n 58 cs = some x) (hz : Fit Try.prog 58 x.1) : ∃ a : S58, k58.K w a cs ∧ MW a := by
  obtain ⟨y0, y1, y2, y3, y4, y5, y6, m, ⟨q, rfl⟩, hl, h0, h1, h2, h3, h4, h5, h6⟩ := trod_struct7 Try.underlying58 h
  have e22 : Try.prog.cellsOf 22 = 1 := by kernel_rfl
  have e3 : Try.prog.cellsOf 3 = 1 := by kernel_rfl
  have e9 : Try.prog.cellsOf 9 = 1 := by kernel_rfl
  have e58 : Try.prog.cellsOf 58 = 7 := by kernel_rfl
  rw [e58] at hl
  match cs, hl with
  | [u0, u1, u2, u3, u4, u5, u6], _ =>
    obtain ⟨s0, c0, wf0, _⟩ := trod_int Try.underlying22 h0
    obtain ⟨s1, c1, wf1, _⟩ := trod_int Try.underlying3 h1
    obtain ⟨s2, c2, wf2, _⟩ := trod_int Try.underlying3 h2
    obtain ⟨s3, c3, _, d3⟩ := trod_string Try.underlying9 h3
    obtain ⟨s4, c4, _, d4⟩ := trod_string Try.underlying9 h4
    obtain ⟨s5, c5, wf5, _⟩ := trod_int Try.underlying22 h5
    obtain ⟨s6, c6, wf6, _⟩ := trod_int Try.underlying22 h6
    have z3 := fit_struct Try.underlying58 hz 3 _ _ rfl rfl
    rw [d3] at z3
    have z3' := fit_string z3
    have z4 := fit_struct Try.underlying58 hz 4 _ _ rfl rfl
    rw [d4] at z4
    have z4' := fit_string z4
    simp [e22] at c0 c5 c6
    simp [e3] at c1 c2
    simp [e9] at c3 c4
    subst c0 c1 c2 c3 c4 c5 c6
    exact ⟨⟨s0, s1, s2, s3, s4, s5, s6⟩, k58_mk w ⟨s0, s1, s2, s3, s4, s5, s6⟩, wf0, wf1, wf2, by simpa using z3', by simpa using z4', wf5, wf6⟩
set_option maxRecDepth 100000 in
theorem open_58 {v : Value} {d : DataW H} {p : List MemPlace} {b0 : Nat} (hv : Value.okWide Try.prog w .any b0 58 v) (h : ∃ fuel, DataW.trod enc Try.prog w base spare held fuel 58 v.cells.toList = some (d, p)) (hz : Fit Try.prog 58 d) :
    ∃ a : S58, v = .agg #[.int .u64 a.f0, .int .i64 a.f1, .int .i64 a.f2, .string a.f3, .string a.f4, .int .u64 a.f5, .int .u64 a.f6] ∧ MW a := by
  obtain ⟨fuel, h⟩ := h
  obtain ⟨a, hK, hq⟩ := trod_58 _ _ _ h hz
  obtain ⟨cs, rfl, _⟩ := Go.WideShapes.okWide_struct Try.underlying58 hv
  have h2 := k58_open hK
  rw [show (Value.agg cs).cells = cs from rfl] at h2
  exact ⟨a, congrArg Value.agg (Array.toList_inj.mp (by simpa using h2)), hq⟩
end
end Go.Proofs.Ytkjepfofiegcdaa.H
