import Derived.Test.YtfemebenkbobnaaPB060
import Derived.SizedLaws
import Derived.WideShapes
import Derived.Deep.Slices
import Derived.Deep.Strs
import Derived.ChangeSame
import Derived.DataReads
/- Opening of a law's argument: what the handed-in data reads (trod) gives the word's own facts (Kd.K, Kd.C), for ints, strings, structs and slices of these. -/
namespace Go.Proofs.Ytfemebenkbobnaa.H
open Go.RowKit Go.Proofs.YtfemebenkbobnaaW.PrintWords
section
variable {H : Type} {enc : TypeId × Value → H} {P : Program} {w : World} {base : Nat} {spare : Nat → Bool} {held : Bool}
theorem trod_int {t : TypeId} {k : IntKind} {fuel : Nat} {cs : List Value} {x : DataW H × List MemPlace} (ht : P.underlying t = some (.int k)) (h : DataW.trod enc P w base spare held fuel t cs = some x) :
    ∃ n, cs = [.int k n] ∧ (Lit.int k n).wf = true ∧ x = (.lit (.int k n), []) := by
  cases fuel with
  | zero => simp [DataW.trod] at h
  | succ m =>
    unfold DataW.trod at h
    rw [ht] at h
    split at h <;> simp_all
theorem trod_string {t : TypeId} {fuel : Nat} {cs : List Value} {x : DataW H × List MemPlace} (ht : P.underlying t = some .string) (h : DataW.trod enc P w base spare held fuel t cs = some x) :
    ∃ s : ByteArray, cs = [.string s] ∧ s.size ≤ maxLen ∧ x = (.lit (.string s.data.toList), []) := by
  cases fuel with
  | zero => simp [DataW.trod] at h
  | succ m =>
    unfold DataW.trod at h
    rw [ht] at h
    split at h <;> simp_all
/-- every weight of a datum is within reach -/
def Fit (P : Program) (t : TypeId) (d : DataW H) : Prop := ∀ n, n ∈ d.weights P t → n ≤ reachBytes
theorem fit_string {t : TypeId} {s : List UInt8} (h : Fit P t (.lit (.string s) : DataW H)) : s.length ≤ reachBytes := h _ (by simp [DataW.weights])
theorem fit_each : ∀ {ts : List TypeId} {ds : List (DataW H)}, (∀ n, n ∈ DataW.weightsEach P ts ds → n ≤ reachBytes) → ∀ (j : Nat) (t : TypeId) (d : DataW H), ts[j]? = some t → ds[j]? = some d → Fit P t d :=
  fun h _ _ _ ht hd n hn => h n (DataW.weights_mem_each ht hd n hn)
theorem fit_struct {t : TypeId} {fs : Array Field} {ds : List (DataW H)} (ht : P.underlying t = some (.struct fs)) (h : Fit P t (.agg ds : DataW H)) : ∀ (j : Nat) (f : Field) (d : DataW H), fs[j]? = some f → ds[j]? = some d → Fit P f.type d := by
  intro j f d hf hd
  refine fit_each (ts := fs.toList.map (·.type)) (ds := ds) (fun n hn => h n (by simp only [DataW.weights, ht]; exact hn)) j f.type d ?_ hd
  rw [List.getElem?_map, Array.getElem?_toList, hf]; rfl
theorem weights_all {e : TypeId} : ∀ {ds : List (DataW H)} {d : DataW H}, d ∈ ds → ∀ n, n ∈ d.weights P e → n ∈ DataW.weightsAll P e ds
  | a :: l, d, hd, n, hn => by
    simp only [DataW.weightsAll, List.mem_append]
    rcases List.mem_cons.mp hd with rfl | h
    · exact Or.inl hn
    · exact Or.inr (weights_all h n hn)
theorem fit_slice {t e : TypeId} {ds sp : List (DataW H)} (ht : P.underlying t = some (.slice e)) (h : Fit P t (.slice ds sp : DataW H)) : (ds.length + sp.length) * P.bytesOf e ≤ reachBytes ∧ ∀ d, d ∈ ds → Fit P e d := by
  refine ⟨h _ (by simp [DataW.weights, ht]), fun d hd n hn => h n ?_⟩
  simp only [DataW.weights, ht, List.mem_cons, List.mem_append]
  exact Or.inr (Or.inl (weights_all hd n hn))
theorem row_of_index {α : Type} {n : Nat} {p : Nat → α → Prop} (h : ∀ i, i < n → ∃ x, p i x) : ∃ xs : List α, xs.length = n ∧ ∀ i x, xs[i]? = some x → p i x := by
  induction n with
  | zero => exact ⟨[], rfl, fun i x hx => by simp at hx⟩
  | succ n ih =>
    obtain ⟨xs, hl, hx⟩ := ih (fun i hi => h i (Nat.lt_succ_of_lt hi))
    obtain ⟨a, ha⟩ := h n (Nat.lt_succ_self n)
    refine ⟨xs ++ [a], by simp [hl], fun i x hi => ?_⟩
    rcases Nat.lt_or_ge i n with h1 | h1
    · rw [List.getElem?_append_left (by omega)] at hi
      exact hx i x hi
    · rw [List.getElem?_append_right (by omega), hl] at hi
      have : i = n := by
        have := List.getElem?_eq_some_iff.mp hi
        obtain ⟨h2, _⟩ := this
        simp at h2
        omega
      subst this
      simp at hi
      subst hi
      exact ha
theorem trod_row {α : Type} (d : Kd α) (q : α → Prop) {t e : TypeId} {fuel : Nat} {cs : List Value} {x : DataW H × List MemPlace} (ht : P.underlying t = some (.slice e)) (hsz : P.cellsOf e = d.sz)
    (hel : ∀ n cs x, DataW.trod enc P w base spare held n e cs = some x → Fit P e x.1 → ∃ a, d.K w a cs ∧ q a) (hz : Fit P t x.1) (h : DataW.trod enc P w base spare held fuel t cs = some x) :
    ∃ A c xs, cs = [.slice A xs.length c] ∧ xs.length ≤ c ∧ c ≤ maxLen ∧ xs.length * P.bytesOf e ≤ reachBytes ∧ d.C w A xs.length xs ∧ ∀ a, a ∈ xs → q a := by
  rcases Go.Deep.open_slice ht h with ⟨rfl, _⟩ | ⟨a, len, cap, m, n, D, Pl, rfl, hb, hl, hm, hM, hxx, hi⟩
  · exact ⟨none, 0, [], rfl, by simp, by simp, by simp, ⟨rfl, by simp, fun hh => by simp at hh⟩, fun a ha => by simp at ha⟩
  · rw [hxx] at hz
    obtain ⟨hz1, hz2⟩ := fit_slice ht hz
    have hml : len ≤ m := by rw [hM]; split <;> omega
    obtain ⟨xs, hx, hp⟩ := row_of_index (n := len) (p := fun i a' => q a' ∧ ∃ c, c.length = d.sz ∧ d.K w a' c ∧ ∀ j u, c[j]? = some u → w.cell? (a.add (i * d.sz + j)) = some u) (fun i hlt => by
      obtain ⟨cs', h1, h2⟩ := hi i (by omega)
      obtain ⟨a', hK, hq⟩ := hel _ _ _ h2 (hz2 _ (List.mem_map.mpr ⟨i, List.mem_range.mpr hlt, rfl⟩))
      refine ⟨a', hq, cs', d.K_len hK, hK, fun j u hj => ?_⟩
      rw [hsz] at h1
      obtain ⟨_, hcl, hc⟩ := World.cells?_some h1
      have hjl : j < cs'.length := (List.getElem?_eq_some_iff.mp hj).1
      have := hc j (by omega)
      rw [Go.Deep.add_add] at this
      rw [this, hj])
    have hmax : maxLen = 9223372036854775807 := rfl
    have hC : d.C w (some a) xs.length xs := ⟨rfl, by omega, fun _ => ⟨a, rfl, fun j p hj => (by
      obtain ⟨_, c, h1, h2, h3⟩ := hp j p hj
      exact ⟨c, h1, h2, h3⟩)⟩⟩
    refine ⟨some a, cap, xs, by rw [hx], by omega, hm, ?_, hC, fun a' ha => ?_⟩
    · refine Nat.le_trans (Nat.mul_le_mul_right _ ?_) hz1
      simp only [List.length_map, List.length_range]
      omega
    · obtain ⟨i, hi'⟩ := List.mem_iff_getElem?.mp ha
      exact (hp i a' hi').1
end
section
variable {H : Type} {enc : TypeId × Value → H} {w : World} {base : Nat} {spare : Nat → Bool} {held : Bool}
open Go.Proofs.Ytfemebenkbobnaa.PB06
set_option maxRecDepth 100000 in
theorem trod_72 (n : Nat) (cs : List Value) (x : DataW H × List MemPlace) (h : DataW.trod enc Try.prog w base spare held n 72 cs = some x) (hz : Fit Try.prog 72 x.1) :
    ∃ a : S72, k72.K w a cs ∧ ((Lit.int .i64 a.f0).wf = true ∧ a.f1.size ≤ reachBytes ∧ a.f2.size ≤ reachBytes) := by
  obtain ⟨y0, y1, y2, m, rfl, hl, h0, h1, h2⟩ := Go.Deep.trod_struct3 Try.underlying72 h
  have e0 : Try.prog.cellsOf 3 = 1 := by kernel_rfl
  have e1 : Try.prog.cellsOf 9 = 1 := by kernel_rfl
  have e2 : Try.prog.cellsOf 72 = 3 := by kernel_rfl
  rw [e2] at hl
  match cs, hl with
  | [u0, u1, u2], _ =>
    obtain ⟨n0, c0, wf0, _⟩ := trod_int Try.underlying3 h0
    obtain ⟨s1, c1, _, d1⟩ := trod_string Try.underlying9 h1
    obtain ⟨s2, c2, _, d2⟩ := trod_string Try.underlying9 h2
    have z1 := fit_struct Try.underlying72 hz 1 _ _ rfl rfl
    have z2 := fit_struct Try.underlying72 hz 2 _ _ rfl rfl
    rw [d1] at z1
    rw [d2] at z2
    have z1' := fit_string z1
    have z2' := fit_string z2
    simp [e0] at c0
    simp [e1] at c1 c2
    subst c0 c1 c2
    exact ⟨⟨n0, s1, s2⟩, k72_mk w ⟨n0, s1, s2⟩, wf0, by simpa using z1', by simpa using z2'⟩
set_option maxRecDepth 100000 in
theorem trod_58 (n : Nat) (cs : List Value) (x : DataW H × List MemPlace) (h : DataW.trod enc Try.prog w base spare held n 58 cs = some x) (hz : Fit Try.prog 58 x.1) :
    ∃ (n : Int) (A : Option Addr) (l : List S72) (c : Nat), cs = [.int .u64 n, .slice A l.length c] ∧ (Lit.int .u64 n).wf = true ∧ l.length ≤ c ∧ c ≤ maxLen ∧ l.length ≤ 4398046511104 ∧ k72.C w A l.length l ∧ ∀ a, a ∈ l → (Lit.int .i64 a.f0).wf = true ∧ a.f1.size ≤ reachBytes ∧ a.f2.size ≤ reachBytes := by
  obtain ⟨y0, y1, m, rfl, hl, h0, h1⟩ := Go.ChangeShapes.trod_struct2 Try.underlying58 h
  have e0 : Try.prog.cellsOf 24 = 1 := by kernel_rfl
  have e1 : Try.prog.cellsOf 56 = 1 := by kernel_rfl
  have e2 : Try.prog.cellsOf 58 = 2 := by kernel_rfl
  have eb : Try.prog.bytesOf 72 = 40 := by kernel_rfl
  rw [e2] at hl
  match cs, hl with
  | [u0, u1], _ =>
    obtain ⟨n0, c0, wf0, _⟩ := trod_int Try.underlying24 h0
    have z1 := fit_struct Try.underlying58 hz 1 _ _ rfl rfl
    obtain ⟨A, c, l, c1, g1, g2, g3, g4, g5⟩ := trod_row k72 _ Try.underlying56 (by kernel_rfl) trod_72 z1 h1
    rw [eb] at g3
    have : reachBytes < 2 ^ 47 := reachBytes_lt
    simp [e0] at c0
    simp [e1] at c1
    subst c0 c1
    exact ⟨n0, A, l, c, rfl, wf0, g1, g2, by omega, g4, g5⟩
set_option maxRecDepth 100000 in
/-- a batch that is handed in -/
theorem open_58 {v : Value} {d : DataW H} {p : List MemPlace} {b0 : Nat} (hv : Value.okWide Try.prog w .any b0 58 v) (h : ∃ fuel, DataW.trod enc Try.prog w base spare held fuel 58 v.cells.toList = some (d, p)) (hz : Fit Try.prog 58 d) :
    ∃ (n : Int) (A : Option Addr) (l : List S72) (c : Nat), v = .agg #[.int .u64 n, .slice A l.length c] ∧ (Lit.int .u64 n).wf = true ∧ l.length ≤ c ∧ l.length ≤ 4398046511104 ∧ k72.C w A l.length l ∧ ∀ a, a ∈ l → (Lit.int .i64 a.f0).wf = true ∧ a.f1.size ≤ reachBytes ∧ a.f2.size ≤ reachBytes := by
  obtain ⟨fuel, h⟩ := h
  obtain ⟨n, A, l, c, g0, g1, g2, _, g3, g4, g5⟩ := trod_58 _ _ _ h hz
  obtain ⟨cs, rfl, _⟩ := Go.WideShapes.okWide_struct Try.underlying58 hv
  refine ⟨n, A, l, c, ?_, g1, g2, g3, g4, g5⟩
  rw [show (Value.agg cs).cells = cs from rfl] at g0
  exact congrArg Value.agg (Array.toList_inj.mp (by simpa using g0))
end
end Go.Proofs.Ytfemebenkbobnaa.H
