import Derived.Test.YtkjepfofiegcdaaVP1Y
import Derived.Test.YtkjepfofiegcdaaVH2Y
/- edit.Encode (57), walked: what it writes. Conditions: the numbers are such as the machine has. -/
namespace Go.Proofs.Ytkjepfofiegcdaa.V
set_option linter.unusedVariables false
set_option linter.unusedSimpArgs false
open Go.RowKit Go.Proofs.YtkjepfofiegcdaaW.PrintWords Go.Proofs.YtkjepfofiegcdaaW.PrintLast Go.Proofs.YtkjepfofiegcdaaW.PrintMore Go.Proofs.Ytkjepfofiegcdaa.PB14
open H (putL)
/-- The bytes of a table that goes, of one that comes, and of an edit. -/
def gBy (x : S84) : List UInt8 := putsL [x.f0, x.f1]
def gBys : List S84 → List UInt8
  | [] => []
  | x :: r => gBy x ++ gBys r
def aBy1 (x : S82) : List UInt8 := putsL [x.f0, x.f1.f0, x.f1.f1, x.f1.f2]
def aBy2 (x : S82) : List UInt8 := fieldL x.f1.f3 ++ fieldL x.f1.f4
def aBy3 (x : S82) : List UInt8 := putsL [x.f1.f5, x.f1.f6]
def aBy (x : S82) : List UInt8 := aBy1 x ++ aBy2 x ++ aBy3 x
def aBys : List S82 → List UInt8
  | [] => []
  | x :: r => aBy x ++ aBys r
theorem gBys_append (a b : List S84) : gBys (a ++ b) = gBys a ++ gBys b := by
  induction a with
  | nil => rfl
  | cons n r ih => rw [List.cons_append, gBys, gBys, ih, List.append_assoc]
theorem aBys_append (a b : List S82) : aBys (a ++ b) = aBys a ++ aBys b := by
  induction a with
  | nil => rfl
  | cons n r ih => rw [List.cons_append, aBys, aBys, ih, List.append_assoc]
def encB (e : Edt) : List UInt8 := putsL [e.log, e.next, e.seq, (e.gone.length : Int)] ++ gBys e.gone ++ putsL [(e.added.length : Int)] ++ aBys e.added
/-- What Encode answers. -/
def encV (e : Edt) : ByteArray × Int := if listedP e then (if 256 < e.gone.length ∨ 256 < e.added.length then (⟨#[]⟩, 3) else (bA (encB e), 0)) else (⟨#[]⟩, 2)
def U64 (n : Int) : Prop := 0 ≤ n ∧ n < 18446744073709551616
/-- An edit's numbers are such as the machine has. -/
def EU (e : Edt) : Prop := (U64 e.log ∧ U64 e.next ∧ U64 e.seq) ∧ ∀ x, x ∈ e.gone → U64 x.f1
theorem U64.wrap {n : Int} (h : U64 n) : IntKind.u64.wrap n = n := wrap_u h.1 h.2
theorem gBy_len {x : S84} (h0 : U64 x.f0) (h1 : U64 x.f1) : (gBy x).length ≤ 20 := putsL_len [x.f0, x.f1] (fun n hn => by
  simp at hn
  rcases hn with rfl | rfl
  · exact h0
  · exact h1)
theorem gBys_len : ∀ l : List S84, (∀ x, x ∈ l → U64 x.f0 ∧ U64 x.f1) → (gBys l).length ≤ 20 * l.length
  | [], _ => by simp [gBys]
  | x :: r, h => by
    have h1 := gBys_len r fun n hn => h n (List.mem_cons_of_mem _ hn)
    have h2 := h x (List.mem_cons_self ..)
    have h3 := gBy_len h2.1 h2.2
    rw [gBys, List.length_append, List.length_cons]
    omega
theorem add_nums {x : S82} (h : addOk x) : U64 x.f0 ∧ U64 x.f1.f0 ∧ U64 x.f1.f1 ∧ U64 x.f1.f2 ∧ U64 x.f1.f5 ∧ U64 x.f1.f6 ∧ x.f1.f3.size ≤ 520 ∧ x.f1.f4.size ≤ 520 := by
  obtain ⟨⟨a0, a1⟩, b0, b1, b2, b3, b4, b5, b6, b7, b8, b9, b10, b11, b12⟩ := h
  refine ⟨⟨a0, by omega⟩, ⟨by omega, by omega⟩, ⟨by omega, by omega⟩, ⟨by omega, by omega⟩, ⟨by omega, by omega⟩, ⟨by omega, by omega⟩, by omega, by omega⟩
theorem puts4 {a b c d : Int} (h : U64 a ∧ U64 b ∧ U64 c ∧ U64 d) : ∀ n, n ∈ [a, b, c, d] → 0 ≤ n ∧ n < 18446744073709551616 := by
  intro n hn; simp at hn; rcases hn with rfl | rfl | rfl | rfl
  · exact h.1
  · exact h.2.1
  · exact h.2.2.1
  · exact h.2.2.2
theorem puts2 {a b : Int} (h : U64 a ∧ U64 b) : ∀ n, n ∈ [a, b] → 0 ≤ n ∧ n < 18446744073709551616 := by
  intro n hn; simp at hn; rcases hn with rfl | rfl
  · exact h.1
  · exact h.2
theorem puts1 {a : Int} (h : U64 a) : ∀ n, n ∈ [a] → 0 ≤ n ∧ n < 18446744073709551616 := by
  intro n hn; simp at hn; subst hn; exact h
theorem aBy_len {x : S82} (h : addOk x) : (aBy1 x).length ≤ 40 ∧ (aBy2 x).length ≤ 1060 ∧ (aBy3 x).length ≤ 20 := by
  obtain ⟨h0, h1, h2, h3, h5, h6, h7, h8⟩ := add_nums h
  have l1 := fieldL_len x.f1.f3 (by omega)
  have l2 := fieldL_len x.f1.f4 (by omega)
  refine ⟨putsL_len [x.f0, x.f1.f0, x.f1.f1, x.f1.f2] (puts4 ⟨h0, h1, h2, h3⟩), ?_, putsL_len [x.f1.f5, x.f1.f6] (puts2 ⟨h5, h6⟩)⟩
  unfold aBy2
  rw [List.length_append]
  omega
theorem aBys_len : ∀ l : List S82, (∀ x, x ∈ l → addOk x) → (aBys l).length ≤ 1120 * l.length
  | [], _ => by simp [aBys]
  | x :: r, h => by
    have h1 := aBys_len r fun n hn => h n (List.mem_cons_of_mem _ hn)
    have h2 := aBy_len (h x (List.mem_cons_self ..))
    rw [aBys, aBy, List.length_append, List.length_append, List.length_append, List.length_cons]
    omega
theorem put111n (w : World) (go gv c n : Nat) (l : List UInt8) (ns : List Int) (cs : Array Value) (hn : ns.length = n) (hO : OUT w go l) (hV : w.heap[gv]? = some (.cells cs 22 (0, 0))) (hne : gv ≠ go) (hcs : ∀ j, j < ns.length → cs[j]? = some (.int .u64 (ns.getD j 0))) (hr : ∀ n, n ∈ ns → 0 ≤ n ∧ n < 18446744073709551616) (hl : l.length ≤ 900000000) (hl2 : n ≤ 4) :
    Calls Try.prog 111 #[.slice (some ⟨gv, 0, none⟩) n c, .pointer (some ⟨go, 0, none⟩)] w fun e w' => (∃ v, e = .returned v) ∧ OUT w' go (l ++ putsL ns) ∧ OutK go w w' := by
  subst hn
  exact put111_calls w go gv c l ns cs hO hV hne hcs hr (by omega)
theorem cs4 {a b c d : Int} : ∀ j, j < [a, b, c, d].length → #[Value.int .u64 a, .int .u64 b, .int .u64 c, .int .u64 d][j]? = some (.int .u64 ([a, b, c, d].getD j 0)) := by
  intro j hj
  rcases j with _ | _ | _ | _ | j
  · rfl
  · rfl
  · rfl
  · rfl
  · simp only [List.length_cons, List.length_nil] at hj; omega
theorem cs2 {a b : Int} : ∀ j, j < [a, b].length → #[Value.int .u64 a, .int .u64 b][j]? = some (.int .u64 ([a, b].getD j 0)) := by
  intro j hj
  rcases j with _ | _ | j
  · rfl
  · rfl
  · simp only [List.length_cons, List.length_nil] at hj; omega
theorem cs1 {a : Int} : ∀ j, j < [a].length → #[Value.int .u64 a][j]? = some (.int .u64 ([a].getD j 0)) := by
  intro j hj
  rcases j with _ | j
  · rfl
  · simp only [List.length_cons, List.length_nil] at hj; omega
theorem new_row {w : World} {go : Nat} {l : List UInt8} (h : OUT w go l) (cs : Array Value) (t : TypeId) : OUT (w.alloc (.cells cs t)) go l ∧ OutK go w (w.alloc (.cells cs t)) ∧ w.heap.size ≠ go := by
  have hb : Below w.heap.size w (w.alloc (.cells cs t)) := below_alloc (Below.refl _ w) _
  exact ⟨h.below hb, OutK.of_below hb (Nat.le_of_lt h.lt), by have := h.lt; omega⟩
end Go.Proofs.Ytkjepfofiegcdaa.V
