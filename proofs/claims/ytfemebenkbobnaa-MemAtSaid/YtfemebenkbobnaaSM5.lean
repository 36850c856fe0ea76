import Derived.Test.YtfemebenkbobnaaSM4
/- The order of rows; the skip list's state, and Put on it. Conditions: at most 2 to the 61st rows. -/
namespace Go.Proofs.Ytfemebenkbobnaa.SM
set_option linter.unusedVariables false
set_option linter.unusedSimpArgs false
open Go.RowKit Go.Proofs.YtfemebenkbobnaaW.PrintWords Go.Proofs.YtfemebenkbobnaaW.PrintLast Go.Proofs.YtfemebenkbobnaaW.PrintMore Go.Proofs.Ytfemebenkbobnaa.PB06
variable {TL : Tl}
theorem less_irr : ∀ x : List UInt8, Op.bytesLess x x = false
  | [] => rfl
  | a :: x => by simp [Op.bytesLess, less_irr x]
theorem less_trans : ∀ {x y z : List UInt8}, Op.bytesLess x y = true → Op.bytesLess y z = true → Op.bytesLess x z = true
  | _, _, [], _, h => by cases ‹List UInt8› <;> simp [Op.bytesLess] at h
  | [], _, _ :: _, _, _ => by simp [Op.bytesLess]
  | a :: x, [], c :: z, h, _ => by simp [Op.bytesLess] at h
  | a :: x, b :: y, c :: z, h1, h2 => by
    simp only [Op.bytesLess, Bool.or_eq_true, Bool.and_eq_true, decide_eq_true_eq, beq_iff_eq] at h1 h2 ⊢
    rcases h1 with h1 | ⟨rfl, h1⟩
    · rcases h2 with h2 | ⟨rfl, h2⟩
      · exact .inl (UInt8.lt_trans h1 h2)
      · exact .inl h1
    · rcases h2 with h2 | ⟨rfl, h2⟩
      · exact .inl h2
      · exact .inr ⟨rfl, less_trans h1 h2⟩
theorem less_total : ∀ {x y : List UInt8}, Op.bytesLess x y = false → x ≠ y → Op.bytesLess y x = true
  | [], [], _, h => absurd rfl h
  | [], _ :: _, h, _ => by simp [Op.bytesLess] at h
  | _ :: _, [], _, _ => by simp [Op.bytesLess]
  | a :: x, b :: y, h, hne => by
    simp only [Op.bytesLess, Bool.or_eq_false_iff, Bool.and_eq_false_iff, decide_eq_false_iff_not, beq_eq_false_iff_ne] at h
    simp only [Op.bytesLess, Bool.or_eq_true, Bool.and_eq_true, decide_eq_true_eq, beq_iff_eq]
    obtain ⟨h1, h2⟩ := h
    by_cases c : a = b
    · subst c
      refine .inr ⟨rfl, less_total (h2.resolve_left (fun h => h rfl)) (fun e => hne (by rw [e]))⟩
    · left
      have := UInt8.lt_or_lt_of_ne c
      exact this.resolve_left h1
theorem ahead_iff {key : ByteArray} {seq : Int} {r : S28} : aheadB key seq r = true ↔ Op.bytesLess r.f0.toList key.toList = true ∨ (r.f0.toList = key.toList ∧ r.f1 > seq) := by
  simp [aheadB]
/-- x stands before y. -/
def bef (x y : S28) : Prop := aheadB y.f0 y.f1 x = true
theorem bef_ahead {x y : S28} {key : ByteArray} {seq : Int} (h : bef x y) (hy : aheadB key seq y = true) : aheadB key seq x = true := by
  unfold bef at h
  rw [ahead_iff] at h hy ⊢
  rcases h with h | ⟨h1, h2⟩
  · rcases hy with hy | ⟨h3, h4⟩
    · exact .inl (less_trans h hy)
    · exact .inl (h3 ▸ h)
  · rcases hy with hy | ⟨h3, h4⟩
    · exact .inl (h1.symm ▸ hy)
    · exact .inr ⟨h1.trans h3, by omega⟩
theorem bef_other {x r : S28} (h : aheadB r.f0 r.f1 x = false) (hne : ¬ (x.f0 = r.f0 ∧ x.f1 = r.f1)) : bef r x := by
  unfold bef
  rw [ahead_iff]
  rw [← Bool.not_eq_true, ahead_iff] at h
  by_cases c : x.f0.toList = r.f0.toList
  · refine .inr ⟨c.symm, ?_⟩
    have h1 : ¬ x.f1 > r.f1 := fun h1 => h (.inr ⟨c, h1⟩)
    have h2 : x.f1 ≠ r.f1 := fun h2 => hne ⟨Go.WideShapes.bytes_inj (by rw [ByteArray.toList_eq, ByteArray.toList_eq] at c; exact c), h2⟩
    omega
  · exact .inl (less_total (by cases hq : Op.bytesLess x.f0.toList r.f0.toList with | false => rfl | true => exact absurd (.inl hq) h) c)
theorem bef_trans {x y z : S28} (h1 : bef x y) (h2 : bef y z) : bef x z := bef_ahead h1 h2
/-- How high the highest is. -/
def hmax : List Nd → Nat
  | [] => 0
  | x :: r => max x.h (hmax r)
theorem hmax_ins (n : Nd) : ∀ A T : List Nd, hmax (A ++ n :: T) = max (hmax (A ++ T)) n.h
  | [], T => by simp only [List.nil_append, hmax]; omega
  | x :: A, T => by simp only [List.cons_append, hmax, hmax_ins n A T]; omega
/-- The state of a skip list: in order, each row at least one high. -/
structure Sk (TL : Tl) (w : World) (g : Nat) (rs : List Nd) : Prop where
  sl : SL TL w g (rs.length : Int) (hmax rs : Int) rs
  lo : ∀ x, x ∈ rs → 1 ≤ x.h
  ord : rs.Pairwise fun x y => bef x.row y.row
theorem Sk.front {w : World} {g : Nat} {rs : List Nd} (h : Sk TL w g rs) (key : ByteArray) (seq : Int) : Front key seq rs := h.ord.imp fun hxy hy => bef_ahead hxy hy
theorem Sk.below {w w' : World} {g : Nat} {rs : List Nd} (h : Sk TL w g rs) (hb : Below w.heap.size w w') : Sk TL w' g rs := ⟨h.sl.below hb, h.lo, h.ord⟩
theorem Sk.keep {w w' : World} {g : Nat} {rs : List Nd} (h : Sk TL w g rs) (hk : ∀ k, k = g ∨ k ∈ rs.map (·.blk) → w'.heap[k]? = w.heap[k]?) : Sk TL w' g rs := ⟨h.sl.keep hk, h.lo, h.ord⟩
/-- What stands ahead of a place, and what does not. -/
def ahd (key : ByteArray) (seq : Int) (rs : List Nd) : List Nd := rs.takeWhile fun x => aheadB key seq x.row
def beh (key : ByteArray) (seq : Int) (rs : List Nd) : List Nd := rs.dropWhile fun x => aheadB key seq x.row
theorem ahd_beh (key : ByteArray) (seq : Int) (rs : List Nd) : ahd key seq rs ++ beh key seq rs = rs := List.takeWhile_append_dropWhile
theorem ahd_all {key : ByteArray} {seq : Int} {rs : List Nd} : ∀ x, x ∈ ahd key seq rs → aheadB key seq x.row = true := fun x hx => List.all_eq_true.mp (List.all_takeWhile) x hx
theorem beh_head {key : ByteArray} {seq : Int} {rs : List Nd} : ∀ y, (beh key seq rs).head? = some y → aheadB key seq y.row = false := fun y hy => by
  have := List.head?_dropWhile_not (fun x : Nd => aheadB key seq x.row) rs
  rw [beh] at hy
  rw [hy] at this
  simpa using this
/-- Is the place of a row taken? -/
def taken (r : S28) (rs : List Nd) : Bool := match beh r.f0 r.f1 rs with
  | [] => false
  | y :: _ => decide (y.row.f0 = r.f0) && decide (y.row.f1 = r.f1)
/-- The list with a row more. -/
def insN (n : Nd) (rs : List Nd) : List Nd := ahd n.row.f0 n.row.f1 rs ++ n :: beh n.row.f0 n.row.f1 rs
theorem sorted_ins {w : World} {g : Nat} {rs : List Nd} (h : Sk TL w g rs) (n : Nd) (ht : taken n.row rs = false) : (insN n rs).Pairwise fun x y => bef x.row y.row := by
  have ho := h.ord
  have e := ahd_beh n.row.f0 n.row.f1 rs
  rw [← e] at ho
  rw [List.pairwise_append] at ho
  obtain ⟨o1, o2, o3⟩ := ho
  have hn : ∀ y, y ∈ beh n.row.f0 n.row.f1 rs → bef n.row y.row := by
    intro y hy
    have hh := beh_head (key := n.row.f0) (seq := n.row.f1) (rs := rs)
    unfold taken at ht
    cases hq : beh n.row.f0 n.row.f1 rs with
    | nil => rw [hq] at hy; simp at hy
    | cons z R =>
      rw [hq] at hy ht hh o2
      have hz : bef n.row z.row := bef_other (hh z rfl) (fun hc => by simp [hc.1, hc.2] at ht)
      rcases List.mem_cons.mp hy with rfl | hy
      · exact hz
      · exact bef_trans hz ((List.pairwise_cons.mp o2).1 y hy)
  rw [insN, List.pairwise_append]
  refine ⟨o1, List.pairwise_cons.mpr ⟨hn, o2⟩, fun x hx y hy => ?_⟩
  rcases List.mem_cons.mp hy with rfl | hy
  · exact ahd_all x hx
  · exact o3 x hx y hy
theorem put_calls (w : World) (g : Nat) (rs : List Nd) (r : S28) (hgt : Int) (h : Sk TL w g rs) (hlen : rs.length ≤ 2305843009213693952) :
    Calls Try.prog 21 #[.pointer (some ⟨g, 0, none⟩), .agg #[.string r.f0, .int .u64 r.f1, .int .i64 r.f2, .string r.f3], .int .i64 hgt] w fun e w' =>
      (taken r rs = true ∧ e = .returned (.bool false) ∧ Below w.heap.size w w') ∨
      (taken r rs = false ∧ e = .returned (.bool true) ∧ ∃ nb, w.heap.size ≤ nb ∧ Sk TL w' g (insN ⟨nb, r, clampH hgt⟩ rs) ∧ Kp w w' g (rs.map (·.blk))) := by
  have e := ahd_beh r.f0 r.f1 rs
  have hA := ahd_all (key := r.f0) (seq := r.f1) (rs := rs)
  have hT := beh_head (key := r.f0) (seq := r.f1) (rs := rs)
  have hF := h.front r.f0 r.f1
  have hS := h.sl
  have hL := h.lo
  have fin : taken r rs = false → ∀ (x : Ending) (w' : World), (x = .returned (.bool true) ∧ PutPost TL w w' g (rs.length : Int) (hmax rs : Int) (ahd r.f0 r.f1 rs) (beh r.f0 r.f1 rs) r hgt) →
      (taken r rs = false ∧ x = .returned (.bool true) ∧ ∃ nb, w.heap.size ≤ nb ∧ Sk TL w' g (insN ⟨nb, r, clampH hgt⟩ rs) ∧ Kp w w' g (rs.map (·.blk))) := by
    rintro htk x w' ⟨h1, nb, h2, h3, h4⟩
    refine ⟨htk, h1, nb, h2, ⟨?_, ?_, sorted_ins h ⟨nb, r, clampH hgt⟩ htk⟩, by rw [e] at h4; exact h4⟩
    · have e1 : wrap64 ((rs.length : Int) + 1) = ((insN ⟨nb, r, clampH hgt⟩ rs).length : Int) := by
        have : (insN ⟨nb, r, clampH hgt⟩ rs).length = rs.length + 1 := by
          have := congrArg List.length e
          rw [List.length_append] at this
          rw [insN, List.length_append, List.length_cons]
          simp only
          omega
        rw [this]; unfold wrap64; omega
      have e2 : max (hmax rs : Int) (clampH hgt : Int) = (hmax (insN ⟨nb, r, clampH hgt⟩ rs) : Int) := by
        rw [insN, hmax_ins]
        simp only
        rw [e]
        omega
      rw [e1, e2] at h3
      exact h3
    · intro x hx
      rw [insN] at hx
      rcases List.mem_append.mp hx with hx | hx
      · exact hL x (by rw [← e]; exact List.mem_append_left _ hx)
      · rcases List.mem_cons.mp hx with rfl | hx
        · exact (clampH_le hgt).1
        · exact hL x (by rw [← e]; exact List.mem_append_right _ hx)
  cases hq : beh r.f0 r.f1 rs with
  | nil =>
    rw [hq] at hT e fin
    have htk : taken r rs = false := by unfold taken; rw [hq]
    have e' : ahd r.f0 r.f1 rs ++ ([] : List Nd) = rs := e
    refine (put_new_nil w g _ _ (ahd r.f0 r.f1 rs) r hgt (by rw [e']; exact hS) (by rw [e']; exact hF) (by rw [e']; omega) (by rw [e']; exact hL) hA hT).mono fun x w' hx => .inr (fin htk x w' hx)
  | cons y R =>
    rw [hq] at hT e fin
    have e' : ahd r.f0 r.f1 rs ++ y :: R = rs := e
    by_cases c0 : y.row.f0 = r.f0
    · by_cases c1 : y.row.f1 = r.f1
      · have htk : taken r rs = true := by unfold taken; rw [hq]; simp [c0, c1]
        refine (put_there w g _ _ (ahd r.f0 r.f1 rs) R y r hgt (by rw [e']; exact hS) (by rw [e']; exact hF) (by rw [e']; omega) (by rw [e']; exact hL) hA hT c0 c1).mono fun x w' hx => .inl ⟨htk, hx.1, hx.2⟩
      · have htk : taken r rs = false := by unfold taken; rw [hq]; simp [c1]
        refine (put_new_seq w g _ _ (ahd r.f0 r.f1 rs) R y r hgt (by rw [e']; exact hS) (by rw [e']; exact hF) (by rw [e']; omega) (by rw [e']; exact hL) hA hT c0 c1).mono fun x w' hx => .inr (fin htk x w' hx)
    · have htk : taken r rs = false := by unfold taken; rw [hq]; simp [c0]
      refine (put_new_key w g _ _ (ahd r.f0 r.f1 rs) R y r hgt (by rw [e']; exact hS) (by rw [e']; exact hF) (by rw [e']; omega) (by rw [e']; exact hL) hA hT c0).mono fun x w' hx => .inr (fin htk x w' hx)
end Go.Proofs.Ytfemebenkbobnaa.SM
