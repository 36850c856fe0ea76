import Derived.Test.YtfemebenkbobnaaSM7
/- A skip list's values: its rows and their heights, and what Put makes of them. Conditions: at most 2 to the 61st rows. -/
namespace Go.Proofs.Ytfemebenkbobnaa.SM
set_option linter.unusedVariables false
set_option linter.unusedSimpArgs false
open Go.RowKit Go.Proofs.YtfemebenkbobnaaW.PrintWords Go.Proofs.YtfemebenkbobnaaW.PrintLast Go.Proofs.YtfemebenkbobnaaW.PrintMore Go.Proofs.Ytfemebenkbobnaa.PB06
variable {TL : Tl}
/-- A row, and how high it is. -/
abbrev RH := S28 × Nat
def vals (rs : List Nd) : List RH := rs.map fun x => (x.row, x.h)
def ahdV (key : ByteArray) (seq : Int) (l : List RH) : List RH := l.takeWhile fun x => aheadB key seq x.1
def behV (key : ByteArray) (seq : Int) (l : List RH) : List RH := l.dropWhile fun x => aheadB key seq x.1
def takenV (r : S28) (l : List RH) : Bool := match behV r.f0 r.f1 l with
  | [] => false
  | y :: _ => decide (y.1.f0 = r.f0) && decide (y.1.f1 = r.f1)
def insV (r : S28) (h : Nat) (l : List RH) : List RH := ahdV r.f0 r.f1 l ++ (r, h) :: behV r.f0 r.f1 l
def putV (r : S28) (h : Nat) (l : List RH) : List RH := if takenV r l = true then l else insV r h l
theorem vals_len (rs : List Nd) : (vals rs).length = rs.length := by simp [vals]
theorem vals_rows (rs : List Nd) : (vals rs).map (·.1) = rs.map (·.row) := by simp [vals]
theorem vals_ahd (key : ByteArray) (seq : Int) (rs : List Nd) : vals (ahd key seq rs) = ahdV key seq (vals rs) := by
  unfold vals ahd ahdV
  rw [List.takeWhile_map]
  rfl
theorem vals_beh (key : ByteArray) (seq : Int) (rs : List Nd) : vals (beh key seq rs) = behV key seq (vals rs) := by
  unfold vals beh behV
  rw [List.dropWhile_map]
  rfl
theorem vals_taken (r : S28) (rs : List Nd) : taken r rs = takenV r (vals rs) := by
  unfold taken takenV
  rw [← vals_beh]
  cases beh r.f0 r.f1 rs <;> rfl
theorem vals_ins (n : Nd) (rs : List Nd) : vals (insN n rs) = insV n.row n.h (vals rs) := by
  unfold insN insV
  rw [← vals_ahd, ← vals_beh]
  simp [vals]
theorem hts_vals (key : ByteArray) (seq : Int) (rs : List Nd) : hts key seq rs = (ahdV key seq (vals rs)).map (·.2) := by
  rw [← vals_ahd]
  simp [hts, vals, ahd]
/-- The blocks of a list. -/
def fp (g : Nat) (rs : List Nd) : List Nat := g :: rs.map (·.blk)
theorem fp_mem {g k : Nat} {rs : List Nd} : k ∈ fp g rs ↔ k = g ∨ k ∈ rs.map (·.blk) := by simp [fp]
theorem fp_ins {g k : Nat} {n : Nd} {rs : List Nd} (h : k ∈ fp g (insN n rs)) : k ∈ fp g rs ∨ k = n.blk := by
  rw [fp_mem] at h ⊢
  rcases h with h | h
  · exact .inl (.inl h)
  · obtain ⟨x, hx, rfl⟩ := List.mem_map.mp h
    rw [insN] at hx
    rcases List.mem_append.mp hx with hx | hx
    · exact .inl (.inr (List.mem_map.mpr ⟨x, (List.takeWhile_prefix _).subset hx, rfl⟩))
    · rcases List.mem_cons.mp hx with rfl | hx
      · exact .inr rfl
      · exact .inl (.inr (List.mem_map.mpr ⟨x, (List.dropWhile_suffix _).subset hx, rfl⟩))
theorem Sk.lt {w : World} {g : Nat} {rs : List Nd} (h : Sk TL w g rs) : ∀ k, k ∈ fp g rs → k < w.heap.size := fun k hk => h.sl.lt k (fp_mem.mp hk)
/-- What Put leaves, by values. -/
structure Put (TL : Tl) (w w' : World) (g : Nat) (rs : List Nd) (r : S28) (h : Nat) (rs' : List Nd) : Prop where
  sk : Sk TL w' g rs'
  val : vals rs' = putV r h (vals rs)
  new : ∀ k, k ∈ fp g rs' → k ∈ fp g rs ∨ w.heap.size ≤ k
  kp : Kp w w' g (rs.map (·.blk))
theorem put_val (w : World) (g : Nat) (rs : List Nd) (r : S28) (hgt : Int) (h : Sk TL w g rs) (hlen : rs.length ≤ 2305843009213693952) :
    Calls Try.prog 21 #[.pointer (some ⟨g, 0, none⟩), .agg #[.string r.f0, .int .u64 r.f1, .int .i64 r.f2, .string r.f3], .int .i64 hgt] w fun e w' =>
      e = .returned (.bool (!takenV r (vals rs))) ∧ ∃ rs', Put TL w w' g rs r (clampH hgt) rs' := by
  refine (put_calls w g rs r hgt h hlen).mono ?_
  rintro e w' (⟨h1, rfl, h3⟩ | ⟨h1, rfl, nb, h3, h4, h5⟩)
  · rw [vals_taken] at h1
    exact ⟨by rw [h1]; rfl, rs, h.below h3, by rw [putV, if_pos h1], fun k hk => .inl hk, Kp.of_below h3⟩
  · rw [vals_taken] at h1
    refine ⟨by rw [h1]; rfl, _, h4, by rw [vals_ins, putV, if_neg (by rw [h1]; simp)], fun k hk => ?_, h5⟩
    rcases fp_ins hk with hk | rfl
    · exact .inl hk
    · exact .inr h3
/-- Two lists in other blocks. -/
def Apart (a b : List Nat) : Prop := ∀ k, k ∈ a → k ∉ b
theorem Apart.symm {a b : List Nat} (h : Apart a b) : Apart b a := fun k hb ha => h k ha hb
/-- Another list stays where one takes a row. -/
theorem Put.other {w w' : World} {g g2 : Nat} {rs rs' r2 : List Nd} {r : S28} {h : Nat} (hp : Put TL w w' g rs r h rs') (h2 : Sk TL w g2 r2) (ha : Apart (fp g rs) (fp g2 r2)) : Sk TL w' g2 r2 ∧ Apart (fp g rs') (fp g2 r2) := by
  refine ⟨h2.keep fun k hk => ?_, fun k hk hk2 => ?_⟩
  · have hk2 := fp_mem.mpr hk
    refine hp.kp.same k (h2.lt k hk2) (fun e => ha k (fp_mem.mpr (.inl e)) hk2) (fun hm => ha k (fp_mem.mpr (.inr hm)) hk2)
  · rcases hp.new k hk with h3 | h3
    · exact ha k h3 hk2
    · have := h2.lt k hk2; omega
theorem Put.low {w w' w0 : World} {g B : Nat} {rs rs' : List Nd} {r : S28} {h : Nat} (hp : Put TL w w' g rs r h rs') (hb : Below B w0 w) (hB : B ≤ w.heap.size) (hlow : ∀ k, k ∈ fp g rs → B ≤ k) : Below B w0 w' ∧ ∀ k, k ∈ fp g rs' → B ≤ k := by
  refine ⟨hp.kp.low B w0 hb (hlow g (fp_mem.mpr (.inl rfl))) hB (fun k hk => hlow k (fp_mem.mpr (.inr hk))), fun k hk => ?_⟩
  rcases hp.new k hk with h3 | h3
  · exact hlow k h3
  · omega
theorem putV_len (r : S28) (h : Nat) (l : List RH) : (putV r h l).length ≤ l.length + 1 := by
  unfold putV
  split
  · omega
  · rw [insV, List.length_append, List.length_cons]
    have : (ahdV r.f0 r.f1 l).length + (behV r.f0 r.f1 l).length = l.length := by
      have := congrArg List.length (List.takeWhile_append_dropWhile (p := fun x : RH => aheadB r.f0 r.f1 x.1) (l := l))
      rwa [List.length_append] at this
    omega
/-- A list of rows, each so high, put one after the other. -/
def runV (ps : List RH) : List RH := ps.foldl (fun l p => putV p.1 p.2 l) []
theorem runV_snoc (ps : List RH) (p : RH) : runV (ps ++ [p]) = putV p.1 p.2 (runV ps) := by simp [runV]
theorem runV_len (ps : List RH) : (runV ps).length ≤ ps.length := by
  suffices ∀ (ps acc : List RH), (ps.foldl (fun l p => putV p.1 p.2 l) acc).length ≤ acc.length + ps.length by
    have := this ps []; simpa [runV] using this
  intro ps
  induction ps with
  | nil => intro acc; simp
  | cons p r ih =>
    intro acc
    rw [List.foldl_cons, List.length_cons]
    have h1 := ih (putV p.1 p.2 acc)
    have h2 := putV_len p.1 p.2 acc
    omega
/-! Rows alone. -/
def ahdR (key : ByteArray) (seq : Int) (l : List S28) : List S28 := l.takeWhile fun x => aheadB key seq x
def behR (key : ByteArray) (seq : Int) (l : List S28) : List S28 := l.dropWhile fun x => aheadB key seq x
def takenR (r : S28) (l : List S28) : Bool := match behR r.f0 r.f1 l with
  | [] => false
  | y :: _ => decide (y.f0 = r.f0) && decide (y.f1 = r.f1)
def putR (r : S28) (l : List S28) : List S28 := if takenR r l = true then l else ahdR r.f0 r.f1 l ++ r :: behR r.f0 r.f1 l
theorem rows_ahd (key : ByteArray) (seq : Int) (l : List RH) : (ahdV key seq l).map (·.1) = ahdR key seq (l.map (·.1)) := by
  unfold ahdV ahdR
  rw [List.takeWhile_map]
  rfl
theorem rows_beh (key : ByteArray) (seq : Int) (l : List RH) : (behV key seq l).map (·.1) = behR key seq (l.map (·.1)) := by
  unfold behV behR
  rw [List.dropWhile_map]
  rfl
theorem rows_taken (r : S28) (l : List RH) : takenV r l = takenR r (l.map (·.1)) := by
  unfold takenV takenR
  rw [← rows_beh]
  cases behV r.f0 r.f1 l <;> rfl
theorem rows_put (r : S28) (h : Nat) (l : List RH) : (putV r h l).map (·.1) = putR r (l.map (·.1)) := by
  unfold putV putR
  rw [rows_taken]
  split
  · rfl
  · rw [insV, List.map_append, List.map_cons, rows_ahd, rows_beh]
def runR (rs : List S28) : List S28 := rs.foldl (fun l r => putR r l) []
theorem rows_run (ps : List RH) : (runV ps).map (·.1) = runR (ps.map (·.1)) := by
  suffices ∀ (ps acc : List RH), (ps.foldl (fun l p => putV p.1 p.2 l) acc).map (·.1) = (ps.map (·.1)).foldl (fun l r => putR r l) (acc.map (·.1)) by
    simpa [runV, runR] using this ps []
  intro ps
  induction ps with
  | nil => intro acc; rfl
  | cons p r ih => intro acc; rw [List.foldl_cons, ih, rows_put, List.map_cons, List.foldl_cons]
theorem hts_of_run (ps : List RH) (P : Nat → Prop) (hP : ∀ p, p ∈ ps → P p.2) : ∀ x, x ∈ runV ps → P x.2 := by
  suffices ∀ (ps acc : List RH), (∀ p, p ∈ ps → P p.2) → (∀ x, x ∈ acc → P x.2) → ∀ x, x ∈ ps.foldl (fun l p => putV p.1 p.2 l) acc → P x.2 from this ps [] hP (fun x hx => by simp at hx)
  intro ps
  induction ps with
  | nil => intro acc _ h; exact h
  | cons p r ih =>
    intro acc h1 h2
    refine ih _ (fun q hq => h1 q (List.mem_cons_of_mem _ hq)) (fun x hx => ?_)
    replace hx : x ∈ putV p.1 p.2 acc := hx
    unfold putV at hx
    split at hx
    · exact h2 x hx
    · rw [insV] at hx
      rcases List.mem_append.mp hx with hx | hx
      · exact h2 x ((List.takeWhile_prefix _).subset hx)
      · rcases List.mem_cons.mp hx with rfl | hx
        · exact h1 _ List.mem_cons_self
        · exact h2 x ((List.dropWhile_suffix _).subset hx)
/-- Rows that are all one high: a search goes past each that is ahead. -/
theorem steps_ones {l : List Nat} (h : ∀ x, x ∈ l → x = 1) : stepsN 12 l = l.length := by
  have h1 : ∀ n, 1 ≤ n → stepsN (n + 1) l = stepsN n l := fun n hn => steps_end (fun x hx => by rw [h x hx]; exact hn)
  rw [h1 11 (by decide), h1 10 (by decide), h1 9 (by decide), h1 8 (by decide), h1 7 (by decide), h1 6 (by decide), h1 5 (by decide), h1 4 (by decide), h1 3 (by decide), h1 2 (by decide), h1 1 (by decide), stepsN, stepsN, Nat.add_zero]
  rw [List.countP_eq_length]
  intro x hx
  rw [h x hx]
  rfl
end Go.Proofs.Ytfemebenkbobnaa.SM
