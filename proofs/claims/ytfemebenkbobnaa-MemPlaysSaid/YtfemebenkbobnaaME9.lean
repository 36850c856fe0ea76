import Derived.Test.YtfemebenkbobnaaU09
import Derived.Test.YtfemebenkbobnaaUC
/- ref09's Add, walked. Conditions: at most 100000 rows, in order; batches of at most 1000. -/
namespace Go.Proofs.Ytfemebenkbobnaa.SM
set_option linter.unusedVariables false
set_option linter.unusedSimpArgs false
open Go.RowKit Go.Shelf Go.Proofs.YtfemebenkbobnaaW.PrintWords Go.Proofs.YtfemebenkbobnaaW.PrintLast Go.Proofs.YtfemebenkbobnaaW.PrintMore Go.Proofs.Ytfemebenkbobnaa.PB06
def addR (R L : List S28) : Nat → List S28
  | 0 => L
  | i + 1 => putR (R.getD i z28) (addR R L i)
theorem addR_good {n : Int} {l : List S72} {L : List S28} (h : SortedR L) (hn : ∀ r, r ∈ rowsL n 0 l → takenR r L = false) : ∀ i, i ≤ (rowsL n 0 l).length → SortedR (addR (rowsL n 0 l) L i) ∧ (addR (rowsL n 0 l) L i).length = L.length + i ∧ (∀ y, y ∈ addR (rowsL n 0 l) L i → y ∈ L ∨ ∃ j, j < i ∧ y = (rowsL n 0 l).getD j z28) ∧ (i < (rowsL n 0 l).length → takenR ((rowsL n 0 l).getD i z28) (addR (rowsL n 0 l) L i) = false) := by
  have hlen : (rowsL n 0 l).length = l.length := rowsL_len n 0 l
  have g : ∀ j (hj : j < l.length), (rowsL n 0 l).getD j z28 = row1 n j l[j] := fun j hj => by
    rw [List.getD_eq_getElem?_getD, rowsL_get n 0 j l hj, Nat.zero_add]; rfl
  have free : ∀ i, i < (rowsL n 0 l).length → (∀ y, y ∈ addR (rowsL n 0 l) L i → y ∈ L ∨ ∃ j, j < i ∧ y = (rowsL n 0 l).getD j z28) → takenR ((rowsL n 0 l).getD i z28) (addR (rowsL n 0 l) L i) = false := by
    intro i hi im
    have hm : (rowsL n 0 l).getD i z28 ∈ rowsL n 0 l := by
      rw [List.getD_eq_getElem?_getD, List.getElem?_eq_getElem hi]
      exact List.getElem_mem _
    refine not_taken fun y hy hsame => ?_
    rcases im y hy with hy | ⟨j, hj, rfl⟩
    · exact free_all h (hn _ hm) y hy hsame
    · have h2 := hsame.2
      rw [g j (by omega), g i (by omega)] at h2
      have h3 : n + (j : Int) = n + (i : Int) := h2
      omega
  intro i
  induction i with
  | zero => exact fun _ => ⟨h, rfl, fun y hy => .inl hy, fun hi => free 0 hi (fun y hy => .inl hy)⟩
  | succ i ih =>
    intro hi
    obtain ⟨i1, i2, i3, i4⟩ := ih (by omega)
    have hf := i4 (by omega)
    have i3' : ∀ y, y ∈ addR (rowsL n 0 l) L (i + 1) → y ∈ L ∨ ∃ j, j < i + 1 ∧ y = (rowsL n 0 l).getD j z28 := fun y hy => by
      rw [addR, putR_mem hf] at hy
      rcases hy with hy | rfl
      · rcases i3 y hy with hy | ⟨j, hj, e⟩
        · exact .inl hy
        · exact .inr ⟨j, by omega, e⟩
      · exact .inr ⟨i, by omega, rfl⟩
    exact ⟨by rw [addR]; exact sorted_put i1 hf, by rw [addR, putR_len hf, i2]; omega, i3', fun hi' => free (i + 1) hi' i3'⟩
theorem runT_rows (R : List S28) (hs : List Int) (t : Ts) : ∀ i, (runT R hs t i).l.map (·.1) = addR R (t.l.map (·.1)) i
  | 0 => rfl
  | i + 1 => by
    rw [runT, stepT, addR, ← runT_rows R hs t i]
    exact rows_put _ _ _
/-- What ref09's Add answers. -/
def refAddR (n : Int) (l : List S72) (L : List S28) : List S28 × Int :=
  if checkS n l ≠ 0 then (L, checkS n l) else if (rowsL n 0 l).all (fun r => !takenR r L) = true then (addR (rowsL n 0 l) L (rowsL n 0 l).length, 0) else (L, 2)
set_option maxHeartbeats 8000000 in
set_option maxRecDepth 100000 in
theorem refadd_calls (w : World) (base : Nat) (hbase : base ≤ w.heap.size) (A0 : Option Addr) (c0 : Nat) (L : List S28) (hR : Kd.R k28 28 w base (fun _ => True) (.slice A0 L.length c0) L) (hso : SortedR L) (hln : L.length ≤ 100000) (n : Int) (A1 : Option Addr) (c1 : Nat) (l : List S72) (hC : k72.C w A1 l.length l) (hc1 : l.length ≤ c1) (hl : l.length ≤ 1000) :
    Calls Try.prog 54 #[.slice A0 L.length c0, .agg #[.int .u64 n, .slice A1 l.length c1]] w fun e w' => ∃ A c, e = .returned (.tuple #[.slice A (refAddR n l L).1.length c, .int .i64 (refAddR n l L).2]) ∧ Kd.R k28 28 w' base (fun _ => True) (.slice A (refAddR n l L).1.length c) (refAddR n l L).1 ∧ Below w.heap.size w w' := by
  have HR := Aside0.mk hR
  have HSO := Aside0.mk hso
  have HLN := Aside0.mk hln
  have HC := Aside0.mk hC
  have HCc := Aside0.mk hc1
  have HLL := Aside0.mk hl
  have HBA := Aside0.mk hbase
  obtain ⟨kf, hkf⟩ := (ev_rCheck n l (by omega)).rounds
  obtain ⟨kr, hkr⟩ := (ev_rRows n l (by omega)).rounds
  have HF := Aside0.mk hkf
  have HRR := Aside0.mk hkr
  have HB := Aside0.mk (Below.refl w.heap.size w)
  clear hR hso hln hC hc1 hl hbase hkf hkr
  have RES := Aside0.mk (show refAddR n l L = if checkS n l ≠ 0 then (L, checkS n l) else if (rowsL n 0 l).all (fun r => !takenR r L) = true then (addR (rowsL n 0 l) L (rowsL n 0 l).length, 0) else (L, 2) from rfl)
  generalize refAddR n l L = res at *
  go_enter Try.func54, Try.ntmps54
  go_wp2_with (first | ((with_reducible refine gate_dst (N := 3) rfl ?_); refine box_event ?hg (N := 3) ?hd (cs := #[.int .u64 n, .slice A1 l.length c1]) (t := 58) ?hr ?_; (case hd => rfl); (case hg => rfl); (case hr => first | (go_simp; done) | (go_simp; rfl)); intro gb hg w2 hbox hb; have n0_ := Aside0.mk (below_step HB.out hb); have n1_ := Aside0.mk hbox; have n2_ := Aside0.mk (Kd.R_below HR.out hb); have n3_ := Aside0.mk (Kd.C_below HC.out hb); clear HB HR HC; have HB := n0_; have BR := n1_; have HR := n2_; have HC := n3_; clear n0_ n1_ n2_ n3_; clear hb hbox hg; have b0 : w2.cell? ⟨gb, 0, none⟩ = some (.int .u64 n) := (blk_cell BR.out 0).trans rfl; have b1 : w2.cell? ⟨gb, 1, none⟩ = some (.slice A1 l.length c1) := (blk_cell BR.out 1).trans rfl) | fail)
  refine (freshetref06_Check.calls kf n A1 c1 l _ w2 HC.out HCc.out HF.out).mono ?_
  rintro e w3 ⟨rfl, hb⟩
  have n0_ := Aside0.mk (below_step HB.out hb)
  have n1_ := Aside0.mk (blk_below BR.out hb)
  have n2_ := Aside0.mk (Kd.R_below HR.out hb)
  have n3_ := Aside0.mk (Kd.C_below HC.out hb)
  clear HB BR HR HC hb b0 b1
  have HB := n0_
  have BR := n1_
  have HR := n2_
  have HC := n3_
  clear n0_ n1_ n2_ n3_
  have b0 : w3.cell? ⟨gb, 0, none⟩ = some (.int .u64 n) := (blk_cell BR.out 0).trans rfl
  have b1 : w3.cell? ⟨gb, 1, none⟩ = some (.slice A1 l.length c1) := (blk_cell BR.out 1).trans rfl
  obtain ⟨f, hfe⟩ : ∃ f, f = checkS n l := ⟨_, rfl⟩
  have HFE := Aside0.mk hfe
  rw [← hfe] at RES ⊢
  clear hfe
  by_cases hf0 : f = 0
  · have f1 : (f == 0) = true := beq_iff_eq.mpr hf0
    have f2 : (f != 0) = false := by rw [hf0]; rfl
    have f3 : decide (f = 0) = true := decide_eq_true hf0
    have F0 := Aside0.mk hf0
    clear hf0
    go_wp2_with fail
    refine (freshetref06_Rows.calls kr n A1 c1 l _ w3 HC.out HCc.out HRR.out).mono ?_
    rw [show rowsS n l = rowsL n 0 l from by rw [rowsS, if_pos (by rw [← HFE.out]; exact F0.out)]]
    rintro e w4 ⟨v, rfl, hRr, hb⟩
    have RE2 := Aside0.mk (show res = if (rowsL n 0 l).all (fun r => !takenR r L) = true then (addR (rowsL n 0 l) L (rowsL n 0 l).length, 0) else (L, 2) by rw [RES.out, if_neg (fun h => h F0.out)])
    have GD := Aside0.mk (fun hn => addR_good (n := n) (l := l) HSO.out hn)
    have RL := Aside0.mk (show (rowsL n 0 l).length ≤ 1000 by rw [rowsL_len]; exact HLL.out)
    generalize rowsL n 0 l = R at *
    obtain ⟨AR, cR, hv⟩ := Kd.R_slice hRr
    subst hv
    have RR := Aside0.mk hRr
    have RC := Aside0.mk (Kd.R_reads' hRr).2.2
    have n0_ := Aside0.mk (below_step HB.out hb)
    have n2_ := Aside0.mk (Kd.R_below HR.out hb)
    have CL := Aside0.mk (Kd.R_reads' n2_.out).2.2
    have CLc := Aside0.mk (Kd.R_reads' n2_.out).2.1
    clear HB BR HR HC hb b0 b1 f1 f2 f3 hRr
    have HB := n0_
    have HR := n2_
    clear n0_ n2_
    go_wp2_with fail
    go_loopg [8] R.length (fun kq v8 w' => ∃ (i : Nat), v8 = .int .i64 (i : Int) ∧ Aside0 (kq + i = R.length) ∧ Aside0 (∀ r, r ∈ R.take i → takenR r L = false) ∧ Aside0 (Below w4.heap.size w4 w'))
    case atStart => exact ⟨0, rfl, ⟨by omega⟩, ⟨fun r hr => by simp at hr⟩, ⟨Below.refl _ _⟩⟩
    case round =>
      obtain ⟨i, rfl, HK, HNT, HBL⟩ := hrel
      cases gk with
      | zero =>
        have ei : i = R.length := by have := HK.out; omega
        subst ei
        have d0 : decide ((R.length : Int) < (R.length : Int)) = false := by simp
        have HN2 := Aside0.mk (show ∀ r, r ∈ R → takenR r L = false by have h1 := HNT.out; rw [List.take_length] at h1; exact h1)
        have RE3 := Aside0.mk (show res = (addR R L R.length, 0) by rw [RE2.out, if_pos (List.all_eq_true.mpr fun r hr => by rw [HN2.out r hr]; rfl)])
        have n0_ := Aside0.mk (below_step HB.out HBL.out)
        have n1_ := Aside0.mk (Kd.R_below HR.out HBL.out)
        have n2_ := Aside0.mk (Kd.C_below RC.out HBL.out)
        clear HB HR RC RR HBL HNT CL CLc HK
        have HB := n0_
        have HR := n1_
        have RC := n2_
        clear n0_ n1_ n2_
        go_wp2_with fail
        go_loopg [0, 9] R.length (fun kq v0 v9 w' => ∃ (i : Nat) (A : Option Addr) (c : Nat), v9 = .int .i64 (i : Int) ∧ v0 = .slice A (addR R L i).length c ∧ Aside0 (kq + i = R.length) ∧ Aside0 (Kd.R k28 28 w' base (fun _ => True) (.slice A (addR R L i).length c) (addR R L i)) ∧ Aside0 (k28.C w' AR R.length R) ∧ Aside0 (Below w.heap.size w w'))
        case atStart => exact ⟨0, A0, c0, rfl, rfl, ⟨by omega⟩, HR, RC, HB⟩
        case round =>
          clear HR RC HB
          obtain ⟨i, A, c, rfl, rfl, HK, HR, RC, HB⟩ := hrel
          cases gk with
          | zero =>
            have ei : i = R.length := by have := HK.out; omega
            subst ei
            have d0 : decide ((R.length : Int) < (R.length : Int)) = false := by simp
            go_wp2_with fail
            exact bodyPost_ret (v := .tuple #[.slice A (addR R L R.length).length c, .int .i64 0]) (by simp [results, Try.results54, go_sem]) rfl ⟨A, c, by rw [RE3.out], by rw [RE3.out]; exact HR.out, HB.out⟩
          | succ q =>
            have hi : i < R.length := by have := HK.out; omega
            have d0 : decide ((i : Int) < (R.length : Int)) = true := decide_eq_true (by omega)
            have d1 : decide (i < R.length) = true := decide_eq_true hi
            have p0 : 0 ≤ (i : Int) := Int.natCast_nonneg _
            have p1 : (i : Int) < (R.length : Int) := Int.ofNat_lt.mpr hi
            obtain ⟨ad, x, ea, hxx, hx0, hx1, hx2, hx3⟩ := at_row RC.out i hi
            cases ea
            obtain ⟨g1, g2, _, g4⟩ := GD.out HN2.out i (by omega)
            have hfree := g4 hi
            rw [hxx] at hfree
            have EX := Aside0.mk (show addR R L (i + 1) = putR x (addR R L i) by rw [addR, hxx])
            have WF := Aside0.mk (with_f (r := x) g1 (by have := HLN.out; have := RL.out; omega) hfree)
            have LNI := Aside0.mk g2
            obtain ⟨M, hM⟩ : ∃ M, M = addR R L i := ⟨_, rfl⟩
            rw [← hM] at HR EX WF LNI ⊢
            clear hxx g1 g2 g4 hfree hM
            go_wp2_with fail
            refine (freshetref09_With.calls _ A c M x.f0 x.f1 x.f2 x.f3 _ wr (Kd.R_reads' HR.out).2.2 (Kd.R_reads' HR.out).2.1 WF.out).mono ?_
            rw [← EX.out]
            rintro e w6 ⟨v, rfl, hRw, hb⟩
            obtain ⟨Aw, cw, hv⟩ := Kd.R_slice hRw
            subst hv
            have n0_ := Aside0.mk (Kd.R_lower hRw (Nat.le_trans HBA.out HB.out.size))
            have n1_ := Aside0.mk (Kd.C_below RC.out hb)
            have n2_ := Aside0.mk (below_step HB.out hb)
            clear hRw HR RC HB hb hx0 hx1 hx2 hx3
            go_wp2_with fail
            have ew : wrap64 ((i : Int) + 1) = ((i + 1 : Nat) : Int) := by have := RL.out; unfold wrap64; omega
            try rw [ew]
            go_roundg q
            case measure => omega
            case rel => exact ⟨i + 1, Aw, cw, rfl, rfl, ⟨by have := HK.out; omega⟩, n0_, n1_, n2_⟩
      | succ q =>
        have hi : i < R.length := by have := HK.out; omega
        have d0 : decide ((i : Int) < (R.length : Int)) = true := decide_eq_true (by omega)
        have d1 : decide (i < R.length) = true := decide_eq_true hi
        have p0 : 0 ≤ (i : Int) := Int.natCast_nonneg _
        have p1 : (i : Int) < (R.length : Int) := Int.ofNat_lt.mpr hi
        obtain ⟨ad, x, ea, hxx, hx0, hx1, hx2, hx3⟩ := at_row (Kd.C_below RC.out HBL.out) i hi
        cases ea
        have XE := Aside0.mk hxx
        clear hxx hx2 hx3
        go_wp2_with fail
        refine start_ (n := 12) (S := fun w' => w'.cell? (ad.add (i * 4)) = some (.string x.f0) ∧ w'.cell? ⟨(ad.add (i * 4)).block, (ad.add (i * 4)).off + 1, none⟩ = some (.int .u64 x.f1)) (ds := []) #[false, false, false, false, false, false, false, false, false, false, false, false] (by kernel_rfl) rfl rfl ⟨hx0, hx1⟩ (fun hHeld => ?_)
        have n0_ : Aside0 (Below w4.heap.size w4 wr.drew) := Aside0.mk (below_step HBL.out (pw_below_drewN (Below.refl _ _) 1))
        clear HBL hx0 hx1
        generalize wr.drew = wd at *
        have HBL := n0_
        clear n0_
        -- 0: Op.move t0
        refine pure_ (i := 0) (N := (some 24)) (v := ?_) (a' := ?_) #[true, false, false, false, false, false, false, false, false, false, false, false] rfl rfl (by kernel_rfl) (fun _ _ _ h => h) (Or.inl ⟨by rfl, ?_⟩) ?_ ?_
        rotate_left
        · intro w'
          go_simp
          with_reducible rfl
        rotate_left
        · simp only [Act.put, List.setIfInBounds_toArray, List.set_cons_zero, List.set_cons_succ, i64_w, i32_w]
          rfl
        -- 1: Op.move t7
        refine pure_ (i := 1) (N := (some 25)) (v := ?_) (a' := ?_) #[true, true, false, false, false, false, false, false, false, false, false, false] rfl rfl (by kernel_rfl) (fun _ _ _ h => h) (Or.inl ⟨by rfl, ?_⟩) ?_ ?_
        rotate_left
        · intro w'
          go_simp
          with_reducible rfl
        rotate_left
        · simp only [Act.put, List.setIfInBounds_toArray, List.set_cons_zero, List.set_cons_succ, i64_w, i32_w]
          rfl
        -- 2: Op.move t8
        refine pure_ (i := 2) (N := (some 26)) (v := ?_) (a' := ?_) #[true, true, true, false, false, false, false, false, false, false, false, false] rfl rfl (by kernel_rfl) (fun _ _ _ h => h) (Or.inl ⟨by rfl, ?_⟩) ?_ ?_
        rotate_left
        · intro w'
          go_simp
          with_reducible rfl
        rotate_left
        · simp only [Act.put, List.setIfInBounds_toArray, List.set_cons_zero, List.set_cons_succ, i64_w, i32_w]
          rfl
        -- 3: Op.indexAddr 22 t25 t26
        refine pure_ (i := 3) (N := (some 27)) (v := ?_) (a' := ?_) #[true, true, true, true, false, false, false, false, false, false, false, false] rfl rfl (by kernel_rfl) (fun _ _ _ h => h) (Or.inl ⟨by rfl, ?_⟩) ?_ ?_
        rotate_left
        · intro w'
          go_simp
          with_reducible rfl
        rotate_left
        · simp only [Act.put, List.setIfInBounds_toArray, List.set_cons_zero, List.set_cons_succ, i64_w, i32_w]
          rfl
        -- 4: Op.fieldAddr 28 t27 0
        refine pure_ (i := 4) (N := (some 28)) (v := ?_) (a' := ?_) #[true, true, true, true, true, false, false, false, false, false, false, false] rfl rfl (by kernel_rfl) (fun _ _ _ h => h) (Or.inl ⟨by rfl, ?_⟩) ?_ ?_
        rotate_left
        · intro w'
          go_simp
          with_reducible rfl
        rotate_left
        · simp only [Act.put, List.setIfInBounds_toArray, List.set_cons_zero, List.set_cons_succ, i64_w, i32_w]
          rfl
        -- 5: Op.load 9 t28
        refine take_ (i := 5) (N := (some 29)) (v := ?_) (a' := ?_) #[true, true, true, true, true, true, false, false, false, false, false, false] rfl rfl (by kernel_rfl) (fun _ _ _ h => h) (Or.inl ⟨by rfl, ?_⟩) hHeld ?_ ?_
        rotate_left
        · rintro w' ⟨s0, s1⟩
          go_simp
          with_reducible rfl
        rotate_left
        · simp only [Act.put, List.setIfInBounds_toArray, List.set_cons_zero, List.set_cons_succ, i64_w, i32_w]
          rfl
        -- 6: Op.move t7
        refine pure_ (i := 6) (N := (some 30)) (v := ?_) (a' := ?_) #[true, true, true, true, true, true, true, false, false, false, false, false] rfl rfl (by kernel_rfl) (fun _ _ _ h => h) (Or.inl ⟨by rfl, ?_⟩) ?_ ?_
        rotate_left
        · intro w'
          go_simp
          with_reducible rfl
        rotate_left
        · simp only [Act.put, List.setIfInBounds_toArray, List.set_cons_zero, List.set_cons_succ, i64_w, i32_w]
          rfl
        -- 7: Op.move t8
        refine pure_ (i := 7) (N := (some 31)) (v := ?_) (a' := ?_) #[true, true, true, true, true, true, true, true, false, false, false, false] rfl rfl (by kernel_rfl) (fun _ _ _ h => h) (Or.inl ⟨by rfl, ?_⟩) ?_ ?_
        rotate_left
        · intro w'
          go_simp
          with_reducible rfl
        rotate_left
        · simp only [Act.put, List.setIfInBounds_toArray, List.set_cons_zero, List.set_cons_succ, i64_w, i32_w]
          rfl
        -- 8: Op.indexAddr 22 t30 t31
        refine pure_ (i := 8) (N := (some 32)) (v := ?_) (a' := ?_) #[true, true, true, true, true, true, true, true, true, false, false, false] rfl rfl (by kernel_rfl) (fun _ _ _ h => h) (Or.inl ⟨by rfl, ?_⟩) ?_ ?_
        rotate_left
        · intro w'
          go_simp
          with_reducible rfl
        rotate_left
        · simp only [Act.put, List.setIfInBounds_toArray, List.set_cons_zero, List.set_cons_succ, i64_w, i32_w]
          rfl
        -- 9: Op.fieldAddr 28 t32 1
        refine pure_ (i := 9) (N := (some 33)) (v := ?_) (a' := ?_) #[true, true, true, true, true, true, true, true, true, true, false, false] rfl rfl (by kernel_rfl) (fun _ _ _ h => h) (Or.inl ⟨by rfl, ?_⟩) ?_ ?_
        rotate_left
        · intro w'
          go_simp
          with_reducible rfl
        rotate_left
        · simp only [Act.put, List.setIfInBounds_toArray, List.set_cons_zero, List.set_cons_succ, i64_w, i32_w]
          rfl
        -- 10: Op.load 24 t33
        refine take_ (i := 10) (N := (some 34)) (v := ?_) (a' := ?_) #[true, true, true, true, true, true, true, true, true, true, true, false] rfl rfl (by kernel_rfl) (fun _ _ _ h => h) (Or.inl ⟨by rfl, ?_⟩) hHeld ?_ ?_
        rotate_left
        · rintro w' ⟨s0, s1⟩
          go_simp
          with_reducible rfl
        rotate_left
        · simp only [Act.put, List.setIfInBounds_toArray, List.set_cons_zero, List.set_cons_succ, i64_w, i32_w]
          rfl
        -- 11: Op.call { value (Operand.func 67), args := #[t24, t29, t34], argTypes := #[22, 9, 24] }
        refine one_ (i := 11) (N := (some 35)) #[true, true, true, true, true, true, true, true, true, true, true, true] rfl rfl (by kernel_rfl) (by decide) (fun K hK => ?_)
        refine goes_ Try.func67 (by kernel_rfl) rfl #[.slice A0 L.length c0, .string x.f0, .int .u64 x.f1] (by rfl) rfl rfl (by (try simp only [List.map_toArray, List.map_cons, List.map_nil]); first | done | rfl) ?_
        with_reducible refine (freshetref08_There.calls _ A0 c0 L x.f0 x.f1 (takenR x L) wd (Kd.C_below CL.out HBL.out) CLc.out (there_f HSO.out (by have := HLN.out; omega))).mono ?_
        rintro e wj ⟨rfl, hb⟩
        refine ⟨_, rfl, ?_⟩
        have hOld := hHeld
        clear hHeld
        refine hK.out _ _ (⟨(hb.cell (World.block_lt_of_cell? _ _ hOld.1)).trans hOld.1, (hb.cell (World.block_lt_of_cell? _ _ hOld.2)).trans hOld.2⟩) (fun hHeld => ?_)
        clear hOld hK K
        refine norm_ (a' := ?_) ?_ ?_
        rotate_left
        · show Act.put _ (some 35) _ = _
          simp only [Act.put, List.setIfInBounds_toArray, List.set_cons_zero, List.set_cons_succ, i64_w, i32_w]
          rfl
        refine done_ (by kernel_rfl) ?_
        have n0_ := Aside0.mk (below_step HBL.out hb)
        clear HBL hb hHeld
        have HBL := n0_
        clear n0_
        have XM := Aside0.mk (show x ∈ R by rw [← XE.out, List.getD_eq_getElem?_getD, List.getElem?_eq_getElem hi]; exact List.getElem_mem _)
        cases htk : takenR x L with
        | true =>
          have RE3 := Aside0.mk (show res = (L, 2) by rw [RE2.out, if_neg (fun h => by have h2 := List.all_eq_true.mp h x XM.out; rw [htk] at h2; cases h2)])
          go_wp2_with fail
          exact bodyPost_ret (v := .tuple #[.slice A0 L.length c0, .int .i64 2]) (by simp [results, Try.results54, go_sem]) rfl ⟨A0, c0, by rw [RE3.out], by rw [RE3.out]; exact Kd.R_below HR.out HBL.out, below_step HB.out HBL.out⟩
        | false =>
          have HNT2 := Aside0.mk (show ∀ r, r ∈ R.take (i + 1) → takenR r L = false from fun r hr => by
            rw [List.take_add_one, List.getElem?_eq_getElem hi] at hr
            rcases List.mem_append.mp hr with hr | hr
            · exact HNT.out r hr
            · simp at hr
              have e1 := XE.out
              rw [List.getD_eq_getElem?_getD, List.getElem?_eq_getElem hi] at e1
              rw [hr, show R[i] = x from e1]
              exact htk)
          go_wp2_with fail
          have ew : wrap64 ((i : Int) + 1) = ((i + 1 : Nat) : Int) := by have := RL.out; unfold wrap64; omega
          try rw [ew]
          go_roundg q
          case measure => omega
          case rel => exact ⟨i + 1, rfl, ⟨by have := HK.out; omega⟩, HNT2, HBL⟩
  · have f1 : (f == 0) = false := beq_eq_false_iff_ne.mpr hf0
    have f2 : (f != 0) = true := bne_iff_ne.mpr hf0
    have f3 : decide (f = 0) = false := decide_eq_false hf0
    have RE3 := Aside0.mk (show res = (L, f) by rw [RES.out, if_pos hf0])
    clear hf0
    go_wp2_with fail
    exact bodyPost_ret (v := .tuple #[.slice A0 L.length c0, .int .i64 f]) (by simp [results, Try.results54, go_sem]) rfl ⟨A0, c0, by rw [RE3.out], by rw [RE3.out]; exact HR.out, HB.out⟩
end Go.Proofs.Ytfemebenkbobnaa.SM
