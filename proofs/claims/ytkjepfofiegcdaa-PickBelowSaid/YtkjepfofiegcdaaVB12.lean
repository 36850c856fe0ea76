import Derived.Test.YtkjepfofiegcdaaVB11
import Derived.BigRegion
/- The span of tables (pick.span), walked. Conditions: none. -/
namespace Go.Proofs.Ytkjepfofiegcdaa.V
set_option linter.unusedVariables false
set_option linter.unusedSimpArgs false
open Go.RowKit Go.Proofs.YtkjepfofiegcdaaW.PrintWords Go.Proofs.YtkjepfofiegcdaaW.PrintLast Go.Proofs.YtkjepfofiegcdaaW.PrintMore Go.Proofs.Ytkjepfofiegcdaa.PB14
def smn (x y : ByteArray) : ByteArray := if Op.bytesLess y.toList x.toList = true then y else x
def smx (x y : ByteArray) : ByteArray := if Op.bytesLess x.toList y.toList = true then y else x
theorem smn_self (x : ByteArray) : smn x x = x := by unfold smn; split <;> rfl
theorem smx_self (x : ByteArray) : smx x x = x := by unfold smx; split <;> rfl
theorem min2_str (x y : ByteArray) : Builtin.min2 (.string x) (.string y) = pure (.string (smn x y)) := by
  unfold smn
  cases h : Op.bytesLess y.toList x.toList with
  | true =>
    have h2 : ¬ (Op.bytesLess x.toList y.toList = true ∨ x.toList = y.toList) := fun hq => by rw [le_less] at hq; rw [h] at hq; cases hq
    simp [Builtin.min2, Op.stringOp, asBool, h2]
  | false =>
    have h2 : Op.bytesLess x.toList y.toList = true ∨ x.toList = y.toList := le_less.mpr h
    simp [Builtin.min2, Op.stringOp, asBool, h2]
theorem max2_str (x y : ByteArray) : Builtin.max2 (.string x) (.string y) = pure (.string (smx x y)) := by
  unfold smx
  cases h : Op.bytesLess x.toList y.toList with
  | true => simp [Builtin.max2, Op.stringOp, asBool, h]
  | false => simp [Builtin.max2, Op.stringOp, asBool, h]
def spanS (st : Option (ByteArray × ByteArray)) (m : S58) : Option (ByteArray × ByteArray) := some (match st with
  | none => (m.f3, m.f4)
  | some q => (smn q.1 m.f3, smx q.2 m.f4))
def spanO (L : List S58) : Option (ByteArray × ByteArray) := L.foldl spanS none
theorem spanO_snoc (L : List S58) (m : S58) : spanO (L ++ [m]) = spanS (spanO L) m := by unfold spanO; rw [List.foldl_append]; rfl
def spF (st : Option (ByteArray × ByteArray)) : ByteArray := (st.getD (⟨#[]⟩, ⟨#[]⟩)).1
def spL (st : Option (ByteArray × ByteArray)) : ByteArray := (st.getD (⟨#[]⟩, ⟨#[]⟩)).2
/-- The span as a table. -/
def spanM (L : List S58) : S58 := ⟨0, 0, 0, spF (spanO L), spL (spanO L), 0, 0⟩
attribute [local go_sem] max_two min_two min2_str max2_str
def k23 : Kd (List S58) := Kd.slice 58 k58
theorem at_K23 {w : World} {A : Option Addr} {n : Nat} {xs : List (List S58)} (h : Kd.C k23 w A n xs) (i : Nat) (hi : i < n) : ∃ ad X c, A = some ad ∧ w.cell? (ad.add i) = some (.slice X (xs.getD i []).length c) ∧ (xs.getD i []).length ≤ c ∧ k58.C w X (xs.getD i []).length (xs.getD i []) := by
  obtain ⟨ad, c, e, _, hK, hc0⟩ := Kd.C_get h [] (i : Int) (by omega) (by omega)
  obtain ⟨X, c, rfl, l1, g1⟩ := hK
  refine ⟨ad, X, c, e, ?_, l1, g1⟩
  have := hc0 0 _ rfl
  rw [Int.toNat_natCast, show i * k23.sz + 0 = i from by show i * 1 + 0 = i; omega] at this
  exact this
theorem two_set {w : World} {g t : Nat} {a b a' b' : ByteArray} (h : w.heap[g]? = some (.cells #[.int .u64 0, .int .i64 0, .int .i64 0, .string a, .string b, .int .u64 0, .int .u64 0] t (0, 0))) : ((w.setCell ⟨g, 3, none⟩ (.string a')).setCell ⟨g, 4, none⟩ (.string b')).heap[g]? = some (.cells #[.int .u64 0, .int .i64 0, .int .i64 0, .string a', .string b', .int .u64 0, .int .u64 0] t (0, 0)) :=
  blk_put (cs' := #[.int .u64 0, .int .i64 0, .int .i64 0, .string a', .string b', .int .u64 0, .int .u64 0]) (blk_put (cs' := #[.int .u64 0, .int .i64 0, .int .i64 0, .string a', .string b, .int .u64 0, .int .u64 0]) h 3 (.string a') rfl) 4 (.string b') rfl
theorem two_set' {w : World} {g t : Nat} {a b a' b' : ByteArray} (h : w.heap[g]? = some (.cells #[.int .u64 0, .int .i64 0, .int .i64 0, .string a, .string b, .int .u64 0, .int .u64 0] t (0, 0))) : ((w.setCell ⟨g, 4, none⟩ (.string b')).setCell ⟨g, 3, none⟩ (.string a')).heap[g]? = some (.cells #[.int .u64 0, .int .i64 0, .int .i64 0, .string a', .string b', .int .u64 0, .int .u64 0] t (0, 0)) :=
  blk_put (cs' := #[.int .u64 0, .int .i64 0, .int .i64 0, .string a', .string b', .int .u64 0, .int .u64 0]) (blk_put (cs' := #[.int .u64 0, .int .i64 0, .int .i64 0, .string a, .string b', .int .u64 0, .int .u64 0]) h 4 (.string b') rfl) 3 (.string a') rfl
set_option maxHeartbeats 8000000 in
set_option maxRecDepth 100000 in
theorem span_calls (w : World) (A : Option Addr) (c : Nat) (Ls : List (List S58)) (hC : k23.C w A Ls.length Ls) : Calls Try.prog 91 #[.slice A Ls.length c] w fun e w' => e = .returned (.tuple #[.agg (mCs (spanM Ls.flatten)), .bool (spanO Ls.flatten).isSome]) ∧ Below w.heap.size w w' := by
  have HC := Aside0.mk hC
  have HB := Aside0.mk ((Below.refl w.heap.size w).alloc (Nat.le_refl _) (.cells #[.int .u64 0, .int .i64 0, .int .i64 0, .string ⟨#[]⟩, .string ⟨#[]⟩, .int .u64 0, .int .u64 0] 58))
  have X2 := Aside0.mk (blk_new w (.cells #[.int .u64 0, .int .i64 0, .int .i64 0, .string ⟨#[]⟩, .string ⟨#[]⟩, .int .u64 0, .int .u64 0] 58))
  clear hC
  go_enter Try.func91, Try.ntmps91
  go_wp2_with fail
  generalize w.alloc (.cells #[.int .u64 0, .int .i64 0, .int .i64 0, .string ⟨#[]⟩, .string ⟨#[]⟩, .int .u64 0, .int .u64 0] 58) = w1 at *
  go_loopg [3, 5, 7, 10] Ls.length (fun kq v3 v5 v7 v10 w' => ∃ (i : Nat) (st : Option (ByteArray × ByteArray)), v3 = .bool st.isSome ∧ v10 = .int .i64 (i : Int) ∧ Aside0 (kq + i = Ls.length) ∧ Aside0 (st = spanO (Ls.take i).flatten) ∧ Aside0 (Below w.heap.size w w') ∧ Aside0 (w'.heap[w.heap.size]? = some (.cells #[.int .u64 0, .int .i64 0, .int .i64 0, .string (spF st), .string (spL st), .int .u64 0, .int .u64 0] 58 (0, 0))))
  case atStart => exact ⟨0, none, rfl, rfl, ⟨by omega⟩, ⟨rfl⟩, HB, X2⟩
  case round =>
    clear HB X2
    obtain ⟨i, st, rfl, rfl, HK, HST, HB, X2⟩ := hrel
    cases gk with
    | zero =>
      have ei : i = Ls.length := by have := HK.out; omega
      subst ei
      have d0 : decide ((Ls.length : Int) < (Ls.length : Int)) = false := by simp
      rw [List.take_length] at HST
      have HBR := Aside0.mk HST.out.symm
      have z0 : wr.cell? ⟨w.heap.size, 0, none⟩ = some (.int .u64 0) := (blk_cell X2.out 0).trans rfl
      have z1 : wr.cell? ⟨w.heap.size, 1, none⟩ = some (.int .i64 0) := (blk_cell X2.out 1).trans rfl
      have z2 : wr.cell? ⟨w.heap.size, 2, none⟩ = some (.int .i64 0) := (blk_cell X2.out 2).trans rfl
      have z3 : wr.cell? ⟨w.heap.size, 3, none⟩ = some (.string (spF st)) := (blk_cell X2.out 3).trans rfl
      have z4 : wr.cell? ⟨w.heap.size, 4, none⟩ = some (.string (spL st)) := (blk_cell X2.out 4).trans rfl
      have z5 : wr.cell? ⟨w.heap.size, 5, none⟩ = some (.int .u64 0) := (blk_cell X2.out 5).trans rfl
      have z6 : wr.cell? ⟨w.heap.size, 6, none⟩ = some (.int .u64 0) := (blk_cell X2.out 6).trans rfl
      have SM := Aside0.mk (show spanM Ls.flatten = ⟨0, 0, 0, spF st, spL st, 0, 0⟩ by unfold spanM; rw [HST.out])
      go_wp2_with (first | (refine st_arr rfl 58 _ _ rfl w.heap.size 58 ?hx (mCs ⟨0, 0, 0, spF st, spL st, 0, 0⟩) ?hy _ X2.out (by rw [size58]; rfl) rfl (mCs_one _) ?_; (case hx => rfl); (case hy => rfl); intro w5 hb5 hbb hk5 hs5; have HB5 := Aside0.mk (hbb _ _ HB.out (Nat.le_refl _)); have X5 := Aside0.mk hb5; clear hb5 hbb hk5 hs5) | fail)
      have r0 : w5.cell? ⟨w.heap.size, 0, none⟩ = some (.int .u64 0) := (blk_cell X5.out 0).trans rfl
      have r1 : w5.cell? ⟨w.heap.size, 1, none⟩ = some (.int .i64 0) := (blk_cell X5.out 1).trans rfl
      have r2 : w5.cell? ⟨w.heap.size, 2, none⟩ = some (.int .i64 0) := (blk_cell X5.out 2).trans rfl
      have r3 : w5.cell? ⟨w.heap.size, 3, none⟩ = some (.string (spF st)) := (blk_cell X5.out 3).trans rfl
      have r4 : w5.cell? ⟨w.heap.size, 4, none⟩ = some (.string (spL st)) := (blk_cell X5.out 4).trans rfl
      have r5 : w5.cell? ⟨w.heap.size, 5, none⟩ = some (.int .u64 0) := (blk_cell X5.out 5).trans rfl
      have r6 : w5.cell? ⟨w.heap.size, 6, none⟩ = some (.int .u64 0) := (blk_cell X5.out 6).trans rfl
      exact bodyPost_ret (v := .tuple #[.agg (mCs ⟨0, 0, 0, spF st, spL st, 0, 0⟩), .bool st.isSome]) (by simp [results, Try.results91, go_sem, r0, r1, r2, r3, r4, r5, r6]) rfl ⟨by rw [SM.out, ← HST.out], HB5.out⟩
    | succ q =>
      have hi : i < Ls.length := by have := HK.out; omega
      have d0 : decide ((i : Int) < (Ls.length : Int)) = true := decide_eq_true (by omega)
      have d1 : decide (i < Ls.length) = true := decide_eq_true hi
      have p0 : 0 ≤ (i : Int) := Int.natCast_nonneg _
      have p1 : (i : Int) < (Ls.length : Int) := by omega
      have HM := Aside0.mk (show Ls.length ≤ 9223372036854775807 from HC.out.2.1)
      have TK := Aside0.mk (show (Ls.take (i + 1)).flatten = (Ls.take i).flatten ++ Ls.getD i [] by rw [take_snoc Ls [] hi, List.flatten_append]; simp)
      obtain ⟨ad, X, d, ea, hx0, hxc, hxC⟩ := at_K23 HC.out i hi
      rw [ea]
      have HAX := Aside0.mk ea
      obtain ⟨l, hl⟩ : ∃ l, l = Ls.getD i [] := ⟨_, rfl⟩
      rw [← hl] at hx0 hxc hxC TK
      have hx1 := (HB.out.cell (World.block_lt_of_cell? w _ hx0)).trans hx0
      have HX := Aside0.mk hxC
      clear ea hi hxc hxC hl hx0
      go_wp2_with fail
      go_loopg [3, 7, 16] l.length (fun kq v3 v7 v16 w' => ∃ (k : Nat) (st : Option (ByteArray × ByteArray)), v3 = .bool st.isSome ∧ v16 = .int .i64 (k : Int) ∧ Aside0 (kq + k = l.length) ∧ Aside0 (st = spanO ((Ls.take i).flatten ++ l.take k)) ∧ Aside0 (Below w.heap.size w w') ∧ Aside0 (w'.heap[w.heap.size]? = some (.cells #[.int .u64 0, .int .i64 0, .int .i64 0, .string (spF st), .string (spL st), .int .u64 0, .int .u64 0] 58 (0, 0))))
      case atStart => exact ⟨0, st, rfl, rfl, ⟨by omega⟩, by rw [List.take_zero, List.append_nil]; exact HST, HB, X2⟩
      case round =>
        clear HB X2 HST hx1
        obtain ⟨k, st, rfl, rfl, HKK, HST, HB, X2⟩ := hrel
        cases gk with
        | zero =>
          have ek : k = l.length := by have := HKK.out; omega
          subst ek
          have d0 : decide ((l.length : Int) < (l.length : Int)) = false := by simp
          rw [List.take_length, ← TK.out] at HST
          go_wp2_with fail
          have ew : wrap64 ((i : Int) + 1) = ((i + 1 : Nat) : Int) := by have h1 := HM.out; have h2 := HK.out; unfold wrap64; omega
          try rw [ew]
          rw [← HAX.out]
          go_roundg q
          case measure => omega
          case rel => exact ⟨i + 1, st, rfl, rfl, ⟨by have := HK.out; omega⟩, HST, HB, X2⟩
        | succ g =>
          have hk : k < l.length := by have := HKK.out; omega
          have d0 : decide ((k : Int) < (l.length : Int)) = true := decide_eq_true (by omega)
          have d1 : decide (k < l.length) = true := decide_eq_true hk
          have p0 : 0 ≤ (k : Int) := Int.natCast_nonneg _
          have p1 : (k : Int) < (l.length : Int) := by omega
          have HML := Aside0.mk (show l.length ≤ 9223372036854775807 from HX.out.2.1)
          obtain ⟨ax, eb, ha0, ha1, ha2, ha3, ha4, ha5, ha6⟩ := at_T58 HX.out (k : Int) p0 p1
          rw [Int.toNat_natCast] at ha0 ha1 ha2 ha3 ha4 ha5 ha6
          have EM := Aside0.mk (show rd_T58 l (k : Int) = l.getD k z58 by unfold rd_T58; rw [Int.toNat_natCast])
          generalize rd_T58 l (k : Int) = m at *
          have TS := Aside0.mk (show spanO ((Ls.take i).flatten ++ l.take (k + 1)) = spanS st m by rw [take_snoc l z58 hk, ← List.append_assoc, spanO_snoc, HST.out, EM.out])
          have HAY := Aside0.mk eb
          rw [eb]
          have c0 := (HB.out.cell (World.block_lt_of_cell? w _ ha0)).trans ha0
          have c1 := (HB.out.cell (World.block_lt_of_cell? w _ ha1)).trans ha1
          have c2 := (HB.out.cell (World.block_lt_of_cell? w _ ha2)).trans ha2
          have c3 := (HB.out.cell (World.block_lt_of_cell? w _ ha3)).trans ha3
          have c4 := (HB.out.cell (World.block_lt_of_cell? w _ ha4)).trans ha4
          have c5 := (HB.out.cell (World.block_lt_of_cell? w _ ha5)).trans ha5
          have c6 := (HB.out.cell (World.block_lt_of_cell? w _ ha6)).trans ha6
          clear ha0 ha1 ha2 ha3 ha4 ha5 ha6
          have ew : wrap64 ((k : Int) + 1) = ((k + 1 : Nat) : Int) := by have h1 := HML.out; have h2 := HKK.out; unfold wrap64; omega
          have hb1 := (Below.refl wr.heap.size wr).alloc (Nat.le_refl _) (.cells (mCs m) 58)
          have HB1 := Aside0.mk (below_step HB.out hb1)
          have X21 := Aside0.mk (blk_below X2.out hb1)
          have XM := Aside0.mk (blk_new wr (.cells (mCs m) 58))
          have NE := Aside0.mk (show w.heap.size ≠ wr.heap.size from Nat.ne_of_lt (blk_lt X2.out))
          clear eb hk hb1 HB X2 HST
          cases st with
          | none =>
            go_upto_region 8 with (fail)
            generalize wr.heap.size = gm at *
            generalize wr.alloc (.cells #[.int .u64 m.f0, .int .i64 m.f1, .int .i64 m.f2, .string m.f3, .string m.f4, .int .u64 m.f5, .int .u64 m.f6] 58) = w4 at *
            have m3 : w4.cell? ⟨gm, 3, none⟩ = some (.string m.f3) := (blk_cell XM.out 3).trans rfl
            have m4 : w4.cell? ⟨gm, 4, none⟩ = some (.string m.f4) := (blk_cell XM.out 4).trans rfl
            have f3 := blk_frozen X21.out 3
            have f4 := blk_frozen X21.out 4
            have s3 : w4.cell? ⟨w.heap.size, 3, none⟩ = some (.string ⟨#[]⟩) := (blk_cell X21.out 3).trans rfl
            have s4 : w4.cell? ⟨w.heap.size, 4, none⟩ = some (.string ⟨#[]⟩) := (blk_cell X21.out 4).trans rfl
            go_region
            have HB5 := Aside0.mk (below_drew (below_set (j := 4) (v := .string m.f4) (below_set (j := 3) (v := .string m.f3) HB1.out (Nat.le_refl _)) (Nat.le_refl _)))
            have X25 := Aside0.mk (blk_drew (two_set (a' := m.f3) (b' := m.f4) X21.out))
            have XM5 := Aside0.mk (blk_drew (blk_far (blk_far XM.out (p := ⟨w.heap.size, 3, none⟩) (Ne.symm NE.out) (.string m.f3)) (p := ⟨w.heap.size, 4, none⟩) (Ne.symm NE.out) (.string m.f4)))
            clear m3 m4 f3 f4 s3 s4
            go_upto_region 9 with (fail)
            generalize ((w4.setCell ⟨w.heap.size, 3, none⟩ (.string m.f3)).setCell ⟨w.heap.size, 4, none⟩ (.string m.f4)).drew = w5 at *
            have m3 : w5.cell? ⟨gm, 3, none⟩ = some (.string m.f3) := (blk_cell XM5.out 3).trans rfl
            have m4 : w5.cell? ⟨gm, 4, none⟩ = some (.string m.f4) := (blk_cell XM5.out 4).trans rfl
            have f3 := blk_frozen X25.out 3
            have f4 := blk_frozen X25.out 4
            have s3 : w5.cell? ⟨w.heap.size, 3, none⟩ = some (.string m.f3) := (blk_cell X25.out 3).trans rfl
            have s4 : w5.cell? ⟨w.heap.size, 4, none⟩ = some (.string m.f4) := (blk_cell X25.out 4).trans rfl
            go_region
            have HB6 := Aside0.mk (below_drew (below_set (j := 4) (v := .string (smx m.f4 m.f4)) (below_set (j := 3) (v := .string (smn m.f3 m.f3)) HB5.out (Nat.le_refl _)) (Nat.le_refl _)))
            have X26 := Aside0.mk (blk_drew (two_set (a' := smn m.f3 m.f3) (b' := smx m.f4 m.f4) X25.out))
            clear m3 m4 f3 f4 s3 s4
            go_wp2_with fail
            try rw [ew]
            rw [← HAY.out]
            go_roundg g
            case measure => omega
            case rel => exact ⟨k + 1, some (smn m.f3 m.f3, smx m.f4 m.f4), rfl, rfl, ⟨by have := HKK.out; omega⟩, ⟨by rw [TS.out, smn_self, smx_self]; rfl⟩, HB6, X26⟩
          | some ab =>
            obtain ⟨a, b⟩ := ab
            go_upto_region 9 with (fail)
            generalize wr.heap.size = gm at *
            generalize wr.alloc (.cells #[.int .u64 m.f0, .int .i64 m.f1, .int .i64 m.f2, .string m.f3, .string m.f4, .int .u64 m.f5, .int .u64 m.f6] 58) = w4 at *
            have m3 : w4.cell? ⟨gm, 3, none⟩ = some (.string m.f3) := (blk_cell XM.out 3).trans rfl
            have m4 : w4.cell? ⟨gm, 4, none⟩ = some (.string m.f4) := (blk_cell XM.out 4).trans rfl
            have f3 := blk_frozen X21.out 3
            have f4 := blk_frozen X21.out 4
            have s3 : w4.cell? ⟨w.heap.size, 3, none⟩ = some (.string a) := (blk_cell X21.out 3).trans rfl
            have s4 : w4.cell? ⟨w.heap.size, 4, none⟩ = some (.string b) := (blk_cell X21.out 4).trans rfl
            go_region
            have HB6 := Aside0.mk (below_drew (below_set (j := 4) (v := .string (smx b m.f4)) (below_set (j := 3) (v := .string (smn a m.f3)) HB1.out (Nat.le_refl _)) (Nat.le_refl _)))
            have X26 := Aside0.mk (blk_drew (two_set (a' := smn a m.f3) (b' := smx b m.f4) X21.out))
            clear m3 m4 f3 f4 s3 s4
            go_wp2_with fail
            try rw [ew]
            rw [← HAY.out]
            go_roundg g
            case measure => omega
            case rel => exact ⟨k + 1, some (smn a m.f3, smx b m.f4), rfl, rfl, ⟨by have := HKK.out; omega⟩, ⟨TS.out.symm⟩, HB6, X26⟩
end Go.Proofs.Ytkjepfofiegcdaa.V
