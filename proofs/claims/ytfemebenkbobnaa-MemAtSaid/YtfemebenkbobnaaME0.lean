import Derived.Test.YtfemebenkbobnaaSM9
import Derived.Test.YtfemebenkbobnaaSMF
import Derived.Laws.Cover1
/- The table of rows in memory: New, none, Room, Len, Least, Greatest, Get, walked. Conditions: at most 2 to the 61st rows. -/
namespace Go.Proofs.Ytfemebenkbobnaa.SM
set_option linter.unusedVariables false
set_option linter.unusedSimpArgs false
open Go.RowKit Go.Shelf Go.Proofs.YtfemebenkbobnaaW.PrintWords Go.Proofs.YtfemebenkbobnaaW.PrintLast Go.Proofs.YtfemebenkbobnaaW.PrintMore Go.Proofs.Ytfemebenkbobnaa.PB06
/-- A table's block: a list at its head, then made, room, least, greatest. -/
def tabT (room least greatest : Int) : Tl := ⟨94, [.bool true, .int .i64 room, .int .u64 least, .int .u64 greatest], .inr rfl⟩
/-- No table, or one that nobody made. -/
def Un (w : World) (p : Option Addr) : Prop := p = none ∨ ∃ g, p = some ⟨g, 0, none⟩ ∧ w.cell? ⟨g, 18, none⟩ = some (.bool false)
theorem Un.below {w w' : World} {p : Option Addr} (h : Un w p) (hb : Below w.heap.size w w') : Un w' p := by
  rcases h with h | ⟨g, h1, h2⟩
  · exact .inl h
  · exact .inr ⟨g, h1, (hb.cell (World.block_lt_of_cell? w _ h2)).trans h2⟩
theorem none_nil (w : World) : Calls Try.prog 79 #[.pointer none] w fun e w' => e = .returned (.bool true) ∧ Below w.heap.size w w' := by
  go_enter Try.func79, Try.ntmps79
  go_wp2
  go_ret
  exact ⟨rfl, Below.refl _ _⟩
theorem none_at (w : World) (g : Nat) (b : Bool) (h : w.cell? ⟨g, 18, none⟩ = some (.bool b)) : Calls Try.prog 79 #[.pointer (some ⟨g, 0, none⟩)] w fun e w' => e = .returned (.bool (!b)) ∧ Below w.heap.size w w' := by
  go_enter Try.func79, Try.ntmps79
  go_wp2
  go_ret
  exact ⟨rfl, Below.refl _ _⟩
theorem none_un {w : World} {p : Option Addr} (h : Un w p) : Calls Try.prog 79 #[.pointer p] w fun e w' => e = .returned (.bool true) ∧ Below w.heap.size w w' := by
  rcases h with rfl | ⟨g, rfl, h⟩
  · exact none_nil w
  · exact none_at w g false h
section
variable {w : World} {g : Nat} {rs : List Nd} {room least greatest : Int}
theorem tab_cells (h : Sk (tabT room least greatest) w g rs) : w.cell? ⟨g, 18, none⟩ = some (.bool true) ∧ w.cell? ⟨g, 19, none⟩ = some (.int .i64 room) ∧ w.cell? ⟨g, 20, none⟩ = some (.int .u64 least) ∧ w.cell? ⟨g, 21, none⟩ = some (.int .u64 greatest) := by
  have h1 : ∀ j, w.cell? ⟨g, 18 + j, none⟩ = (tabT room least greatest).tl[j]? := fun j => by rw [blk_cell h.sl.head, List.getElem?_toArray, cellsH_tl]
  exact ⟨h1 0, h1 1, h1 2, h1 3⟩
theorem none_tab (h : Sk (tabT room least greatest) w g rs) : Calls Try.prog 79 #[.pointer (some ⟨g, 0, none⟩)] w fun e w' => e = .returned (.bool false) ∧ Below w.heap.size w w' := none_at w g true (tab_cells h).1
theorem room_un {p : Option Addr} (h : Un w p) : Calls Try.prog 60 #[.pointer p] w fun e w' => e = .returned (.int .i64 0) ∧ Below w.heap.size w w' := by
  go_enter Try.func60, Try.ntmps60
  go_wp2_with fail
  refine (none_un h).mono ?_
  rintro e w1 ⟨rfl, hb⟩
  go_wp2_with fail
  go_ret
  exact ⟨rfl, hb⟩
theorem least_un {p : Option Addr} (h : Un w p) : Calls Try.prog 62 #[.pointer p] w fun e w' => e = .returned (.int .u64 0) ∧ Below w.heap.size w w' := by
  go_enter Try.func62, Try.ntmps62
  go_wp2_with fail
  refine (none_un h).mono ?_
  rintro e w1 ⟨rfl, hb⟩
  go_wp2_with fail
  go_ret
  exact ⟨rfl, hb⟩
theorem greatest_un {p : Option Addr} (h : Un w p) : Calls Try.prog 63 #[.pointer p] w fun e w' => e = .returned (.int .u64 0) ∧ Below w.heap.size w w' := by
  go_enter Try.func63, Try.ntmps63
  go_wp2_with fail
  refine (none_un h).mono ?_
  rintro e w1 ⟨rfl, hb⟩
  go_wp2_with fail
  go_ret
  exact ⟨rfl, hb⟩
theorem tlen_un {p : Option Addr} (h : Un w p) : Calls Try.prog 61 #[.pointer p] w fun e w' => e = .returned (.int .i64 0) ∧ Below w.heap.size w w' := by
  go_enter Try.func61, Try.ntmps61
  go_wp2_with fail
  refine (none_un h).mono ?_
  rintro e w1 ⟨rfl, hb⟩
  go_wp2_with fail
  go_ret
  exact ⟨rfl, hb⟩
theorem room_tab (h : Sk (tabT room least greatest) w g rs) : Calls Try.prog 60 #[.pointer (some ⟨g, 0, none⟩)] w fun e w' => e = .returned (.int .i64 room) ∧ Below w.heap.size w w' := by
  go_enter Try.func60, Try.ntmps60
  go_wp2_with fail
  refine (none_tab h).mono ?_
  rintro e w1 ⟨rfl, hb⟩
  have h1 := (tab_cells (h.below hb)).2.1
  go_wp2_with fail
  go_ret
  exact ⟨rfl, hb⟩
theorem least_tab (h : Sk (tabT room least greatest) w g rs) : Calls Try.prog 62 #[.pointer (some ⟨g, 0, none⟩)] w fun e w' => e = .returned (.int .u64 least) ∧ Below w.heap.size w w' := by
  go_enter Try.func62, Try.ntmps62
  go_wp2_with fail
  refine (none_tab h).mono ?_
  rintro e w1 ⟨rfl, hb⟩
  have h1 := (tab_cells (h.below hb)).2.2.1
  go_wp2_with fail
  go_ret
  exact ⟨rfl, hb⟩
theorem greatest_tab (h : Sk (tabT room least greatest) w g rs) : Calls Try.prog 63 #[.pointer (some ⟨g, 0, none⟩)] w fun e w' => e = .returned (.int .u64 greatest) ∧ Below w.heap.size w w' := by
  go_enter Try.func63, Try.ntmps63
  go_wp2_with fail
  refine (none_tab h).mono ?_
  rintro e w1 ⟨rfl, hb⟩
  have h1 := (tab_cells (h.below hb)).2.2.2
  go_wp2_with fail
  go_ret
  exact ⟨rfl, hb⟩
theorem tlen_tab (h : Sk (tabT room least greatest) w g rs) : Calls Try.prog 61 #[.pointer (some ⟨g, 0, none⟩)] w fun e w' => e = .returned (.int .i64 (rs.length : Int)) ∧ Below w.heap.size w w' := by
  go_enter Try.func61, Try.ntmps61
  go_wp2_with fail
  refine (none_tab h).mono ?_
  rintro e w1 ⟨rfl, hb⟩
  go_wp2_with fail
  refine (len_calls w1 g _ _ rs (h.below hb).sl).mono ?_
  rintro e w2 ⟨rfl, hb2⟩
  go_wp2_with fail
  go_ret
  exact ⟨rfl, below_step hb hb2⟩
end
theorem seek_calls {TL : Tl} (w : World) (g : Nat) (rs : List Nd) (key : ByteArray) (seq : Int) (h : Sk TL w g rs) (hlen : rs.length ≤ 2305843009213693952) :
    Calls Try.prog 27 #[.pointer (some ⟨g, 0, none⟩), .string key, .int .u64 seq] w fun e W' => e = .returned (.tuple #[rowV (seekRow key seq rs), .bool (seekOk key seq rs)]) ∧ Below w.heap.size w W' := (callsIn_wide (n := 4)).1 (seek_in 4 (Nat.le_refl _) w g rs key seq h hlen)
theorem new_calls (w : World) : Calls Try.prog 48 #[] w fun e w' => ∃ g, e = .returned (.pointer (some ⟨g, 0, none⟩)) ∧ Sk (tabT 0 0 0) w' g [] ∧ w.heap.size ≤ g ∧ Below w.heap.size w w' := by
  have HB := Aside0.mk (Below.refl w.heap.size w)
  go_enter Try.func48, Try.ntmps48
  go_wp2_with (first | ((with_reducible refine gate_dst (N := 3) rfl ?_); refine box_event ?hg (N := 3) ?hd (cs := (cellsH (tabT 0 0 0) 0 0 []).toArray) (t := 94) ?hr ?_; (case hd => rfl); (case hg => rfl); (case hr => first | (go_simp; done) | (go_simp; rfl)); intro ga hg w2 hbox hb; have n0_ := Aside0.mk (below_step HB.out hb); have n1_ := Aside0.mk hbox; have GA := Aside0.mk (by rw [hg]; exact below_size HB.out : w.heap.size ≤ ga); clear HB; have HB := n0_; have BX := n1_; clear n0_ n1_; clear hb hbox hg) | fail)
  go_ret
  exact ⟨ga, rfl, ⟨⟨BX.out, trivial, by simp, fun x hx => by simp at hx⟩, fun x hx => by simp at hx, List.Pairwise.nil⟩, GA.out, HB.out⟩
end Go.Proofs.Ytfemebenkbobnaa.SM
