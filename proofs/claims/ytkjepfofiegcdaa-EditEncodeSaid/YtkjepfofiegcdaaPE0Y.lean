-- printed by wip/mkprint.py, a program of this session, over the kit's print program: functions proved by hand are taken in
import Derived.Test.YtkjepfofiegcdaaPB140
import Derived.Test.YtkjepfofiegcdaaVH2Y
namespace Go.Proofs.Ytkjepfofiegcdaa.PB14
open Go.RowKit Go.Proofs.YtkjepfofiegcdaaW.PrintWords Go.Proofs.YtkjepfofiegcdaaW.PrintLast Go.Proofs.YtkjepfofiegcdaaW.PrintMore
attribute [local go_sem] max2_int min2_int max_two min_two max_three min_three max_four min_four   -- for this text's walks alone
set_option linter.unusedVariables false
set_option linter.unusedSimpArgs false

/-! ### freshetref14_listed: function 108 -/
-- ASSUME freshetref14_listed rounds=0 making=1 imports=Derived.Test.YtkjepfofiegcdaaVH2
def freshetref14_listed.f (a0_0 : Int) (a0_1 : Int) (a0_2 : Int) (l0_3 : List (S84)) (l0_4 : List (S82)) : Option (Bool) := some (decide (V.listedP ⟨a0_0, a0_1, a0_2, l0_3, l0_4⟩))
theorem freshetref14_listed.calls (a0_0 : Int) (a0_1 : Int) (a0_2 : Int) (A0_3 : Option Addr) (c0_3 : Nat) (l0_3 : List (S84)) (A0_4 : Option Addr) (c0_4 : Nat) (l0_4 : List (S82)) (r : Bool) (w : World) (hr0_3 : Kd.C k84 w A0_3 l0_3.length l0_3) (hc0_3 : l0_3.length ≤ c0_3) (hr0_4 : Kd.C k82 w A0_4 l0_4.length l0_4) (hc0_4 : l0_4.length ≤ c0_4) (h : freshetref14_listed.f a0_0 a0_1 a0_2 l0_3 l0_4 = some r) :
    Calls Try.prog 108 #[.agg #[.int .u64 a0_0, .int .u64 a0_1, .int .u64 a0_2, .slice A0_3 l0_3.length c0_3, .slice A0_4 l0_4.length c0_4]] w fun e w' => e = .returned (.bool r) ∧ Below w.heap.size w w' := by
  have h2 := Option.some.inj h
  subst h2
  exact V.listedR_calls w ⟨a0_0, a0_1, a0_2, l0_3, l0_4⟩ A0_3 A0_4 c0_3 c0_4 hr0_3 hr0_4

end Go.Proofs.Ytkjepfofiegcdaa.PB14
