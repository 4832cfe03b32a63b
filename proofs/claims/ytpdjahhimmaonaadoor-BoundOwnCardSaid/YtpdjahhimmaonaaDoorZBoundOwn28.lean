/- A part of a proof. -/
import Derived.Test.YtpdjahhimmaonaaDoorZBoundOwn14
import Derived.Test.YtpdjahhimmaonaaDoorZBoundOwn13
namespace Go.Proofs.YtpdjahhimmaonaaDoor.PD
open Go.RowKit Go.Proofs.YtpdjahhimmaonaaDoorW.PrintWords Go.Proofs.YtpdjahhimmaonaaDoorW.PrintLast Go.Proofs.YtpdjahhimmaonaaDoorW.PrintMore
attribute [local go_sem] max2_int min2_int max_two min_two max_three min_three max_four min_four
set_option linter.unusedVariables false
set_option linter.unusedSimpArgs false
attribute [local go_sem] fld138_1
def nat_order.f (a0 : Bool) : Option (Int) := if a0 = true then (some (-1)) else (some 1)
set_option maxHeartbeats 8000000 in
set_option maxRecDepth 100000 in
theorem nat_order.calls (a0 : Bool) (r : Int) (w : World) (h : nat_order.f a0 = some r) :
  Calls Tryd.prog 119 #[.bool a0] w fun e w' => e = .returned (.int .i64 r) ∧ Drawn0 w w' := by
 have H : (if a0 = true then (some (-1)) else (some 1)) = some r := h; clear h; by_cases c2 : a0 = true
 ·
  subst c2; rw [if_pos rfl] at H; obtain rfl := Option.some.inj H; go_enter Tryd.func119, Tryd.ntmps119; go_wp2; go_ret; exact ⟨rf_, dr_⟩
 replace c2 := Bool.eq_false_iff.mpr c2; subst c2; rw [if_neg nt_] at H; obtain rfl := Option.some.inj H; go_enter Tryd.func119, Tryd.ntmps119; go_wp2; go_ret; exact ⟨rf_, dr_⟩
end Go.Proofs.YtpdjahhimmaonaaDoor.PD
