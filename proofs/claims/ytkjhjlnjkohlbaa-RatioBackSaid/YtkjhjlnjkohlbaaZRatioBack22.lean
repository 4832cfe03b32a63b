/- A part of a proof. -/
import Derived.Test.YtkjhjlnjkohlbaaZRatioBack14
import Derived.Test.YtkjhjlnjkohlbaaZRatioBack13
namespace Go.Proofs.Ytkjhjlnjkohlbaa.PR
open Go.RowKit Go.Proofs.YtkjhjlnjkohlbaaW.PrintWords Go.Proofs.YtkjhjlnjkohlbaaW.PrintLast Go.Proofs.YtkjhjlnjkohlbaaW.PrintMore
attribute [local go_sem] max2_int min2_int max_two min_two max_three min_three max_four min_four
set_option linter.unusedVariables false
set_option linter.unusedSimpArgs false
attribute [local go_sem] fld26_0 fld26_1
def nat_at.f (l0 : List Int) (a1 : Int) : Option (Int) := if a1 < (l0.length : Int) then (if 0 ≤ a1 then (some (rd l0 a1)) else (none)) else (some 0)
set_option maxHeartbeats 8000000 in
set_option maxRecDepth 100000 in
theorem nat_at.calls (A0 : Option Addr) (c0 : Nat) (l0 : List Int) (a1 : Int) (r : Int) (w : World) (hr0 : Kd.C (Kd.int .u64) w A0 l0.length l0) (hc0 : l0.length ≤ c0) (h : nat_at.f l0 a1 = some r) :
  Calls Try.prog 49 #[.slice A0 l0.length c0, .int .i64 a1] w fun e w' => e = .returned (.int .u64 r) ∧ Drawn0 w w' := by
 have R0 := Aside0.mk hr0; have C0 := Aside0.mk hc0; clear hr0 hc0; have H := h; rw [nat_at.f] at H; clear h; by_cases c3 : a1 < (l0.length : Int)
 ·
  rw [if_pos c3] at H; have c3b0 := decide_eq_true c3; clear c3; by_cases c4 : 0 ≤ a1
  ·
   rw [if_pos c4] at H; have c4b0 := decide_eq_true c4; clear c4; obtain rfl := Option.some.inj H; have p130 : 0 ≤ (a1 : Int) := od_; have q130 : a1 < (l0.length : Int) := od_; obtain ⟨ad130, e130, hx130_0⟩ := Kd.at_int R0.out a1 p130 q130; cases e130
   replace p130 := eq_true p130; replace q130 := eq_true q130; go_enter Try.func49, Try.ntmps49; go_wp2; go_ret; exact ⟨rf_, dr_⟩
  rw [if_neg c4] at H; exact absurd H (by simp)
 rw [if_neg c3] at H; have c3b0 := decide_eq_false c3; clear c3; obtain rfl := Option.some.inj H; go_enter Try.func49, Try.ntmps49; go_wp2; go_ret; exact ⟨rf_, dr_⟩
end Go.Proofs.Ytkjhjlnjkohlbaa.PR
