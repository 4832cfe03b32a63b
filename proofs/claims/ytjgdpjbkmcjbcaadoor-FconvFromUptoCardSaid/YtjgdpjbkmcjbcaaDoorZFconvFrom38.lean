/- A part of a proof. -/
import Derived.Test.YtjgdpjbkmcjbcaaDoorZFconvFrom37
import Derived.Test.YtjgdpjbkmcjbcaaDoorZFconvFrom35
namespace Go.Proofs.YtjgdpjbkmcjbcaaDoor.PG
open Go.RowKit Go.Proofs.YtjgdpjbkmcjbcaaDoorW.PrintWords Go.Proofs.YtjgdpjbkmcjbcaaDoorW.PrintLast Go.Proofs.YtjgdpjbkmcjbcaaDoorW.PrintMore
attribute [local go_sem] max2_int min2_int max_two min_two max_three min_three max_four min_four
set_option linter.unusedVariables false
set_option linter.unusedSimpArgs false
attribute [local go_sem] fld139_1
def fconv_FromInt.f (k : Nat) (a0 : Int) (a1 : Int) : Option (Int × Int) := if a0 < 0 then (if a0 = 0 then (some (0, 0)) else ((parts_Round.f k (decide (a0 < 0)) 0 (IntKind.u64.wrap (-(IntKind.u64.wrap (a0)))) 0 false a1).bind fun bt1289 => (some (bt1289.1, bt1289.2)))) else (if a0 = 0 then (some (0, 0)) else ((parts_Round.f k (decide (a0 < 0)) 0 (IntKind.u64.wrap (a0)) 0 false a1).bind fun bt1291 => (some (bt1291.1, bt1291.2))))
set_option maxHeartbeats 8000000 in
set_option maxRecDepth 100000 in
theorem fconv_FromInt.calls (k : Nat) (a0 : Int) (a1 : Int) (r1 : Int) (r2 : Int) (w : World) (h : fconv_FromInt.f k a0 a1 = some (r1, r2)) :
  Calls Tryd.prog 52 #[.int .i64 a0, .int .i64 a1] w fun e w' => e = .returned (.tuple #[.int .u64 r1, .int .i64 r2]) ∧ Below w.heap.size w w' := by
 have HB := Aside0.mk (Below.refl w.heap.size w); have H := h; rw [fconv_FromInt.f] at H; clear h; by_cases c3 : a0 < 0
 ·
  rw [if_pos c3] at H; have c3b0 := decide_eq_true c3; (try rw [c3b0] at H); clear c3; by_cases c4 : a0 = 0
  ·
   rw [if_pos c4] at H; obtain ⟨c4b0, c4b1⟩ := q1_ c4; clear c4; simp only [Option.some.injEq, Prod.mk.injEq] at H; obtain ⟨rfl, rfl⟩ := H; go_enter Tryd.func52, Tryd.ntmps52; go_wp2; go_ret2; exact ⟨er_, bw_ HB⟩
  rw [if_neg c4] at H; obtain ⟨c4b0, c4b1⟩ := q0_ c4; replace H := bo_ H; obtain ⟨⟨t1289, t1290⟩, A5, H⟩ := H; replace H : (some (t1289, t1290)) = some (r1, r2) := H; simp only [Option.some.injEq, Prod.mk.injEq] at H; obtain ⟨rfl, rfl⟩ := H; go_enter Tryd.func52, Tryd.ntmps52; go_wp2_with (first | ((with_reducible refine gate_callee (f := 96) rfl ?_); refine gl_ (some 19) rfl rfl Tryd.func96 (by kernel_rfl) rfl #[.bool true, .int .u64 0, .int .u64 (IntKind.u64.wrap (-(IntKind.u64.wrap (a0)))), .int .i64 0, .bool false, .int .i64 a1] rfl ?_; (with_reducible refine (parts_Round.calls k true 0 (IntKind.u64.wrap (-(IntKind.u64.wrap (a0)))) 0 false a1 t1289 t1290 _ A5.out).mono ?_); rintro e w6 ⟨rfl, hb⟩; refine ⟨_, rfl, ?_⟩; replace HB := bs_ HB hb; (try clear hb))); go_ret2; exact ⟨er_, bw_ HB⟩
 rw [if_neg c3] at H; have c3b0 := decide_eq_false c3; (try rw [c3b0] at H); clear c3; by_cases c7 : a0 = 0
 ·
  rw [if_pos c7] at H; obtain ⟨c7b0, c7b1⟩ := q1_ c7; clear c7; simp only [Option.some.injEq, Prod.mk.injEq] at H; obtain ⟨rfl, rfl⟩ := H; go_enter Tryd.func52, Tryd.ntmps52; go_wp2; go_ret2; exact ⟨er_, bw_ HB⟩
 rw [if_neg c7] at H; obtain ⟨c7b0, c7b1⟩ := q0_ c7; replace H := bo_ H; obtain ⟨⟨t1291, t1292⟩, A8, H⟩ := H; replace H : (some (t1291, t1292)) = some (r1, r2) := H; simp only [Option.some.injEq, Prod.mk.injEq] at H; obtain ⟨rfl, rfl⟩ := H; go_enter Tryd.func52, Tryd.ntmps52; go_wp2_with (first | ((with_reducible refine gate_callee (f := 96) rfl ?_); refine gl_ (some 19) rfl rfl Tryd.func96 (by kernel_rfl) rfl #[.bool false, .int .u64 0, .int .u64 (IntKind.u64.wrap (a0)), .int .i64 0, .bool false, .int .i64 a1] rfl ?_; (with_reducible refine (parts_Round.calls k false 0 (IntKind.u64.wrap (a0)) 0 false a1 t1291 t1292 _ A8.out).mono ?_); rintro e w9 ⟨rfl, hb⟩; refine ⟨_, rfl, ?_⟩; replace HB := bs_ HB hb; (try clear hb))); go_ret2; exact ⟨er_, bw_ HB⟩
def fconv_up.f (a0 : Bool) (a1 : Bool) (a2 : Bool) (a3 : Int) (a4 : Int) : Option (Bool) := if a4 = 1 then (some a1) else (if a4 = 2 then (some false) else (if a4 = 3 then (some (!a0)) else (if a4 = 4 then (some a0) else (if a1 = true then (if a2 = true then (some true) else (some ((Go.bits .and .u64 a3 1) == 1))) else (some false)))))
set_option maxHeartbeats 8000000 in
set_option maxRecDepth 100000 in
theorem fconv_up.calls (a0 : Bool) (a1 : Bool) (a2 : Bool) (a3 : Int) (a4 : Int) (r : Bool) (w : World) (h : fconv_up.f a0 a1 a2 a3 a4 = some r) :
  Calls Tryd.prog 132 #[.bool a0, .bool a1, .bool a2, .int .u64 a3, .int .i64 a4] w fun e w' => e = .returned (.bool r) ∧ Drawn0 w w' := by
 have H := h; rw [fconv_up.f] at H; clear h; by_cases c6 : a4 = 1
 ·
  rw [if_pos c6] at H; obtain ⟨c6b0, c6b1⟩ := q1_ c6; clear c6; obtain rfl := Option.some.inj H; go_enter Tryd.func132, Tryd.ntmps132; go_wp2; go_ret; exact ⟨rf_, dr_⟩
 rw [if_neg c6] at H; obtain ⟨c6b0, c6b1⟩ := q0_ c6; by_cases c7 : a4 = 2
 ·
  rw [if_pos c7] at H; obtain ⟨c7b0, c7b1⟩ := q1_ c7; clear c7; obtain rfl := Option.some.inj H; go_enter Tryd.func132, Tryd.ntmps132; go_wp2; go_ret; exact ⟨rf_, dr_⟩
 rw [if_neg c7] at H; obtain ⟨c7b0, c7b1⟩ := q0_ c7; by_cases c8 : a4 = 3
 ·
  rw [if_pos c8] at H; obtain ⟨c8b0, c8b1⟩ := q1_ c8; clear c8; obtain rfl := Option.some.inj H; go_enter Tryd.func132, Tryd.ntmps132; go_wp2; go_ret; exact ⟨rf_, dr_⟩
 rw [if_neg c8] at H; obtain ⟨c8b0, c8b1⟩ := q0_ c8; by_cases c9 : a4 = 4
 ·
  rw [if_pos c9] at H; obtain ⟨c9b0, c9b1⟩ := q1_ c9; clear c9; obtain rfl := Option.some.inj H; go_enter Tryd.func132, Tryd.ntmps132; go_wp2; go_ret; exact ⟨rf_, dr_⟩
 rw [if_neg c9] at H; obtain ⟨c9b0, c9b1⟩ := q0_ c9; by_cases c10 : a1 = true
 ·
  subst c10; rw [if_pos rfl] at H; by_cases c11 : a2 = true
  ·
   subst c11; rw [if_pos rfl] at H; obtain rfl := Option.some.inj H; go_enter Tryd.func132, Tryd.ntmps132; go_wp2; go_ret; exact ⟨rf_, dr_⟩
  replace c11 := Bool.eq_false_iff.mpr c11; subst c11; rw [if_neg nt_] at H; obtain rfl := Option.some.inj H; go_enter Tryd.func132, Tryd.ntmps132; go_wp2; go_ret; exact ⟨rf_, dr_⟩
 replace c10 := Bool.eq_false_iff.mpr c10; subst c10; rw [if_neg nt_] at H; obtain rfl := Option.some.inj H; go_enter Tryd.func132, Tryd.ntmps132; go_wp2; go_ret; exact ⟨rf_, dr_⟩
end Go.Proofs.YtjgdpjbkmcjbcaaDoor.PG
