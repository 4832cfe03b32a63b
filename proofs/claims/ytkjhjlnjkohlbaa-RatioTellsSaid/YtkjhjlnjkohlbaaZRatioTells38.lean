/- A part of a proof. -/
import Derived.Test.YtkjhjlnjkohlbaaZRatioTells37
namespace Go.Proofs.Ytkjhjlnjkohlbaa.PR
open Go.RowKit Go.Proofs.YtkjhjlnjkohlbaaW.PrintWords Go.Proofs.YtkjhjlnjkohlbaaW.PrintLast Go.Proofs.YtkjhjlnjkohlbaaW.PrintMore
attribute [local go_sem] max2_int min2_int max_two min_two max_three min_three max_four min_four
set_option linter.unusedVariables false
set_option linter.unusedSimpArgs false
attribute [local go_sem] fld26_0 fld26_1
def vernierlaw05_zero.f (a0_0 : Bool) (l0_1 : List Int) (l0_2 : List Int) : Option (Bool) := if (wrap64 ((l0_1.length : Int) + (l0_2.length : Int))) = 0 then (some (!a0_0)) else (some false)
set_option maxHeartbeats 8000000 in
set_option maxRecDepth 100000 in
theorem vernierlaw05_zero.calls (a0_0 : Bool) (A0_1 : Option Addr) (c0_1 : Nat) (l0_1 : List Int) (A0_2 : Option Addr) (c0_2 : Nat) (l0_2 : List Int) (r : Bool) (w : World) (hr0_1 : Kd.C (Kd.int .u64) w A0_1 l0_1.length l0_1) (hc0_1 : l0_1.length ≤ c0_1) (hr0_2 : Kd.C (Kd.int .u64) w A0_2 l0_2.length l0_2) (hc0_2 : l0_2.length ≤ c0_2) (h : vernierlaw05_zero.f a0_0 l0_1 l0_2 = some r) :
  Calls Try.prog 14 #[.agg #[.bool a0_0, .slice A0_1 l0_1.length c0_1, .slice A0_2 l0_2.length c0_2]] w fun e w' => e = .returned (.bool r) ∧ Below w.heap.size w w' := by
 have hu28 := Try.underlying28; have R0 := Aside0.mk hr0_1; have C0 := Aside0.mk hc0_1; clear hr0_1 hc0_1; have R1 := Aside0.mk hr0_2; have C1 := Aside0.mk hc0_2; clear hr0_2 hc0_2; have HB := Aside0.mk (Below.refl w.heap.size w); have H := h; rw [vernierlaw05_zero.f] at H; clear h; by_cases c2 : (wrap64 ((l0_1.length : Int) + (l0_2.length : Int))) = 0
 ·
  rw [if_pos c2] at H; obtain ⟨c2b0, c2b1⟩ := q1_ c2; clear c2; obtain rfl := Option.some.inj H; go_enter Try.func14, Try.ntmps14; go_wp2_with (first | ((with_reducible refine gate_dst (N := 1) rfl ?_); refine box_event ?hg (N := 1) ?hd (cs := #[.bool a0_0, .slice A0_1 l0_1.length c0_1, .slice A0_2 l0_2.length c0_2]) (t := 28) ?hr ?_; (case hd => rfl); (case hg => rfl); (case hr => first | (go_simp; done) | (go_simp; rfl)); intro g0 hg w3 hbox hb; have K0 := Aside0.mk (hbox); have G0 := gw_ hg HB; have E0 := gw_ hg HB; replace HB := bs_ HB hb; clear hb hbox hg; obtain ⟨z0, z1, z2, f0, f1, f2⟩ := c3_ K0)); go_ret; exact ⟨er_, bw_ HB⟩
 rw [if_neg c2] at H; obtain ⟨c2b0, c2b1⟩ := q0_ c2; obtain rfl := Option.some.inj H; go_enter Try.func14, Try.ntmps14; go_wp2_with (first | ((with_reducible refine gate_dst (N := 1) rfl ?_); refine box_event ?hg (N := 1) ?hd (cs := #[.bool a0_0, .slice A0_1 l0_1.length c0_1, .slice A0_2 l0_2.length c0_2]) (t := 28) ?hr ?_; (case hd => rfl); (case hg => rfl); (case hr => first | (go_simp; done) | (go_simp; rfl)); intro g0 hg w5 hbox hb; have K0 := Aside0.mk (hbox); have G0 := gw_ hg HB; have E0 := gw_ hg HB; replace HB := bs_ HB hb; clear hb hbox hg; obtain ⟨z3, z4, z5, f3, f4, f5⟩ := c3_ K0)); go_ret; exact ⟨er_, bw_ HB⟩
end Go.Proofs.Ytkjhjlnjkohlbaa.PR
