/- ratio.checked answers the first error of two fractions' checks. -/
import Derived.Test.YtkjhjlnjkohlbaaZRatioTells18
import Derived.LoopN
namespace Go.Proofs.Ytkjhjlnjkohlbaa.PR
open Go.RowKit Go.Proofs.YtkjhjlnjkohlbaaW.PrintWords Go.Proofs.YtkjhjlnjkohlbaaW.PrintLast Go.Proofs.YtkjhjlnjkohlbaaW.PrintMore
set_option linter.unusedVariables false
set_option linter.unusedSimpArgs false
def ratio_checked.f (k : Nat) (a0 : Bool) (l1 l2 : List Int) (a3 : Bool) (l4 l5 : List Int) : Option Int :=
 (ratio_Check.f k a0 l1 l2).bind fun e => if e = 0 then ratio_Check.f k a3 l4 l5 else some e
set_option maxHeartbeats 8000000 in
set_option maxRecDepth 100000 in
theorem ratio_checked.calls (k : Nat) (a0_0 : Bool) (A0_1 : Option Addr) (c0_1 : Nat) (l0_1 : List Int) (A0_2 : Option Addr) (c0_2 : Nat) (l0_2 : List Int) (a1_0 : Bool) (A1_1 : Option Addr) (c1_1 : Nat) (l1_1 : List Int) (A1_2 : Option Addr) (c1_2 : Nat) (l1_2 : List Int) (r : Int) (w : World) (hr0_1 : Kd.C (Kd.int .u64) w A0_1 l0_1.length l0_1) (hc0_1 : l0_1.length ≤ c0_1) (hr0_2 : Kd.C (Kd.int .u64) w A0_2 l0_2.length l0_2) (hc0_2 : l0_2.length ≤ c0_2) (hr1_1 : Kd.C (Kd.int .u64) w A1_1 l1_1.length l1_1) (hc1_1 : l1_1.length ≤ c1_1) (hr1_2 : Kd.C (Kd.int .u64) w A1_2 l1_2.length l1_2) (hc1_2 : l1_2.length ≤ c1_2) (h : ratio_checked.f k a0_0 l0_1 l0_2 a1_0 l1_1 l1_2 = some r) :
  Calls Try.prog 37 #[.agg #[.bool a0_0, .slice A0_1 l0_1.length c0_1, .slice A0_2 l0_2.length c0_2], .agg #[.bool a1_0, .slice A1_1 l1_1.length c1_1, .slice A1_2 l1_2.length c1_2]] w fun e w' => e = .returned (.int .i64 r) ∧ Below w.heap.size w w' := by
 have HR0_1 := Aside0.mk hr0_1
 have HR0_2 := Aside0.mk hr0_2
 have HR1_1 := Aside0.mk hr1_1
 have HR1_2 := Aside0.mk hr1_2
 have HC0_1 := Aside0.mk hc0_1
 have HC0_2 := Aside0.mk hc0_2
 have HC1_1 := Aside0.mk hc1_1
 have HC1_2 := Aside0.mk hc1_2
 clear hr0_1 hr0_2 hr1_1 hr1_2 hc0_1 hc0_2 hc1_1 hc1_2
 have hu28 := Try.underlying28
 have i0 : ∀ w : World, (Instr.index 69 (.agg #[.bool a0_0, .slice A0_1 l0_1.length c0_1, .slice A0_2 l0_2.length c0_2, .bool a1_0, .slice A1_1 l1_1.length c1_1, .slice A1_2 l1_2.length c1_2]) (.int .i64 0)).run Try.prog w = .ok (.agg #[.bool a0_0, .slice A0_1 l0_1.length c0_1, .slice A0_2 l0_2.length c0_2]) w := fun _ => by kernel_rfl
 have i1 : ∀ w : World, (Instr.index 69 (.agg #[.bool a0_0, .slice A0_1 l0_1.length c0_1, .slice A0_2 l0_2.length c0_2, .bool a1_0, .slice A1_1 l1_1.length c1_1, .slice A1_2 l1_2.length c1_2]) (.int .i64 1)).run Try.prog w = .ok (.agg #[.bool a1_0, .slice A1_1 l1_1.length c1_1, .slice A1_2 l1_2.length c1_2]) w := fun _ => by kernel_rfl
 unfold ratio_checked.f at h
 obtain ⟨e1, he, h⟩ := Option.bind_eq_some_iff.mp h
 have A1 := Aside0.mk he
 clear he
 have HH := Aside0.mk h
 clear h
 try clear h
 have HB := Aside0.mk (Below.refl w.heap.size w)
 go_enter Try.func37, Try.ntmps37
 go_wp2_with (first
  | ((with_reducible refine gate_dst (N := 2) rfl ?_); refine box_event ?hg (N := 2) ?hd (cs := #[.bool a0_0, .slice A0_1 l0_1.length c0_1, .slice A0_2 l0_2.length c0_2]) (t := 28) ?hr ?_; (case hd => rfl); (case hg => rfl); (case hr => first | (go_simp; done) | (go_simp; rfl)); intro ga hg w1 hbox hb; have n0_ := Aside0.mk (below_step (by repeat (first | (with_reducible first | exact HB.out | apply below_alloc | apply pw_below_drewN | apply below_drew1) | exact HB.out)) hb); clear HB; have HB := n0_; clear n0_; have BKa := Aside0.mk hbox; clear hbox hb hg)
  | ((with_reducible refine gate_dst (N := 3) rfl ?_); refine box_event ?hg (N := 3) ?hd (cs := #[.bool a1_0, .slice A1_1 l1_1.length c1_1, .slice A1_2 l1_2.length c1_2]) (t := 28) ?hr ?_; (case hd => rfl); (case hg => rfl); (case hr => first | (go_simp; done) | (go_simp; rfl)); intro gb hg w2 hbox hb; have n1_ := Aside0.mk (blk_below (g := ga) (o := .cells #[.bool a0_0, .slice A0_1 l0_1.length c0_1, .slice A0_2 l0_2.length c0_2] 28 (0, 0)) (by (with_reducible repeat (first | refine blk_drewN ?_ _ | refine blk_drew ?_ | refine blk_alloc ?_ _)); exact BKa.out) hb); have n0_ := Aside0.mk (below_step (by repeat (first | (with_reducible first | exact HB.out | apply below_alloc | apply pw_below_drewN | apply below_drew1) | exact HB.out)) hb); clear HB BKa; have HB := n0_; have BKa := n1_; clear n0_ n1_; have BKb := Aside0.mk hbox; clear hbox hb hg; have hz0 : w2.cell? ⟨ga, 0, none⟩ = some (.bool a0_0) := (blk_cell BKa.out 0).trans rfl; have hz1 : w2.cell? ⟨ga, 1, none⟩ = some (.slice A0_1 l0_1.length c0_1) := (blk_cell BKa.out 1).trans rfl; have hz2 : w2.cell? ⟨ga, 2, none⟩ = some (.slice A0_2 l0_2.length c0_2) := (blk_cell BKa.out 2).trans rfl; have hy0 : w2.cell? ⟨gb, 0, none⟩ = some (.bool a1_0) := (blk_cell BKb.out 0).trans rfl; have hy1 : w2.cell? ⟨gb, 1, none⟩ = some (.slice A1_1 l1_1.length c1_1) := (blk_cell BKb.out 1).trans rfl; have hy2 : w2.cell? ⟨gb, 2, none⟩ = some (.slice A1_2 l1_2.length c1_2) := (blk_cell BKb.out 2).trans rfl))
 refine wp_loop_rounds 3 ?_
 rw [rounds_succ]
 go_wp2_with fail
 refine (ratio_Check.calls k a0_0 _ _ l0_1 _ _ l0_2 e1 _ (Kd.C_alloc (Kd.C_below HR0_1.out HB.out) _) HC0_1.out (Kd.C_alloc (Kd.C_below HR0_2.out HB.out) _) HC0_2.out A1.out).mono ?_
 rintro e w3 ⟨rfl, hb⟩
 have HB2 := Aside0.mk (below_step (below_alloc HB.out _) hb)
 clear hb
 have h := HH.out
 clear HH
 by_cases c : e1 = 0
 ·
  subst c
  rw [if_pos rfl] at h
  have A2 := Aside0.mk h
  clear h
  go_wp2_with fail
  rw [rounds_succ]
  go_wp2_with fail
  refine (ratio_Check.calls k a1_0 _ _ l1_1 _ _ l1_2 r _ (Kd.C_alloc (Kd.C_below HR1_1.out HB2.out) _) HC1_1.out (Kd.C_alloc (Kd.C_below HR1_2.out HB2.out) _) HC1_2.out A2.out).mono ?_
  rintro e w4 ⟨rfl, hb⟩
  have HB3 := Aside0.mk (below_step (below_alloc HB2.out _) hb)
  clear hb
  by_cases c2 : r = 0
  ·
   subst c2
   go_wp2_with fail
   rw [rounds_succ]
   go_wp2_with fail
   go_ret
   exact ⟨rfl, HB3.out⟩
  ·
   have c2b : (r != 0) = true := bne_iff_ne.mpr c2
   go_wp2_with fail
   go_ret
   exact ⟨rfl, HB3.out⟩
 ·
  rw [if_neg c] at h
  obtain rfl := Option.some.inj h
  have cb : (e1 != 0) = true := bne_iff_ne.mpr c
  go_wp2_with fail
  go_ret
  exact ⟨rfl, HB2.out⟩
end Go.Proofs.Ytkjhjlnjkohlbaa.PR
