/- In any order a sum is the same; a number less itself is 0; with 0 it is itself: for all words. -/
import Derived.Test.YtfmdjhfnbiekaaaQFaddOrder27
import Derived.Test.YtfmdjhfnbiekaaaQFaddOrder28
import Derived.Test.YtfmdjhfnbiekaaaQFaddOrder41
import Derived.Test.YtfmdjhfnbiekaaaQFaddOrder42
import Derived.Test.YtfmdjhfnbiekaaaQFaddOrder29
import Derived.Test.YtfmdjhfnbiekaaaQFaddOrder30
import Derived.Test.YtfmdjhfnbiekaaaQFaddOrder36
import Derived.Test.YtfmdjhfnbiekaaaQFaddOrder40
namespace Go.Proofs.Ytfmdjhfnbiekaaa.Pure
open Go.RowKit Go.Proofs.Ytfmdjhfnbiekaaa.PA Go.Proofs.YtfmdjhfnbiekaaaW.PrintWords Go.Proofs.YtfmdjhfnbiekaaaW.PrintLast Go.Proofs.Ytfmdjhfnbiekaaa.Num Go.Proofs.Ytfmdjhfnbiekaaa.Flt
set_option linter.unusedVariables false
theorem FaddOrder (a0 a1 a2 : Int) (w0 : (Lit.int .u64 a0).wf = true) (w1 : (Lit.int .u64 a1).wf = true) (w2 : (Lit.int .i64 a2).wf = true) : ∃ k, vernierlaw07_FaddOrder.f k a0 a1 a2 = some true := by
  obtain ⟨h0, h1⟩ := u64_of_wf w0
  obtain ⟨g0, g1⟩ := u64_of_wf w1
  refine Ev.rounds ?_
  unfold vernierlaw07_FaddOrder.f
  refine Ev.bind alive7_ev (Ev.congr (fun k => if_pos rfl) ?_)
  have e2 := fadd_ev g0 g1 h0 h1 a2
  rw [addS_comm] at e2
  refine Ev.bind (fadd_ev h0 h1 g0 g1 a2) (Ev.bind e2 (Ev.congr (fun k => (if_pos rfl).trans (if_pos rfl)) (Ev.bind (rclass_ev h0 h1) ?_)))
  by_cases c : fcls a0 > 1
  · rw [decide_eq_true c]
    refine Ev.step (f := fun _ => some true) (fun k => ?_) (Ev.now _)
    simp only [vernierlaw07_FaddOrder.j0]
    rw [if_pos trivial, if_pos trivial]
    simp
  · rw [decide_eq_false c]
    have hf : fex a0 ≠ 2047 := fcls_fin.1 (by omega)
    have e3 := fsub_ev h0 h1 h0 h1 a2
    rw [if_neg (by omega)] at e3
    obtain ⟨s1, s2, s3⟩ := fflip_man h0 h1
    obtain ⟨s4, _, _⟩ := fflip_parts h0 h1
    have hz : addS a0 (fflip a0) a2 = (rzero (decide (a2 = 4)), 0) := by
      rw [addS_fin a2 (by omega) (by omega), s1, s2, s4]
      unfold rsum
      have : sv (fneg a0) (up2 (fxp a0 - mn (fxp a0) (fxp a0)) * fman a0) + sv (!fneg a0) (up2 (fxp a0 - mn (fxp a0) (fxp a0)) * fman a0) = 0 := by cases fneg a0 <;> simp [sv] <;> omega
      rw [if_pos this, if_neg (by cases fneg a0 <;> simp)]
    have hz' : addS a0 (if a0 < 9223372036854775808 then a0 + 9223372036854775808 else a0 - 9223372036854775808) a2 = (rzero (decide (a2 = 4)), 0) := hz
    rw [hz'] at e3
    have e4 := fadd_ev h0 h1 (b := 0) (by decide) (by decide) a2
    have c0 : fcls 0 = 0 := by decide
    have p0 : fneg 0 = false ∧ fman 0 = 0 ∧ fxp 0 = -1074 := by decide
    have hw : IntKind.u64.wrap (rzero (decide (a2 = 4)) * 2) = 0 := by
      rw [IntKind.wrap_u64]
      rcases rzero_or (decide (a2 = 4)) with h | h <;> rw [h] <;> rfl
    obtain ⟨s5, s6, s7⟩ := fin_shape hf
    have hmn : mn (fxp a0) (-1074) = -1074 := by unfold mn; split <;> omega
    by_cases hm : fman a0 = 0
    · have ha0 : a0 = 0 ∨ a0 = 9223372036854775808 := by
        have ra := fex_range a0
        have fa := ffr_range a0
        unfold fman at hm
        unfold fex at *
        unfold ffr at *
        split at hm <;> omega
      have hs : addS a0 0 a2 = (if fneg a0 = false then rzero (fneg a0) else rzero (decide (a2 = 4)), 0) := by
        rw [addS_fin a2 (by omega) (by omega), p0.1, p0.2.1, p0.2.2, hm]
        unfold rsum
        rw [if_pos (by simp [sv])]
      rw [hs] at e4
      have hww : IntKind.u64.wrap ((if fneg a0 = false then rzero (fneg a0) else rzero (decide (a2 = 4))) * 2) = 0 := by
        rw [IntKind.wrap_u64]
        split
        · rcases rzero_or (fneg a0) with h | h <;> rw [h] <;> rfl
        · rcases rzero_or (decide (a2 = 4)) with h | h <;> rw [h] <;> rfl
      have hwa : IntKind.u64.wrap (a0 * 2) = 0 := by
        rw [IntKind.wrap_u64]
        rcases ha0 with h | h <;> rw [h] <;> rfl
      refine Ev.step (f := fun k => (fadd_Sub.f k a0 a0 a2).bind fun bt682 => ((fadd_Add.f k a0 0 a2).bind fun bt684 => (if (IntKind.u64.wrap (bt682.1 * 2)) = 0 then (if bt684.2 = 0 then (if bt684.1 = a0 then (some true) else (if (IntKind.u64.wrap (a0 * 2)) = 0 then (some ((IntKind.u64.wrap (bt684.1 * 2)) == 0)) else (some false))) else (some false)) else (some false)))) (fun k => ?_) ?_
      · simp only [vernierlaw07_FaddOrder.j0]
        rw [if_neg (by decide)]
      · refine Ev.bind e3 (Ev.bind e4 (Ev.congr (fun k => (if_pos hw).trans (if_pos rfl)) ?_))
        generalize (if fneg a0 = false then rzero (fneg a0) else rzero (decide (a2 = 4))) = w at *
        by_cases d : w = a0
        · exact Ev.congr (fun k => if_pos d) (Ev.now _)
        · refine Ev.congr (fun k => (if_neg d).trans (if_pos hwa)) ?_
          rw [hww]
          exact Ev.now _
    · have hm0 : 0 < fman a0 := by have := fman_range a0; omega
      have hs : addS a0 0 a2 = (a0, 0) := by
        rw [addS_fin a2 (by omega) (by omega), p0.1, p0.2.1, p0.2.2]
        rw [rsum_is _ _ (fneg a0) _ _ _ _ _ (fman a0) (fxp a0) hm0 (by rw [hmn]; simp [sv, Int.mul_comm]) (by omega)]
        exact rnd_self h0 h1 hf hm0 a2
      rw [hs] at e4
      refine Ev.step (f := fun k => (fadd_Sub.f k a0 a0 a2).bind fun bt682 => ((fadd_Add.f k a0 0 a2).bind fun bt684 => (if (IntKind.u64.wrap (bt682.1 * 2)) = 0 then (if bt684.2 = 0 then (if bt684.1 = a0 then (some true) else (if (IntKind.u64.wrap (a0 * 2)) = 0 then (some ((IntKind.u64.wrap (bt684.1 * 2)) == 0)) else (some false))) else (some false)) else (some false)))) (fun k => ?_) ?_
      · simp only [vernierlaw07_FaddOrder.j0]
        rw [if_neg (by decide)]
      · exact Ev.bind e3 (Ev.bind e4 (Ev.congr (fun k => ((if_pos hw).trans (if_pos rfl)).trans (if_pos rfl)) (Ev.now _)))
end Go.Proofs.Ytfmdjhfnbiekaaa.Pure
