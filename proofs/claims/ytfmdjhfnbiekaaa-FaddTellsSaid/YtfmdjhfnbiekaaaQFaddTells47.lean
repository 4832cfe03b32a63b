/- Any two binary64 numbers' sum and difference, in any direction, with flags, are the reference's: for all words. -/
import Derived.Test.YtfmdjhfnbiekaaaQFaddTells30
import Derived.Test.YtfmdjhfnbiekaaaQFaddTells31
import Derived.Test.YtfmdjhfnbiekaaaQFaddTells45
import Derived.Test.YtfmdjhfnbiekaaaQFaddTells46
import Derived.Test.YtfmdjhfnbiekaaaQFaddTells32
import Derived.Test.YtfmdjhfnbiekaaaQFaddTells33
import Derived.Test.YtfmdjhfnbiekaaaQFaddTells40
import Derived.Test.YtfmdjhfnbiekaaaQFaddTells44
namespace Go.Proofs.Ytfmdjhfnbiekaaa.Pure
open Go.RowKit Go.Proofs.Ytfmdjhfnbiekaaa.PA Go.Proofs.YtfmdjhfnbiekaaaW.PrintWords Go.Proofs.YtfmdjhfnbiekaaaW.PrintLast Go.Proofs.Ytfmdjhfnbiekaaa.Num Go.Proofs.Ytfmdjhfnbiekaaa.Flt
set_option linter.unusedVariables false
theorem FaddTells (a0 a1 a2 : Int) (w0 : (Lit.int .u64 a0).wf = true) (w1 : (Lit.int .u64 a1).wf = true) (w2 : (Lit.int .i64 a2).wf = true) : ∃ k, vernierlaw07_FaddTells.f k a0 a1 a2 = some true := by
  obtain ⟨h0, h1⟩ := u64_of_wf w0
  obtain ⟨g0, g1⟩ := u64_of_wf w1
  obtain ⟨x0, x1⟩ := fflip_range g0 g1
  refine Ev.rounds ?_
  unfold vernierlaw07_FaddTells.f
  rw [xor_sign g0 g1]
  refine Ev.bind (fadd_ev h0 h1 g0 g1 a2) (Ev.bind (radd_ev6 h0 h1 g0 g1 a2) (Ev.bind (fsub_ev h0 h1 g0 g1 a2) (Ev.bind (radd_ev6 h0 h1 x0 x1 a2) (Ev.bind (rclass_ev g0 g1) ?_))))
  by_cases c : fcls a1 = 3
  · rw [if_pos c]
    exact Ev.congr (fun k => (((if_pos c).trans (if_pos rfl)).trans (if_pos rfl)).trans ((if_pos rfl).trans (if_pos rfl))) (Ev.bind alive7_ev (Ev.now _))
  · rw [if_neg c]
    exact Ev.congr (fun k => (((if_neg c).trans (if_pos rfl)).trans (if_pos rfl)).trans ((if_pos rfl).trans (if_pos rfl))) (Ev.bind alive7_ev (Ev.now _))
end Go.Proofs.Ytfmdjhfnbiekaaa.Pure
