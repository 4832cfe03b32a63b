/- Exact sums of binary64 numbers, what they leave, and the order of two. -/
import Derived.Test.YtfmdjhfnbiekaaaQFaddTells30
import Derived.Test.YtfmdjhfnbiekaaaQFaddTells31
import Derived.Test.YtfmdjhfnbiekaaaQFaddTells45
import Derived.Test.YtfmdjhfnbiekaaaQFaddTells32
import Derived.Test.YtfmdjhfnbiekaaaQFaddTells33
import Derived.Test.YtfmdjhfnbiekaaaQFaddTells37
import Derived.Test.YtfmdjhfnbiekaaaQFaddTells40
import Derived.Test.YtfmdjhfnbiekaaaQFaddTells44
import Derived.Test.YtfmdjhfnbiekaaaQFaddTells39
namespace Go.Proofs.Ytfmdjhfnbiekaaa.PA
open Go.RowKit Go.Proofs.YtfmdjhfnbiekaaaW.PrintWords Go.Proofs.YtfmdjhfnbiekaaaW.PrintLast Go.Proofs.YtfmdjhfnbiekaaaW.PrintMore Go.Proofs.Ytfmdjhfnbiekaaa.Num Go.Proofs.Ytfmdjhfnbiekaaa.Flt
set_option linter.unusedVariables false
set_option linter.unusedSimpArgs false
theorem u64_of_wf {a : Int} (h : (Lit.int .u64 a).wf = true) : 0 ≤ a ∧ a < 18446744073709551616 := by
  simp [Lit.wf, IntKind.min, IntKind.max, IntKind.signed, IntKind.bits] at h
  omega
def fflip (b : Int) : Int := if b < 9223372036854775808 then b + 9223372036854775808 else b - 9223372036854775808
theorem fflip_range {b : Int} (b0 : 0 ≤ b) (b1 : b < 18446744073709551616) : 0 ≤ fflip b ∧ fflip b < 18446744073709551616 := by unfold fflip; split <;> omega
theorem alive7_ev : Ev (fun k => vernierlaw07_alive.f k) true := by
  have e := fadd_ev (a := 4607182418800017408) (b := 4607182418800017408) (by decide) (by decide) (by decide) (by decide) 0
  have hs : addS 4607182418800017408 4607182418800017408 0 = (4611686018427387904, 0) := by decide +kernel
  rw [hs] at e
  unfold vernierlaw07_alive.f
  exact Ev.bind e (Ev.congr (fun k => if_pos rfl) (Ev.now _))
end Go.Proofs.Ytfmdjhfnbiekaaa.PA
