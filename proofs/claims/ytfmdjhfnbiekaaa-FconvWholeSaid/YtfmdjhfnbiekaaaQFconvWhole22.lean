/- bits.Mul64 answers a product's high and low words. -/
import Derived.Test.YtfmdjhfnbiekaaaQFconvWhole12
import Derived.Lib.Mul64
import Derived.Laws.Bits64b
namespace Go.Proofs.Ytfmdjhfnbiekaaa.PF
open Go.RowKit Go.Lib Go.Proofs.YtfmdjhfnbiekaaaW.PrintWords Go.Proofs.YtfmdjhfnbiekaaaW.PrintLast Go.Proofs.YtfmdjhfnbiekaaaW.PrintMore
set_option linter.unusedVariables false
set_option linter.unusedSimpArgs false
namespace Mul64
end Mul64
def bits_Mul64.f (a0 : Int) (a1 : Int) : Option (Int × Int) := if 0 ≤ a0 ∧ a0 < 18446744073709551616 ∧ 0 ≤ a1 ∧ a1 < 18446744073709551616 then some (a0 * a1 / 18446744073709551616, a0 * a1 % 18446744073709551616) else none
end Go.Proofs.Ytfmdjhfnbiekaaa.PF
