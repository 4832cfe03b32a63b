/- Contracts of Go functions: each call answers what the Lean function of its name answers. Written by a program of this session (vprint.py) round the print of the kit. -/
import Derived.Test.YtfmdjhfnbiekaaaQFconvWhole12
import Derived.Test.YtfmdjhfnbiekaaaQFconvWhole13
import Derived.Test.YtfmdjhfnbiekaaaQFconvWhole15
namespace Go.Proofs.Ytfmdjhfnbiekaaa.PF
open Go.RowKit Go.Proofs.YtfmdjhfnbiekaaaW.PrintWords Go.Proofs.YtfmdjhfnbiekaaaW.PrintLast Go.Proofs.YtfmdjhfnbiekaaaW.PrintMore
attribute [local go_sem] max2_int min2_int max_two min_two max_three min_three max_four min_four
set_option linter.unusedVariables false
set_option linter.unusedSimpArgs false
attribute [local go_sem] fld136_1
def nat_Bits.f (k : Nat) (l0 : List Int) : Option (Int) := (nat_size.f k l0).bind fun t106 => (if t106 = 0 then (some 0) else (if 0 ≤ (wrap64 (t106 - 1)) then (if (wrap64 (t106 - 1)) < (l0.length : Int) then ((bits_Len64.f (rd l0 (wrap64 (t106 - 1)))).bind fun t108 => (some (wrap64 ((wrap64 (64 * (wrap64 (t106 - 1)))) + t108)))) else (none)) else (none)))
end Go.Proofs.Ytfmdjhfnbiekaaa.PF
